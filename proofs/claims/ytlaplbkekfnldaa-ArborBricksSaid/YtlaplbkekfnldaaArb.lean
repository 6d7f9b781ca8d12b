/- Contracts of the arbor's functions: what it needs, the imbalance, whether the brake holds, room. -/
import Derived.Test.YtlaplbkekfnldaaVal2
namespace Go.Proofs.Ytlaplbkekfnldaa
open Go.RowKit

def thereW (S : LSet) : Int := sumTo (fun b => b.weight * b.count) S.bricks S.bricks.length
def thereC (S : LSet) : Int := sumTo (·.count) S.bricks S.bricks.length
def neededI (S : LSet) : Int := weightI S * S.purchase - S.arbor
def balanceI (S : LSet) : Int := neededI S - thereW S
theorem mul_bd {a b A B : Int} (h0 : 0 ≤ a) (h1 : a ≤ A) (h2 : 0 ≤ b) (h3 : b ≤ B) : 0 ≤ a * b ∧ a * b ≤ A * B := ⟨Int.mul_nonneg h0 h2, Int.mul_le_mul h1 h3 h2 (by omega)⟩
theorem thereW_bound {S : LSet} (h : Good S) (k : Nat) (hk : k ≤ S.bricks.length) : 0 ≤ sumTo (fun b => b.weight * b.count) S.bricks k ∧ sumTo (fun b => b.weight * b.count) S.bricks k ≤ 503316480 := by
  have h1 := sumTo_bound (fun b : Brick => b.weight * b.count) S.bricks 62914560 (fun x hx => by
    have g := h.bricks x hx
    have := g.w0
    have := g.c0
    exact mul_bd (by omega) g.w1 (by omega) g.c1) k hk
  have h2 := h.nb
  omega
theorem thereC_bound {S : LSet} (h : Good S) (k : Nat) (hk : k ≤ S.bricks.length) : 0 ≤ sumTo (·.count) S.bricks k ∧ sumTo (·.count) S.bricks k ≤ 480 := by
  have h1 := sumTo_bound (·.count) S.bricks 60 (fun x hx => ⟨(h.bricks x hx).c0, (h.bricks x hx).c1⟩) k hk
  have h2 := h.nb
  omega
theorem weight_bd {S : LSet} (h : Good S) : 0 ≤ weightI S ∧ weightI S ≤ 1099553570816 := by
  have h1 := pipe_bound h
  have h2 := weights_bound h S.items.length (Nat.le_refl _)
  unfold weightI
  omega
theorem needed_bd {S : LSet} (h : Good S) : 0 ≤ weightI S * S.purchase ∧ weightI S * S.purchase ≤ 2199107141632 := by
  have h1 := weight_bd h
  have := h.u0
  exact mul_bd h1.1 h1.2 (by omega) h.u1

set_option maxHeartbeats 400000 in
theorem there_any (S : LSet) (w : World) (h : Good S) (ha : S.At w w.heap.size) : Calls Try.prog 38 #[S.val] w fun e w' => e = .returned (.tuple #[.int .i64 (thereW S), .int .i64 (thereC S)]) ∧ Below w.heap.size w w' := by
  have HW := Lib.hid (thereW_bound h)
  have HC := Lib.hid (thereC_bound h)
  have HI := Lib.hid ha.bricks
  have hn := h.nb
  have HBW := Lib.hid (fun (k : Nat) (hk : k < S.bricks.length) => h.bricks S.bricks[k] (List.getElem_mem hk))
  have HF1 := Lib.hid (show thereW S = sumTo (fun b => b.weight * b.count) S.bricks S.bricks.length from rfl)
  have HF2 := Lib.hid (show thereC S = sumTo (·.count) S.bricks S.bricks.length from rfl)
  clear ha h
  show Calls Try.prog 38 #[.agg #[.string S.name, .int .i64 S.depth, .int .i64 S.low, .int .i64 S.high, .int .i64 S.len, .slice S.la S.lines.length S.lc, .int .i64 S.pipe, .int .i64 S.arbor, .int .i64 S.purchase, .int .i64 S.most, .int .i64 S.brake, .slice S.ia S.items.length S.ic, .slice S.ba S.bricks.length S.bc]] w _
  generalize S.ba = ba at *
  go_enter Try.func38, Try.ntmps38
  go_wp2_with fail
  go_loopw [2, 3, 5, 9] (fun s c _ i wr => ∃ k : Nat, k ≤ S.bricks.length ∧ i = .int .i64 k ∧ s = .int .i64 (sumTo (fun b => b.weight * b.count) S.bricks k) ∧ c = .int .i64 (sumTo (·.count) S.bricks k) ∧ Below w.heap.size w wr) (fun _ _ _ i _ => S.bricks.length - (intOf i).toNat)
  case atStart => exact ⟨0, Nat.zero_le _, rfl, rfl, rfl, below_box _ _⟩
  case round =>
    obtain ⟨k, hk, rfl, rfl, rfl, hb⟩ := hrel
    by_cases hlt : k < S.bricks.length
    · obtain ⟨b, off, rfl, hbb, c0, c1, c2⟩ := (HI.out.below hb).at_ hlt
      have s1 := HW.out (k + 1) (by omega)
      have s2 := HW.out k (by omega)
      have t1 := HC.out (k + 1) (by omega)
      have t2 := HC.out k (by omega)
      rw [sumTo_succ _ _ _ hlt] at s1 t1
      obtain ⟨s11, s12⟩ := s1
      obtain ⟨s21, s22⟩ := s2
      obtain ⟨t11, t12⟩ := t1
      obtain ⟨t21, t22⟩ := t2
      have g := HBW.out k hlt
      have m := mul_bd (show 0 ≤ S.bricks[k].weight by have := g.w0; omega) g.w1 g.c0 g.c1
      obtain ⟨m1, m2⟩ := m
      have HS := Lib.hid (sumTo_succ (fun b : Brick => b.weight * b.count) S.bricks k hlt)
      have HT := Lib.hid (sumTo_succ (fun b : Brick => b.count) S.bricks k hlt)
      clear g
      go_wp2_with fail
      exact ⟨⟨k + 1, by omega, by go_num, by rw [HS.out], by rw [HT.out], hb.alloc hb.size _⟩, by simp [intOf]; omega⟩
    · have hk2 : k = S.bricks.length := by omega
      have HK := Lib.hid hk2; clear hk2
      go_wp2_with fail
      go_ret2
      exact ⟨by rw [HF1.out, HF2.out, ← HK.out]; rfl, hb⟩

set_option maxHeartbeats 400000 in
theorem bweight_no (S : LSet) (w : World) (ha : S.At w w.heap.size) (hv : validB S = false) : Calls Try.prog 39 #[S.val] w fun e w' => e = .returned (.tuple #[.int .i64 0, .int .i64 1]) ∧ Below w.heap.size w w' := by
  have H := Lib.hid (valid_any S _ (ha.alloc (.cells #[.string S.name, .int .i64 S.depth, .int .i64 S.low, .int .i64 S.high, .int .i64 S.len, .slice S.la S.lines.length S.lc, .int .i64 S.pipe, .int .i64 S.arbor, .int .i64 S.purchase, .int .i64 S.most, .int .i64 S.brake, .slice S.ia S.items.length S.ic, .slice S.ba S.bricks.length S.bc] 26)))
  rw [hv] at H
  clear hv ha
  unfold LSet.val at *
  go_enter Try.func39, Try.ntmps39
  go_wp2_with fail
  refine H.out.mono ?_
  rintro e w1 ⟨rfl, hb1⟩
  go_wp2_with fail
  go_ret2
  exact ⟨rfl, bpast hb1⟩
set_option maxHeartbeats 400000 in
theorem bweight_yes (S : LSet) (w : World) (ha : S.At w w.heap.size) (hv : validB S = true) : Calls Try.prog 39 #[S.val] w fun e w' => e = .returned (.tuple #[.int .i64 (weightI S), .int .i64 0]) ∧ Below w.heap.size w w' := by
  have H := Lib.hid (valid_any S _ (ha.alloc (.cells #[.string S.name, .int .i64 S.depth, .int .i64 S.low, .int .i64 S.high, .int .i64 S.len, .slice S.la S.lines.length S.lc, .int .i64 S.pipe, .int .i64 S.arbor, .int .i64 S.purchase, .int .i64 S.most, .int .i64 S.brake, .slice S.ia S.items.length S.ic, .slice S.ba S.bricks.length S.bc] 26)))
  rw [hv] at H
  have H2 := Lib.hid (fun w' (hb : Below w.heap.size w w') => weight_any S w' (Good.of hv) (ha.on hb))
  clear hv ha
  unfold LSet.val at *
  go_enter Try.func39, Try.ntmps39
  go_wp2_with fail
  refine H.out.mono ?_
  rintro e w1 ⟨rfl, hb1⟩
  obtain ⟨hbox, hz, hb⟩ := InBox.of hb1
  clear hb1
  go_wp2_with fail
  refine (H2.out _ hb).mono ?_
  rintro e w2 ⟨rfl, hb2⟩
  go_wp2_with fail
  go_ret2
  exact ⟨rfl, bthen hb hb2⟩

set_option maxHeartbeats 400000 in
theorem needed_no (S : LSet) (w : World) (ha : S.At w w.heap.size) (hv : validB S = false) : Calls Try.prog 14 #[S.val] w fun e w' => e = .returned (.tuple #[.int .i64 0, .int .i64 1]) ∧ Below w.heap.size w w' := by
  have H := Lib.hid (fun w' (hb : Below w.heap.size w w') => bweight_no S w' (ha.on hb) hv)
  clear hv ha
  unfold LSet.val at *
  go_enter Try.func14, Try.ntmps14
  go_wp2_with fail
  refine (H.out _ (below_box _ _)).mono ?_
  rintro e w1 ⟨rfl, hb1⟩
  go_wp2_with fail
  go_ret2
  exact ⟨rfl, bpast hb1⟩
set_option maxHeartbeats 400000 in
theorem needed_yes (S : LSet) (w : World) (ha : S.At w w.heap.size) (hv : validB S = true) : Calls Try.prog 14 #[S.val] w fun e w' => e = .returned (.tuple #[.int .i64 (neededI S), .int .i64 0]) ∧ Below w.heap.size w w' := by
  have H := Lib.hid (fun w' (hb : Below w.heap.size w w') => bweight_yes S w' (ha.on hb) hv)
  have g := Good.of hv
  obtain ⟨m1, m2⟩ := needed_bd g
  have a0 := g.a0
  have a1 := g.a1
  have HF := Lib.hid (show neededI S = weightI S * S.purchase - S.arbor from rfl)
  clear hv ha g
  unfold LSet.val at *
  go_enter Try.func14, Try.ntmps14
  go_wp2_with fail
  refine (H.out _ (below_box _ _)).mono ?_
  rintro e w1 ⟨rfl, hb1⟩
  obtain ⟨hbox, hz, hb⟩ := InBox.of hb1
  clear hb1
  go_wp2_with fail
  go_ret2
  exact ⟨by rw [HF.out]; rfl, hb⟩

set_option maxHeartbeats 400000 in
theorem balance_no (S : LSet) (w : World) (ha : S.At w w.heap.size) (hv : validB S = false) : Calls Try.prog 13 #[S.val] w fun e w' => e = .returned (.tuple #[.int .i64 0, .int .i64 1]) ∧ Below w.heap.size w w' := by
  have H := Lib.hid (fun w' (hb : Below w.heap.size w w') => needed_no S w' (ha.on hb) hv)
  clear hv ha
  unfold LSet.val at *
  go_enter Try.func13, Try.ntmps13
  go_wp2_with fail
  refine (H.out _ (below_box _ _)).mono ?_
  rintro e w1 ⟨rfl, hb1⟩
  go_wp2_with fail
  go_ret2
  exact ⟨rfl, bpast hb1⟩
theorem balance_bd {S : LSet} (h : Good S) : -504365056 ≤ balanceI S ∧ balanceI S ≤ 2199107141632 ∧ -1048576 ≤ neededI S ∧ neededI S ≤ 2199107141632 ∧ 0 ≤ thereW S ∧ thereW S ≤ 503316480 := by
  have h1 := needed_bd h
  have h2 := thereW_bound h S.bricks.length (Nat.le_refl _)
  have a0 := h.a0
  have a1 := h.a1
  unfold balanceI neededI thereW
  omega
set_option maxHeartbeats 400000 in
theorem balance_yes (S : LSet) (w : World) (ha : S.At w w.heap.size) (hv : validB S = true) : Calls Try.prog 13 #[S.val] w fun e w' => e = .returned (.tuple #[.int .i64 (balanceI S), .int .i64 0]) ∧ Below w.heap.size w w' := by
  have H := Lib.hid (fun w' (hb : Below w.heap.size w w') => needed_yes S w' (ha.on hb) hv)
  have H2 := Lib.hid (fun w' (hb : Below w.heap.size w w') => there_any S w' (Good.of hv) (ha.on hb))
  have g := Good.of hv
  obtain ⟨_, _, m3, m4, m5, m6⟩ := balance_bd g
  have HF := Lib.hid (show balanceI S = neededI S - thereW S from rfl)
  clear hv ha g
  unfold LSet.val at *
  go_enter Try.func13, Try.ntmps13
  go_wp2_with fail
  refine (H.out _ (below_box _ _)).mono ?_
  rintro e w1 ⟨rfl, hb1⟩
  obtain ⟨hbox, hz, hb⟩ := InBox.of hb1
  clear hb1
  go_wp2_with fail
  refine (H2.out _ hb).mono ?_
  rintro e w2 ⟨rfl, hb2⟩
  go_wp2_with fail
  go_ret2
  exact ⟨by rw [HF.out]; rfl, bthen hb hb2⟩

def holdsB (S : LSet) : Bool := decide (balanceI S ≤ S.brake ∧ -balanceI S ≤ S.brake)
set_option maxHeartbeats 400000 in
theorem holds_no (S : LSet) (w : World) (ha : S.At w w.heap.size) (hv : validB S = false) : Calls Try.prog 12 #[S.val] w fun e w' => e = .returned (.tuple #[.bool false, .int .i64 1]) ∧ Below w.heap.size w w' := by
  have H := Lib.hid (fun w' (hb : Below w.heap.size w w') => balance_no S w' (ha.on hb) hv)
  clear hv ha
  unfold LSet.val at *
  go_enter Try.func12, Try.ntmps12
  go_wp2_with fail
  refine (H.out _ (below_box _ _)).mono ?_
  rintro e w1 ⟨rfl, hb1⟩
  go_wp2_with fail
  go_ret2
  exact ⟨rfl, bpast hb1⟩
set_option maxHeartbeats 400000 in
theorem holds_yes (S : LSet) (w : World) (ha : S.At w w.heap.size) (hv : validB S = true) : Calls Try.prog 12 #[S.val] w fun e w' => e = .returned (.tuple #[.bool (holdsB S), .int .i64 0]) ∧ Below w.heap.size w w' := by
  have H := Lib.hid (fun w' (hb : Below w.heap.size w w') => balance_yes S w' (ha.on hb) hv)
  have g := Good.of hv
  obtain ⟨m1, m2, _, _, _, _⟩ := balance_bd g
  have HF := Lib.hid (show holdsB S = decide (balanceI S ≤ S.brake ∧ -balanceI S ≤ S.brake) from rfl)
  clear hv ha g
  unfold LSet.val at *
  go_enter Try.func12, Try.ntmps12
  go_wp2_with fail
  refine (H.out _ (below_box _ _)).mono ?_
  rintro e w1 ⟨rfl, hb1⟩
  obtain ⟨hbox, hz, hb⟩ := InBox.of hb1
  clear hb1
  go_wp2_with fail
  all_goals (go_ret2; exact ⟨ret_b2 (by rw [HF.out]; exact decide_eq_decide.2 (by omega)), hb⟩)

set_option maxHeartbeats 400000 in
theorem room_no (S : LSet) (w : World) (ha : S.At w w.heap.size) (hv : validB S = false) : Calls Try.prog 15 #[S.val] w fun e w' => e = .returned (.tuple #[.int .i64 0, .int .i64 1]) ∧ Below w.heap.size w w' := by
  have H := Lib.hid (fun w' (hb : Below w.heap.size w w') => valid_any S w' (ha.on hb))
  rw [hv] at H
  clear hv ha
  unfold LSet.val at *
  go_enter Try.func15, Try.ntmps15
  go_wp2_with fail
  refine (H.out _ (below_box _ _)).mono ?_
  rintro e w1 ⟨rfl, hb1⟩
  go_wp2_with fail
  go_ret2
  exact ⟨rfl, bpast hb1⟩
set_option maxHeartbeats 400000 in
theorem room_yes (S : LSet) (w : World) (ha : S.At w w.heap.size) (hv : validB S = true) : Calls Try.prog 15 #[S.val] w fun e w' => e = .returned (.tuple #[.int .i64 (60 - thereC S), .int .i64 0]) ∧ Below w.heap.size w w' := by
  have H := Lib.hid (fun w' (hb : Below w.heap.size w w') => valid_any S w' (ha.on hb))
  rw [hv] at H
  have H2 := Lib.hid (fun w' (hb : Below w.heap.size w w') => there_any S w' (Good.of hv) (ha.on hb))
  have g := thereC_bound (Good.of hv) S.bricks.length (Nat.le_refl _)
  change 0 ≤ thereC S ∧ thereC S ≤ 480 at g
  obtain ⟨g1, g2⟩ := g
  clear hv ha
  unfold LSet.val at *
  go_enter Try.func15, Try.ntmps15
  go_wp2_with fail
  refine (H.out _ (below_box _ _)).mono ?_
  rintro e w1 ⟨rfl, hb1⟩
  obtain ⟨hbox, hz, hb⟩ := InBox.of hb1
  clear hb1
  go_wp2_with fail
  refine (H2.out _ hb).mono ?_
  rintro e w2 ⟨rfl, hb2⟩
  go_wp2_with fail
  go_ret2
  exact ⟨rfl, bthen hb hb2⟩
end Go.Proofs.Ytlaplbkekfnldaa
