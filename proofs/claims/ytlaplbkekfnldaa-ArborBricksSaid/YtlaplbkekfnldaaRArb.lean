/- Contracts of the reference of layer 25: what an arbor needs, the imbalance, whether the brake holds, room. -/
import Derived.Test.YtlaplbkekfnldaaArb
import Derived.Test.YtlaplbkekfnldaaMem2
import Derived.Deep.RegionHeld3
import Derived.StillTailTactics
import Derived.Deep.QuietTactic
import Derived.BigQuiet
namespace Go.Proofs.Ytlaplbkekfnldaa
open Go.RowKit

set_option maxHeartbeats 400000 in
theorem rneeded_any (S : LSet) (w : World) (h : Good S) (ha : S.At w w.heap.size) : Calls Try.prog 17 #[S.val] w fun e w' => e = .returned (.int .i64 (neededI S)) ∧ Below w.heap.size w w' := by
  have H := Lib.hid (fun w' (hb : Below w.heap.size w w') => rweight_any S w' h (ha.on hb))
  have HF := Lib.hid (show neededI S = weightI S * S.purchase - S.arbor from rfl)
  have m := needed_bd h
  have a0 := h.a0
  have a1 := h.a1
  rw [Int.mul_comm] at m
  have HM := Lib.hid m
  clear ha h m
  unfold LSet.val at *
  go_enter Try.func17, Try.ntmps17
  go_wp2_with fail
  go_region_held3 (fun w' => (∀ i, w'.cell? ⟨w.heap.size, i, none⟩ = #[.string S.name, .int .i64 S.depth, .int .i64 S.low, .int .i64 S.high, .int .i64 S.len, .slice S.la S.lines.length S.lc, .int .i64 S.pipe, .int .i64 S.arbor, .int .i64 S.purchase, .int .i64 S.most, .int .i64 S.brake, .slice S.ia S.items.length S.ic, .slice S.ba S.bricks.length S.bc][i]?) ∧ w.heap.size + 1 ≤ w'.heap.size ∧ Below w.heap.size w w') (first | exact hS | exact InBox.of (Below.refl _ _) | exact InBox.of ((Below.refl _ _).drew) | (refine ⟨?_, ?_, ?_⟩ <;> assumption))
    (first | (go_at_call 43; refine (H.out _ (by first | assumption | exact (below_box _ _) | exact (below_box _ _).drew)).mono ?_; rintro e w1 ⟨rfl, hb1⟩; have hS := InBox.step (w := w) (cs := #[.string S.name, .int .i64 S.depth, .int .i64 S.low, .int .i64 S.high, .int .i64 S.len, .slice S.la S.lines.length S.lc, .int .i64 S.pipe, .int .i64 S.arbor, .int .i64 S.purchase, .int .i64 S.most, .int .i64 S.brake, .slice S.ia S.items.length S.ic, .slice S.ba S.bricks.length S.bc]) (by first | assumption | exact InBox.of (Below.refl _ _) | exact InBox.of ((Below.refl _ _).drew) | (refine ⟨?_, ?_, ?_⟩ <;> assumption)) (hb1.mono (by first | assumption | simp)); have hS2 := hS.2.1; have hS3 := hS.2.2))
  go_wp2_with fail
  go_ret
  have m := HM.out
  exact ⟨ret_int (by rw [IntWalk.i64_in (S.purchase * weightI S) (by omega), IntWalk.i64_in _ (by omega), HF.out, Int.mul_comm]), hS.2.2⟩

def CntPost (l : List Brick) (w : World) (e : Ending) (w' : World) : Prop := ∃ A c, e = .returned (.slice A l.length c) ∧ IntsAt w' w'.heap.size A (l.map (·.count)) ∧ l.length ≤ c ∧ Below w.heap.size w w'
theorem intInfo : (Try.prog.info? 3).map (fun i => (i.zero, i.size, i.bytes)) = some (some (.int .i64 0), 1, 8) := by kernel_rfl
theorem intRows (l : List Int) : (l.map intCells).flatten = l.map (Value.int .i64) := by
  induction l with
  | nil => rfl
  | cons x l ih => simp [intCells, ih]
/-- What an owned row of integers is good for. -/
theorem IntsAt.of_own {w : World} {base : Nat} {e : TypeId} {v : Value} {l : List Int} (h : w.ownsRow base e 1 v l.length (l.map (Value.int .i64))) : ∃ A c, v = .slice A l.length c ∧ l.length ≤ c ∧ IntsAt w w.heap.size A l := by
  rcases h.2 with ⟨hv, hl⟩ | ⟨g, cap, cur, hv, hg, hh, hnc, r⟩
  · have : l = [] := by simpa using hl
    subst this
    exact ⟨none, 0, hv, Nat.le_refl _, RowsAt.nil⟩
  · refine ⟨_, cap, hv, hnc, ?_⟩
    have hlt : g < w.heap.size := (Array.getElem?_eq_some_iff.1 hh).1
    refine RowsAt.of_flat (intCells_len l) hlt fun i u hu => ?_
    rw [intRows] at hu
    rw [Nat.zero_add]
    have hob : v.ownBlock = some g := by rw [hv]; rfl
    have := h.cells hob i u hu
    rwa [Addr.add_lit, Nat.zero_add] at this
theorem counts_succ (l : List Brick) (k : Nat) (h : k < l.length) : (l.take (k + 1)).map (fun x => Value.int .i64 x.count) = (l.take k).map (fun x => Value.int .i64 x.count) ++ [.int .i64 l[k].count] := by
  rw [List.take_succ_eq_append_getElem h, List.map_append]; rfl
set_option maxHeartbeats 1000000 in
theorem counts_any (A : Option Addr) (c : Nat) (l : List Brick) (w : World) (hl : BricksAt w w.heap.size A l) (hn : l.length ≤ 1000) : Calls Try.prog 34 #[.slice A l.length c] w (CntPost l w) := by
  have HL := Lib.hid hl; clear hl
  obtain ⟨i0, hi0, hz0, hz1, hz2⟩ := info_parts intInfo
  go_enter Try.func34, Try.ntmps34
  go_wp2_with fail
  go_loopw [3, 4] (fun v i wr => ∃ k : Nat, k ≤ l.length ∧ i = .int .i64 k ∧ wr.ownsRow w.heap.size 3 1 v k ((l.take k).map fun x => Value.int .i64 x.count) ∧ Below w.heap.size w wr) (fun _ i _ => l.length - (intOf i).toNat)
  case atStart => exact ⟨0, Nat.zero_le _, rfl, ⟨by simp, .inl ⟨rfl, rfl⟩⟩, Below.refl _ _⟩
  case round =>
    obtain ⟨k, hk, rfl, hown, hb⟩ := hrel
    by_cases hlt : k < l.length
    · obtain ⟨b, off, rfl, hbb, c0, c1, c2⟩ := (HL.out.below hb).at_ hlt
      have HS := Lib.hid (counts_succ l k hlt)
      go_wp2_with (at_builtin; refine wpList_append_own _ rfl _ _ 22 rfl w.heap.size 3 i0 (.int .i64 0) 1 8 Try.underlying22 hi0 hz0 hz1 hz2 rfl (by decide) _ _ _ rfl (hown.alloc _) ⟨wr.heap.size, 0, none⟩ 1 1 [.int .i64 l[k].count] rfl rfl (cell_one_new _ _ _) (by simp [Value.oneCell']) (by simp only [maxLen]; omega) (by omega) (by have := hb.size; simp; omega) ?_; intro v' w1 hown1 hgrow1 hat1)
      have hb1 := (hb.alloc hb.size (.cells #[.int .i64 l[k].count] 3)).grown hgrow1 (by have := hb.size; simp; omega) (fun j hj => by
        rcases hown.2 with ⟨e, _⟩ | ⟨g, cap, cur, e, hg, _⟩
        · rw [e] at hj; cases hj
        · rw [e] at hj; cases hj; exact hg)
      rw [← HS.out] at hown1
      go_wp2_with fail
      go_roundw
      case rel => exact ⟨k + 1, by omega, by go_num, hown1, hb1⟩
      case measure => simp [intOf]; omega
    · have hk2 : k = l.length := by omega
      subst hk2
      rw [List.take_length, show (l.map fun x => Value.int .i64 x.count) = (l.map (·.count)).map (Value.int .i64) by rw [List.map_map]; rfl] at hown
      have e1 : l.length = (l.map (·.count)).length := by simp
      rw [e1] at hown
      obtain ⟨A', c', rfl, hc', hA'⟩ := IntsAt.of_own hown
      rw [List.length_map] at hc'
      have hfin := Lib.hid e1
      clear e1
      go_wp2_with fail
      go_ret
      exact ⟨A', c', by first | rfl | exact congrArg (fun n => Ending.returned (.slice A' n c')) hfin.out.symm, hA', hc', hb⟩
def numI (l : List Int) (k : Nat) : Int := sumTo id l k
set_option maxHeartbeats 400000 in
theorem number_any (A : Option Addr) (c : Nat) (l : List Int) (w : World) (hl : IntsAt w w.heap.size A l) (hn : l.length ≤ 1000) (hv : ∀ x, x ∈ l → 0 ≤ x ∧ x ≤ 1000000000) : Calls Try.prog 46 #[.slice A l.length c] w fun e w' => e = .returned (.int .i64 (sumTo id l l.length)) ∧ w = w' := by
  have HL := Lib.hid hl; clear hl
  have HB := Lib.hid (fun k (hk : k ≤ l.length) => sumTo_bound id l 1000000000 hv k hk)
  clear hv
  go_enter Try.func46, Try.ntmps46
  go_wp2_with fail
  go_loop [3, 4] (fun s i => ∃ k : Nat, k ≤ l.length ∧ i = .int .i64 k ∧ s = .int .i64 (sumTo id l k)) (fun _ i => l.length - (intOf i).toNat)
  case atStart => exact ⟨0, Nat.zero_le _, rfl, rfl⟩
  case round =>
    obtain ⟨k, hk, rfl, rfl⟩ := hrel
    by_cases hlt : k < l.length
    · obtain ⟨b, off, rfl, hbb, c0⟩ := HL.out.at_ hlt
      have s1 := HB.out (k + 1) (by omega)
      have s2 := HB.out k (by omega)
      rw [sumTo_succ _ _ _ hlt, id] at s1
      have HS := Lib.hid (sumTo_succ id l k hlt)
      obtain ⟨s11, s12⟩ := s1
      obtain ⟨s21, s22⟩ := s2
      go_wp2_with fail
      exact ⟨⟨k + 1, by omega, by go_num, by rw [HS.out]; rfl⟩, by simp [intOf]; omega⟩
    · have hk2 : k = l.length := by omega
      have HK := Lib.hid hk2; clear hk2
      go_wp2_with fail
      go_ret
      exact ⟨ret_int (by rw [HK.out]), rfl⟩
/-- Weight times count, kind by kind. -/
def pairTo (l : List Brick) (cs : List Int) (k : Nat) : Int := sumTo (fun p : Brick × Int => p.1.weight * p.2) (l.zip cs) k
set_option maxHeartbeats 400000 in
theorem sum_any (A B : Option Addr) (c d : Nat) (l : List Brick) (cs : List Int) (w : World) (hl : BricksAt w w.heap.size A l) (hc : IntsAt w w.heap.size B cs) (hcs : cs.length = l.length) (hn : l.length ≤ 1000)
    (hv : ∀ x, x ∈ l → 0 ≤ x.weight ∧ x.weight ≤ 1048576) (hu : ∀ x, x ∈ cs → 0 ≤ x ∧ x ≤ 1000000) : Calls Try.prog 44 #[.slice A l.length c, .slice B cs.length d] w fun e w' => e = .returned (.int .i64 (pairTo l cs l.length)) ∧ Below w.heap.size w w' := by
  have HL := Lib.hid hl; clear hl
  have HC := Lib.hid hc; clear hc
  have hzl : (l.zip cs).length = l.length := by rw [List.length_zip]; omega
  have HB := Lib.hid (fun k (hk : k ≤ (l.zip cs).length) => sumTo_bound (fun p : Brick × Int => p.1.weight * p.2) (l.zip cs) 1048576000000 (fun p hp => by
    have h1 := List.of_mem_zip hp
    exact mul_bd (hv _ h1.1).1 (hv _ h1.1).2 (hu _ h1.2).1 (hu _ h1.2).2) k hk)
  have HM := Lib.hid (fun (k : Nat) (h1 : k < l.length) (h2 : k < cs.length) => mul_bd (hv _ (List.getElem_mem h1)).1 (hv _ (List.getElem_mem h1)).2 (hu _ (List.getElem_mem h2)).1 (hu _ (List.getElem_mem h2)).2)
  have HZ := Lib.hid hzl
  have HE := Lib.hid hcs
  clear hv hu hzl hcs
  go_enter Try.func44, Try.ntmps44
  go_wp2_with fail
  go_loopw [5, 6] (fun s i wr => ∃ k : Nat, k ≤ l.length ∧ i = .int .i64 k ∧ s = .int .i64 (pairTo l cs k) ∧ Below w.heap.size w wr) (fun _ i _ => l.length - (intOf i).toNat)
  case atStart => exact ⟨0, Nat.zero_le _, rfl, rfl, Below.refl _ _⟩
  case round =>
    obtain ⟨k, hk, rfl, rfl, hb⟩ := hrel
    by_cases hlt : k < l.length
    · have hlc : k < cs.length := by rw [HE.out]; exact hlt
      have hlz : k < (l.zip cs).length := by rw [HZ.out]; exact hlt
      obtain ⟨b, off, rfl, hbb, c0, c1, c2⟩ := (HL.out.below hb).at_ hlt
      obtain ⟨b2, off2, rfl, hbb2, d0⟩ := (HC.out.below hb).at_ hlc
      have s1 := HB.out (k + 1) (by omega)
      have s2 := HB.out k (by omega)
      have hs := sumTo_succ (fun p : Brick × Int => p.1.weight * p.2) (l.zip cs) k hlz
      rw [hs] at s1
      have e1 : (l.zip cs)[k] = (l[k], cs[k]) := List.getElem_zip
      simp only [e1] at s1 hs
      change pairTo l cs (k + 1) = pairTo l cs k + _ at hs
      change 0 ≤ pairTo l cs k ∧ _ at s2
      change 0 ≤ pairTo l cs k + _ ∧ pairTo l cs k + _ ≤ _ at s1
      have HS := Lib.hid hs
      have m := HM.out k hlt hlc
      obtain ⟨s11, s12⟩ := s1
      obtain ⟨s21, s22⟩ := s2
      obtain ⟨m1, m2⟩ := m
      change pairTo l cs k ≤ _ at s22
      clear hs e1 hlz
      go_wp2_with fail
      go_quiet (fail)
      go_wp2_with fail
      exact ⟨⟨k + 1, by omega, by go_num, by rw [HS.out], below_drewN hb _⟩, by simp [intOf]; omega⟩
    · have hk2 : k = l.length := by omega
      have HK := Lib.hid hk2; clear hk2
      go_wp2_with fail
      go_ret
      exact ⟨ret_int (by rw [HK.out]), hb⟩
theorem pair_counts (l : List Brick) : pairTo l (l.map (·.count)) l.length = sumTo (fun b => b.weight * b.count) l l.length := by
  have e : l.zip (l.map (·.count)) = l.map fun b => (b, b.count) := by
    induction l with
    | nil => rfl
    | cons x l ih => simp [ih]
  unfold pairTo sumTo
  rw [e, ← List.map_take, List.map_map]
  rfl
theorem num_counts (l : List Brick) : sumTo id (l.map (·.count)) l.length = sumTo (·.count) l l.length := by
  unfold sumTo
  rw [← List.map_take, List.map_map]
  rfl

set_option maxHeartbeats 1000000 in
theorem rbalance_any (S : LSet) (w : World) (h : Good S) (ha : S.At w w.heap.size) : Calls Try.prog 18 #[S.val] w fun e w' => e = .returned (.int .i64 (balanceI S)) ∧ Below w.heap.size w w' := by
  have H := Lib.hid (fun w' (hb : Below w.heap.size w w') => rneeded_any S w' h (ha.on hb))
  have H2 := Lib.hid (fun w' (hb : Below w.heap.size w w') => counts_any S.ba S.bc S.bricks w' (ha.on hb).bricks (by have := h.nb; omega))
  have hsum : ∀ w', Below w.heap.size w w' → ∀ A c, IntsAt w' w'.heap.size A (S.bricks.map (·.count)) → Calls Try.prog 44 #[.slice S.ba S.bricks.length S.bc, .slice A S.bricks.length c] w' fun e w2 => e = .returned (.int .i64 (thereW S)) ∧ Below w'.heap.size w' w2 := by
    intro w' hb A c hA
    have := sum_any S.ba A S.bc c S.bricks (S.bricks.map (·.count)) w' (ha.on hb).bricks hA (by simp) (by have := h.nb; omega)
      (fun x hx => by have g := h.bricks x hx; have := g.w0; exact ⟨by omega, g.w1⟩) (fun x hx => by obtain ⟨y, hy, rfl⟩ := List.mem_map.1 hx; have g := h.bricks y hy; have := g.c1; exact ⟨g.c0, by omega⟩)
    rw [List.length_map, pair_counts] at this
    exact this
  have H3 := Lib.hid hsum
  have HF := Lib.hid (show balanceI S = neededI S - thereW S from rfl)
  have HM := Lib.hid (balance_bd h)
  clear ha h hsum
  unfold LSet.val at *
  go_enter Try.func18, Try.ntmps18
  go_wp2_with fail
  go_region_held3 (fun w' => (∀ i, w'.cell? ⟨w.heap.size, i, none⟩ = #[.string S.name, .int .i64 S.depth, .int .i64 S.low, .int .i64 S.high, .int .i64 S.len, .slice S.la S.lines.length S.lc, .int .i64 S.pipe, .int .i64 S.arbor, .int .i64 S.purchase, .int .i64 S.most, .int .i64 S.brake, .slice S.ia S.items.length S.ic, .slice S.ba S.bricks.length S.bc][i]?) ∧ w.heap.size + 1 ≤ w'.heap.size ∧ Below w.heap.size w w') (first | exact hS | exact InBox.of (Below.refl _ _) | exact InBox.of ((Below.refl _ _).drew) | (refine ⟨?_, ?_, ?_⟩ <;> assumption))
    (first
      | (go_at_call 17; refine (H.out _ (by first | assumption | exact (below_box _ _) | exact (below_box _ _).drew)).mono ?_; rintro e w1 ⟨rfl, hb1⟩; have hS := InBox.step (w := w) (cs := #[.string S.name, .int .i64 S.depth, .int .i64 S.low, .int .i64 S.high, .int .i64 S.len, .slice S.la S.lines.length S.lc, .int .i64 S.pipe, .int .i64 S.arbor, .int .i64 S.purchase, .int .i64 S.most, .int .i64 S.brake, .slice S.ia S.items.length S.ic, .slice S.ba S.bricks.length S.bc]) (by first | assumption | exact InBox.of (Below.refl _ _) | exact InBox.of ((Below.refl _ _).drew) | (refine ⟨?_, ?_, ?_⟩ <;> assumption)) (hb1.mono (by first | assumption | simp)); have hS2 := hS.2.1; have hS3 := hS.2.2)
      | (go_at_call 34; refine (H2.out _ (by first | assumption | exact (below_box _ _) | exact (below_box _ _).drew)).mono ?_; rintro e w1 ⟨A, c, rfl, hA, hc, hb1⟩; have hS := InBox.step (w := w) (cs := #[.string S.name, .int .i64 S.depth, .int .i64 S.low, .int .i64 S.high, .int .i64 S.len, .slice S.la S.lines.length S.lc, .int .i64 S.pipe, .int .i64 S.arbor, .int .i64 S.purchase, .int .i64 S.most, .int .i64 S.brake, .slice S.ia S.items.length S.ic, .slice S.ba S.bricks.length S.bc]) (by first | assumption | exact InBox.of (Below.refl _ _) | exact InBox.of ((Below.refl _ _).drew) | (refine ⟨?_, ?_, ?_⟩ <;> assumption)) (hb1.mono (by first | assumption | simp)); have hS2 := hS.2.1; have hS3 := hS.2.2)
      | (go_at_call 44; refine (H3.out _ (by first | assumption | exact (below_box _ _) | exact (below_box _ _).drew) _ _ (by assumption)).mono ?_; rintro e w1 ⟨rfl, hb1⟩; have hS := InBox.step (w := w) (cs := #[.string S.name, .int .i64 S.depth, .int .i64 S.low, .int .i64 S.high, .int .i64 S.len, .slice S.la S.lines.length S.lc, .int .i64 S.pipe, .int .i64 S.arbor, .int .i64 S.purchase, .int .i64 S.most, .int .i64 S.brake, .slice S.ia S.items.length S.ic, .slice S.ba S.bricks.length S.bc]) (by first | assumption | exact InBox.of (Below.refl _ _) | exact InBox.of ((Below.refl _ _).drew) | (refine ⟨?_, ?_, ?_⟩ <;> assumption)) (hb1.mono (by first | assumption | simp)); have hS2 := hS.2.1; have hS3 := hS.2.2))
  go_wp2_with fail
  go_ret
  have m := HM.out
  exact ⟨ret_int (by rw [IntWalk.i64_in _ (by omega), HF.out]), hS.2.2⟩

set_option maxHeartbeats 1000000 in
theorem within_any (S : LSet) (n : Int) (w : World) (h : Good S) : Calls Try.prog 45 #[S.val, .int .i64 n] w fun e w' => e = .returned (.bool (decide (n ≤ S.brake ∧ -n ≤ S.brake))) ∧ Below w.heap.size w w' := by
  have b0 := h.b0
  have b1 := h.b1
  clear h
  unfold LSet.val
  by_cases h1 : -S.brake ≤ n
  · go_enter Try.func45, Try.ntmps45
    go_wp2_with fail
    go_ret
    exact ⟨ret_bool (decide_eq_decide.2 (by omega)), below_box _ _⟩
  · have hd : decide (-S.brake ≤ n) = false := decide_eq_false h1
    have HH := Lib.hid (show ¬ (n ≤ S.brake ∧ -n ≤ S.brake) by omega)
    go_enter Try.func45, Try.ntmps45
    go_wp2_with fail
    go_ret
    exact ⟨ret_bool (by rw [← Bool.decide_and]; exact (decide_eq_false HH.out).symm), below_box _ _⟩
set_option maxHeartbeats 1000000 in
theorem rholds_any (S : LSet) (w : World) (h : Good S) (ha : S.At w w.heap.size) : Calls Try.prog 19 #[S.val] w fun e w' => e = .returned (.bool (holdsB S)) ∧ Below w.heap.size w w' := by
  have H := Lib.hid (fun w' (hb : Below w.heap.size w w') => rbalance_any S w' h (ha.on hb))
  have H2 := Lib.hid (fun w' => within_any S (balanceI S) w' h)
  have HF := Lib.hid (show holdsB S = decide (balanceI S ≤ S.brake ∧ -balanceI S ≤ S.brake) from rfl)
  clear ha h
  unfold LSet.val at *
  go_enter Try.func19, Try.ntmps19
  go_wp2_with fail
  go_region_held3 (fun w' => (∀ i, w'.cell? ⟨w.heap.size, i, none⟩ = #[.string S.name, .int .i64 S.depth, .int .i64 S.low, .int .i64 S.high, .int .i64 S.len, .slice S.la S.lines.length S.lc, .int .i64 S.pipe, .int .i64 S.arbor, .int .i64 S.purchase, .int .i64 S.most, .int .i64 S.brake, .slice S.ia S.items.length S.ic, .slice S.ba S.bricks.length S.bc][i]?) ∧ w.heap.size + 1 ≤ w'.heap.size ∧ Below w.heap.size w w') (first | exact hS | exact InBox.of (Below.refl _ _) | exact InBox.of ((Below.refl _ _).drew) | (refine ⟨?_, ?_, ?_⟩ <;> assumption))
    (first
      | (go_at_call 18; refine (H.out _ (by first | assumption | exact (below_box _ _) | exact (below_box _ _).drew)).mono ?_; rintro e w1 ⟨rfl, hb1⟩; have hS := InBox.step (w := w) (cs := #[.string S.name, .int .i64 S.depth, .int .i64 S.low, .int .i64 S.high, .int .i64 S.len, .slice S.la S.lines.length S.lc, .int .i64 S.pipe, .int .i64 S.arbor, .int .i64 S.purchase, .int .i64 S.most, .int .i64 S.brake, .slice S.ia S.items.length S.ic, .slice S.ba S.bricks.length S.bc]) (by first | assumption | exact InBox.of (Below.refl _ _) | exact InBox.of ((Below.refl _ _).drew) | (refine ⟨?_, ?_, ?_⟩ <;> assumption)) (hb1.mono (by first | assumption | simp)); have hS2 := hS.2.1; have hS3 := hS.2.2)
      | (go_at_call 45; refine (H2.out _).mono ?_; rintro e w1 ⟨rfl, hb1⟩; have hS := InBox.step (w := w) (cs := #[.string S.name, .int .i64 S.depth, .int .i64 S.low, .int .i64 S.high, .int .i64 S.len, .slice S.la S.lines.length S.lc, .int .i64 S.pipe, .int .i64 S.arbor, .int .i64 S.purchase, .int .i64 S.most, .int .i64 S.brake, .slice S.ia S.items.length S.ic, .slice S.ba S.bricks.length S.bc]) (by first | assumption | exact InBox.of (Below.refl _ _) | exact InBox.of ((Below.refl _ _).drew) | (refine ⟨?_, ?_, ?_⟩ <;> assumption)) (hb1.mono (by first | assumption | simp)); have hS2 := hS.2.1; have hS3 := hS.2.2))
  go_wp2_with fail
  go_ret
  exact ⟨ret_bool (by rw [HF.out, Bool.eq_iff_iff, Bool.and_eq_true, decide_eq_true_iff, decide_eq_true_iff, decide_eq_true_iff]), hS.2.2⟩
set_option maxHeartbeats 1000000 in
theorem rroom_any (S : LSet) (w : World) (h : Good S) (ha : S.At w w.heap.size) : Calls Try.prog 20 #[S.val] w fun e w' => e = .returned (.int .i64 (60 - thereC S)) ∧ Below w.heap.size w w' := by
  have H2 := Lib.hid (fun w' (hb : Below w.heap.size w w') => counts_any S.ba S.bc S.bricks w' (ha.on hb).bricks (by have := h.nb; omega))
  have hnum : ∀ w' A c, IntsAt w' w'.heap.size A (S.bricks.map (·.count)) → Calls Try.prog 46 #[.slice A S.bricks.length c] w' fun e w2 => e = .returned (.int .i64 (thereC S)) ∧ w' = w2 := by
    intro w' A c hA
    have := number_any A c (S.bricks.map (·.count)) w' hA (by rw [List.length_map]; have := h.nb; omega) (fun x hx => by obtain ⟨y, hy, rfl⟩ := List.mem_map.1 hx; have g := h.bricks y hy; have := g.c1; exact ⟨g.c0, by omega⟩)
    rw [List.length_map, num_counts] at this
    exact this
  have H3 := Lib.hid hnum
  have g := thereC_bound h S.bricks.length (Nat.le_refl _)
  change 0 ≤ thereC S ∧ thereC S ≤ 480 at g
  obtain ⟨g1, g2⟩ := g
  clear ha h hnum
  unfold LSet.val at *
  go_enter Try.func20, Try.ntmps20
  go_wp2_with fail
  refine (H2.out _ (below_box _ _)).mono ?_
  rintro e w1 ⟨A, c, rfl, hA, hc, hb1⟩
  have hb := bpast hb1
  go_wp2_with fail
  refine (H3.out _ _ _ hA).mono ?_
  rintro e w2 ⟨rfl, rfl⟩
  go_wp2_with fail
  go_ret
  exact ⟨rfl, hb⟩
end Go.Proofs.Ytlaplbkekfnldaa
