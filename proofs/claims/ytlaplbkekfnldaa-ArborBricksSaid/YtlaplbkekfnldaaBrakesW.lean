/- The law ArborBrakes: its walk. -/
import Derived.Test.YtlaplbkekfnldaaBrakes
import Derived.Deep.DeepCutAuto
namespace Go.Proofs.Ytlaplbkekfnldaa
open Go.RowKit

set_option maxHeartbeats 400000 in
theorem large25 (S : LSet) (w : World) (ha : S.At w w.heap.size) : Calls Try.prog 11 #[S.val] w fun e w' => e = .returned (.bool (!smallB S 8)) ∧ Below w.heap.size w w' := by
  have H := Lib.hid (fun w' (hb : Below w.heap.size w w') => small_any S 8 w' (ha.on hb) (by decide))
  clear ha
  unfold LSet.val at *
  go_enter Try.func11, Try.ntmps11
  go_wp2_with fail
  refine (H.out _ (below_box _ _)).mono ?_
  rintro e w1 ⟨rfl, hb1⟩
  go_wp2_with fail
  go_ret
  exact ⟨rfl, bpast hb1⟩

def IsFalse (s : Value) (w w' : World) : Prop := s = .bool false ∧ w = w'
def LSet.brk (S : LSet) (x : Int) : LSet := { S with brake := x }
theorem LSet.At.brk {S : LSet} {w : World} {B : Nat} (h : S.At w B) (x : Int) : (S.brk x).At w B := ⟨h.lines, h.items, h.bricks, h.name, h.nlines, h.nitems, h.nbricks, h.clines, h.citems, h.cbricks, h.inames, h.bnames⟩
theorem valid_brk {S : LSet} (h : validB S = true) (x : Int) : validB (S.brk x) = betweenB x 0 67108864 := by
  unfold validB at h ⊢
  rw [Bool.and_eq_true, Bool.and_eq_true, Bool.and_eq_true] at h
  obtain ⟨h1, h2, h3, h4⟩ := h
  have e1 : headB (S.brk x) = headB S := rfl
  have e2 : linesB (S.brk x).lines (S.brk x).len = linesB S.lines S.len := rfl
  have e4 : (itemsB (S.brk x).items (S.brk x).len && bricksB (S.brk x).bricks) = (itemsB S.items S.len && bricksB S.bricks) := rfl
  rw [e1, e2, e4, h1, h2, h4, Bool.true_and, Bool.true_and, Bool.and_true]
  unfold weightsB at h3 ⊢
  rw [Bool.and_eq_true, Bool.and_eq_true, Bool.and_eq_true, Bool.and_eq_true] at h3
  obtain ⟨a, b, c, d, _⟩ := h3
  show (betweenB S.pipe 0 1048576 && (betweenB S.arbor 0 1048576 && (betweenB S.purchase 1 2 && (betweenB S.most 1 67108864 && betweenB x 0 67108864)))) = _
  rw [a, b, c, d]; rfl
theorem balance_brk (S : LSet) (x : Int) : balanceI (S.brk x) = balanceI S := rfl

def LSet.cs (S : LSet) : Array Value := #[.string S.name, .int .i64 S.depth, .int .i64 S.low, .int .i64 S.high, .int .i64 S.len, .slice S.la S.lines.length S.lc, .int .i64 S.pipe, .int .i64 S.arbor,
  .int .i64 S.purchase, .int .i64 S.most, .int .i64 S.brake, .slice S.ia S.items.length S.ic, .slice S.ba S.bricks.length S.bc]
theorem holds_brk (S : LSet) (x : Int) (w : World) (ha : S.At w w.heap.size) (hv : validB S = true) : Calls Try.prog 12 #[.agg #[.string S.name, .int .i64 S.depth, .int .i64 S.low, .int .i64 S.high, .int .i64 S.len, .slice S.la S.lines.length S.lc, .int .i64 S.pipe, .int .i64 S.arbor, .int .i64 S.purchase, .int .i64 S.most, .int .i64 x, .slice S.ia S.items.length S.ic, .slice S.ba S.bricks.length S.bc]] w fun e w' =>
    ((betweenB x 0 67108864 = true ∧ e = .returned (.tuple #[.bool (decide (balanceI S ≤ x ∧ -balanceI S ≤ x)), .int .i64 0])) ∨ (betweenB x 0 67108864 = false ∧ e = .returned (.tuple #[.bool false, .int .i64 1]))) ∧ Below w.heap.size w w' := by
  have hb := valid_brk hv x
  cases hx : betweenB x 0 67108864 with
  | true => exact (holds_yes (S.brk x) w (ha.brk x) (hb.trans hx)).mono fun e w' ⟨h1, h2⟩ => ⟨Or.inl ⟨rfl, h1⟩, h2⟩
  | false => exact (holds_no (S.brk x) w (ha.brk x) (hb.trans hx)).mono fun e w' ⟨h1, h2⟩ => ⟨Or.inr ⟨rfl, h1⟩, h2⟩
theorem holds_brk_is (S : LSet) (x : Int) (w : World) (ha : S.At w w.heap.size) (hv : validB S = true) (h0 : 0 ≤ x) (h1 : x ≤ 67108864) (r : Bool) (hr : decide (balanceI S ≤ x ∧ -balanceI S ≤ x) = r) : Calls Try.prog 12 #[.agg #[.string S.name, .int .i64 S.depth, .int .i64 S.low, .int .i64 S.high, .int .i64 S.len, .slice S.la S.lines.length S.lc, .int .i64 S.pipe, .int .i64 S.arbor, .int .i64 S.purchase, .int .i64 S.most, .int .i64 (x), .slice S.ia S.items.length S.ic, .slice S.ba S.bricks.length S.bc]] w fun e w' =>
    e = .returned (.tuple #[.bool r, .int .i64 0]) ∧ Below w.heap.size w w' := by
  subst hr
  exact holds_yes (S.brk x) w (ha.brk x) ((valid_brk hv x).trans ((between_iff _ _ _).2 ⟨h0, h1⟩))

set_option maxHeartbeats 1000000 in
set_option maxRecDepth 100000 in
theorem brakes_easy (S : LSet) (m : Int) (w : World) (ha : S.At w w.heap.size) (h : smallB S 8 = false ∨ validB S = false) :
    Calls Try.prog 3 #[S.val, .int .u32 m] w fun e w' => e = .returned (.bool true) ∧ Below w.heap.size w w' := by
  have H1 := Lib.hid (fun w' (hb : Below w.heap.size w w') => large25 S w' (ha.on hb))
  by_cases hs : smallB S 8 = false
  · rw [hs] at H1
    clear ha h
    unfold LSet.val at *
    go_enter Try.func3, Try.ntmps3
    go_wp2_with fail
    refine (awake25 _).mono ?_
    rintro e w1 ⟨rfl, hb1⟩
    obtain ⟨hbox, hz, hb⟩ := InBox.of hb1
    clear hb1
    go_wp2_with fail
    refine (H1.out _ hb).mono ?_
    rintro e w2 ⟨rfl, hb2⟩
    go_wp2_with fail
    go_ret
    exact ⟨rfl, bthen hb hb2⟩
  · have hv : validB S = false := h.resolve_left hs
    have hs : smallB S 8 = true := by simpa using hs
    have H2 := Lib.hid (fun w' (hb : Below w.heap.size w w') => holds_no S w' (ha.on hb) hv)
    have H3 := Lib.hid (fun w' (hb : Below w.heap.size w w') => balance_no S w' (ha.on hb) hv)
    rw [hs] at H1
    clear ha h hv
    unfold LSet.val at *
    go_enter Try.func3, Try.ntmps3
    go_wp2_with fail
    refine (awake25 _).mono ?_
    rintro e w1 ⟨rfl, hb1⟩
    obtain ⟨hbox, hz, hb⟩ := InBox.of hb1
    clear hb1
    go_wp2_with fail
    refine (H1.out _ hb).mono ?_
    rintro e w2 ⟨rfl, hb2⟩
    obtain ⟨hbox2, hz2, hb02⟩ := InBox.step ⟨hbox, hz, hb⟩ (hb2.mono hz)
    clear hbox hb2 hb
    go_wp2_with fail
    refine (H2.out _ hb02).mono ?_
    rintro e w3 ⟨rfl, hb3⟩
    obtain ⟨hbox, hz, hb⟩ := InBox.step ⟨hbox2, hz2, hb02⟩ (hb3.mono hz2)
    clear hbox2 hb3 hb02
    go_wp2_with fail
    refine (H3.out _ hb).mono ?_
    rintro e w4 ⟨rfl, hb4⟩
    go_wp2_with fail
    go_ret
    exact ⟨rfl, bthen hb hb4⟩

set_option maxHeartbeats 2000000 in
set_option maxRecDepth 100000 in
theorem brakes_hard (S : LSet) (m : Int) (w : World) (ha : S.At w w.heap.size) (hs : smallB S 8 = true) (hv : validB S = true) (hm0 : 0 ≤ m) (hm1 : m ≤ 4294967295) :
    Calls Try.prog 3 #[S.val, .int .u32 m] w fun e w' => e = .returned (.bool true) ∧ Below w.heap.size w w' := by
  have H1 := Lib.hid (fun w' (hb : Below w.heap.size w w') => large25 S w' (ha.on hb))
  rw [hs] at H1
  have H2 := Lib.hid (fun w' (hb : Below w.heap.size w w') => holds_yes S w' (ha.on hb) hv)
  have H3 := Lib.hid (fun w' (hb : Below w.heap.size w w') => balance_yes S w' (ha.on hb) hv)
  have HA := Lib.hid ha
  have HV := Lib.hid hv
  have g := Good.of hv
  have bd := balance_bd g
  obtain ⟨bd1, bd2, _⟩ := bd
  have b0 := g.b0
  have b1 := g.b1
  clear ha hv hs g
  unfold LSet.val at *
  go_enter Try.func3, Try.ntmps3
  go_wp2_with fail
  refine (awake25 _).mono ?_
  rintro e w1 ⟨rfl, hb1⟩
  obtain ⟨hbox, hz, hb⟩ := InBox.of hb1
  clear hb1
  go_wp2_with fail
  refine (H1.out _ hb).mono ?_
  rintro e w2 ⟨rfl, hb2⟩
  obtain ⟨hbox2, hz2, hb02⟩ := InBox.step ⟨hbox, hz, hb⟩ (hb2.mono hz)
  clear hbox hb2 hb
  go_wp2_with fail
  refine (H2.out _ hb02).mono ?_
  rintro e w3 ⟨rfl, hb3⟩
  obtain ⟨hbox, hz, hb⟩ := InBox.step ⟨hbox2, hz2, hb02⟩ (hb3.mono hz2)
  clear hbox2 hb3 hb02
  go_wp2_with fail
  refine (H3.out _ hb).mono ?_
  rintro e w4 ⟨rfl, hb4⟩
  obtain ⟨hbox2, hz2, hb02⟩ := InBox.step ⟨hbox, hz, hb⟩ (hb4.mono hz)
  clear hbox hb4 hb hz
  go_wp2_with fail
  -- t.Brake is raised
  have hA4 := HA.out.on hb02
  have hm2 : 0 ≤ m % 1048576 := by omega
  refine (holds_brk S (S.brake + m % 1048576) _ (by exact hA4.alloc _) HV.out).mono ?_
  rintro e w5 ⟨hq, hb5⟩
  have hB : Blk w5 w4.heap.size (S.brk (S.brake + m % 1048576)).cs := (Blk.new w4 _ _).call hb5
  obtain ⟨hbox3, hz3, hb05⟩ := InBox.step ⟨hbox2, hz2, hb02⟩ ((bpast hb5).mono hz2)
  clear hbox2 hb5 hA4 hb02
  have hle : w.heap.size ≤ w4.heap.size := by omega
  rcases hq with ⟨hx, rfl⟩ | ⟨hx, rfl⟩
  · have HX := Lib.hid hx; clear hx
    go_upto_region 12 with (fail)
    go_cut [65] (fun s wx => IsFalse s w5 wx)
    case first =>
      by_cases hok : holdsB S = true
      · have hwide : decide (balanceI S ≤ S.brake + m % 1048576 ∧ -balanceI S ≤ S.brake + m % 1048576) = true := by
          unfold holdsB at hok
          rw [decide_eq_true_iff] at hok ⊢
          omega
        have HW := Lib.hid (decide_eq_true_iff.1 hwide)
        go_wp2_with fail
        go_meet
        exact ⟨congrArg Value.bool (by rw [decide_eq_true HW.out.1, decide_eq_true HW.out.2]; rfl), rfl⟩
      · have hok := Bool.eq_false_iff.2 hok
        go_wp2_with fail
        go_meet
        exact ⟨rfl, rfl⟩
    case rest =>
      obtain ⟨rfl, rfl⟩ := hcut
      have hBc : ∀ i, w5.cell? ⟨w4.heap.size, i, none⟩ = #[.string S.name, .int .i64 S.depth, .int .i64 S.low, .int .i64 S.high, .int .i64 S.len, .slice S.la S.lines.length S.lc, .int .i64 S.pipe, .int .i64 S.arbor, .int .i64 S.purchase, .int .i64 S.most, .int .i64 (S.brake + m % 1048576), .slice S.ia S.items.length S.ic, .slice S.ba S.bricks.length S.bc][i]? := hB.cell
      have hBf := hB.free
      by_cases hsg : -balanceI S ≤ balanceI S
      case pos =>
        by_cases hbig : 67108864 < balanceI S
        · have hok : holdsB S = false := decide_eq_false (by omega)
          go_wp2_with fail
          go_ret
          exact ⟨rfl, hb05⟩
        · have hA5 := HA.out.on (hb05.setCell (p := ⟨w4.heap.size, 10, none⟩) hle (.int .i64 (balanceI S)))
          have hB6 : Blk _ w4.heap.size (S.brk (balanceI S)).cs := hB.set_ (i := 10) (.int .i64 (balanceI S)) (by show 10 < 13; omega) rfl
          by_cases hz0 : balanceI S = 0
          · have hok : holdsB S = true := decide_eq_true (by omega)
            have HZ := Lib.hid hz0
            have hz1 : (balanceI S == 0) = true := beq_iff_eq.2 hz0
            clear hz0
            go_wp2_with fail
            refine (holds_brk_is S (balanceI S) _ (by exact hA5) HV.out (by omega) (by omega) true (decide_eq_true (by omega))).mono ?_
            rintro e w6 ⟨rfl, hb6⟩
            have hb06 := bthen (hb05.setCell (p := ⟨w4.heap.size, 10, none⟩) hle (.int .i64 (balanceI S))) hb6
            clear hBc hBf hA5 hB6 hb6
            go_wp2_with fail
            go_ret
            exact ⟨rfl, hb06⟩
          · have hz1 : (balanceI S == 0) = false := beq_eq_false_iff_ne.2 hz0
            go_wp2_with fail
            refine (holds_brk_is S (balanceI S) _ (by exact hA5) HV.out (by omega) (by omega) true (decide_eq_true (by omega))).mono ?_
            rintro e w6 ⟨rfl, hb6⟩
            have hB7 := hB6.call hb6
            have hb06 := bthen (hb05.setCell (p := ⟨w4.heap.size, 10, none⟩) hle (.int .i64 (balanceI S))) hb6
            have hA7 := HA.out.on (hb06.setCell (p := ⟨w4.heap.size, 10, none⟩) hle (.int .i64 (balanceI S - 1)))
            clear hBc hBf hA5 hB6 hb6
            have hBc : ∀ i, w6.cell? ⟨w4.heap.size, i, none⟩ = #[.string S.name, .int .i64 S.depth, .int .i64 S.low, .int .i64 S.high, .int .i64 S.len, .slice S.la S.lines.length S.lc, .int .i64 S.pipe, .int .i64 S.arbor, .int .i64 S.purchase, .int .i64 S.most, .int .i64 (balanceI S), .slice S.ia S.items.length S.ic, .slice S.ba S.bricks.length S.bc][i]? := hB7.cell
            have hBf := hB7.free
            go_wp2_with fail
            refine (holds_brk_is S (balanceI S - 1) _ (by exact hA7) HV.out (by omega) (by omega) false (decide_eq_false (by omega))).mono ?_
            rintro e w7 ⟨rfl, hb7⟩
            have hb07 := bthen (hb06.setCell (p := ⟨w4.heap.size, 10, none⟩) hle (.int .i64 (balanceI S - 1))) hb7
            clear hBc hBf hA7 hB7 hb7
            go_wp2_with fail
            go_ret
            exact ⟨rfl, hb07⟩
      case neg =>
        by_cases hbig : 67108864 < -balanceI S
        · have hok : holdsB S = false := decide_eq_false (by omega)
          go_wp2_with fail
          go_ret
          exact ⟨rfl, hb05⟩
        · have hA5 := HA.out.on (hb05.setCell (p := ⟨w4.heap.size, 10, none⟩) hle (.int .i64 (-balanceI S)))
          have hB6 : Blk _ w4.heap.size (S.brk (-balanceI S)).cs := hB.set_ (i := 10) (.int .i64 (-balanceI S)) (by show 10 < 13; omega) rfl
          by_cases hz0 : -balanceI S = 0
          · have hok : holdsB S = true := decide_eq_true (by omega)
            have HZ := Lib.hid hz0
            have hz1 : (-balanceI S == 0) = true := beq_iff_eq.2 hz0
            clear hz0
            go_wp2_with fail
            refine (holds_brk_is S (-balanceI S) _ (by exact hA5) HV.out (by omega) (by omega) true (decide_eq_true (by omega))).mono ?_
            rintro e w6 ⟨rfl, hb6⟩
            have hb06 := bthen (hb05.setCell (p := ⟨w4.heap.size, 10, none⟩) hle (.int .i64 (-balanceI S))) hb6
            clear hBc hBf hA5 hB6 hb6
            go_wp2_with fail
            go_ret
            exact ⟨rfl, hb06⟩
          · have hz1 : (-balanceI S == 0) = false := beq_eq_false_iff_ne.2 hz0
            go_wp2_with fail
            refine (holds_brk_is S (-balanceI S) _ (by exact hA5) HV.out (by omega) (by omega) true (decide_eq_true (by omega))).mono ?_
            rintro e w6 ⟨rfl, hb6⟩
            have hB7 := hB6.call hb6
            have hb06 := bthen (hb05.setCell (p := ⟨w4.heap.size, 10, none⟩) hle (.int .i64 (-balanceI S))) hb6
            have hA7 := HA.out.on (hb06.setCell (p := ⟨w4.heap.size, 10, none⟩) hle (.int .i64 (-balanceI S - 1)))
            clear hBc hBf hA5 hB6 hb6
            have hBc : ∀ i, w6.cell? ⟨w4.heap.size, i, none⟩ = #[.string S.name, .int .i64 S.depth, .int .i64 S.low, .int .i64 S.high, .int .i64 S.len, .slice S.la S.lines.length S.lc, .int .i64 S.pipe, .int .i64 S.arbor, .int .i64 S.purchase, .int .i64 S.most, .int .i64 (-balanceI S), .slice S.ia S.items.length S.ic, .slice S.ba S.bricks.length S.bc][i]? := hB7.cell
            have hBf := hB7.free
            go_wp2_with fail
            refine (holds_brk_is S (-balanceI S - 1) _ (by exact hA7) HV.out (by omega) (by omega) false (decide_eq_false (by omega))).mono ?_
            rintro e w7 ⟨rfl, hb7⟩
            have hb07 := bthen (hb06.setCell (p := ⟨w4.heap.size, 10, none⟩) hle (.int .i64 (-balanceI S - 1))) hb7
            clear hBc hBf hA7 hB7 hb7
            go_wp2_with fail
            go_ret
            exact ⟨rfl, hb07⟩
  · clear hx
    have hBc : ∀ i, w5.cell? ⟨w4.heap.size, i, none⟩ = #[.string S.name, .int .i64 S.depth, .int .i64 S.low, .int .i64 S.high, .int .i64 S.len, .slice S.la S.lines.length S.lc, .int .i64 S.pipe, .int .i64 S.arbor, .int .i64 S.purchase, .int .i64 S.most, .int .i64 (S.brake + m % 1048576), .slice S.ia S.items.length S.ic, .slice S.ba S.bricks.length S.bc][i]? := hB.cell
    have hBf := hB.free
    by_cases hsg : -balanceI S ≤ balanceI S
    case pos =>
      by_cases hbig : 67108864 < balanceI S
      · have hok : holdsB S = false := decide_eq_false (by omega)
        go_wp2_with fail
        go_ret
        exact ⟨rfl, hb05⟩
      · have hA5 := HA.out.on (hb05.setCell (p := ⟨w4.heap.size, 10, none⟩) hle (.int .i64 (balanceI S)))
        have hB6 : Blk _ w4.heap.size (S.brk (balanceI S)).cs := hB.set_ (i := 10) (.int .i64 (balanceI S)) (by show 10 < 13; omega) rfl
        by_cases hz0 : balanceI S = 0
        · have hok : holdsB S = true := decide_eq_true (by omega)
          have HZ := Lib.hid hz0
          have hz1 : (balanceI S == 0) = true := beq_iff_eq.2 hz0
          clear hz0
          go_wp2_with fail
          refine (holds_brk_is S (balanceI S) _ (by exact hA5) HV.out (by omega) (by omega) true (decide_eq_true (by omega))).mono ?_
          rintro e w6 ⟨rfl, hb6⟩
          have hb06 := bthen (hb05.setCell (p := ⟨w4.heap.size, 10, none⟩) hle (.int .i64 (balanceI S))) hb6
          clear hBc hBf hA5 hB6 hb6
          go_wp2_with fail
          go_ret
          exact ⟨rfl, hb06⟩
        · have hz1 : (balanceI S == 0) = false := beq_eq_false_iff_ne.2 hz0
          go_wp2_with fail
          refine (holds_brk_is S (balanceI S) _ (by exact hA5) HV.out (by omega) (by omega) true (decide_eq_true (by omega))).mono ?_
          rintro e w6 ⟨rfl, hb6⟩
          have hB7 := hB6.call hb6
          have hb06 := bthen (hb05.setCell (p := ⟨w4.heap.size, 10, none⟩) hle (.int .i64 (balanceI S))) hb6
          have hA7 := HA.out.on (hb06.setCell (p := ⟨w4.heap.size, 10, none⟩) hle (.int .i64 (balanceI S - 1)))
          clear hBc hBf hA5 hB6 hb6
          have hBc : ∀ i, w6.cell? ⟨w4.heap.size, i, none⟩ = #[.string S.name, .int .i64 S.depth, .int .i64 S.low, .int .i64 S.high, .int .i64 S.len, .slice S.la S.lines.length S.lc, .int .i64 S.pipe, .int .i64 S.arbor, .int .i64 S.purchase, .int .i64 S.most, .int .i64 (balanceI S), .slice S.ia S.items.length S.ic, .slice S.ba S.bricks.length S.bc][i]? := hB7.cell
          have hBf := hB7.free
          go_wp2_with fail
          refine (holds_brk_is S (balanceI S - 1) _ (by exact hA7) HV.out (by omega) (by omega) false (decide_eq_false (by omega))).mono ?_
          rintro e w7 ⟨rfl, hb7⟩
          have hb07 := bthen (hb06.setCell (p := ⟨w4.heap.size, 10, none⟩) hle (.int .i64 (balanceI S - 1))) hb7
          clear hBc hBf hA7 hB7 hb7
          go_wp2_with fail
          go_ret
          exact ⟨rfl, hb07⟩
    case neg =>
      by_cases hbig : 67108864 < -balanceI S
      · have hok : holdsB S = false := decide_eq_false (by omega)
        go_wp2_with fail
        go_ret
        exact ⟨rfl, hb05⟩
      · have hA5 := HA.out.on (hb05.setCell (p := ⟨w4.heap.size, 10, none⟩) hle (.int .i64 (-balanceI S)))
        have hB6 : Blk _ w4.heap.size (S.brk (-balanceI S)).cs := hB.set_ (i := 10) (.int .i64 (-balanceI S)) (by show 10 < 13; omega) rfl
        by_cases hz0 : -balanceI S = 0
        · have hok : holdsB S = true := decide_eq_true (by omega)
          have HZ := Lib.hid hz0
          have hz1 : (-balanceI S == 0) = true := beq_iff_eq.2 hz0
          clear hz0
          go_wp2_with fail
          refine (holds_brk_is S (-balanceI S) _ (by exact hA5) HV.out (by omega) (by omega) true (decide_eq_true (by omega))).mono ?_
          rintro e w6 ⟨rfl, hb6⟩
          have hb06 := bthen (hb05.setCell (p := ⟨w4.heap.size, 10, none⟩) hle (.int .i64 (-balanceI S))) hb6
          clear hBc hBf hA5 hB6 hb6
          go_wp2_with fail
          go_ret
          exact ⟨rfl, hb06⟩
        · have hz1 : (-balanceI S == 0) = false := beq_eq_false_iff_ne.2 hz0
          go_wp2_with fail
          refine (holds_brk_is S (-balanceI S) _ (by exact hA5) HV.out (by omega) (by omega) true (decide_eq_true (by omega))).mono ?_
          rintro e w6 ⟨rfl, hb6⟩
          have hB7 := hB6.call hb6
          have hb06 := bthen (hb05.setCell (p := ⟨w4.heap.size, 10, none⟩) hle (.int .i64 (-balanceI S))) hb6
          have hA7 := HA.out.on (hb06.setCell (p := ⟨w4.heap.size, 10, none⟩) hle (.int .i64 (-balanceI S - 1)))
          clear hBc hBf hA5 hB6 hb6
          have hBc : ∀ i, w6.cell? ⟨w4.heap.size, i, none⟩ = #[.string S.name, .int .i64 S.depth, .int .i64 S.low, .int .i64 S.high, .int .i64 S.len, .slice S.la S.lines.length S.lc, .int .i64 S.pipe, .int .i64 S.arbor, .int .i64 S.purchase, .int .i64 S.most, .int .i64 (-balanceI S), .slice S.ia S.items.length S.ic, .slice S.ba S.bricks.length S.bc][i]? := hB7.cell
          have hBf := hB7.free
          go_wp2_with fail
          refine (holds_brk_is S (-balanceI S - 1) _ (by exact hA7) HV.out (by omega) (by omega) false (decide_eq_false (by omega))).mono ?_
          rintro e w7 ⟨rfl, hb7⟩
          have hb07 := bthen (hb06.setCell (p := ⟨w4.heap.size, 10, none⟩) hle (.int .i64 (-balanceI S - 1))) hb7
          clear hBc hBf hA7 hB7 hb7
          go_wp2_with fail
          go_ret
          exact ⟨rfl, hb07⟩
end Go.Proofs.Ytlaplbkekfnldaa
