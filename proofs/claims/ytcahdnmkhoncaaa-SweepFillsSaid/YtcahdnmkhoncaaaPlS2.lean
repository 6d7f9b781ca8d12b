/- Sweeps: nearness, gaps, moves. -/
import Derived.Test.YtcahdnmkhoncaaaPlS1
namespace Go.Proofs.Ytcahdnmkhoncaaa
set_option linter.unusedSimpArgs false
set_option linter.unusedVariables false

def nearI (a b : TSet) : Bool := decide ((rOf a).left < (rOf b).right) && (decide ((rOf b).left < (rOf a).right) && (decide (a.depth - (rOf a).back < b.depth + (rOf b).front) && decide (b.depth - (rOf b).back < a.depth + (rOf a).front)))
def gapI (a b : TSet) (x y : Int) : Int := max (x - (rOf a).hang - y) (y - (rOf b).hang - x)
def nearP (a b : TSet) : Bool × Int := bif !(validB a && validB b) then (false, 1) else (nearI a b, 0)
def gapP (a b : TSet) (x y : Int) : Int × Int := bif !(validB a && validB b) then (0, 1) else bif !(trimB a x && trimB b y) then (0, 2) else (gapI a b x y, 0)
theorem near_sym (a b : TSet) : nearI a b = nearI b a := by
  unfold nearI
  cases decide ((rOf a).left < (rOf b).right) <;> cases decide ((rOf b).left < (rOf a).right) <;> cases decide (a.depth - (rOf a).back < b.depth + (rOf b).front) <;> cases decide (b.depth - (rOf b).back < a.depth + (rOf a).front) <;> rfl
theorem gap_sym (a b : TSet) (x y : Int) : gapI a b x y = gapI b a y x := by unfold gapI; omega
theorem f_near (a b : TSet) (ha : Fits a) (hb : Fits b) : F_sweep_Near a b = some (nearP a b) := by
  unfold F_sweep_Near nearP
  rw [f_valid a ha, f_valid b hb]
  cases hva : validB a with
  | false => rfl
  | true =>
    cases hvb : validB b with
    | false => rfl
    | true =>
      have ga := Good.of hva
      have gb := Good.of hvb
      have ra := rb a ga
      have rb' := rb b gb
      have a1 := ra.f0; have a2 := ra.f1; have a3 := ra.b0; have a4 := ra.b1; have a5 := ga.d0; have a6 := ga.d1
      have b1 := rb'.f0; have b2 := rb'.f1; have b3 := rb'.b0; have b4 := rb'.b1; have b5 := gb.d0; have b6 := gb.d1
      simp only [Option.bind_some, Bool.not_true, cond_false, Bool.and_self]
      rw [f_of a ga, f_of b gb]
      simp only [Option.bind_some]
      rw [wrap64 (n := a.depth - (rOf a).back) (by omega) (by omega), wrap64 (n := b.depth + (rOf b).front) (by omega) (by omega), wrap64 (n := b.depth - (rOf b).back) (by omega) (by omega), wrap64 (n := a.depth + (rOf a).front) (by omega) (by omega)]
      unfold nearI
      cases decide ((rOf a).left < (rOf b).right) <;> cases decide ((rOf b).left < (rOf a).right) <;> cases decide (a.depth - (rOf a).back < b.depth + (rOf b).front) <;> rfl
theorem given_one (s : TSet) (z : Int) (hv : validB s = true) : (givenP s [z] != 0) = !trimB s z := by
  unfold givenP
  rw [hv]
  simp only [Bool.not_true, cond_false, List.all_cons, List.all_nil, Bool.and_true]
  cases trimB s z <;> rfl
theorem gap_wraps {a b : TSet} {x y : Int} (ga : Good a) (gb : Good b) (hx : a.low ≤ x ∧ x ≤ a.high) (hy : b.low ≤ y ∧ y ≤ b.high) :
    maxZ (IntKind.i64.wrap ((IntKind.i64.wrap (x - (rOf a).hang)) - y)) (IntKind.i64.wrap ((IntKind.i64.wrap (y - (rOf b).hang)) - x)) = gapI a b x y := by
  have ra := rb a ga
  have rb' := rb b gb
  have a1 := ra.h0; have a2 := ra.h1; have a3 := ga.l0; have a4 := ga.h1
  have b1 := rb'.h0; have b2 := rb'.h1; have b3 := gb.l0; have b4 := gb.h1
  rw [maxZ_eq, wrap64 (n := x - (rOf a).hang) (by omega) (by omega), wrap64 (n := y - (rOf b).hang) (by omega) (by omega), wrap64 (by omega) (by omega), wrap64 (by omega) (by omega)]
  rfl
theorem f_gap (a b : TSet) (x y : Int) (ha : Fits a) (hb : Fits b) : F_sweep_Gap a b x y = some (gapP a b x y) := by
  unfold F_sweep_Gap gapP
  rw [f_valid a ha, f_valid b hb]
  cases hva : validB a with
  | false => rfl
  | true =>
    cases hvb : validB b with
    | false => rfl
    | true =>
      simp only [Option.bind_some, Bool.not_true, cond_false, Bool.and_self]
      rw [f_given a _ ha (by simp), f_given b _ hb (by simp)]
      simp only [Option.bind_some, given_one a x hva, given_one b y hvb]
      cases hta : trimB a x with
      | false => rfl
      | true =>
        cases htb : trimB b y with
        | false => rfl
        | true =>
          have ga := Good.of hva
          have gb := Good.of hvb
          simp only [Option.bind_some, Bool.not_true, cond_false, Bool.and_self]
          rw [f_of a ga, f_of b gb]
          simp only [Option.bind_some]
          rw [gap_wraps ga gb ((trim_iff a x).1 hta) ((trim_iff b y).1 htb)]
theorem f_rnear (a b : TSet) (ga : Good a) (gb : Good b) : F_ref39_Near a b = some (nearI a b) := by
  have ra := rb a ga
  have rb' := rb b gb
  have a1 := ra.f0; have a2 := ra.f1; have a3 := ra.b0; have a4 := ra.b1; have a5 := ga.d0; have a6 := ga.d1
  have b1 := rb'.f0; have b2 := rb'.f1; have b3 := rb'.b0; have b4 := rb'.b1; have b5 := gb.d0; have b6 := gb.d1
  unfold F_ref39_Near
  rw [f_rof a ga, f_rof b gb]
  simp only [Option.bind_some, rR]
  rw [wrap64 (n := a.depth - (rOf a).back) (by omega) (by omega), wrap64 (n := b.depth + (rOf b).front) (by omega) (by omega), wrap64 (n := b.depth - (rOf b).back) (by omega) (by omega), wrap64 (n := a.depth + (rOf a).front) (by omega) (by omega)]
  unfold nearI
  cases decide ((rOf a).left < (rOf b).right) <;> cases decide ((rOf b).left < (rOf a).right) <;> cases decide (a.depth - (rOf a).back < b.depth + (rOf b).front) <;> rfl
theorem f_rgap (a b : TSet) (x y : Int) (ga : Good a) (gb : Good b) (hx : a.low ≤ x ∧ x ≤ a.high) (hy : b.low ≤ y ∧ y ≤ b.high) : F_ref39_Gap a b x y = some (gapI a b x y) := by
  unfold F_ref39_Gap
  rw [f_rof a ga, f_rof b gb]
  simp only [Option.bind_some, rR]
  rw [gap_wraps ga gb hx hy]
theorem main_SweepNears (x0 : TSet) (x1 : TSet) (x2 : Int) (x3 : Int) (w0 : W_Set x0) (w1 : W_Set x1) (w2 : W_int1 x2) (w3 : W_int1 x3) : F_law39_SweepNears x0 x1 x2 x3 = some true := by
  unfold F_law39_SweepNears
  rw [f_awake39, f_few2]
  simp only [Option.bind_some, Bool.not_true, cond_false]
  cases hs0 : smallB x0 12 with
  | false => rfl
  | true =>
    cases hs1 : smallB x1 12 with
    | false => rfl
    | true =>
      have hf0 := small_fits hs0
      have hf1 := small_fits hs1
      simp only [Bool.not_true, cond_false, Bool.and_self]
      rw [f_near x0 x1 hf0 hf1, f_gap x0 x1 x2 x3 hf0 hf1, f_rvalid x0 hf0, f_rvalid x1 hf1]
      simp only [Option.bind_some]
      unfold nearP gapP
      cases hva : validB x0 with
      | false => rfl
      | true =>
        cases hvb : validB x1 with
        | false => rfl
        | true =>
          have ga := Good.of hva
          have gb := Good.of hvb
          simp only [Option.bind_some, Bool.not_true, cond_false, Bool.and_self]
          rw [f_rnear x0 x1 ga gb, f_trim, f_trim]
          simp only [Option.bind_some, beq_self_eq_true, Bool.not_true, cond_false, bne_self_eq_false]
          cases hta : trimB x0 x2 with
          | false => rfl
          | true =>
            cases htb : trimB x1 x3 with
            | false => rfl
            | true =>
              simp only [Option.bind_some, Bool.not_true, cond_false, Bool.and_self]
              rw [f_rgap x0 x1 x2 x3 ga gb ((trim_iff _ _).1 hta) ((trim_iff _ _).1 htb)]
              simp only [Option.bind_some, beq_self_eq_true, cond_true]
theorem box_ok {s : TSet} {z : Int} (hv : validB s = true) (ht : s.low ≤ z ∧ z ≤ s.high) : boxP s z = (TPoint.mk (rOf s).left (s.depth - (rOf s).back) (z - (rOf s).hang), TPoint.mk (rOf s).right (s.depth + (rOf s).front) z, 0) := by
  unfold boxP
  rw [given_one s z hv, (trim_iff s z).2 ht]
  rfl
theorem main_SweepGaps (x0 : TSet) (x1 : TSet) (x2 : Int) (x3 : Int) (w0 : W_Set x0) (w1 : W_Set x1) (w2 : W_int1 x2) (w3 : W_int1 x3) : F_law39_SweepGaps x0 x1 x2 x3 = some true := by
  unfold F_law39_SweepGaps
  rw [f_awake39, f_few2]
  simp only [Option.bind_some, Bool.not_true, cond_false]
  cases hs0 : smallB x0 12 with
  | false => rfl
  | true =>
    cases hs1 : smallB x1 12 with
    | false => rfl
    | true =>
      have hf0 := small_fits hs0
      have hf1 := small_fits hs1
      simp only [Bool.not_true, cond_false, Bool.and_self]
      rw [f_near x0 x1 hf0 hf1, f_gap x0 x1 x2 x3 hf0 hf1, f_near x1 x0 hf1 hf0, f_gap x1 x0 x3 x2 hf1 hf0, f_box x0 x2 hf0, f_box x1 x3 hf1]
      simp only [Option.bind_some]
      have e1 : gapP x1 x0 x3 x2 = gapP x0 x1 x2 x3 := by
        unfold gapP
        rw [Bool.and_comm (validB x1), Bool.and_comm (trimB x1 x3), gap_sym x1 x0]
      have e2 : nearP x1 x0 = nearP x0 x1 := by
        unfold nearP
        rw [Bool.and_comm (validB x1), near_sym x1 x0]
      rw [e1, e2]
      simp only [beq_self_eq_true, bne_self_eq_false, Bool.not_true, cond_false, Option.bind_some]
      unfold nearP gapP
      cases hva : validB x0 with
      | false => rfl
      | true =>
        cases hvb : validB x1 with
        | false => rfl
        | true =>
          cases hta : trimB x0 x2 with
          | false => rfl
          | true =>
            cases htb : trimB x1 x3 with
            | false => rfl
            | true =>
              have ga := Good.of hva
              have gb := Good.of hvb
              have tx := (trim_iff _ _).1 hta
              have ty := (trim_iff _ _).1 htb
              have ra := rb x0 ga
              have rb' := rb x1 gb
              have a1 := ra.h0; have a2 := ra.h1; have a3 := ga.l0; have a4 := ga.h1
              have b1 := rb'.h0; have b2 := rb'.h1; have b3 := gb.l0; have b4 := gb.h1
              rw [box_ok hva tx, box_ok hvb ty]
              have e0 : ((0 : Int) != 0) = false := rfl
              simp only [Bool.and_self, Bool.not_true, cond_false, e0, Option.bind_some]
              rw [maxZ_eq, wrap64 (n := x2 - (rOf x0).hang - x3) (by omega) (by omega), wrap64 (n := x3 - (rOf x1).hang - x2) (by omega) (by omega)]
              have e3 : (gapI x0 x1 x2 x3 != max (x2 - (rOf x0).hang - x3) (x3 - (rOf x1).hang - x2)) = false := by unfold gapI; simp
              rw [e3]
              simp only [cond_false, Option.bind_some]
              unfold nearI
              cases decide ((rOf x0).left < (rOf x1).right) <;> cases decide ((rOf x1).left < (rOf x0).right) <;> cases decide (x0.depth - (rOf x0).back < x1.depth + (rOf x1).front) <;> cases decide (x1.depth - (rOf x1).back < x0.depth + (rOf x0).front) <;> rfl
theorem given_two (s : TSet) (x y : Int) : givenP s [x, y] = bif !validB s then 1 else bif trimB s x && trimB s y then 0 else 2 := by
  unfold givenP
  simp only [List.all_cons, List.all_nil, Bool.and_true]
theorem main_SweepMoves (x0 : TSet) (x1 : Int) (x2 : Int) (x3 : Int) (w0 : W_Set x0) (w1 : W_int1 x1) (w2 : W_int1 x2) (w3 : W_u32 x3) : F_law39_SweepMoves x0 x1 x2 x3 = some true := by
  have hx3 := wfU32 w3
  unfold F_law39_SweepMoves
  rw [f_awake39, f_few1]
  simp only [Option.bind_some, Bool.not_true, cond_false]
  cases hs : smallB x0 12 with
  | false => rfl
  | true =>
    have hf := small_fits hs
    simp only [Bool.not_true, cond_false]
    have hcomm : rangeP x0 x2 x1 = rangeP x0 x1 x2 := by
      unfold rangeP
      rw [given_two, given_two, Bool.and_comm (trimB x0 x2), Int.min_comm x2, Int.max_comm x2]
    rw [f_range x0 x1 x2 hf, f_range x0 x2 x1 hf, hcomm]
    simp only [Option.bind_some, beq_self_eq_true, bne_self_eq_false, Bool.not_true, cond_false, Bool.and_self]
    cases hg : (givenP x0 [x1, x2] != 0) with
    | true =>
      have e : rangeP x0 x1 x2 = (TSpan.mk 0 0, givenP x0 [x1, x2]) := by unfold rangeP; rw [hg]; rfl
      rw [e]
      simp only [hg, cond_true]
      rfl
    | false =>
      obtain ⟨hv, hz⟩ := given_ok (show givenP x0 [x1, x2] = 0 by simpa using hg)
      have e : rangeP x0 x1 x2 = (TSpan.mk (min x1 x2 - (rOf x0).hang) (max x1 x2), 0) := by unfold rangeP; rw [hg]; rfl
      have hgd := Good.of hv
      have b := rb x0 hgd
      have b1 := b.h0; have b2 := b.h1; have b3 := b.f0; have b4 := b.f1; have b5 := b.b0; have b6 := b.b1; have b7 := b.lr
      have c1 := hgd.d0; have c2 := hgd.d1; have c3 := hgd.l0; have c4 := hgd.l1; have c5 := hgd.h1
      have t1 := hz x1 (by simp)
      have t2 := hz x2 (by simp)
      rw [e]
      have e0 : ((0 : Int) != 0) = false := rfl
      simp only [e0, cond_false, maxZ_eq, minZ_eq]
      rw [wrap64 (n := max x1 x2 - min x1 x2) (by omega) (by omega), wrap64 (n := max x1 x2 - min x1 x2 + 1) (by omega) (by omega), wrap64 (n := x3) (by omega) (by omega), if_neg (by omega)]
      have hm : 0 ≤ x3.tmod (max x1 x2 - min x1 x2 + 1) ∧ x3.tmod (max x1 x2 - min x1 x2 + 1) < max x1 x2 - min x1 x2 + 1 := by
        rw [Int.tmod_eq_emod_of_nonneg (by omega)]
        exact ⟨Int.emod_nonneg _ (by omega), Int.emod_lt_of_pos _ (by omega)⟩
      generalize x3.tmod (max x1 x2 - min x1 x2 + 1) = d at hm
      rw [wrap64 (n := min x1 x2 + d) (by omega) (by omega), f_box x0 _ hf, f_box x0 _ hf, box_ok hv (by omega), box_ok hv (by omega)]
      simp only [Option.bind_some, e0, cond_false, bne_self_eq_false]
      rw [wrap64 (n := min x1 x2 + d - (rOf x0).hang - (min x1 x2 - (rOf x0).hang)) (by omega) (by omega), wrap64 (n := min x1 x2 + d - min x1 x2) (by omega) (by omega)]
      have e1 : (min x1 x2 + d - (rOf x0).hang - (min x1 x2 - (rOf x0).hang) != min x1 x2 + d - min x1 x2) = false := by rw [bne_eq_false_iff_eq]; omega
      rw [e1, decide_eq_true (show min x1 x2 + d - (rOf x0).hang ≥ min x1 x2 - (rOf x0).hang by omega), decide_eq_true (show min x1 x2 + d ≤ max x1 x2 by omega), decide_eq_true b7, decide_eq_true (show x0.depth - (rOf x0).back ≤ x0.depth by omega), decide_eq_true (show x0.depth ≤ x0.depth + (rOf x0).front by omega), decide_eq_true (show min x1 x2 - (rOf x0).hang ≤ min x1 x2 by omega)]
      simp only [cond_false, cond_true, Option.bind_some, beq_self_eq_true, bne_self_eq_false]
end Go.Proofs.Ytcahdnmkhoncaaa
