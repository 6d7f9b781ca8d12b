/- The plain sentences of BrakePaths, BrakeChanges, BrakeStates, BrakeBack. -/
import Derived.Test.YtmdghocpelkcoaaPlB2
namespace Go.Proofs.Ytmdghocpelkcoaa
set_option linter.unusedSimpArgs false
set_option linter.unusedVariables false

theorem f_awake27 : F_law27_awake = some true := by kernel_rfl
theorem first_lt (s : TSet) (p : List Int) : firstI s p < 0 → firstI s p = -1 := by
  unfold firstI
  cases p.findIdx? fun z => !heldB s z with
  | none => intro _; rfl
  | some i => intro h; simp only at h; omega
theorem main_BrakePaths (x0 : TSet) (x1 : List TJob) (w0 : W_Set x0) (w1 : W_l_Job x1) : F_law27_BrakePaths x0 x1 = some true := by
  unfold F_law27_BrakePaths
  rw [f_awake27, f_few27]
  simp only [Option.bind_some, Bool.not_true, cond_false]
  cases hs : few27 x0 x1 with
  | false => rfl
  | true =>
    obtain ⟨hf, hl, hn⟩ := few_ok hs
    have hn2 : ∀ x ∈ x1, x.name.size ≤ 2147483648 := fun x hx => by have := hn x hx; omega
    simp only [Bool.not_true, cond_false]
    rw [f_rjobs x1 hn2, f_path x0 x1 hf hn, f_first x0 x1 hf hn, f_widest x0 x1 hf hn, f_bvalid x1 hn2, f_rvalid x0 hf]
    simp only [Option.bind_some, beq_self_eq_true, Bool.not_true, cond_false]
    unfold pathP firstP widestP
    cases hj : jobsB x1 with
    | false =>
      have ho : okB x0 x1 = false := by unfold okB; rw [hj, Bool.and_false]
      rw [ho]; rfl
    | true =>
      cases hv : validB x0 with
      | false =>
        have ho : okB x0 x1 = false := by unfold okB; rw [hv, Bool.false_and]
        rw [ho]; rfl
      | true =>
        have ho : okB x0 x1 = true := by unfold okB; rw [hv, hj]; rfl
        obtain ⟨hg, -, -⟩ := okB_ok ho
        have e0 : ((0 : Int) != 0) = false := rfl
        rw [ho]
        simp only [Bool.not_true, cond_false, cond_true, Option.bind_some]
        rw [f_rpath x0 x1 hg hj]
        have hb := path_bound hg hj
        have hpl : (pathL (balanceI x0) (chI x0) x1).length ≤ 2147483648 := by rw [path_len]; omega
        simp only [Option.bind_some]
        rw [f_equal_refl _ hpl, f_rwidest _ hpl hb, f_rfirst x0 _ hg (by omega)]
        simp only [Option.bind_some, Bool.not_true, cond_false, e0, bne_self_eq_false]
        cases decide (firstI x0 (pathL (balanceI x0) (chI x0) x1) < 0) with
        | true => rfl
        | false =>
          simp only [cond_false, beq_self_eq_true, cond_true, Option.bind_some]
def changeP (s : TSet) (x : TJob) : Int × Int := bif okB s [x] then (chI s x, 0) else (0, 1)
theorem f_Change (s : TSet) (x : TJob) (hf : Fits s) (hn : x.name.size ≤ 60) : F_brake_Change s x = some (changeP s x) := by
  unfold F_brake_Change changeP okB
  rw [f_valid s hf, f_bvalid [x] (fun y hy => by rw [List.mem_singleton] at hy; subst hy; omega)]
  cases hv : validB s with
  | false => rfl
  | true =>
    cases hj : jobsB [x] with
    | false => rfl
    | true =>
      simp only [Option.bind_some, Bool.not_true, cond_false, Bool.and_self, cond_true]
      rw [f_change s x (Good.of hv) (jobs_good hj x List.mem_cons_self)]
      rfl
theorem main_BrakeChanges (x0 : TSet) (x1 : TJob) (w0 : W_Set x0) (w1 : W_Job x1) : F_law27_BrakeChanges x0 x1 = some true := by
  unfold F_law27_BrakeChanges
  rw [f_awake27, f_few27]
  simp only [Option.bind_some, Bool.not_true, cond_false]
  cases hs : few27 x0 [x1] with
  | false => rfl
  | true =>
    obtain ⟨hf, hl, hn⟩ := few_ok hs
    have hn1 := hn x1 List.mem_cons_self
    simp only [Bool.not_true, cond_false]
    rw [f_Change x0 x1 hf hn1, f_rvalid x0 hf, f_rjobs [x1] (fun x hx => by have := hn x hx; omega)]
    simp only [Option.bind_some]
    unfold changeP
    cases hv : validB x0 with
    | false =>
      have ho : okB x0 [x1] = false := by unfold okB; rw [hv, Bool.false_and]
      rw [ho]; rfl
    | true =>
      cases hj : jobsB [x1] with
      | false =>
        have ho : okB x0 [x1] = false := by unfold okB; rw [hj, Bool.and_false]
        rw [ho]; rfl
      | true =>
        have ho : okB x0 [x1] = true := by unfold okB; rw [hv, hj]; rfl
        rw [ho]
        simp only [Option.bind_some, Bool.not_true, cond_false, cond_true]
        rw [f_rchange x0 x1 (Good.of hv) (jobs_good hj x1 List.mem_cons_self)]
        simp only [Option.bind_some, beq_self_eq_true, cond_true]
theorem f_Holds (s : TSet) (n : Int) (hf : Fits s) : F_brake_Holds s n = some (bif validB s then (heldB s n, 0) else (false, 1)) := by
  unfold F_brake_Holds
  rw [f_valid s hf]
  cases hv : validB s with
  | false => rfl
  | true => simp only [Option.bind_some, Bool.not_true, cond_false, cond_true]; rw [f_held s n (Good.of hv)]; rfl
def farB (n : Int) : Bool := decide (n < -1073741824) || decide (n > 1073741824)
def stateP (s : TSet) (p a : Int) : Int × Int := bif validB s then (bif farB p || farB a then (0, 2) else (balanceI s + s.purchase * p - a, 0)) else (0, 1)
theorem far_no {n : Int} (h : farB n = false) : -1073741824 ≤ n ∧ n ≤ 1073741824 := by
  simp [farB] at h; omega
theorem purchase_mul {s : TSet} {n : Int} (h : Good s) (hn : -1073741824 ≤ n ∧ n ≤ 1073741824) : -2147483648 ≤ s.purchase * n ∧ s.purchase * n ≤ 2147483648 := by
  have h1 := h.u0
  have h2 := h.u1
  have : s.purchase = 1 ∨ s.purchase = 2 := by omega
  rcases this with e | e <;> rw [e] <;> omega
theorem f_State (s : TSet) (p a : Int) (hf : Fits s) : F_brake_State s p a = some (stateP s p a) := by
  unfold F_brake_State stateP
  rw [f_balance s hf]
  cases hv : validB s with
  | false => rfl
  | true =>
    have hg := Good.of hv
    have e0 : ((0 : Int) != 0) = false := rfl
    simp only [if_true, Option.bind_some, e0, cond_false, cond_true]
    rw [f_slices_ContainsFunc_int [p, a] (by simp) (fun z2 => F_brake_State_1 z2) farB (fun x _ => by unfold F_brake_State_1 farB; cases decide (x < -1073741824) <;> rfl)]
    simp only [Option.bind_some, List.any_cons, List.any_nil, Bool.or_false]
    cases hp : farB p with
    | true => rfl
    | false =>
      cases ha : farB a with
      | true => rfl
      | false =>
        have b := bal_bound hg
        have b1 := far_no hp
        have b2 := far_no ha
        have b3 := purchase_mul hg b1
        simp only [Bool.or_self, cond_false]
        rw [wrap64 (n := s.purchase * p) (by omega) (by omega), wrap64 (n := balanceI s + s.purchase * p) (by omega) (by omega), wrap64 (by omega) (by omega)]
theorem f_further (n : Int) : F_ref27_Further n = some (!farB n) := by
  unfold F_ref27_Further
  rw [f_btw27, Option.bind_some]
  congr 1
  rw [Bool.eq_iff_iff, between_iff]
  simp [farB]
theorem main_BrakeStates (x0 : TSet) (x1 : Int) (x2 : Int) (x3 : Int) (w0 : W_Set x0) (w1 : W_int1 x1) (w2 : W_int1 x2) (w3 : W_int1 x3) : F_law27_BrakeStates x0 x1 x2 x3 = some true := by
  unfold F_law27_BrakeStates
  rw [f_awake27, f_few27]
  simp only [Option.bind_some, Bool.not_true, cond_false]
  cases hs : few27 x0 [] with
  | false => rfl
  | true =>
    obtain ⟨hf, -, -⟩ := few_ok hs
    simp only [Bool.not_true, cond_false]
    rw [f_State x0 x1 x2 hf, f_Holds x0 x3 hf, f_rvalid x0 hf]
    simp only [Option.bind_some]
    unfold stateP
    cases hv : validB x0 with
    | false => rfl
    | true =>
      have hg := Good.of hv
      have e0 : ((0 : Int) != 0) = false := rfl
      simp only [Bool.not_true, cond_false, cond_true]
      rw [f_rheld x0 x3 hg, f_further, f_further, f_rbalance x0 hg]
      simp only [Option.bind_some, beq_self_eq_true, Bool.not_true, cond_false, e0]
      cases hp : farB x1 with
      | true => rfl
      | false =>
        cases ha : farB x2 with
        | true => rfl
        | false =>
          have b := bal_bound hg
          have b1 := far_no hp
          have b2 := far_no ha
          have b3 := purchase_mul hg b1
          simp only [Bool.or_self, cond_false, Bool.not_false, Bool.not_true, Option.bind_some]
          rw [wrap64 (n := x0.purchase * x1) (by omega) (by omega), wrap64 (n := balanceI x0 + x0.purchase * x1) (by omega) (by omega), wrap64 (by omega) (by omega), beq_self_eq_true]
          rfl
theorem path_two (b : Int) (f : TJob → Int) (x y : TJob) : pathL b f [x, y] = [b, b + f x, b + (f x + f y)] := by
  simp [pathL, List.range_succ, sumTo]
theorem jobs_cons {x : TJob} {l : List TJob} (h : jobsB (x :: l) = true) : jobsB [x] = true := by
  unfold jobsB at h ⊢
  simp only [Bool.and_eq_true, decide_eq_true_eq] at h ⊢
  refine ⟨by simp, ?_⟩
  have h1 := pairs_one h.2 x List.mem_cons_self
  rw [pairs_iff]
  intro i hi
  rw [List.length_singleton] at hi
  obtain rfl : i = 0 := by omega
  exact ⟨h1, fun k hk => absurd hk (by omega)⟩
theorem main_BrakeBack (x0 : TSet) (x1 : TJob) (w0 : W_Set x0) (w1 : W_Job x1) : F_law27_BrakeBack x0 x1 = some true := by
  unfold F_law27_BrakeBack
  rw [f_awake27, f_few27]
  simp only [Option.bind_some, Bool.not_true, cond_false]
  cases hs : few27 x0 [x1] with
  | false => rfl
  | true =>
    obtain ⟨hf, hl, hn⟩ := few_ok hs
    have hn1 := hn x1 List.mem_cons_self
    simp only [Bool.not_true, cond_false]
    have key : ∀ nm : ByteArray, nm.size ≤ 60 → ((F_brake_Path x0 ([x1, TJob.mk nm x1.pipe (IntKind.i64.wrap (0 - x1.weight))] : List TJob)).bind fun r4 => (bif (r4.2 != 0) then some (((r4.1.length : Nat) : Int) == 0) else (F_brake_Change x0 x1).bind fun r5 => ((bif (r5.2 != 0) then some (true, ()) else (bif (((r4.1.length : Nat) : Int) != 3) then some (true, ()) else (idx r4.1 2).bind fun _x14 => (r4.1[(Int.toNat 2)]?).bind fun x15 => (idx r4.1 0).bind fun _x16 => (r4.1[(Int.toNat 0)]?).bind fun x17 => (bif (x15 != x17) then some (true, ()) else (idx r4.1 1).bind fun _x18 => (r4.1[(Int.toNat 1)]?).bind fun x19 => (idx r4.1 0).bind fun _x20 => (r4.1[(Int.toNat 0)]?).bind fun x21 => some ((x19 != (IntKind.i64.wrap (x21 + r5.1))), ())))) : Option (Bool × Unit)).bind fun y22 => (bif y22.1 then some false else (bif x1.pipe then some (r5.1 == (IntKind.i64.wrap (x1.weight * x0.purchase))) else some (r5.1 == (IntKind.i64.wrap (0 - x1.weight))))))) = some true := by
      intro nm hnm
      rw [f_path x0 _ hf (fun x hx => by
        rcases List.mem_cons.1 hx with rfl | hx
        · exact hn1
        · rw [List.mem_singleton] at hx; subst hx; exact hnm)]
      unfold pathP
      cases ho : okB x0 [x1, TJob.mk nm x1.pipe (IntKind.i64.wrap (0 - x1.weight))] with
      | false => rfl
      | true =>
        obtain ⟨hg, hj, hv⟩ := okB_ok ho
        have hw := jobs_good hj x1 List.mem_cons_self
        have hw2 := ch_bound hg hw
        have hb := bal_bound hg
        have ho1 : okB x0 [x1] = true := by unfold okB; rw [hv, jobs_cons hj]; rfl
        rw [f_Change x0 x1 hf hn1]
        unfold changeP
        rw [ho1, path_two]
        have hopp : chI x0 x1 + chI x0 (TJob.mk nm x1.pipe (IntKind.i64.wrap (0 - x1.weight))) = 0 := by
          rw [Int.zero_sub, wrap64 (by omega) (by omega)]
          unfold chI
          cases x1.pipe with
          | true => simp only [cond_true]; rw [Int.mul_neg]; omega
          | false => simp only [cond_false]; omega
        rw [hopp]
        have e0 : ((0 : Int) != 0) = false := rfl
        simp only [cond_true, Option.bind_some, e0, cond_false]
        show (((bif (balanceI x0 + 0 != balanceI x0) then some (true, ()) else some (((balanceI x0 + chI x0 x1) != (IntKind.i64.wrap (balanceI x0 + chI x0 x1))), ())) : Option (Bool × Unit)).bind fun y22 => (bif y22.1 then some false else (bif x1.pipe then some (chI x0 x1 == (IntKind.i64.wrap (x1.weight * x0.purchase))) else some (chI x0 x1 == (IntKind.i64.wrap (0 - x1.weight)))))) = some true
        rw [Int.add_zero, bne_self_eq_false, wrap64 (n := balanceI x0 + chI x0 x1) (by omega) (by omega), bne_self_eq_false]
        simp only [cond_false, Option.bind_some]
        unfold chI at hw2 ⊢
        cases hp : x1.pipe with
        | true =>
          rw [hp] at hw2
          simp only [cond_true] at hw2 ⊢
          rw [Int.mul_comm x1.weight, wrap64 (by omega) (by omega), beq_self_eq_true]
        | false =>
          rw [hp] at hw2
          simp only [cond_false] at hw2 ⊢
          rw [Int.zero_sub, wrap64 (by omega) (by omega), beq_self_eq_true]
    cases (x1.name.toList == (⟨#[111, 112, 112, 111, 115, 105, 116, 101, 95, 111, 102, 95, 105, 116]⟩ : ByteArray).toList) with
    | true => exact key _ (by decide)
    | false => exact key _ (by decide)
end Go.Proofs.Ytmdghocpelkcoaa
