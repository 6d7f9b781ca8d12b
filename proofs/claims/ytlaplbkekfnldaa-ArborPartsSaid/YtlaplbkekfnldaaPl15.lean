/- The plain sentences of ArborChanges and ArborSame. -/
import Derived.Test.YtlaplbkekfnldaaPl14
namespace Go.Proofs.Ytlaplbkekfnldaa
set_option linter.unusedSimpArgs false
set_option linter.unusedVariables false

/-- The weight of so many bricks. -/
def wsum (bs : List TBrick) (cs : List Int) : Int := (List.zipWith (fun b c => b.weight * c) bs cs).sum
theorem wsum_with (bs : List TBrick) (cs : List Int) : thereW (withC bs cs) = wsum bs cs := by
  unfold thereW wsum withC
  rw [sumTo_all, List.map_zipWith]
theorem wsum_own (bs : List TBrick) : wsum bs (bs.map (·.count)) = thereW bs := by rw [← wsum_with, withC_same]
theorem wsum_set (bs : List TBrick) (cs : List Int) (h : cs.length = bs.length) (i : Nat) (hi : i < bs.length) : wsum bs (cs.set i (cs[i]'(by omega) + 1)) = wsum bs cs + bs[i].weight := by
  unfold wsum
  induction bs generalizing cs i with
  | nil => simp at hi
  | cons b bs ih =>
    cases cs with
    | nil => simp at h
    | cons c cs =>
      cases i with
      | zero => simp only [List.set_cons_zero, List.zipWith_cons_cons, List.sum_cons, List.getElem_cons_zero, Int.mul_add]; omega
      | succ i =>
        simp only [List.set_cons_succ, List.zipWith_cons_cons, List.sum_cons, List.getElem_cons_succ]
        rw [ih cs (by simpa using h) i (by simpa using hi)]
        omega
theorem wsum_zero (bs : List TBrick) (n : Nat) : wsum bs (List.replicate n 0) = 0 := by
  unfold wsum
  induction bs generalizing n with
  | nil => rfl
  | cons b bs ih =>
    cases n with
    | zero => rfl
    | succ n => simp only [List.replicate_succ, List.zipWith_cons_cons, List.sum_cons, ih]; omega
theorem sum_set (cs : List Int) (i : Nat) (hi : i < cs.length) : (cs.set i (cs[i] + 1)).sum = cs.sum + 1 := by
  induction cs generalizing i with
  | nil => simp at hi
  | cons c cs ih =>
    cases i with
    | zero => simp only [List.set_cons_zero, List.sum_cons, List.getElem_cons_zero]; omega
    | succ i =>
      simp only [List.set_cons_succ, List.sum_cons, List.getElem_cons_succ]
      rw [ih i (by simpa using hi)]
      omega
theorem sum_nonneg (cs : List Int) (h : ∀ c ∈ cs, 0 ≤ c) : 0 ≤ cs.sum := by
  induction cs with
  | nil => exact Int.le_refl _
  | cons c cs ih =>
    have h1 := h c List.mem_cons_self
    have h2 := ih fun x hx => h x (List.mem_cons_of_mem _ hx)
    rw [List.sum_cons]; omega
theorem le_sum (cs : List Int) (h : ∀ c ∈ cs, 0 ≤ c) (i : Nat) (hi : i < cs.length) : cs[i] ≤ cs.sum := by
  induction cs generalizing i with
  | nil => simp at hi
  | cons c cs ih =>
    have h2 := sum_nonneg cs fun x hx => h x (List.mem_cons_of_mem _ hx)
    cases i with
    | zero => simp only [List.getElem_cons_zero, List.sum_cons]; omega
    | succ i =>
      have h1 := h c List.mem_cons_self
      have := ih (fun x hx => h x (List.mem_cons_of_mem _ hx)) i (by simpa using hi)
      simp only [List.getElem_cons_succ, List.sum_cons]; omega
theorem thereC_sum (bs : List TBrick) : thereC bs = (bs.map (·.count)).sum := by unfold thereC; rw [sumTo_all]
theorem weight_add (s : TSet) (x : TItem) : weightI (addI s x) = weightI s + x.weight := by
  unfold weightI
  rw [sumTo_all, sumTo_all]
  show pipeI s + ((s.items ++ [x]).map (·.weight)).sum = _
  rw [List.map_append, List.sum_append_int]
  simp
  omega
theorem wf_int {k : IntKind} {n : Int} (h : (Lit.int k n).wf = true) : k.min ≤ n ∧ n ≤ k.max := by
  unfold Lit.wf at h
  simpa using h
theorem wrapU {k : Int} (h : (Lit.int .u8 k).wf = true) : 0 ≤ k ∧ k ≤ 255 := wf_int h
theorem counts_old {s : TSet} (hg : Good s) : ∀ c ∈ s.bricks.map (·.count), 0 ≤ c ∧ c ≤ 60 := by
  intro c hc
  obtain ⟨b, hb, rfl⟩ := List.mem_map.1 hc
  exact ⟨(hg.bricks b hb).c0, (hg.bricks b hb).c1⟩

theorem main_ArborChanges (x0 : TSet) (x1 : Int) (x2 : TItem) (w0 : W_Set x0) (w1 : W_u8 x1) (w2 : W_Item x2) : F_law25_ArborChanges x0 x1 x2 = some true := by
  have hk := wrapU w1
  unfold F_law25_ArborChanges
  have haw : F_law25_awake = some true := by kernel_rfl
  rw [haw]
  simp only [Option.bind_some, Bool.not_true, cond_false]
  unfold F_law25_large
  rw [f_small]
  cases hs : smallB x0 8 with
  | false => rfl
  | true =>
    have hf := small_fits hs
    simp only [Option.bind_some, Bool.not_true, cond_false]
    by_cases hx : x2.name.size > 60
    · rw [decide_eq_true (show ((x2.name.size : Nat) : Int) > 60 by omega)]; rfl
    rw [decide_eq_false (show ¬ ((x2.name.size : Nat) : Int) > 60 by omega), f_balance x0 hf, f_room x0 hf]
    cases hv : validB x0 with
    | false => rfl
    | true =>
      have hg := Good.of hv
      have bb := balance_bound hg
      have bc := thereC_bound hg.nb hg.bricks x0.bricks.length (Nat.le_refl _)
      have bs := hg.bsum
      have hC : thereC x0.bricks = sumTo (·.count) x0.bricks x0.bricks.length := rfl
      have e0 : ((0 : Int) != 0) = false := rfl
      simp only [if_true, Option.bind_some, cond_false, e0]
      rw [decide_eq_false (show ¬ (60 - thereC x0.bricks < 0) by omega), decide_eq_false (show ¬ (60 - thereC x0.bricks > 60) by omega)]
      simp only [Option.bind_some, cond_false]
      rw [f_put x0 x2 hf (by omega)]
      -- the item
      have hput : ((some (putP x0 x2)).bind fun r13 => (bif (r13.2 == 0) then (F_arbor_Balance r13.1).bind fun r14 => ((bif (r14.2 != 0) then some (true, ()) else some (((IntKind.i64.wrap (r14.1 - balanceI x0)) != (IntKind.i64.wrap (x0.purchase * x2.weight))), ())) : Option (Bool × Unit)).bind fun y15 => (bif y15.1 then some (.inl (false, ())) else some (.inr ((())))) else some (.inr ((())))) : Option ((Bool × Unit) ⊕ (Unit))) = some (.inr ()) := by
        unfold putP
        rw [hv]
        simp only [Bool.not_true, cond_false, Option.bind_some]
        cases h1 : x0.items.any (fun y => sameName y.name x2.name) with
        | true => rfl
        | false =>
          by_cases h2 : x0.items.length = 40
          · rw [decide_eq_true h2]; rfl
          rw [decide_eq_false h2]
          cases h3 : (aloneB x2 && insideB x2 x0.length) with
          | false => rfl
          | true =>
            cases h4 : x0.items.any (fun y => !apartB x2 y) with
            | true => rfl
            | false =>
              have hv2 := valid_addI hv h1 h2 h3 h4
              have hg2 := Good.of hv2
              have bb2 := balance_bound hg2
              have hni := hg.ni
              simp only [cond_false, Bool.not_true]
              rw [f_balance _ (addI_fits hf (by omega) (by omega)), hv2]
              simp only [if_true, Option.bind_some, cond_false, e0]
              have hbal : balanceI (addI x0 x2) - balanceI x0 = x0.purchase * x2.weight := by
                unfold balanceI neededI
                rw [weight_add]
                show (weightI x0 + x2.weight) * x0.purchase - x0.arbor - thereW x0.bricks - (weightI x0 * x0.purchase - x0.arbor - thereW x0.bricks) = _
                rw [Int.add_mul, Int.mul_comm x2.weight]
                omega
              have e1 : (IntKind.i64.wrap (balanceI (addI x0 x2) - balanceI x0) != IntKind.i64.wrap (x0.purchase * x2.weight)) = false := by rw [hbal]; simp
              rw [e1]
              rfl
      rw [hput]
      simp only [Option.bind_some]
      by_cases hb0 : x0.bricks.length = 0
      · have e1 : (((x0.bricks.length : Nat) : Int) == 0) = true := by rw [beq_iff_eq]; omega
        rw [e1]
        have : thereC x0.bricks = 0 := by rw [hC, hb0]; rfl
        rw [this]
        rfl
      have e1 : (((x0.bricks.length : Nat) : Int) == 0) = false := by rw [beq_eq_false_iff_ne]; omega
      rw [e1]
      simp only [cond_false]
      have hnb := hg.nb
      rw [if_neg (by omega), f_counts _ (by omega)]
      have hlenC : (x0.bricks.map (·.count)).length = x0.bricks.length := by rw [List.length_map]
      have hi0 : 0 ≤ (IntKind.i64.wrap x1).tmod ((x0.bricks.length : Nat) : Int) ∧ (IntKind.i64.wrap x1).tmod ((x0.bricks.length : Nat) : Int) < ((x0.bricks.length : Nat) : Int) := by
        rw [wrap64 (by omega) (by omega), Int.tmod_eq_emod_of_nonneg (by omega)]
        exact ⟨Int.emod_nonneg _ (by omega), Int.emod_lt_of_pos _ (by omega)⟩
      generalize hI : (IntKind.i64.wrap x1).tmod ((x0.bricks.length : Nat) : Int) = I at hi0
      obtain ⟨i, rfl⟩ : ∃ i : Nat, I = (i : Int) := ⟨I.toNat, by omega⟩
      have hi : i < x0.bricks.length := by omega
      have hi' : i < (x0.bricks.map (·.count)).length := by omega
      simp only [Option.bind_some, idx_at hi', idx_at hi, Int.toNat_natCast, List.getElem?_eq_getElem hi']
      have hold := counts_old hg
      have hci := hold _ (List.getElem_mem hi')
      rw [wrap64 (by omega) (by omega), f_loaded x0 _ hf (by rw [List.length_set]; omega)]
      have hlen2 : ((x0.bricks.map (·.count)).set i ((x0.bricks.map (·.count))[i] + 1)).length = x0.bricks.length := by rw [List.length_set]; exact hlenC
      have hsum : ((x0.bricks.map (·.count)).set i ((x0.bricks.map (·.count))[i] + 1)).sum = thereC x0.bricks + 1 := by rw [sum_set _ _ hi', thereC_sum]
      unfold loadedP
      rw [hv, decide_eq_true hlen2]
      simp only [Bool.not_true, cond_false]
      cases hbad : ((x0.bricks.map (·.count)).set i ((x0.bricks.map (·.count))[i] + 1)).any badC with
      | true =>
        have h60 : (x0.bricks.map (·.count))[i] = 60 := by
          apply Classical.byContradiction
          intro hne
          obtain ⟨c, hc, hb⟩ := List.any_eq_true.1 hbad
          have : 0 ≤ c ∧ c ≤ 60 := by
            rcases List.mem_or_eq_of_mem_set hc with hc | rfl
            · exact hold c hc
            · omega
          simp only [badC, Bool.or_eq_true, decide_eq_true_eq] at hb
          omega
        have hle := le_sum _ (fun c hc => (hold c hc).1) i hi'
        rw [← thereC_sum, h60] at hle
        have e2 : (60 - thereC x0.bricks == 0) = true := by rw [beq_iff_eq]; omega
        simp only [cond_true]
        rw [e2]
        rfl
      | false =>
        simp only [cond_false]
        rw [hsum]
        by_cases h61 : thereC x0.bricks + 1 > 60
        · have e2 : (60 - thereC x0.bricks == 0) = true := by rw [beq_iff_eq]; omega
          rw [decide_eq_true h61, e2]
          rfl
        · rw [decide_eq_false h61]
          simp only [cond_false, Option.bind_some, e0]
          have hv3 := valid_setC hv hlen2 hbad (by omega)
          have hf3 := setC_fits hf hlen2
          have bb3 := balance_bound (Good.of hv3)
          rw [f_balance _ hf3, f_room _ hf3, hv3]
          simp only [if_true, Option.bind_some]
          have hw : balanceI x0 - balanceI (setC x0 ((x0.bricks.map (·.count)).set i ((x0.bricks.map (·.count))[i] + 1))) = x0.bricks[i].weight := by
            have hn : neededI (setC x0 ((x0.bricks.map (·.count)).set i ((x0.bricks.map (·.count))[i] + 1))) = neededI x0 := rfl
            have hb : (setC x0 ((x0.bricks.map (·.count)).set i ((x0.bricks.map (·.count))[i] + 1))).bricks = withC x0.bricks ((x0.bricks.map (·.count)).set i ((x0.bricks.map (·.count))[i] + 1)) := rfl
            unfold balanceI
            rw [hn, hb, wsum_with, wsum_set _ _ hlenC i hi, wsum_own]
            omega
          have hgb := hg.bricks _ (List.getElem_mem hi)
          have hc3 : thereC (setC x0 ((x0.bricks.map (·.count)).set i ((x0.bricks.map (·.count))[i] + 1))).bricks = thereC x0.bricks + 1 := by
            show thereC (withC x0.bricks _) = _
            rw [thereC_with hlen2, hsum]
          have e2 : ((0 : Int) == 0) = true := rfl
          rw [e2, hw, wrap64 (by have := hgb.w0; omega) (by have := hgb.w1; omega), hc3, wrap64 (by omega) (by omega)]
          have e3 : (x0.bricks[i].weight == x0.bricks[i].weight) = true := beq_self_eq_true _
          have e4 : (60 - (thereC x0.bricks + 1) == 60 - thereC x0.bricks - 1) = true := by rw [beq_iff_eq]; omega
          rw [e3, e4]
          rfl
end Go.Proofs.Ytlaplbkekfnldaa
