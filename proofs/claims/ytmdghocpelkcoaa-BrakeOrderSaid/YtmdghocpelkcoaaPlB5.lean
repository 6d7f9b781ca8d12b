/- The plain sentence of BrakeOrder. -/
import Derived.Test.YtmdghocpelkcoaaPlB4
namespace Go.Proofs.Ytmdghocpelkcoaa
set_option linter.unusedSimpArgs false
set_option linter.unusedVariables false

theorem f_clone_job (l : List TJob) (h : l.length ≤ 2147483648) : F_slices_Clone_api_Job l = some l := by unfold F_slices_Clone_api_Job; rw [if_pos (by simpa using h)]; rfl
theorem jobs_rev1 {l : List TJob} (h : jobsB l = true) : jobsB l.reverse = true := by
  unfold jobsB at h ⊢
  simp only [Bool.and_eq_true, decide_eq_true_eq] at h ⊢
  obtain ⟨h8, hp⟩ := h
  refine ⟨by simpa using h8, ?_⟩
  rw [pairs_iff] at hp ⊢
  intro i hi
  have hi' : i < l.length := by simpa using hi
  refine ⟨?_, fun k hk => ?_⟩
  · rw [List.getElem_reverse]
    exact (hp _ (by omega)).1
  · rw [List.getElem_reverse, List.getElem_reverse]
    have h2 := (hp (l.length - 1 - k) (by omega)).2 (l.length - 1 - i) (by omega)
    rw [Bool.not_eq_true'] at h2 ⊢
    rw [Bool.eq_false_iff] at h2 ⊢
    intro e
    rw [sameName_iff] at e
    exact h2 ((sameName_iff _ _).2 e.symm)
theorem okB_rev (s : TSet) (l : List TJob) : okB s l.reverse = okB s l := by
  unfold okB
  congr 1
  cases h : jobsB l with
  | true => exact jobs_rev1 h
  | false =>
    cases h2 : jobsB l.reverse with
    | false => rfl
    | true =>
      have := jobs_rev1 h2
      rw [List.reverse_reverse, h] at this; cases this
theorem sum_rev (f : TJob → Int) (l : List TJob) : sumTo f l.reverse l.reverse.length = sumTo f l l.length := by
  rw [sumTo_all, sumTo_all, List.map_reverse, List.sum_reverse]
theorem jobs_one {l : List TJob} (h : jobsB l = true) {x : TJob} (hx : x ∈ l) : jobsB [x] = true := by
  unfold jobsB at h ⊢
  simp only [Bool.and_eq_true, decide_eq_true_eq] at h ⊢
  refine ⟨by simp, ?_⟩
  have h1 := pairs_one h.2 x hx
  rw [pairs_iff]
  intro i hi
  rw [List.length_singleton] at hi
  obtain rfl : i = 0 := by omega
  exact ⟨h1, fun k hk => absurd hk (by omega)⟩
def fP (x : TJob) : Int := bif x.pipe then x.weight else 0
def fA (x : TJob) : Int := bif x.pipe then 0 else x.weight
theorem ch_lin (s : TSet) (l : List TJob) : ∀ k, k ≤ l.length → sumTo (chI s) l k = s.purchase * sumTo fP l k - sumTo fA l k := by
  intro k
  induction k with
  | zero => intro _; rw [sumTo_zero, sumTo_zero, sumTo_zero]; omega
  | succ k ih =>
    intro hk
    rw [sumTo_succ _ _ _ (by omega), sumTo_succ _ _ _ (by omega), sumTo_succ _ _ _ (by omega), ih (by omega), Int.mul_add]
    unfold chI fP fA
    cases l[k].pipe with
    | true => simp only [cond_true]; omega
    | false => simp only [cond_false]; omega
theorem main_BrakeOrder (x0 : TSet) (x1 : List TJob) (w0 : W_Set x0) (w1 : W_l_Job x1) : F_law27_BrakeOrder x0 x1 = some true := by
  unfold F_law27_BrakeOrder
  rw [f_awake27, f_few27]
  simp only [Option.bind_some, Bool.not_true, cond_false]
  cases hs : few27 x0 x1 with
  | false => rfl
  | true =>
    obtain ⟨hf, hl, hn⟩ := few_ok hs
    simp only [Bool.not_true, cond_false]
    rw [f_path x0 x1 hf hn, f_clone_job x1 (by omega)]
    simp only [Option.bind_some]
    rw [iter_rev x1 (by omega)]
    simp only [Option.bind_some]
    rw [f_path x0 x1.reverse hf (fun x hx => hn x (List.mem_reverse.1 hx)), f_balance x0 hf]
    simp only [Option.bind_some]
    unfold pathP
    rw [okB_rev]
    cases ho : okB x0 x1 with
    | false => rfl
    | true =>
      obtain ⟨hg, hj, hv⟩ := okB_ok ho
      have e0 : ((0 : Int) != 0) = false := rfl
      have hjl := jobs_len hj
      have hlen := path_len (balanceI x0) (chI x0) x1
      have hlenR := path_len (balanceI x0) (chI x0) x1.reverse
      rw [List.length_reverse] at hlenR
      have hb := bal_bound hg
      rw [hv]
      simp only [cond_true, e0, cond_false, Option.bind_some, if_true]
      have hfirst : ∀ (p q : List Int) (n : Int), p.length = x1.length + 1 → q.length = x1.length + 1 → p[0]? = some n → q[0]? = some n → ((bif (((p.length : Nat) : Int) != (IntKind.i64.wrap (((x1.length : Nat) : Int) + 1))) then some (true, ()) else (bif (((q.length : Nat) : Int) != ((p.length : Nat) : Int)) then some (true, ()) else (idx p 0).bind fun _x36 => (p[(Int.toNat 0)]?).bind fun x37 => (bif (x37 != n) then some (true, ()) else (idx q 0).bind fun _x38 => (q[(Int.toNat 0)]?).bind fun x39 => some ((x39 != n), ())))) : Option (Bool × Unit)) = some (false, ()) := by
        intro p q n hp hq h1 h2
        rw [wrap64 (by omega) (by omega)]
        have e1 : (((p.length : Nat) : Int) != ((x1.length : Nat) : Int) + 1) = false := by rw [bne_eq_false_iff_eq]; omega
        have e2 : (((q.length : Nat) : Int) != ((p.length : Nat) : Int)) = false := by rw [bne_eq_false_iff_eq]; omega
        have i1 : idx p 0 = some (p[0]'(by omega)) := idx_at (k := 0) (by omega)
        have i2 : idx q 0 = some (q[0]'(by omega)) := idx_at (k := 0) (by omega)
        have t0 : Int.toNat 0 = 0 := rfl
        rw [e1, e2, i1, i2, t0, h1, h2]
        simp only [cond_false, Option.bind_some, bne_self_eq_false]
      have hp0 : (pathL (balanceI x0) (chI x0) x1)[0]? = some (balanceI x0) := by
        rw [List.getElem?_eq_getElem (by omega), path_at, sumTo_zero, Int.add_zero]
      have hq0 : (pathL (balanceI x0) (chI x0) x1.reverse)[0]? = some (balanceI x0) := by
        rw [List.getElem?_eq_getElem (by omega), path_at, sumTo_zero, Int.add_zero]
      rw [hfirst _ _ _ hlen hlenR hp0 hq0]
      simp only [Option.bind_some, cond_false]
      have hPb : ∀ k, k ≤ x1.length → -104857600 ≤ sumTo fP x1 k ∧ sumTo fP x1 k ≤ 104857600 := fun k hk => by
        have := sum_two fP x1 1048576 (by decide) (fun x hx => by have := jobs_good hj x hx; unfold fP; cases x.pipe <;> simp only [cond_true, cond_false] <;> omega) k hk
        omega
      have hAb : ∀ k, k ≤ x1.length → -104857600 ≤ sumTo fA x1 k ∧ sumTo fA x1 k ≤ 104857600 := fun k hk => by
        have := sum_two fA x1 1048576 (by decide) (fun x hx => by have := jobs_good hj x hx; unfold fA; cases x.pipe <;> simp only [cond_true, cond_false] <;> omega) k hk
        omega
      have hloop : iterF (σ := Int × Int × Int × Unit) (ρ := (Bool × Unit) ⊕ (Int × Int × Unit)) (fun s62 => (bif (decide (s62.2.2.1 < ((x1.length : Nat) : Int))) then ((idx x1 s62.2.2.1).bind fun x63 => (F_brake_Change x0 x63).bind fun r64 => ((bif (r64.2 != 0) then some (true, ()) else (idx (pathL (balanceI x0) (chI x0) x1) (IntKind.i64.wrap (s62.2.2.1 + 1))).bind fun _x65 => ((pathL (balanceI x0) (chI x0) x1)[(Int.toNat (IntKind.i64.wrap (s62.2.2.1 + 1)))]?).bind fun x66 => (idx (pathL (balanceI x0) (chI x0) x1) s62.2.2.1).bind fun _x67 => ((pathL (balanceI x0) (chI x0) x1)[(Int.toNat s62.2.2.1)]?).bind fun x68 => some ((x66 != (IntKind.i64.wrap (x68 + r64.1))), ())) : Option (Bool × Unit)).bind fun y69 => (bif y69.1 then some (.inl (false, ())) else (bif x63.pipe then some (.inr (((IntKind.i64.wrap (s62.1 + x63.weight)), s62.2.1, ()))) else some (.inr ((s62.1, (IntKind.i64.wrap (s62.2.1 + x63.weight)), ()))))) : Option ((Bool × Unit) ⊕ (Int × Int × Unit))).bind fun y70 => (match y70 with | .inl y71 => some (.inr (.inl (y71.1, ()))) | .inr y72 => some (.inl (y72.1, y72.2.1, (IntKind.i64.wrap (s62.2.2.1 + 1)), ()))) else some (.inr (.inr ((s62.1, s62.2.1, ())))))) big (0, 0, 0, ()) = some (.inr (sumTo fP x1 x1.length, sumTo fA x1 x1.length, ())) := by
        obtain ⟨r, g1, g2⟩ := iter_inv (F := fun s62 : Int × Int × Int × Unit => (bif (decide (s62.2.2.1 < ((x1.length : Nat) : Int))) then ((idx x1 s62.2.2.1).bind fun x63 => (F_brake_Change x0 x63).bind fun r64 => ((bif (r64.2 != 0) then some (true, ()) else (idx (pathL (balanceI x0) (chI x0) x1) (IntKind.i64.wrap (s62.2.2.1 + 1))).bind fun _x65 => ((pathL (balanceI x0) (chI x0) x1)[(Int.toNat (IntKind.i64.wrap (s62.2.2.1 + 1)))]?).bind fun x66 => (idx (pathL (balanceI x0) (chI x0) x1) s62.2.2.1).bind fun _x67 => ((pathL (balanceI x0) (chI x0) x1)[(Int.toNat s62.2.2.1)]?).bind fun x68 => some ((x66 != (IntKind.i64.wrap (x68 + r64.1))), ())) : Option (Bool × Unit)).bind fun y69 => (bif y69.1 then some (.inl (false, ())) else (bif x63.pipe then some (.inr (((IntKind.i64.wrap (s62.1 + x63.weight)), s62.2.1, ()))) else some (.inr ((s62.1, (IntKind.i64.wrap (s62.2.1 + x63.weight)), ()))))) : Option ((Bool × Unit) ⊕ (Int × Int × Unit))).bind fun y70 => (match y70 with | .inl y71 => some (.inr (.inl (y71.1, ()))) | .inr y72 => some (.inl (y72.1, y72.2.1, (IntKind.i64.wrap (s62.2.2.1 + 1)), ()))) else some (.inr (.inr ((s62.1, s62.2.1, ())))) : Option ((Int × Int × Int × Unit) ⊕ ((Bool × Unit) ⊕ (Int × Int × Unit)))))
          (Q := fun r => r = .inr (sumTo fP x1 x1.length, sumTo fA x1 x1.length, ())) (fun k z => z = (sumTo fP x1 k, sumTo fA x1 k, (k : Int), ())) x1.length (by unfold big; omega) (fun k z hk hz => by
            subst hz
            by_cases hlt : k < x1.length
            · have hx := List.getElem_mem hlt
              have hw := jobs_good hj _ hx
              have b1 := hPb (k + 1) (by omega)
              have b2 := hAb (k + 1) (by omega)
              have b3 := ch_sums hg hj k hk
              have b4 := ch_bound hg hw
              have hok1 : okB x0 [x1[k]] = true := by unfold okB; rw [hv, jobs_one hj hx]; rfl
              have hk1 : k < (pathL (balanceI x0) (chI x0) x1).length := by omega
              have hk2 : k + 1 < (pathL (balanceI x0) (chI x0) x1).length := by omega
              have ek : IntKind.i64.wrap ((k : Int) + 1) = ((k + 1 : Nat) : Int) := by rw [wrap64 (by omega) (by omega)]; omega
              refine .inl ⟨(sumTo fP x1 (k + 1), sumTo fA x1 (k + 1), ((k + 1 : Nat) : Int), ()), ?_, hlt, rfl⟩
              rw [sumTo_succ _ _ _ hlt] at b1 b2
              simp only [lt_yes hlt, cond_true, idx_at hlt, Option.bind_some, ek, idx_at hk1, idx_at hk2, at_some hk1, at_some hk2, f_Change x0 x1[k] hf (hn _ hx)]
              unfold changeP
              rw [hok1]
              simp only [cond_true, e0, cond_false, path_at, Option.bind_some]
              rw [wrap64 (n := balanceI x0 + sumTo (chI x0) x1 k + chI x0 x1[k]) (by omega) (by omega), sumTo_succ _ _ _ hlt, ← Int.add_assoc, bne_self_eq_false, sumTo_succ _ _ _ hlt, sumTo_succ _ _ _ hlt]
              simp only [cond_false]
              have q1 : fP x1[k] = bif x1[k].pipe then x1[k].weight else 0 := rfl
              have q2 : fA x1[k] = bif x1[k].pipe then 0 else x1[k].weight := rfl
              rw [q1] at b1 ⊢
              rw [q2] at b2 ⊢
              cases hpp : x1[k].pipe with
              | true =>
                rw [hpp] at b1 b2
                simp only [cond_true, Option.bind_some, Int.add_zero] at b1 b2 ⊢
                rw [wrap64 (by omega) (by omega)]
              | false =>
                rw [hpp] at b1 b2
                simp only [cond_false, Option.bind_some, Int.add_zero] at b1 b2 ⊢
                rw [wrap64 (by omega) (by omega)]
            · obtain rfl : k = x1.length := by omega
              simp only [lt_no, cond_false]
              exact .inr ⟨_, rfl, rfl⟩) (s := (0, 0, 0, ())) rfl
        subst g2
        exact g1
      have hB : ∀ (o : Option ((Bool × Unit) ⊕ (Int × Int × Unit))) (K : ((Bool × Unit) ⊕ (Int × Int × Unit)) → Option Bool), o = some (.inr (sumTo fP x1 x1.length, sumTo fA x1 x1.length, ())) → K (.inr (sumTo fP x1 x1.length, sumTo fA x1 x1.length, ())) = some true → o.bind K = some true := by
        intro o K h1 h2
        rw [h1]
        exact h2
      refine hB _ _ hloop ?_
      dsimp only
      rw [f_State x0 _ _ hf]
      have c1 := hPb x1.length (Nat.le_refl _)
      have c2 := hAb x1.length (Nat.le_refl _)
      have hst : stateP x0 (sumTo fP x1 x1.length) (sumTo fA x1 x1.length) = (balanceI x0 + sumTo (chI x0) x1 x1.length, 0) := by
        unfold stateP farB
        rw [hv, decide_eq_false (show ¬ sumTo fP x1 x1.length < -1073741824 by omega), decide_eq_false (show ¬ sumTo fP x1 x1.length > 1073741824 by omega), decide_eq_false (show ¬ sumTo fA x1 x1.length < -1073741824 by omega), decide_eq_false (show ¬ sumTo fA x1 x1.length > 1073741824 by omega), ch_lin x0 x1 _ (Nat.le_refl _)]
        simp only [Bool.or_self, cond_false, cond_true, Prod.mk.injEq, and_true]
        omega
      rw [hst]
      have hk1 : x1.length < (pathL (balanceI x0) (chI x0) x1).length := by omega
      have hk2 : x1.length < (pathL (balanceI x0) (chI x0) x1.reverse).length := by omega
      have hrev : sumTo (chI x0) x1.reverse x1.length = sumTo (chI x0) x1 x1.length := by
        have := sum_rev (chI x0) x1
        rwa [List.length_reverse] at this
      simp only [Option.bind_some, idx_at hk1, idx_at hk2, at_some hk1, at_some hk2, path_at, hrev, beq_self_eq_true, cond_true]
end Go.Proofs.Ytmdghocpelkcoaa
