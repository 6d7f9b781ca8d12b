/- Sweeps: the cells fill the range. -/
import Derived.Test.YtcahdnmkhoncaaaPlS3
namespace Go.Proofs.Ytcahdnmkhoncaaa
set_option linter.unusedSimpArgs false
set_option linter.unusedVariables false

theorem cells_ok {s : TSet} {x y d : Int} (h : ((cellsP s x y d).2 != 0) = false) : ((rangeP s x y).2 != 0) = false ∧ sizeB d = false ∧ ¬ topI (rangeP s x y).1.lo (rangeP s x y).1.hi / d - (rangeP s x y).1.lo / d ≥ 1000 ∧
    cellsP s x y d = (upto ((rangeP s x y).1.lo / d) (topI (rangeP s x y).1.lo (rangeP s x y).1.hi / d - (rangeP s x y).1.lo / d + 1).toNat, 0) := by
  unfold cellsP at h ⊢
  cases hr : ((rangeP s x y).2 != 0) with
  | true => simp only [hr, cond_true] at h; cases h
  | false =>
    rw [hr] at h
    cases hz : sizeB d with
    | true => rw [hz] at h; cases h
    | false =>
      rw [hz] at h
      by_cases hb : topI (rangeP s x y).1.lo (rangeP s x y).1.hi / d - (rangeP s x y).1.lo / d ≥ 1000
      · unfold cellsI at h; rw [decide_eq_true hb] at h; cases h
      · refine ⟨rfl, rfl, hb, ?_⟩
        unfold cellsI; rw [decide_eq_false hb]; rfl
theorem cells_no {s : TSet} {x y d : Int} (h : ((cellsP s x y d).2 != 0) = true) : (cellsP s x y d).1 = [] := by
  revert h
  unfold cellsP cellsI
  cases ((rangeP s x y).2 != 0) <;> cases sizeB d <;> cases decide (topI (rangeP s x y).1.lo (rangeP s x y).1.hi / d - (rangeP s x y).1.lo / d ≥ 1000) <;> intro h <;> first | rfl | cases h
theorem cell_in {n d A : Int} (hd : 1 ≤ d) (hA : d ≤ A) (h1 : -A ≤ n) (h2 : n ≤ A) : n / d * d ≤ n ∧ n < (n / d + 1) * d ∧ -2 * A ≤ n / d * d ∧ (n / d + 1) * d ≤ 2 * A := by
  have a := Int.ediv_mul_le n (show d ≠ 0 by omega)
  have b := Int.lt_ediv_add_one_mul_self n (show 0 < d by omega)
  have e : (n / d + 1) * d = n / d * d + d := by rw [Int.add_mul, Int.one_mul]
  omega
theorem main_SweepFills (x0 : TSet) (x1 : Int) (x2 : Int) (x3 : Int) (w0 : W_Set x0) (w1 : W_int1 x1) (w2 : W_int1 x2) (w3 : W_int1 x3) : F_law39_SweepFills x0 x1 x2 x3 = some true := by
  unfold F_law39_SweepFills
  rw [f_awake39, f_few1]
  simp only [Option.bind_some, Bool.not_true, cond_false]
  cases hs : smallB x0 12 with
  | false => rfl
  | true =>
    have hf := small_fits hs
    simp only [Bool.not_true, cond_false]
    rw [f_cells x0 x1 x2 x3 hf]
    simp only [Option.bind_some]
    cases hc : ((cellsP x0 x1 x2 x3).2 != 0) with
    | true => rw [cells_no hc]; rfl
    | false =>
      obtain ⟨hr, hz, hb, e⟩ := cells_ok hc
      have hd : 1 ≤ x3 ∧ x3 ≤ 1048576 := by simp [sizeB] at hz; omega
      obtain ⟨-, er, ho⟩ := range_ok hr
      obtain ⟨ht, ht1, ht2⟩ := top_ok ho hd.1
      have hlen := cells_len ht
      have e0 : ((0 : Int) != 0) = false := rfl
      simp only [cond_false]
      rw [f_range x0 x1 x2 hf, f_cells x0 x1 x2 _ hf]
      have h2c : (2 : Int) * x3 = x3 * 2 := by omega
      have hdd : ∀ n : Int, n / (2 * x3) = n / x3 / 2 := fun n => by rw [h2c, Int.ediv_ediv_of_nonneg (by omega)]
      have hcells2 : cellsP x0 x1 x2 (IntKind.i64.wrap (2 * x3)) = bif sizeB (2 * x3) then ([], 2) else cellsI (rangeP x0 x1 x2).1.lo (rangeP x0 x1 x2).1.hi (2 * x3) := by
        rw [wrap64 (by omega) (by omega)]
        unfold cellsP
        rw [hr]; rfl
      rw [e, hcells2, er]
      rw [er] at hb
      simp only at hb ⊢
      unfold cellsI
      rw [hdd, hdd]
      have c1 := cell_in hd.1 (show x3 ≤ 1048576 by omega) (show -1048576 ≤ min x1 x2 - (rOf x0).hang from ho.l0) (by have := ho.lh; have := ho.h1; omega)
      have c2 := cell_in hd.1 (show x3 ≤ 1048576 by omega) (show -1048576 ≤ topI (min x1 x2 - (rOf x0).hang) (max x1 x2) by have := ho.l0; omega) (by have := ho.h1; omega)
      have htop : topI (min x1 x2 - (rOf x0).hang) (max x1 x2) = if min x1 x2 - (rOf x0).hang = max x1 x2 then min x1 x2 - (rOf x0).hang else max x1 x2 - 1 := rfl
      have k1 := ht.f0; have k2 := ht.f1; have k3 := ht.t0; have k4 := ht.t1
      have o1 := ho.l0; have o2 := ho.lh; have o3 := ho.h1
      have hlen := hlen hb
      generalize topI (min x1 x2 - (rOf x0).hang) (max x1 x2) = top at *
      generalize min x1 x2 - (rOf x0).hang = lo at *
      generalize max x1 x2 = hi at *
      generalize top / x3 = b at *
      generalize lo / x3 = a at *
      have hne : (((upto a (b - a + 1).toNat).length : Int) == 0) = false := by rw [beq_eq_false_iff_ne, hlen]; omega
      have hn1 : decide (((upto a (b - a + 1).toNat).length : Int) > 1000) = false := decide_eq_false (by omega)
      simp only [e0, cond_false, Option.bind_some, hne, hn1, f_size, hz]
      have hnat : (upto a (b - a + 1).toNat).length = (b - a + 1).toNat := upto_len _ _
      have hpos : 0 < (upto a (b - a + 1).toNat).length := by omega
      rw [iter_all (upto a (b - a + 1).toNat).length (by omega) (.inr ()) (fun k hk => by
        simp only [lt_yes hk, cond_true, idx_at hk, at_some hk, Option.bind_some, upto_at]
        by_cases h0 : k = 0
        · subst h0
          rw [decide_eq_false (by omega)]
          rfl
        · rw [decide_eq_true (by omega), wrap64 (n := (k : Int) - 1) (by omega) (by omega), wrap64 (n := (k : Int) + 1) (by omega) (by omega)]
          obtain ⟨j, rfl⟩ : ∃ j : Nat, k = j + 1 := ⟨k - 1, by omega⟩
          have hj : j < (upto a (b - a + 1).toNat).length := by omega
          have ej : ((j + 1 : Nat) : Int) - 1 = (j : Int) := by omega
          rw [ej]
          simp only [cond_true, idx_at hj, at_some hj, Option.bind_some, upto_at]
          have e2 : (a + ((j + 1 : Nat) : Int) != IntKind.i64.wrap (a + (j : Int) + 1)) = false := by
            rw [wrap64 (by omega) (by omega), bne_eq_false_iff_eq]; omega
          rw [e2]; rfl) (by simp only [lt_no, cond_false])]
      simp only [Option.bind_some]
      have hz0 := idx_at hpos
      have hs0 := at_some hpos
      simp only [upto_at, Int.natCast_zero] at hz0 hs0
      have hl : (upto a (b - a + 1).toNat).length - 1 < (upto a (b - a + 1).toNat).length := by omega
      have hlast : IntKind.i64.wrap (((upto a (b - a + 1).toNat).length : Int) - 1) = (((upto a (b - a + 1).toNat).length - 1 : Nat) : Int) := by rw [wrap64 (by omega) (by omega)]; omega
      rw [hlast, hz0, idx_at hl, at_some hl]
      have hs0' : (upto a (b - a + 1).toNat)[Int.toNat 0]? = some (a + 0) := hs0
      rw [hs0']
      simp only [Option.bind_some, upto_at]
      have eb : a + (((upto a (b - a + 1).toNat).length - 1 : Nat) : Int) = b := by omega
      rw [eb, Int.add_zero]
      have m1 : (a + 1) * x3 = a * x3 + x3 := by rw [Int.add_mul, Int.one_mul]
      have m2 : (b + 1) * x3 = b * x3 + x3 := by rw [Int.add_mul, Int.one_mul]
      rw [wrap64 (n := a + 1) (by omega) (by omega), wrap64 (n := b + 1) (by omega) (by omega), wrap64 (n := a * x3) (by omega) (by omega), wrap64 (n := (a + 1) * x3) (by omega) (by omega), wrap64 (n := (b + 1) * x3) (by omega) (by omega), wrap64 (n := b * x3) (by omega) (by omega)]
      rw [decide_eq_false (show ¬ a * x3 > lo by omega), decide_eq_false (show ¬ (a + 1) * x3 ≤ lo by omega), decide_eq_false (show ¬ (b + 1) * x3 < hi by split at htop <;> omega)]
      have hlt : (bif decide (lo < hi) then some (decide (b * x3 ≥ hi), ()) else some (false, ()) : Option (Bool × Unit)) = some (false, ()) := by
        by_cases h : lo < hi
        · rw [decide_eq_true h, decide_eq_false (show ¬ b * x3 ≥ hi by rw [if_neg (by omega)] at htop; omega)]; rfl
        · rw [decide_eq_false h]; rfl
      simp only [cond_false]
      rw [hlt]
      simp only [cond_false, Option.bind_some]
      have hfin : ∀ r : List Int × Int, r = ([], 2) ∨ (r.2 = 0 ∧ ((r.1.length : Nat) : Int) = b / 2 - a / 2 + 1) → ((bif (r.2 == 2) then some (true, ()) else (bif (r.2 == 0) then (bif (decide (((r.1.length : Nat) : Int) ≤ (((upto a (b - a + 1).toNat).length : Nat) : Int))) then some ((decide ((IntKind.i64.wrap (2 * ((r.1.length : Nat) : Int))) ≥ (((upto a (b - a + 1).toNat).length : Nat) : Int))), ()) else some (false, ())) else some (false, ())) : Option (Bool × Unit)).bind fun y26 => some y26.1) = some true := by
        intro r hr
        rcases hr with rfl | ⟨q1, q2⟩
        · rfl
        · rw [q1, wrap64 (by omega) (by omega), decide_eq_true (show ((r.1.length : Nat) : Int) ≤ (((upto a (b - a + 1).toNat).length : Nat) : Int) by omega), decide_eq_true (show 2 * ((r.1.length : Nat) : Int) ≥ (((upto a (b - a + 1).toNat).length : Nat) : Int) by omega)]
          rfl
      refine hfin _ ?_
      cases hz2 : sizeB (2 * x3) with
      | true => exact .inl rfl
      | false =>
        rw [decide_eq_false (show ¬ b / 2 - a / 2 ≥ 1000 by omega)]
        refine .inr ⟨rfl, ?_⟩
        show ((upto (a / 2) (b / 2 - a / 2 + 1).toNat).length : Int) = b / 2 - a / 2 + 1
        rw [upto_len]; omega
end Go.Proofs.Ytcahdnmkhoncaaa
