/- Parts of a load; the same bricks turned round. -/
import Derived.Test.YtlaplbkekfnldaaPl16
namespace Go.Proofs.Ytlaplbkekfnldaa
set_option linter.unusedSimpArgs false
set_option linter.unusedVariables false

theorem at_some {α : Type} {l : List α} {k : Nat} (h : k < l.length) : l[Int.toNat (k : Int)]? = some l[k] := by
  rw [Int.toNat_natCast, List.getElem?_eq_getElem h]
theorem iter_rev {α : Type} (l : List α) (hl : l.length ≤ 2147483648) :
    (iterF (σ := Int × Int × List α × Unit) (ρ := List α × Unit) (fun s61 => (bif (decide (s61.1 < s61.2.1)) then (idx s61.2.2.1 s61.2.1).bind fun _x62 => (s61.2.2.1[(Int.toNat s61.2.1)]?).bind fun x63 => (idx s61.2.2.1 s61.1).bind fun _x64 => (s61.2.2.1[(Int.toNat s61.1)]?).bind fun x65 => (idx s61.2.2.1 s61.1).bind fun _x66 => (s61.2.2.1[(Int.toNat s61.1)]?).bind fun x67 => (idx (s61.2.2.1.set (Int.toNat s61.1) x63) s61.2.1).bind fun _x68 => ((s61.2.2.1.set (Int.toNat s61.1) x63)[(Int.toNat s61.2.1)]?).bind fun x69 => some (.inl ((IntKind.i64.wrap (s61.1 + 1)), (IntKind.i64.wrap (s61.2.1 - 1)), ((s61.2.2.1.set (Int.toNat s61.1) x63).set (Int.toNat s61.2.1) x65), ())) else some (.inr (s61.2.2.1, ())))) big (0, (IntKind.i64.wrap (((l.length : Nat) : Int) - 1)), l, ())) = some (l.reverse, ()) := by
  rw [wrap64 (by omega) (by omega)]
  obtain ⟨r, g1, g2⟩ := iter_inv (F := fun s61 : Int × Int × List α × Unit => (bif (decide (s61.1 < s61.2.1)) then (idx s61.2.2.1 s61.2.1).bind fun _x62 => (s61.2.2.1[(Int.toNat s61.2.1)]?).bind fun x63 => (idx s61.2.2.1 s61.1).bind fun _x64 => (s61.2.2.1[(Int.toNat s61.1)]?).bind fun x65 => (idx s61.2.2.1 s61.1).bind fun _x66 => (s61.2.2.1[(Int.toNat s61.1)]?).bind fun x67 => (idx (s61.2.2.1.set (Int.toNat s61.1) x63) s61.2.1).bind fun _x68 => ((s61.2.2.1.set (Int.toNat s61.1) x63)[(Int.toNat s61.2.1)]?).bind fun x69 => some (.inl ((IntKind.i64.wrap (s61.1 + 1)), (IntKind.i64.wrap (s61.2.1 - 1)), ((s61.2.2.1.set (Int.toNat s61.1) x63).set (Int.toNat s61.2.1) x65), ())) else some (.inr (s61.2.2.1, ())) : Option ((Int × Int × List α × Unit) ⊕ (List α × Unit))))
    (Q := fun r => r = (l.reverse, ())) (fun k s => ∃ t : List α, s = ((k : Int), (l.length : Int) - 1 - (k : Int), t, ()) ∧ t.length = l.length ∧ ∀ i, i < l.length → t[i]? = if i < k ∨ l.length ≤ i + k then l[l.length - 1 - i]? else l[i]?) l.length (by unfold big; omega) (fun k s hk hs => by
      obtain ⟨t, rfl, ht, hg⟩ := hs
      by_cases hlt : (k : Int) < (l.length : Int) - 1 - (k : Int)
      · have hj : ∃ j : Nat, (l.length : Int) - 1 - (k : Int) = (j : Int) ∧ j = l.length - 1 - k := ⟨l.length - 1 - k, by omega, rfl⟩
        obtain ⟨j, ej, hj⟩ := hj
        rw [ej] at hlt ⊢
        have hkt : k < t.length := by omega
        have hjt : j < t.length := by omega
        have hk2 : k < (t.set k t[j]).length := by rw [List.length_set]; exact hkt
        have hj2 : j < (t.set k t[j]).length := by rw [List.length_set]; exact hjt
        refine .inl ⟨((k : Int) + 1, (j : Int) - 1, (t.set k t[j]).set j t[k], ()), ?_, by omega, (t.set k t[j]).set j t[k], ?_, ?_, ?_⟩
        · simp only [decide_eq_true hlt, cond_true, idx_at hkt, idx_at hjt, Option.bind_some, Int.toNat_natCast, List.getElem?_eq_getElem hkt, List.getElem?_eq_getElem hjt, idx_at hj2, List.getElem?_eq_getElem hj2]
          rw [wrap64 (by omega) (by omega), wrap64 (by omega) (by omega)]
        · congr 1
          · congr 1; omega
        · simp [ht]
        · intro i hi
          have h1 := hg i hi
          rw [List.getElem?_set, List.length_set]
          by_cases e1 : j = i
          · subst e1
            have h2 := hg k (by omega)
            rw [if_pos rfl, if_pos hjt, if_pos (by omega), ← List.getElem?_eq_getElem hkt, h2, if_neg (by omega)]
            congr 1; omega
          · rw [if_neg e1, List.getElem?_set]
            by_cases e2 : k = i
            · subst e2
              have h2 := hg j (by omega)
              rw [if_pos rfl, if_pos hkt, if_pos (by omega), ← List.getElem?_eq_getElem hjt, h2, if_neg (by omega), hj]
            · rw [if_neg e2, h1]
              by_cases c : i < k ∨ l.length ≤ i + k
              · rw [if_pos c, if_pos (by omega)]
              · rw [if_neg c, if_neg (by omega)]
      · refine .inr ⟨(t, ()), by simp only [decide_eq_false hlt, cond_false], ?_⟩
        congr 1
        apply List.ext_getElem?
        intro i
        by_cases hi : i < l.length
        · rw [hg i hi, List.getElem?_reverse hi]
          by_cases c : i < k ∨ l.length ≤ i + k
          · rw [if_pos c]
          · rw [if_neg c]
            congr 1; omega
        · rw [List.getElem?_eq_none (by omega), List.getElem?_eq_none (by simp; omega)]) (s := (0, (l.length : Int) - 1, l, ())) ⟨l, by simp, rfl, fun i hi => by rw [if_neg (by omega)]⟩
  subst g2
  exact g1
theorem bricks_rev {l : List TBrick} (h : bricksB l = true) : bricksB l.reverse = true := by
  unfold bricksB at h ⊢
  simp only [Bool.and_eq_true, decide_eq_true_eq] at h ⊢
  obtain ⟨h8, hp, hs⟩ := h
  refine ⟨by simpa using h8, ?_, ?_⟩
  · rw [pairs_iff] at hp ⊢
    intro i hi
    have hi' : i < l.length := by simpa using hi
    refine ⟨?_, fun k hk => ?_⟩
    · rw [List.getElem_reverse]
      exact (hp _ (by omega)).1
    · rw [List.getElem_reverse, List.getElem_reverse]
      have h2 := (hp (l.length - 1 - k) (by omega)).2 (l.length - 1 - i) (by omega)
      rw [Bool.not_eq_true'] at h2 ⊢
      rw [Bool.eq_false_iff] at h2 ⊢
      intro e
      rw [sameName_iff] at e
      exact h2 ((sameName_iff _ _).2 e.symm)
  · rw [sumTo_all] at hs ⊢
    rw [List.map_reverse, List.sum_reverse]
    exact hs
theorem zip_rev (l : List TBrick) (cs : List Int) (h : cs.length = l.length) : l.reverse.zip cs.reverse = (l.zip cs).reverse := by
  apply List.ext_getElem
  · simp
  · intro i h1 h2
    simp only [List.getElem_zip, List.getElem_reverse, List.length_zip]
    simp only [h, Nat.min_self]
theorem wsum_rev (l : List TBrick) (cs : List Int) (h : cs.length = l.length) : wsum l.reverse cs.reverse = wsum l cs := by
  rw [← wsum_zip, ← wsum_zip, zip_rev l cs h, List.map_reverse, List.sum_reverse]
theorem wsum_add (l : List TBrick) (cs os : List Int) (h1 : cs.length = l.length) (h2 : os.length = l.length) : wsum l (List.zipWith (· + ·) cs os) = wsum l cs + wsum l os := by
  unfold wsum
  induction l generalizing cs os with
  | nil => rfl
  | cons b l ih =>
    cases cs with
    | nil => simp at h1
    | cons c cs =>
      cases os with
      | nil => simp at h2
      | cons o os =>
        simp only [List.zipWith_cons_cons, List.sum_cons, Int.mul_add]
        rw [ih cs os (by simpa using h1) (by simpa using h2)]
        omega
theorem wsum_nonneg (l : List TBrick) (cs : List Int) (h1 : ∀ b ∈ l, 0 ≤ b.weight) (h2 : ∀ c ∈ cs, 0 ≤ c) : 0 ≤ wsum l cs := by
  unfold wsum
  refine sum_nonneg _ fun x hx => ?_
  obtain ⟨i, hi, rfl⟩ := List.mem_iff_getElem.1 hx
  rw [List.getElem_zipWith]
  exact Int.mul_nonneg (h1 _ (List.getElem_mem _)) (h2 _ (List.getElem_mem _))
def sumB (l : List TBrick) (cs os : List Int) (k : Nat) : Bool := (List.range k).all fun i => decide (cs[i]?.getD 0 + os[i]?.getD 0 ≤ (l[i]?.getD (TBrick.mk ⟨#[]⟩ 0 0)).count)
theorem sumB_succ (l : List TBrick) (cs os : List Int) (k : Nat) (h0 : k < l.length) (h1 : k < cs.length) (h2 : k < os.length) : sumB l cs os (k + 1) = (sumB l cs os k && decide (cs[k] + os[k] ≤ l[k].count)) := by
  unfold sumB
  rw [List.range_succ, List.all_append]
  simp only [List.all_cons, List.all_nil, Bool.and_true, List.getElem?_eq_getElem h0, List.getElem?_eq_getElem h1, List.getElem?_eq_getElem h2, Option.getD_some]
def smallL (l : List TBrick) : Bool := decide (l.length ≤ 12) && !l.any fun b => decide (((b.name.size : Nat) : Int) > 60)
theorem f_fewl (l : List TBrick) : F_law25_few l = some (smallL l) := by
  unfold F_law25_few smallL
  by_cases h : l.length ≤ 12
  · rw [decide_eq_true (show ((l.length : Nat) : Int) ≤ 12 by omega), decide_eq_true h, f_slices_ContainsFunc_api_Brick l (by omega) (fun z3 => F_law25_few_1 z3) (fun b => decide (((b.name.size : Nat) : Int) > 60)) (fun x _ => rfl)]
    simp
  · rw [decide_eq_false (show ¬ ((l.length : Nat) : Int) ≤ 12 by omega), decide_eq_false h]; rfl
theorem smallL_ok {l : List TBrick} (h : smallL l = true) : l.length ≤ 12 ∧ ∀ x ∈ l, x.name.size ≤ 60 := by
  unfold smallL at h
  simp only [Bool.and_eq_true, decide_eq_true_eq, Bool.not_eq_true', List.any_eq_false] at h
  exact ⟨h.1, fun x hx => by have := h.2 x hx; omega⟩
theorem weight_yes {l : List TBrick} {cs : List Int} (h : (weightP l cs).2 = 0) : bricksB l = true ∧ cs.length = l.length ∧ (l.zip cs).any outC = false ∧ weightP l cs = (wsum l cs, 0) := by
  unfold weightP at h ⊢
  cases hb : bricksB l with
  | false => rw [hb] at h; cases h
  | true =>
    rw [hb] at h
    by_cases hl : cs.length = l.length
    case neg => rw [decide_eq_false hl] at h; cases h
    rw [decide_eq_true hl] at h ⊢
    cases ho : (l.zip cs).any outC with
    | true => rw [ho] at h; cases h
    | false => exact ⟨rfl, hl, rfl, rfl⟩
theorem weight_not {l : List TBrick} {cs : List Int} (h : ((weightP l cs).2 != 0) = true) : (weightP l cs).1 = 0 ∧ ((weightP l cs).2 == 0) = false := by
  refine ⟨?_, by simpa using h⟩
  revert h
  unfold weightP
  cases bricksB l <;> cases decide (cs.length = l.length) <;> cases (l.zip cs).any outC <;> intro h <;> first | rfl | cases h
end Go.Proofs.Ytlaplbkekfnldaa
