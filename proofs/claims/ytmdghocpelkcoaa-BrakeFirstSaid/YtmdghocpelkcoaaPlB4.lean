/- The plain sentences of BrakeFirst and BrakeOrder. -/
import Derived.Test.YtmdghocpelkcoaaPlB3
namespace Go.Proofs.Ytmdghocpelkcoaa
set_option linter.unusedSimpArgs false
set_option linter.unusedVariables false

theorem iter_all {ρ : Type} {F : Int × Unit → Option ((Int × Unit) ⊕ ρ)} (n : Nat) (hn : n < 9223372036854775807) (d : ρ) (hin : ∀ (k : Nat), k < n → F ((k : Int), ()) = some (.inl ((k : Int) + 1, ()))) (hout : F ((n : Int), ()) = some (.inr d)) : iterF F big (0, ()) = some d := by
  obtain ⟨r, g1, g2⟩ := iter_inv (F := F) (Q := fun r => r = d) (fun k t => t = ((k : Int), ())) n (by unfold big; omega) (fun k t hk ht => by
    subst ht
    by_cases hlt : k < n
    · exact .inl ⟨_, hin k hlt, hlt, by simp⟩
    · obtain rfl : k = n := by omega
      exact .inr ⟨_, hout, rfl⟩) (s := (0, ())) rfl
  rw [g1, g2]
theorem iter_rev {α : Type} (l : List α) (hl : l.length ≤ 2147483648) :
    (iterF (σ := Int × Int × List α × Unit) (ρ := List α × Unit) (fun s61 => (bif (decide (s61.1 < s61.2.1)) then (idx s61.2.2.1 s61.2.1).bind fun _x62 => (s61.2.2.1[(Int.toNat s61.2.1)]?).bind fun x63 => (idx s61.2.2.1 s61.1).bind fun _x64 => (s61.2.2.1[(Int.toNat s61.1)]?).bind fun x65 => (idx s61.2.2.1 s61.1).bind fun _x66 => (s61.2.2.1[(Int.toNat s61.1)]?).bind fun x67 => (idx (s61.2.2.1.set (Int.toNat s61.1) x63) s61.2.1).bind fun _x68 => ((s61.2.2.1.set (Int.toNat s61.1) x63)[(Int.toNat s61.2.1)]?).bind fun x69 => some (.inl ((IntKind.i64.wrap (s61.1 + 1)), (IntKind.i64.wrap (s61.2.1 - 1)), ((s61.2.2.1.set (Int.toNat s61.1) x63).set (Int.toNat s61.2.1) x65), ())) else some (.inr (s61.2.2.1, ())))) big (0, (IntKind.i64.wrap (((l.length : Nat) : Int) - 1)), l, ())) = some (l.reverse, ()) := by
  rw [wrap64 (by omega) (by omega)]
  obtain ⟨r, g1, g2⟩ := iter_inv (F := fun s61 : Int × Int × List α × Unit => (bif (decide (s61.1 < s61.2.1)) then (idx s61.2.2.1 s61.2.1).bind fun _x62 => (s61.2.2.1[(Int.toNat s61.2.1)]?).bind fun x63 => (idx s61.2.2.1 s61.1).bind fun _x64 => (s61.2.2.1[(Int.toNat s61.1)]?).bind fun x65 => (idx s61.2.2.1 s61.1).bind fun _x66 => (s61.2.2.1[(Int.toNat s61.1)]?).bind fun x67 => (idx (s61.2.2.1.set (Int.toNat s61.1) x63) s61.2.1).bind fun _x68 => ((s61.2.2.1.set (Int.toNat s61.1) x63)[(Int.toNat s61.2.1)]?).bind fun x69 => some (.inl ((IntKind.i64.wrap (s61.1 + 1)), (IntKind.i64.wrap (s61.2.1 - 1)), ((s61.2.2.1.set (Int.toNat s61.1) x63).set (Int.toNat s61.2.1) x65), ())) else some (.inr (s61.2.2.1, ())) : Option ((Int × Int × List α × Unit) ⊕ (List α × Unit))))
    (Q := fun r => r = (l.reverse, ())) (fun k s => ∃ t : List α, s = ((k : Int), (l.length : Int) - 1 - (k : Int), t, ()) ∧ t.length = l.length ∧ ∀ i, i < l.length → t[i]? = if i < k ∨ l.length ≤ i + k then l[l.length - 1 - i]? else l[i]?) l.length (by unfold big; omega) (fun k s hk hs => by
      obtain ⟨t, rfl, ht, hg⟩ := hs
      by_cases hlt : (k : Int) < (l.length : Int) - 1 - (k : Int)
      · have hj : ∃ j : Nat, (l.length : Int) - 1 - (k : Int) = (j : Int) ∧ j = l.length - 1 - k := ⟨l.length - 1 - k, by omega, rfl⟩
        obtain ⟨j, ej, hj⟩ := hj
        rw [ej] at hlt ⊢
        have hkt : k < t.length := by omega
        have hjt : j < t.length := by omega
        have hk2 : k < (t.set k t[j]).length := by rw [List.length_set]; exact hkt
        have hj2 : j < (t.set k t[j]).length := by rw [List.length_set]; exact hjt
        refine .inl ⟨((k : Int) + 1, (j : Int) - 1, (t.set k t[j]).set j t[k], ()), ?_, by omega, (t.set k t[j]).set j t[k], ?_, ?_, ?_⟩
        · simp only [decide_eq_true hlt, cond_true, idx_at hkt, idx_at hjt, Option.bind_some, Int.toNat_natCast, List.getElem?_eq_getElem hkt, List.getElem?_eq_getElem hjt, idx_at hj2, List.getElem?_eq_getElem hj2]
          rw [wrap64 (by omega) (by omega), wrap64 (by omega) (by omega)]
        · congr 1
          · congr 1; omega
        · simp [ht]
        · intro i hi
          have h1 := hg i hi
          rw [List.getElem?_set, List.length_set]
          by_cases e1 : j = i
          · subst e1
            have h2 := hg k (by omega)
            rw [if_pos rfl, if_pos hjt, if_pos (by omega), ← List.getElem?_eq_getElem hkt, h2, if_neg (by omega)]
            congr 1; omega
          · rw [if_neg e1, List.getElem?_set]
            by_cases e2 : k = i
            · subst e2
              have h2 := hg j (by omega)
              rw [if_pos rfl, if_pos hkt, if_pos (by omega), ← List.getElem?_eq_getElem hjt, h2, if_neg (by omega), hj]
            · rw [if_neg e2, h1]
              by_cases c : i < k ∨ l.length ≤ i + k
              · rw [if_pos c, if_pos (by omega)]
              · rw [if_neg c, if_neg (by omega)]
      · refine .inr ⟨(t, ()), by simp only [decide_eq_false hlt, cond_false], ?_⟩
        congr 1
        apply List.ext_getElem?
        intro i
        by_cases hi : i < l.length
        · rw [hg i hi, List.getElem?_reverse hi]
          by_cases c : i < k ∨ l.length ≤ i + k
          · rw [if_pos c]
          · rw [if_neg c]
            congr 1; omega
        · rw [List.getElem?_eq_none (by omega), List.getElem?_eq_none (by simp; omega)]) (s := (0, (l.length : Int) - 1, l, ())) ⟨l, by simp, rfl, fun i hi => by rw [if_neg (by omega)]⟩
  subst g2
  exact g1
theorem first_spec (s : TSet) (p : List Int) : (firstI s p = -1 ∧ ∀ (j : Nat) (h : j < p.length), heldB s p[j] = true) ∨ ∃ (i : Nat) (h : i < p.length), firstI s p = (i : Int) ∧ heldB s p[i] = false ∧ ∀ (j : Nat) (hj : j < i), heldB s (p[j]'(by omega)) = true := by
  unfold firstI
  cases h : p.findIdx? fun z => !heldB s z with
  | none =>
    rw [List.findIdx?_eq_none_iff] at h
    exact .inl ⟨rfl, fun j hj => by have := h _ (List.getElem_mem hj); simpa using this⟩
  | some i =>
    obtain ⟨hi, hg, hb⟩ := List.findIdx?_eq_some_iff_getElem.1 h
    exact .inr ⟨i, hi, rfl, by simpa using hg, fun j hj => by have := hb j hj; simpa using this⟩
theorem widest_le (p : List Int) (M : Int) : widestI p ≤ M ↔ 0 ≤ M ∧ ∀ x ∈ p, x ≤ M ∧ -x ≤ M := by
  have key : ∀ (l : List Int) (t : Int), l.foldl (fun t x => max (max t x) (-x)) t ≤ M ↔ t ≤ M ∧ ∀ x ∈ l, x ≤ M ∧ -x ≤ M := by
    intro l
    induction l with
    | nil => intro t; simp
    | cons x l ih =>
      intro t
      rw [List.foldl_cons, ih]
      constructor
      · rintro ⟨h1, h2⟩
        refine ⟨by omega, fun y hy => ?_⟩
        rcases List.mem_cons.1 hy with rfl | hy
        · omega
        · exact h2 y hy
      · rintro ⟨h1, h2⟩
        have := h2 x List.mem_cons_self
        exact ⟨by omega, fun y hy => h2 y (List.mem_cons_of_mem _ hy)⟩
  exact key p 0
theorem widest_held {s : TSet} (h : Good s) (p : List Int) : decide (widestI p ≤ s.brake) = decide (firstI s p < 0) := by
  have hb := h.b0
  rw [decide_eq_decide, widest_le]
  rcases first_spec s p with ⟨e, hall⟩ | ⟨i, hi, e, hno, -⟩
  · rw [e]
    refine ⟨fun _ => by decide, fun _ => ⟨hb, fun x hx => ?_⟩⟩
    obtain ⟨j, hj, rfl⟩ := List.mem_iff_getElem.1 hx
    have := (held_iff s _).1 (hall j hj)
    omega
  · rw [e]
    refine ⟨fun hw => ?_, fun hw => by omega⟩
    have h1 := hw.2 _ (List.getElem_mem hi)
    have : heldB s p[i] = true := (held_iff s _).2 (by omega)
    rw [hno] at this; cases this
def cutI (s : TSet) (p : List Int) : Int := if firstI s p < 0 then (p.length : Int) else firstI s p
theorem cut_spec (s : TSet) (p : List Int) : 0 ≤ cutI s p ∧ cutI s p ≤ (p.length : Int) ∧ ∀ (j : Nat) (h : j < p.length), ((j : Int) < cutI s p → heldB s p[j] = true) ∧ ((j : Int) = cutI s p → heldB s p[j] = false) := by
  unfold cutI
  rcases first_spec s p with ⟨e, hall⟩ | ⟨i, hi, e, hno, hyes⟩
  · rw [e, if_pos (by decide)]
    exact ⟨by omega, by omega, fun j hj => ⟨fun _ => hall j hj, fun h => by omega⟩⟩
  · rw [e, if_neg (by omega)]
    refine ⟨by omega, by omega, fun j hj => ⟨fun h => hyes j (by omega), fun h => ?_⟩⟩
    obtain rfl : j = i := by omega
    exact hno
def moreS (s : TSet) (b : Int) : TSet := TSet.mk s.name s.depth s.low s.high s.length s.lines s.pipe s.arbor s.purchase s.most b s.items s.bricks
theorem main_BrakeFirst (x0 : TSet) (x1 : List TJob) (x2 : Int) (w0 : W_Set x0) (w1 : W_l_Job x1) (w2 : W_u16 x2) : F_law27_BrakeFirst x0 x1 x2 = some true := by
  have hx2 : 0 ≤ x2 ∧ x2 ≤ 65535 := by
    have h : (Lit.int .u16 x2).wf = true := w2
    unfold Lit.wf at h
    have h2 : IntKind.u16.min ≤ x2 ∧ x2 ≤ IntKind.u16.max := by simpa using h
    exact h2
  unfold F_law27_BrakeFirst
  rw [f_awake27, f_few27]
  simp only [Option.bind_some, Bool.not_true, cond_false]
  cases hs : few27 x0 x1 with
  | false => rfl
  | true =>
    obtain ⟨hf, hl, hn⟩ := few_ok hs
    simp only [Bool.not_true, cond_false]
    rw [f_path x0 x1 hf hn, f_first x0 x1 hf hn, f_widest x0 x1 hf hn]
    simp only [Option.bind_some]
    unfold pathP widestP
    cases ho : okB x0 x1 with
    | false => unfold firstP; rw [ho]; rfl
    | true =>
      obtain ⟨hg, hj, hv⟩ := okB_ok ho
      have e0 : ((0 : Int) != 0) = false := rfl
      have hb := path_bound hg hj
      have hpl := path_len (balanceI x0) (chI x0) x1
      have hjl := jobs_len hj
      have hbr0 := hg.b0
      have hbr1 := hg.b1
      simp only [cond_true, e0, cond_false]
      -- the wider brake
      have hmore : (F_brake_First (TSet.mk x0.name x0.depth x0.low x0.high x0.length x0.lines x0.pipe x0.arbor x0.purchase x0.most (IntKind.i64.wrap (x0.brake + (IntKind.i64.wrap x2))) x0.items x0.bricks) x1).bind (fun r23 => ((bif (r23.2 == 12) then some (true, ()) else (bif (r23.2 == 1) then some (true, ()) else (bif (r23.2 == 0) then some ((decide (r23.1 ≥ cutI x0 (pathL (balanceI x0) (chI x0) x1))), ()) else some (false, ())))) : Option (Bool × Unit)).bind fun y24 => some y24.1) = some true := by
        rw [wrap64 (n := x2) (by omega) (by omega), wrap64 (n := x0.brake + x2) (by omega) (by omega)]
        have hf' : Fits (moreS x0 (x0.brake + x2)) := ⟨hf.name, hf.lines, hf.items, hf.bricks, hf.inames, hf.bnames⟩
        show (F_brake_First (moreS x0 (x0.brake + x2)) x1).bind _ = _
        rw [f_first _ x1 hf' hn]
        simp only [Option.bind_some]
        unfold firstP
        cases ho' : okB (moreS x0 (x0.brake + x2)) x1 with
        | false => rfl
        | true =>
          have ep : pathL (balanceI (moreS x0 (x0.brake + x2))) (chI (moreS x0 (x0.brake + x2))) x1 = pathL (balanceI x0) (chI x0) x1 := rfl
          rw [ep]
          simp only [cond_true]
          generalize pathL (balanceI x0) (chI x0) x1 = p at *
          have hc := cut_spec x0 p
          have hheld : ∀ x, heldB x0 x = true → heldB (moreS x0 (x0.brake + x2)) x = true := fun x hx => by
            rw [held_iff] at hx ⊢
            show -(x0.brake + x2) ≤ x ∧ x ≤ x0.brake + x2
            omega
          rcases first_spec (moreS x0 (x0.brake + x2)) p with ⟨e, -⟩ | ⟨i, hi, e, hno, -⟩
          · rw [e]; rfl
          · rw [e, decide_eq_false (show ¬ (i : Int) < 0 by omega)]
            have hge : (i : Int) ≥ cutI x0 p := by
              apply Classical.byContradiction
              intro hlt
              have h1 := hheld _ ((hc.2.2 i hi).1 (by omega))
              rw [hno] at h1; cases h1
            simp only [cond_false]
            rw [decide_eq_true hge]
            rfl
      have hwi := widest_held hg (pathL (balanceI x0) (chI x0) x1)
      have hc := cut_spec x0 (pathL (balanceI x0) (chI x0) x1)
      have hcut : cutI x0 (pathL (balanceI x0) (chI x0) x1) = if firstI x0 (pathL (balanceI x0) (chI x0) x1) < 0 then ((pathL (balanceI x0) (chI x0) x1).length : Int) else firstI x0 (pathL (balanceI x0) (chI x0) x1) := rfl
      have hW := (widest_le (pathL (balanceI x0) (chI x0) x1) (widestI (pathL (balanceI x0) (chI x0) x1))).1 (Int.le_refl _)
      have hfp : firstP x0 x1 = bif decide (firstI x0 (pathL (balanceI x0) (chI x0) x1) < 0) then (0, 12) else (firstI x0 (pathL (balanceI x0) (chI x0) x1), 0) := by unfold firstP; rw [ho]; rfl
      rw [hfp]
      have hloop : iterF (σ := Int × Unit) (ρ := (Bool × Unit) ⊕ (Unit)) (fun s15 => (bif (decide (s15.1 < (((pathL (balanceI x0) (chI x0) x1).length : Nat) : Int))) then (idx (pathL (balanceI x0) (chI x0) x1) s15.1).bind fun _x16 => ((pathL (balanceI x0) (chI x0) x1)[(Int.toNat s15.1)]?).bind fun x17 => (F_brake_Holds x0 x17).bind fun r18 => ((bif (r18.2 != 0) then some (true, ()) else (bif (decide (s15.1 < cutI x0 (pathL (balanceI x0) (chI x0) x1))) then (bif (!r18.1) then some (true, ()) else (bif (s15.1 == cutI x0 (pathL (balanceI x0) (chI x0) x1)) then (bif r18.1 then some (true, ()) else (bif (decide (x17 > widestI (pathL (balanceI x0) (chI x0) x1))) then some (true, ()) else some ((decide ((IntKind.i64.wrap (0 - x17)) > widestI (pathL (balanceI x0) (chI x0) x1))), ()))) else (bif (decide (x17 > widestI (pathL (balanceI x0) (chI x0) x1))) then some (true, ()) else some ((decide ((IntKind.i64.wrap (0 - x17)) > widestI (pathL (balanceI x0) (chI x0) x1))), ())))) else (bif (s15.1 == cutI x0 (pathL (balanceI x0) (chI x0) x1)) then (bif r18.1 then some (true, ()) else (bif (decide (x17 > widestI (pathL (balanceI x0) (chI x0) x1))) then some (true, ()) else some ((decide ((IntKind.i64.wrap (0 - x17)) > widestI (pathL (balanceI x0) (chI x0) x1))), ()))) else (bif (decide (x17 > widestI (pathL (balanceI x0) (chI x0) x1))) then some (true, ()) else some ((decide ((IntKind.i64.wrap (0 - x17)) > widestI (pathL (balanceI x0) (chI x0) x1))), ()))))) : Option (Bool × Unit)).bind fun y19 => (bif y19.1 then some (.inr (.inl (false, ()))) else some (.inl ((IntKind.i64.wrap (s15.1 + 1)), ()))) else some (.inr (.inr ((())))))) big (0, ()) = some (.inr ()) := by
        refine iter_all (pathL (balanceI x0) (chI x0) x1).length (by omega) (Sum.inr ()) (fun k hk => ?_) (by simp only [lt_no, cond_false])
        have hx := hb _ (List.getElem_mem hk)
        have hxw := hW.2 _ (List.getElem_mem hk)
        have hck := hc.2.2 k hk
        simp only [lt_yes hk, cond_true, idx_at hk, at_some hk, Option.bind_some]
        rw [f_Holds x0 _ hf, hv]
        simp only [cond_true, Option.bind_some, e0, cond_false]
        rw [Int.zero_sub, wrap64 (n := -(pathL (balanceI x0) (chI x0) x1)[k]) (by omega) (by omega), decide_eq_false (show ¬ (pathL (balanceI x0) (chI x0) x1)[k] > widestI (pathL (balanceI x0) (chI x0) x1) by omega), decide_eq_false (show ¬ -(pathL (balanceI x0) (chI x0) x1)[k] > widestI (pathL (balanceI x0) (chI x0) x1) by omega), wrap64 (by omega) (by omega)]
        by_cases h1 : (k : Int) < cutI x0 (pathL (balanceI x0) (chI x0) x1)
        · rw [decide_eq_true h1, hck.1 h1, show ((k : Int) == cutI x0 (pathL (balanceI x0) (chI x0) x1)) = false by rw [beq_eq_false_iff_ne]; omega]; rfl
        · rw [decide_eq_false h1]
          by_cases h2 : (k : Int) = cutI x0 (pathL (balanceI x0) (chI x0) x1)
          · rw [hck.2 h2, show ((k : Int) == cutI x0 (pathL (balanceI x0) (chI x0) x1)) = true by rw [beq_iff_eq]; exact h2]; rfl
          · rw [show ((k : Int) == cutI x0 (pathL (balanceI x0) (chI x0) x1)) = false by rw [beq_eq_false_iff_ne]; exact h2]; rfl
      have hrest : ∀ (c : Int) (e : Bool), c = cutI x0 (pathL (balanceI x0) (chI x0) x1) → decide (widestI (pathL (balanceI x0) (chI x0) x1) ≤ x0.brake) = e → ((bif (decide (c < 0)) then some (true, ()) else (bif (decide (c > (((pathL (balanceI x0) (chI x0) x1).length : Nat) : Int))) then some (true, ()) else some ((!((decide (widestI (pathL (balanceI x0) (chI x0) x1) ≤ x0.brake)) == e)), ())) : Option (Bool × Unit)).bind fun y10 => (bif y10.1 then some false else (iterF (σ := Int × Unit) (ρ := (Bool × Unit) ⊕ (Unit)) (fun s15 => (bif (decide (s15.1 < (((pathL (balanceI x0) (chI x0) x1).length : Nat) : Int))) then (idx (pathL (balanceI x0) (chI x0) x1) s15.1).bind fun _x16 => ((pathL (balanceI x0) (chI x0) x1)[(Int.toNat s15.1)]?).bind fun x17 => (F_brake_Holds x0 x17).bind fun r18 => ((bif (r18.2 != 0) then some (true, ()) else (bif (decide (s15.1 < c)) then (bif (!r18.1) then some (true, ()) else (bif (s15.1 == c) then (bif r18.1 then some (true, ()) else (bif (decide (x17 > widestI (pathL (balanceI x0) (chI x0) x1))) then some (true, ()) else some ((decide ((IntKind.i64.wrap (0 - x17)) > widestI (pathL (balanceI x0) (chI x0) x1))), ()))) else (bif (decide (x17 > widestI (pathL (balanceI x0) (chI x0) x1))) then some (true, ()) else some ((decide ((IntKind.i64.wrap (0 - x17)) > widestI (pathL (balanceI x0) (chI x0) x1))), ())))) else (bif (s15.1 == c) then (bif r18.1 then some (true, ()) else (bif (decide (x17 > widestI (pathL (balanceI x0) (chI x0) x1))) then some (true, ()) else some ((decide ((IntKind.i64.wrap (0 - x17)) > widestI (pathL (balanceI x0) (chI x0) x1))), ()))) else (bif (decide (x17 > widestI (pathL (balanceI x0) (chI x0) x1))) then some (true, ()) else some ((decide ((IntKind.i64.wrap (0 - x17)) > widestI (pathL (balanceI x0) (chI x0) x1))), ()))))) : Option (Bool × Unit)).bind fun y19 => (bif y19.1 then some (.inr (.inl (false, ()))) else some (.inl ((IntKind.i64.wrap (s15.1 + 1)), ()))) else some (.inr (.inr ((())))))) big (0, ())).bind fun y20 => (match y20 with | .inl y21 => some y21.1 | .inr y22 => (F_brake_First (TSet.mk x0.name x0.depth x0.low x0.high x0.length x0.lines x0.pipe x0.arbor x0.purchase x0.most (IntKind.i64.wrap (x0.brake + (IntKind.i64.wrap x2))) x0.items x0.bricks) x1).bind fun r23 => ((bif (r23.2 == 12) then some (true, ()) else (bif (r23.2 == 1) then some (true, ()) else (bif (r23.2 == 0) then some ((decide (r23.1 ≥ c)), ()) else some (false, ())))) : Option (Bool × Unit)).bind fun y24 => some y24.1))) = some true := by
        intro c e hce he
        subst hce he
        rw [decide_eq_false (show ¬ cutI x0 (pathL (balanceI x0) (chI x0) x1) < 0 by omega), decide_eq_false (show ¬ cutI x0 (pathL (balanceI x0) (chI x0) x1) > ((pathL (balanceI x0) (chI x0) x1).length : Int) by omega)]
        simp only [beq_self_eq_true, Bool.not_true, cond_false, Option.bind_some]
        rw [hloop]
        exact hmore
      by_cases h0 : firstI x0 (pathL (balanceI x0) (chI x0) x1) < 0
      · rw [if_pos h0] at hcut
        rw [decide_eq_true h0] at hwi ⊢
        simp only [cond_true, beq_self_eq_true, Option.bind_some]
        exact hrest _ _ hcut.symm hwi
      · rw [if_neg h0] at hcut
        rw [decide_eq_false h0] at hwi ⊢
        have e12 : ((0 : Int) == 12) = false := rfl
        simp only [cond_false, e12, e0, Option.bind_some]
        exact hrest _ _ hcut.symm hwi
end Go.Proofs.Ytmdghocpelkcoaa
