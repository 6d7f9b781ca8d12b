/- batten.lines: what the lines' check comes to. -/
import Derived.Test.YtmdghocpelkcoaaPl8
namespace Go.Proofs.Ytmdghocpelkcoaa

theorem lineAt_eq (l : List Int) (len : Int) (i : Nat) (h : i < l.length) : lineAt l len i = (betweenB l[i] 0 len && (decide (i = 0) || decide (l[i - 1]'(by omega) < l[i]))) := by
  unfold lineAt
  rw [List.getElem?_eq_getElem h, List.getElem?_eq_getElem (show i - 1 < l.length by omega)]
  rfl
theorem linesB_iff (l : List Int) (len : Int) : linesB l len = true ↔ 2 ≤ l.length ∧ l.length ≤ 10 ∧ ∀ i (h : i < l.length), 0 ≤ l[i] ∧ l[i] ≤ len ∧ (i = 0 ∨ l[i - 1]'(by omega) < l[i]) := by
  unfold linesB
  rw [Bool.and_eq_true, decide_eq_true_iff, List.all_eq_true, and_assoc]
  refine and_congr Iff.rfl (and_congr Iff.rfl ⟨fun h i hi => ?_, fun h i hi => ?_⟩)
  · have := h i (List.mem_range.2 hi)
    rw [lineAt_eq l len i hi, Bool.and_eq_true, between_iff, Bool.or_eq_true, decide_eq_true_iff, decide_eq_true_iff, and_assoc] at this
    exact this
  · rw [lineAt_eq l len i (List.mem_range.1 hi), Bool.and_eq_true, between_iff, Bool.or_eq_true, decide_eq_true_iff, decide_eq_true_iff, and_assoc]
    exact h i (List.mem_range.1 hi)
theorem asc_mono (l : List Int) (h : ∀ i (h : i < l.length), 1 ≤ i → l[i - 1]'(by omega) < l[i]) : ∀ j (hj : j < l.length) i (hi : i ≤ j), l[i]'(by omega) ≤ l[j] := by
  intro j
  induction j with
  | zero => intro hj i hi; obtain rfl : i = 0 := by omega
            exact Int.le_refl _
  | succ j ih =>
    intro hj i hi
    rcases Nat.lt_or_ge i (j + 1) with h1 | h1
    · have h2 := ih (by omega) i (by omega)
      have h3 := h (j + 1) hj (by omega)
      simp only [Nat.add_sub_cancel] at h3
      omega
    · obtain rfl : i = j + 1 := by omega
      exact Int.le_refl _
theorem lines_yes (l : List Int) (len : Int) (h2 : 2 ≤ l.length) (h10 : l.length ≤ 10) (h0 : 0 ≤ l[0]) (hl : l[l.length - 1] ≤ len) (h : ∀ i (h : i < l.length), 1 ≤ i → l[i - 1]'(by omega) < l[i]) : linesB l len = true := by
  rw [linesB_iff]
  refine ⟨h2, h10, fun i hi => ?_⟩
  have m := asc_mono l h
  have m1 := m i hi 0 (by omega)
  have m2 := m (l.length - 1) (by omega) i (by omega)
  refine ⟨by omega, by omega, ?_⟩
  rcases Nat.eq_zero_or_pos i with h1 | h1
  · exact Or.inl h1
  · exact Or.inr (h i hi h1)
theorem lines_no_len (l : List Int) (len : Int) (h : ¬ (2 ≤ l.length ∧ l.length ≤ 10)) : linesB l len = false := by
  rw [Bool.eq_false_iff]; intro e; rw [linesB_iff] at e; exact h ⟨e.1, e.2.1⟩
theorem lines_no_at (l : List Int) (len : Int) (i : Nat) (hi : i < l.length) (h : l[i] < 0 ∨ len < l[i] ∨ (i ≠ 0 ∧ l[i] ≤ l[i - 1]'(by omega))) : linesB l len = false := by
  rw [Bool.eq_false_iff]; intro e; rw [linesB_iff] at e
  have := e.2.2 i hi
  omega

def AscTo (l : List Int) (k : Nat) : Prop := ∀ i (h : i < l.length), 1 ≤ i → i < k → l[i - 1]'(by omega) < l[i]
theorem AscTo.succ {l : List Int} {k : Nat} (h : AscTo l k) (hk : k < l.length) (h1 : l[k - 1]'(by omega) < l[k]) : AscTo l (k + 1) := fun i hi hi1 hik => by
  rcases Nat.lt_or_ge i k with h2 | h2
  · exact h i hi hi1 h2
  · obtain rfl : i = k := by omega
    exact h1
theorem f_lines (l : List Int) (len : Int) (hl : l.length ≤ 2147483648) : F_batten_lines l len = some (linesB l len) := by
  unfold F_batten_lines
  rw [f_between, Option.bind_some]
  by_cases hb : 2 ≤ l.length ∧ l.length ≤ 10
  · have e1 : betweenB ((l.length : Nat) : Int) 2 10 = true := (between_iff _ _ _).2 (by omega)
    have i0 : idx l 0 = some (l[0]'(by omega)) := idx_at (k := 0) (by omega)
    have i1 : idx l (IntKind.i64.wrap (((l.length : Nat) : Int) - 1)) = some (l[l.length - 1]'(by omega)) := by
      rw [wrap64 (by omega) (by omega), show ((l.length : Nat) : Int) - 1 = ((l.length - 1 : Nat) : Int) from by omega]
      exact idx_at (by omega)
    rw [e1, i0, i1]
    simp only [Bool.not_true, cond_false, Option.bind_some]
    by_cases h0 : l[0]'(by omega) < 0
    · rw [decide_eq_true h0, lines_no_at l len 0 (by omega) (.inl h0)]; rfl
    rw [decide_eq_false h0]
    by_cases h1 : l[l.length - 1]'(by omega) > len
    · rw [decide_eq_true h1, lines_no_at l len (l.length - 1) (by omega) (.inr (.inl h1))]; rfl
    rw [decide_eq_false h1]
    simp only [cond_false, Option.bind_some]
    obtain ⟨r, g1, g2⟩ := iter_inv (F := fun s10 : Int × Unit => (bif (decide (s10.1 < ((l.length : Nat) : Int))) then (idx l s10.1).bind fun x11 => (idx l (IntKind.i64.wrap (s10.1 - 1))).bind fun x12 => (bif (decide (x11 ≤ x12)) then some (.inr (.inl (false, ()))) else some (.inl ((IntKind.i64.wrap (s10.1 + 1)), ()))) else some (.inr (.inr ((())))) : Option ((Int × Unit) ⊕ ((Bool × Unit) ⊕ Unit))))
      (Q := fun r => r = (bif linesB l len then .inr () else .inl (false, ()))) (fun k s => s = (((k + 1 : Nat) : Int), ()) ∧ AscTo l (k + 1)) (l.length - 1) (by unfold big; omega) (fun k s hk hs => by
        obtain ⟨rfl, ha⟩ := hs
        by_cases hlt : k + 1 < l.length
        · have hd : decide (((k + 1 : Nat) : Int) < ((l.length : Nat) : Int)) = true := decide_eq_true (by omega)
          have i2 : idx l (IntKind.i64.wrap (((k + 1 : Nat) : Int) - 1)) = some (l[k]'(by omega)) := by
            rw [wrap64 (by omega) (by omega), show ((k + 1 : Nat) : Int) - 1 = (k : Int) from by omega]
            exact idx_at (by omega)
          simp only [hd, cond_true, idx_at hlt, i2, Option.bind_some]
          by_cases hle : l[k + 1] ≤ l[k]'(by omega)
          · rw [decide_eq_true hle]
            exact .inr ⟨_, rfl, by rw [lines_no_at l len (k + 1) hlt (.inr (.inr ⟨by omega, by simpa using hle⟩))]; rfl⟩
          · rw [decide_eq_false hle]
            refine .inl ⟨(((k + 1 + 1 : Nat) : Int), ()), ?_, by omega, rfl, ha.succ hlt (by simp only [Nat.add_sub_cancel]; omega)⟩
            simp only [cond_false]
            rw [wrap64 (by omega) (by omega)]
            rfl
        · have hk1 : k + 1 = l.length := by omega
          have hd : decide (((k + 1 : Nat) : Int) < ((l.length : Nat) : Int)) = false := decide_eq_false (by omega)
          simp only [hd, cond_false]
          exact .inr ⟨_, rfl, by rw [lines_yes l len hb.1 hb.2 (by omega) (by omega) (fun i hi h1 => ha i hi h1 (by omega))]; rfl⟩) (s := (1, ())) ⟨rfl, fun i hi h1 h2 => by omega⟩
    rw [g1, g2]
    cases linesB l len <;> rfl
  · have e1 : betweenB ((l.length : Nat) : Int) 2 10 = false := by
      rw [Bool.eq_false_iff]
      intro e
      rw [between_iff] at e
      omega
    rw [e1, lines_no_len l len hb]
    rfl
end Go.Proofs.Ytmdghocpelkcoaa
