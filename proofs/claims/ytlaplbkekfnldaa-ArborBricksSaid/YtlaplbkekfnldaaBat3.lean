/- Contract: whether the places of lift lines are right; and the plain lemmas for it. -/
import Derived.Test.YtlaplbkekfnldaaBat1
namespace Go.Proofs.Ytlaplbkekfnldaa
open Go.RowKit

theorem lineAt_eq (l : List Int) (len : Int) (i : Nat) (h : i < l.length) : lineAt l len i = (betweenB l[i] 0 len && (decide (i = 0) || decide (l[i - 1]'(by omega) < l[i]))) := by
  unfold lineAt
  rw [List.getElem?_eq_getElem h, List.getElem?_eq_getElem (show i - 1 < l.length by omega)]
  rfl
theorem linesB_iff (l : List Int) (len : Int) : linesB l len = true ↔ 2 ≤ l.length ∧ l.length ≤ 10 ∧ ∀ i (h : i < l.length), 0 ≤ l[i] ∧ l[i] ≤ len ∧ (i = 0 ∨ l[i - 1]'(by omega) < l[i]) := by
  unfold linesB
  rw [Bool.and_eq_true, decide_eq_true_iff, List.all_eq_true, and_assoc]
  refine and_congr Iff.rfl (and_congr Iff.rfl ⟨fun h i hi => ?_, fun h i hi => ?_⟩)
  · have := h i (List.mem_range.2 hi)
    rw [lineAt_eq l len i hi, Bool.and_eq_true, between_iff, Bool.or_eq_true, decide_eq_true_iff, decide_eq_true_iff, and_assoc] at this
    exact this
  · rw [lineAt_eq l len i (List.mem_range.1 hi), Bool.and_eq_true, between_iff, Bool.or_eq_true, decide_eq_true_iff, decide_eq_true_iff, and_assoc]
    exact h i (List.mem_range.1 hi)
theorem asc_mono (l : List Int) (h : ∀ i (h : i < l.length), 1 ≤ i → l[i - 1]'(by omega) < l[i]) : ∀ j (hj : j < l.length) i (hi : i ≤ j), l[i]'(by omega) ≤ l[j] := by
  intro j
  induction j with
  | zero => intro hj i hi; obtain rfl : i = 0 := by omega
            exact Int.le_refl _
  | succ j ih =>
    intro hj i hi
    rcases Nat.lt_or_ge i (j + 1) with h1 | h1
    · have h2 := ih (by omega) i (by omega)
      have h3 := h (j + 1) hj (by omega)
      simp only [Nat.add_sub_cancel] at h3
      omega
    · obtain rfl : i = j + 1 := by omega
      exact Int.le_refl _
theorem lines_yes (l : List Int) (len : Int) (h2 : 2 ≤ l.length) (h10 : l.length ≤ 10) (h0 : 0 ≤ l[0]) (hl : l[l.length - 1] ≤ len) (h : ∀ i (h : i < l.length), 1 ≤ i → l[i - 1]'(by omega) < l[i]) : linesB l len = true := by
  rw [linesB_iff]
  refine ⟨h2, h10, fun i hi => ?_⟩
  have m := asc_mono l h
  have m1 := m i hi 0 (by omega)
  have m2 := m (l.length - 1) (by omega) i (by omega)
  refine ⟨by omega, by omega, ?_⟩
  rcases Nat.eq_zero_or_pos i with h1 | h1
  · exact Or.inl h1
  · exact Or.inr (h i hi h1)
theorem lines_no_len (l : List Int) (len : Int) (h : ¬ (2 ≤ l.length ∧ l.length ≤ 10)) : linesB l len = false := by
  rw [Bool.eq_false_iff]; intro e; rw [linesB_iff] at e; exact h ⟨e.1, e.2.1⟩
theorem lines_no_at (l : List Int) (len : Int) (i : Nat) (hi : i < l.length) (h : l[i] < 0 ∨ len < l[i] ∨ (i ≠ 0 ∧ l[i] ≤ l[i - 1]'(by omega))) : linesB l len = false := by
  rw [Bool.eq_false_iff]; intro e; rw [linesB_iff] at e
  have := e.2.2 i hi
  omega

def AscTo (l : List Int) (k : Nat) : Prop := ∀ i (h : i < l.length), 1 ≤ i → i < k → l[i - 1]'(by omega) < l[i]
theorem AscTo.succ {l : List Int} {k : Nat} (h : AscTo l k) (hk : k < l.length) (h1 : l[k - 1]'(by omega) < l[k]) : AscTo l (k + 1) := fun i hi hi1 hik => by
  rcases Nat.lt_or_ge i k with h2 | h2
  · exact h i hi hi1 h2
  · obtain rfl : i = k := by omega
    exact h1

set_option maxHeartbeats 800000 in
theorem lines_any (A : Option Addr) (c : Nat) (l : List Int) (len : Int) (w : World) (hl : IntsAt w w.heap.size A l) (hn : l.length ≤ maxLen) :
    Calls Try.prog 63 #[.slice A l.length c, .int .i64 len] w fun e w' => e = .returned (.bool (linesB l len)) ∧ Below w.heap.size w w' := by
  unfold maxLen at hn
  have HL := Lib.hid hl; clear hl
  by_cases hlen : 2 ≤ l.length ∧ l.length ≤ 10
  · obtain ⟨h2, h10⟩ := hlen
    have hbt : betweenB l.length 2 10 = true := (between_iff _ _ _).2 ⟨by omega, by omega⟩
    obtain ⟨b, off, rfl, hbb, c0⟩ := HL.out.at_ (show 0 < l.length by omega)
    obtain ⟨b', off', e', hbb', cl⟩ := HL.out.at_ (show l.length - 1 < l.length by omega)
    simp only [Option.some.injEq, Addr.mk.injEq, and_true] at e'
    obtain ⟨rfl, rfl⟩ := e'
    rw [Nat.add_zero] at c0
    by_cases h0 : l[0] < 0
    · have HF := Lib.hid (lines_no_at l len 0 (by omega) (Or.inl h0))
      go_enter Try.func63, Try.ntmps63
      go_wp2_with ((go_at_call 62; refine (between_any _ _ _ _).mono ?_; rintro e w' ⟨rfl, rfl⟩))
      go_ret
      exact ⟨ret_bool HF.out.symm, Below.refl _ _⟩
    · by_cases h1 : len < l[l.length - 1]
      · have HF := Lib.hid (lines_no_at l len (l.length - 1) (by omega) (Or.inr (Or.inl h1)))
        go_enter Try.func63, Try.ntmps63
        go_wp2_with ((go_at_call 62; refine (between_any _ _ _ _).mono ?_; rintro e w' ⟨rfl, rfl⟩))
        go_ret
        exact ⟨ret_bool HF.out.symm, Below.refl _ _⟩
      · go_enter Try.func63, Try.ntmps63
        go_wp2_with ((go_at_call 62; refine (between_any _ _ _ _).mono ?_; rintro e w' ⟨rfl, rfl⟩))
        go_loopw [5] (fun i wr => ∃ k : Nat, 1 ≤ k ∧ k ≤ l.length ∧ i = .int .i64 k ∧ Hid (AscTo l k) ∧ Below w.heap.size w wr) (fun i _ => l.length - (intOf i).toNat)
        case atStart => exact ⟨1, by omega, by omega, rfl, fun i _ h1 h2 => absurd h2 (by omega), Below.refl _ _⟩
        case round =>
          obtain ⟨k, hk1, hk, rfl, hasc, hb⟩ := hrel
          by_cases hlt : k < l.length
          · obtain ⟨b2, off2, e2, _, c1⟩ := (HL.out.below hb).at_ hlt
            simp only [Option.some.injEq, Addr.mk.injEq, and_true] at e2
            obtain ⟨rfl, rfl⟩ := e2
            obtain ⟨b3, off3, e3, _, c2⟩ := (HL.out.below hb).at_ (show k - 1 < l.length by omega)
            simp only [Option.some.injEq, Addr.mk.injEq, and_true] at e3
            obtain ⟨rfl, rfl⟩ := e3
            clear c0 cl hbb'
            by_cases hle : l[k] ≤ l[k - 1]
            · have HF := Lib.hid (lines_no_at l len k hlt (Or.inr (Or.inr ⟨by omega, hle⟩)))
              go_wp2_with fail
              go_quiet (fail)
              go_wp2_with fail
              go_ret
              exact ⟨ret_bool HF.out.symm, below_drewN hb _⟩
            · have hs := hasc.out.succ hlt (by omega)
              have HS := Lib.hid hs; clear hs
              go_wp2_with fail
              go_quiet (fail)
              go_wp2_with fail
              exact ⟨⟨k + 1, by omega, by omega, by go_num, HS, below_drewN hb _⟩, by simp [intOf]; omega⟩
          · have hk2 : k = l.length := by omega
            have HF := Lib.hid (lines_yes l len h2 h10 (by omega) (by omega) fun i hi hi1 => hasc.out i hi hi1 (by omega))
            clear hk2
            go_wp2_with fail
            go_ret
            exact ⟨ret_bool HF.out.symm, hb⟩
  · have HF := Lib.hid (lines_no_len l len hlen)
    have hbt : betweenB l.length 2 10 = false := by rw [Bool.eq_false_iff]; intro e; rw [between_iff] at e; omega
    go_enter Try.func63, Try.ntmps63
    go_wp2_with ((go_at_call 62; refine (between_any _ _ _ _).mono ?_; rintro e w' ⟨rfl, rfl⟩))
    go_ret
    exact ⟨ret_bool HF.out.symm, Below.refl _ _⟩
end Go.Proofs.Ytlaplbkekfnldaa
