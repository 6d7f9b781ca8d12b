/- Names by the reference; items by themselves. -/
import Derived.Test.YtmdghocpelkcoaaPl4
namespace Go.Proofs.Ytmdghocpelkcoaa

theorem f_rname (s : ByteArray) (hs : s.size ≤ 9223372036854775806) : F_ref01_IsName s = some (nameB s) := by
  have hlen : s.data.toList.length = s.size := rfl
  have hrw : F_ref01_word s 0 = F_decimal_word s := rfl
  have h0 := f_name s hs
  unfold F_ref01_IsName
  unfold F_decimal_IsName at h0
  rw [hrw]
  simp only [f_word s hs, ByteArray.toList_eq, f_letter, f_rletter] at h0 ⊢
  rw [← h0]
  cases hl : s.data.toList with
  | nil =>
    have : s.size = 0 := by rw [← hlen, hl]; rfl
    rw [this]; rfl
  | cons c l =>
    rw [hl] at hlen
    have hpos : 0 < s.size := by rw [← hlen]; simp
    have e1 : (((s.size : Nat) : Int) == 0) = false := by rw [beq_eq_false_iff_ne]; omega
    have e2 : (!(c :: l == (⟨#[]⟩ : ByteArray).data.toList)) = true := rfl
    have e3 : decide (((s.size : Nat) : Int) > 20) = !decide (((s.size : Nat) : Int) ≤ 20) := by
      by_cases h : ((s.size : Nat) : Int) ≤ 20
      · rw [decide_eq_true h]; exact decide_eq_false (by omega)
      · rw [decide_eq_false h]; exact decide_eq_true (by omega)
    have h1 := idxB_at (s := s) (k := 0) hpos
    have h1' : idxB s 0 = some s[0] := h1
    rw [e1, e2, e3, h1']
    cases decide (((s.size : Nat) : Int) ≤ 20) with
    | false => rfl
    | true =>
      simp only [Bool.not_true, cond_false, cond_true, Option.bind_some]
      cases letterB ((s[0].toNat : Nat) : Int) <;> rfl
theorem f_alone (x : TItem) (hx : x.name.size ≤ 9223372036854775806) : F_batten_alone x = some (aloneB x) := by
  unfold F_batten_alone aloneB
  rw [f_name _ hx]
  simp only [f_between, Option.bind_some]
  cases nameB x.name <;> cases betweenB x.weight 0 1048576 <;> cases betweenB x.hang 0 1048576 <;> cases betweenB x.front 0 1048576 <;> rfl
theorem f_inside (x : TItem) (len : Int) (h1 : -4611686018427387904 ≤ len) (h2 : len ≤ 4611686018427387904) : F_batten_inside x len = some (insideB x len) := by
  unfold F_batten_inside insideB
  simp only [f_between, Option.bind_some]
  by_cases h : 0 ≤ x.at_
  · have e : decide (x.at_ ≥ 0) = true := decide_eq_true h
    rw [e]
    cases hb : betweenB x.width 1 1048576 with
    | false => rfl
    | true =>
      rw [between_iff] at hb
      rw [wrap64 (by omega) (by omega)]
      rfl
  · have e : decide (x.at_ ≥ 0) = false := decide_eq_false h
    rw [e]
    rfl
theorem f_apart (x y : TItem) (hx : -4611686018427387904 ≤ x.at_ + x.width ∧ x.at_ + x.width ≤ 4611686018427387904) (hy : -4611686018427387904 ≤ y.at_ + y.width ∧ y.at_ + y.width ≤ 4611686018427387904) : F_batten_apart x y = some (apartB x y) := by
  unfold F_batten_apart apartB
  rw [wrap64 (by omega) (by omega), wrap64 (by omega) (by omega)]
  cases decide (x.at_ + x.width ≤ y.at_) <;> rfl
theorem f_rapart (x y : TItem) (hx : -4611686018427387904 ≤ x.at_ + x.width ∧ x.at_ + x.width ≤ 4611686018427387904) (hy : -4611686018427387904 ≤ y.at_ + y.width ∧ y.at_ + y.width ≤ 4611686018427387904) : F_ref21_Apart x y = some (apartB x y) := f_apart x y hx hy
end Go.Proofs.Ytmdghocpelkcoaa
