/- Names: what the two readers of names come to. -/
import Derived.Test.YtmdghocpelkcoaaPl3
namespace Go.Proofs.Ytmdghocpelkcoaa

theorem takeWhile_len {α : Type} (p : α → Bool) : ∀ (l : List α) (k : Nat), k ≤ l.length → (∀ i (h : i < l.length), i < k → p l[i] = true) → (∀ h : k < l.length, p l[k] = false) → (l.takeWhile p).length = k
  | [], k, hk, _, _ => by simp at hk; subst hk; rfl
  | x :: l, 0, _, _, h2 => by
    have := h2 (by simp)
    rw [List.takeWhile_cons]
    simp only [List.getElem_cons_zero] at this
    rw [this]; rfl
  | x :: l, k + 1, hk, h1, h2 => by
    have hx := h1 0 (by simp) (by omega)
    simp only [List.getElem_cons_zero] at hx
    rw [List.takeWhile_cons, hx]
    simp only [if_true, List.length_cons]
    rw [takeWhile_len p l k (by simpa using hk) (fun i h hi => by have := h1 (i + 1) (by simpa using h) (by omega); simpa using this) (fun h => by have := h2 (by simpa using h); simpa using this)]
theorem f_letter (c : Int) : F_decimal_letter c = some (letterB c) := by
  unfold F_decimal_letter letterB
  by_cases h1 : c ≥ 97 <;> by_cases h2 : c ≤ 122 <;> by_cases h3 : c ≥ 65 <;> by_cases h4 : c ≤ 90 <;> simp [h1, h2, h3, h4] <;> omega
theorem f_digit (c : Int) : F_decimal_digit c = some (digitB c) := by
  unfold F_decimal_digit digitB
  by_cases h1 : c ≥ 48 <;> by_cases h2 : c ≤ 57 <;> simp [h1, h2] <;> omega
theorem f_rletter (c : Int) : F_ref01_Letter c = some (letterB c) := f_letter c
theorem f_rdigit (c : Int) : F_ref01_Digit c = some (digitB c) := f_digit c
theorem f_word (s : ByteArray) (hs : s.size ≤ 9223372036854775806) : F_decimal_word s = some (wordN s : Int) := by
  unfold F_decimal_word
  have hlen : s.data.toList.length = s.size := rfl
  obtain ⟨r, h1, h2⟩ := iter_inv (F := fun s11 : Int × Unit => (bif (decide (s11.1 < ((s.size : Nat) : Int))) then (idxB s s11.1).bind fun b12 => (F_decimal_letter ((b12.toNat : Nat) : Int)).bind fun r13 => (bif r13 then some (.inl ((IntKind.i64.wrap (s11.1 + 1)), ())) else (idxB s s11.1).bind fun b14 => (F_decimal_digit ((b14.toNat : Nat) : Int)).bind fun r15 => (bif r15 then some (.inl ((IntKind.i64.wrap (s11.1 + 1)), ())) else (idxB s s11.1).bind fun b16 => (bif (((b16.toNat : Nat) : Int) == 95) then some (.inl ((IntKind.i64.wrap (s11.1 + 1)), ())) else some (.inr (s11.1, ()))))) else some (.inr (s11.1, ())) : Option ((Int × Unit) ⊕ (Int × Unit))))
    (Q := fun r => r = ((wordN s : Int), ())) (fun k x => x = ((k : Int), ()) ∧ ∀ i (h : i < s.data.toList.length), i < k → wcB s.data.toList[i] = true) s.size (by unfold big; omega) (fun k x hk hi => by
      obtain ⟨rfl, hi⟩ := hi
      by_cases hlt : k < s.size
      · have hd : decide ((k : Int) < ((s.size : Nat) : Int)) = true := decide_eq_true (by omega)
        simp only [hd, cond_true, idxB_at hlt, Option.bind_some, f_letter, f_digit]
        rw [wrap64 (by omega) (by omega)]
        cases hw : wcB s[k] with
        | true =>
          refine .inl ⟨((k : Int) + 1, ()), ?_, hlt, rfl, fun i h hik => ?_⟩
          · unfold wcB at hw
            cases hl : letterB s[k].toNat with
            | true => rfl
            | false =>
              rw [hl] at hw
              cases hdg : digitB s[k].toNat with
              | true => rfl
              | false =>
                rw [hdg] at hw
                simp only [Bool.false_or] at hw
                simp only [cond_false, hw, cond_true]
          · by_cases hik' : i < k
            · exact hi i h hik'
            · obtain rfl : i = k := by omega
              exact hw
        | false =>
          refine .inr ⟨((k : Int), ()), ?_, ?_⟩
          · unfold wcB at hw
            simp only [Bool.or_eq_false_iff] at hw
            simp only [hw.1, hw.2.1, hw.2.2, cond_false]
          · have := takeWhile_len wcB s.data.toList k (by omega) hi (fun _ => hw)
            unfold wordN
            rw [this]
      · obtain rfl : k = s.size := by omega
        have hd : decide (((s.size : Nat) : Int) < ((s.size : Nat) : Int)) = false := decide_eq_false (by omega)
        simp only [hd, cond_false]
        refine .inr ⟨_, rfl, ?_⟩
        have := takeWhile_len wcB s.data.toList s.size (by omega) hi (fun h => by omega)
        unfold wordN
        rw [this]) (s := (0, ())) ⟨rfl, fun i _ h => by omega⟩
  rw [h1, h2]
  rfl
theorem takeWhile_all {α : Type} (p : α → Bool) : ∀ (l : List α), ((l.takeWhile p).length == l.length) = l.all p
  | [] => rfl
  | x :: l => by
    rw [List.takeWhile_cons, List.all_cons]
    cases p x with
    | true =>
      simp only [if_true, List.length_cons, Bool.true_and]
      rw [← takeWhile_all p l]
      rw [Bool.eq_iff_iff, beq_iff_eq, beq_iff_eq]
      omega
    | false => simp
theorem f_name (s : ByteArray) (hs : s.size ≤ 9223372036854775806) : F_decimal_IsName s = some (nameB s) := by
  unfold F_decimal_IsName nameB
  have hlen : s.data.toList.length = s.size := rfl
  have hw : ∀ (c : UInt8) (l : List UInt8), s.data.toList = c :: l → ((wordN s : Int) == ((s.size : Nat) : Int)) = (c :: l).all wcB := by
    intro c l h
    rw [← h, ← takeWhile_all, hlen]
    unfold wordN
    rw [Bool.eq_iff_iff, beq_iff_eq, beq_iff_eq]
    omega
  simp only [f_word s hs, ByteArray.toList_eq]
  show Option.bind (bif (!(s.data.toList == [])) then _ else _) _ = _
  cases hl : s.data.toList with
  | nil => rfl
  | cons c l =>
    rw [hl] at hlen
    have h0 : idxB s 0 = some c := by
      have h1 : 0 < s.size := by rw [← hlen]; simp
      have := idxB_at (s := s) (k := 0) h1
      have e : s[0] = s.data.toList[0]'(by rw [hl]; simp) := rfl
      rw [e] at this
      simp only [hl, List.getElem_cons_zero] at this
      exact this
    have h1 : (!(c :: l == ([] : List UInt8))) = true := rfl
    simp only [h1, cond_true, h0, Option.bind_some, f_letter]
    have h2 : decide (((s.size : Nat) : Int) ≤ 20) = decide (l.length < 20) := by
      rw [← hlen]
      simp only [List.length_cons]
      by_cases h : l.length < 20
      · rw [decide_eq_true h]; exact decide_eq_true (by omega)
      · rw [decide_eq_false h]; exact decide_eq_false (by omega)
    rw [h2, hw c l hl]
    cases decide (l.length < 20) <;> cases letterB ((c.toNat : Nat) : Int) <;> rfl
end Go.Proofs.Ytmdghocpelkcoaa
