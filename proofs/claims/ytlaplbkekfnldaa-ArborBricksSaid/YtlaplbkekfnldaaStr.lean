/- Contracts for the functions on strings and bytes (names). No condition but that a string is no longer than an int can count. -/
import Derived.Test.YtlaplbkekfnldaaDef
namespace Go.Proofs.Ytlaplbkekfnldaa
open Go.RowKit


theorem takeWhile_len (p : UInt8 → Bool) (l : List UInt8) : ∀ k, k ≤ l.length → (∀ j (h : j < l.length), j < k → p l[j] = true) → (∀ h : k < l.length, p l[k] = false) → (l.takeWhile p).length = k := by
  induction l with
  | nil => intro k hk _ _; simp at hk ⊢; omega
  | cons c l ih =>
    intro k hk h1 h2
    cases k with
    | zero => have := h2 (by simp); simp at this; simp [this]
    | succ k =>
      have h0 := h1 0 (by simp) (by omega)
      simp at h0
      have := ih k (by simpa using hk) (fun j hj hjk => h1 (j + 1) (Nat.succ_lt_succ hj) (by omega)) (fun h => h2 (Nat.succ_lt_succ h))
      simp [h0, this]

theorem wordN_eq (s : ByteArray) (k : Nat) (hk : k ≤ s.size) (h1 : ∀ j (h : j < s.size), j < k → wcB s[j] = true) (h2 : ∀ h : k < s.size, wcB s[k] = false) : wordN s = k :=
  takeWhile_len wcB s.data.toList k (by simpa using hk) (fun j hj hjk => h1 j (by simpa using hj) hjk) (fun h => h2 (by simpa using h))

theorem takeWhile_all (p : UInt8 → Bool) (l : List UInt8) : ((l.takeWhile p).length = l.length) ↔ l.all p = true := by
  induction l with
  | nil => simp
  | cons c l ih => by_cases h : p c = true <;> simp [h, ih]

theorem nameB_eq (s : ByteArray) : nameB s = (decide (s.size ≠ 0) && (decide (s.size ≤ 20) && ((if h : 0 < s.size then letterB s[0].toNat else false) && decide (wordN s = s.size)))) := by
  have hs : s.size = s.data.toList.length := by simp
  unfold nameB wordN
  split
  · rename_i h; simp [hs, h]
  · rename_i c l h
    have e0 : ∀ h : 0 < s.size, s[0] = c := fun hh => by
      have h1 : s.data.toList[0]'(by simpa using hh) = c := by simp [h]
      exact h1
    have hw := takeWhile_all wcB (c :: l)
    have hz : s.size = l.length + 1 := by rw [hs, h]; rfl
    have hif : (if h : 0 < s.size then letterB s[0].toNat else false) = letterB c.toNat := by rw [dif_pos (by omega), e0 (by omega)]
    rw [hif, h, hz]
    simp only [List.length_cons] at hw
    by_cases hall : (c :: l).all wcB = true
    · have := hw.2 hall
      rw [this, hall]
      by_cases hl : l.length < 20 <;> simp [hl] <;> omega
    · have : ¬ (List.takeWhile wcB (c :: l)).length = l.length + 1 := fun e => hall (hw.1 e)
      have ha : (c :: l).all wcB = false := by simpa using hall
      rw [ha]
      simp [this]

set_option maxHeartbeats 400000 in
theorem letter_any (c : Int) (w : World) : Calls Try.prog 74 #[.int .u8 c] w fun e w' => e = .returned (.bool (letterB c)) ∧ w = w' := by
  go_enter Try.func74, Try.ntmps74
  go_wp2
  all_goals (go_ret; refine ⟨ret_bool ?_, rfl⟩; unfold letterB; rw [Bool.eq_iff_iff]; simp; omega)
set_option maxHeartbeats 400000 in
theorem digit_any (c : Int) (w : World) : Calls Try.prog 84 #[.int .u8 c] w fun e w' => e = .returned (.bool (digitB c)) ∧ w = w' := by
  go_enter Try.func84, Try.ntmps84
  go_wp2
  all_goals (go_ret; refine ⟨ret_bool ?_, rfl⟩; unfold digitB; rw [Bool.eq_iff_iff]; simp; omega)
set_option maxHeartbeats 400000 in
theorem rletter_any (c : Int) (w : World) : Calls Try.prog 67 #[.int .u8 c] w fun e w' => e = .returned (.bool (letterB c)) ∧ w = w' := by
  go_enter Try.func67, Try.ntmps67
  go_wp2
  all_goals (go_ret; refine ⟨ret_bool ?_, rfl⟩; unfold letterB; rw [Bool.eq_iff_iff]; simp; omega)
set_option maxHeartbeats 400000 in
theorem rdigit_any (c : Int) (w : World) : Calls Try.prog 83 #[.int .u8 c] w fun e w' => e = .returned (.bool (digitB c)) ∧ w = w' := by
  go_enter Try.func83, Try.ntmps83
  go_wp2
  all_goals (go_ret; refine ⟨ret_bool ?_, rfl⟩; unfold digitB; rw [Bool.eq_iff_iff]; simp; omega)
set_option maxHeartbeats 400000 in
theorem between_any (n low high : Int) (w : World) : Calls Try.prog 62 #[.int .i64 n, .int .i64 low, .int .i64 high] w fun e w' => e = .returned (.bool (betweenB n low high)) ∧ w = w' := by
  go_enter Try.func62, Try.ntmps62
  go_wp2
  all_goals (go_ret; refine ⟨ret_bool ?_, rfl⟩; unfold betweenB; rw [Bool.eq_iff_iff]; simp; omega)
set_option maxHeartbeats 400000 in
theorem rbetween_any (n low high : Int) (w : World) : Calls Try.prog 41 #[.int .i64 n, .int .i64 low, .int .i64 high] w fun e w' => e = .returned (.bool (betweenB n low high)) ∧ w = w' := by
  go_enter Try.func41, Try.ntmps41
  go_wp2
  all_goals (go_ret; refine ⟨ret_bool ?_, rfl⟩; unfold betweenB; rw [Bool.eq_iff_iff]; simp; omega)

theorem all_step (s : ByteArray) (k : Nat) (h : ∀ j (h : j < s.size), j < k → wcB s[j] = true) (hk : ∀ h : k < s.size, wcB s[k] = true) : ∀ j (h : j < s.size), j < k + 1 → wcB s[j] = true := by
  intro j hj hjk
  rcases Nat.lt_or_ge j k with h1 | h1
  · exact h j hj h1
  · obtain rfl : j = k := by omega
    exact hk hj

set_option maxHeartbeats 400000 in
theorem word_any (s : ByteArray) (w : World) (hs : s.size ≤ maxLen) : Calls Try.prog 75 #[.string s] w fun e w' => e = .returned (.int .i64 (wordN s)) ∧ w = w' := by
  unfold maxLen at hs
  go_enter Try.func75, Try.ntmps75
  go_wp2
  go_loop [3] (fun i => ∃ k : Nat, k ≤ s.size ∧ i = .int .i64 k ∧ ∀ j (h : j < s.size), j < k → wcB s[j] = true) (fun i => s.size - (intOf i).toNat)
  case atStart => exact ⟨0, Nat.zero_le _, rfl, fun _ _ h => absurd h (by omega)⟩
  case round =>
    obtain ⟨k, hk, rfl, hall⟩ := hrel
    have HA := Lib.hid hall; clear hall
    by_cases hlt : k < s.size
    · by_cases hl : letterB s[k].toNat = true
      · go_wp2_with ((go_at_call 74; refine (letter_any _ _).mono ?_; rintro e w' ⟨rfl, rfl⟩))
        exact ⟨⟨k + 1, by omega, by go_num, all_step s k HA.out fun _ => by simp [wcB, hl]⟩, by simp [intOf]; omega⟩
      · have hl := Bool.eq_false_iff.2 hl
        by_cases hd : digitB s[k].toNat = true
        · go_wp2_with (first | (go_at_call 74; refine (letter_any _ _).mono ?_; rintro e w' ⟨rfl, rfl⟩) | (go_at_call 84; refine (digit_any _ _).mono ?_; rintro e w' ⟨rfl, rfl⟩))
          exact ⟨⟨k + 1, by omega, by go_num, all_step s k HA.out fun _ => by simp [wcB, hd]⟩, by simp [intOf]; omega⟩
        · have hd := Bool.eq_false_iff.2 hd
          by_cases hu : ((s[k].toNat : Int) == 95) = true
          · go_wp2_with (first | (go_at_call 74; refine (letter_any _ _).mono ?_; rintro e w' ⟨rfl, rfl⟩) | (go_at_call 84; refine (digit_any _ _).mono ?_; rintro e w' ⟨rfl, rfl⟩))
            exact ⟨⟨k + 1, by omega, by go_num, all_step s k HA.out fun _ => by simp only [wcB, hu, Bool.or_true]⟩, by simp [intOf]; omega⟩
          · have hu := Bool.eq_false_iff.2 hu
            have H2 := Lib.hid (wordN_eq s k (by omega) HA.out fun _ => by simp only [wcB, hl, hd, hu, Bool.or_self])
            go_wp2_with (first | (go_at_call 74; refine (letter_any _ _).mono ?_; rintro e w' ⟨rfl, rfl⟩) | (go_at_call 84; refine (digit_any _ _).mono ?_; rintro e w' ⟨rfl, rfl⟩))
            go_ret
            exact ⟨ret_int (by rw [H2.out]), rfl⟩
    · have H2 := Lib.hid (wordN_eq s k (by omega) HA.out fun h => absurd h hlt)
      go_wp2
      go_ret
      exact ⟨ret_int (by rw [H2.out]), rfl⟩

set_option maxHeartbeats 400000 in
theorem rword_any (s : ByteArray) (w : World) (hs : s.size ≤ maxLen) : Calls Try.prog 68 #[.string s, .int .i64 0] w fun e w' => e = .returned (.int .i64 (wordN s)) ∧ w = w' := by
  unfold maxLen at hs
  go_enter Try.func68, Try.ntmps68
  go_wp2
  go_loop [1] (fun i => ∃ k : Nat, k ≤ s.size ∧ i = .int .i64 k ∧ ∀ j (h : j < s.size), j < k → wcB s[j] = true) (fun i => s.size - (intOf i).toNat)
  case atStart => exact ⟨0, Nat.zero_le _, rfl, fun _ _ h => absurd h (by omega)⟩
  case round =>
    obtain ⟨k, hk, rfl, hall⟩ := hrel
    have HA := Lib.hid hall; clear hall
    by_cases hlt : k < s.size
    · by_cases hl : letterB s[k].toNat = true
      · go_wp2_with ((go_at_call 67; refine (rletter_any _ _).mono ?_; rintro e w' ⟨rfl, rfl⟩))
        exact ⟨⟨k + 1, by omega, by go_num, all_step s k HA.out fun _ => by simp [wcB, hl]⟩, by simp [intOf]; omega⟩
      · have hl := Bool.eq_false_iff.2 hl
        by_cases hd : digitB s[k].toNat = true
        · go_wp2_with (first | (go_at_call 67; refine (rletter_any _ _).mono ?_; rintro e w' ⟨rfl, rfl⟩) | (go_at_call 83; refine (rdigit_any _ _).mono ?_; rintro e w' ⟨rfl, rfl⟩))
          exact ⟨⟨k + 1, by omega, by go_num, all_step s k HA.out fun _ => by simp [wcB, hd]⟩, by simp [intOf]; omega⟩
        · have hd := Bool.eq_false_iff.2 hd
          by_cases hu : ((s[k].toNat : Int) == 95) = true
          · go_wp2_with (first | (go_at_call 67; refine (rletter_any _ _).mono ?_; rintro e w' ⟨rfl, rfl⟩) | (go_at_call 83; refine (rdigit_any _ _).mono ?_; rintro e w' ⟨rfl, rfl⟩))
            exact ⟨⟨k + 1, by omega, by go_num, all_step s k HA.out fun _ => by simp only [wcB, hu, Bool.or_true]⟩, by simp [intOf]; omega⟩
          · have hu := Bool.eq_false_iff.2 hu
            have H2 := Lib.hid (wordN_eq s k (by omega) HA.out fun _ => by simp only [wcB, hl, hd, hu, Bool.or_self])
            go_wp2_with (first | (go_at_call 67; refine (rletter_any _ _).mono ?_; rintro e w' ⟨rfl, rfl⟩) | (go_at_call 83; refine (rdigit_any _ _).mono ?_; rintro e w' ⟨rfl, rfl⟩))
            go_ret
            exact ⟨ret_int (by rw [H2.out]), rfl⟩
    · have H2 := Lib.hid (wordN_eq s k (by omega) HA.out fun h => absurd h hlt)
      go_wp2
      go_ret
      exact ⟨ret_int (by rw [H2.out]), rfl⟩

theorem name_facts (s : ByteArray) (h : 0 < s.size) : ¬ s.toList = [] ∧ ¬ s = ByteArray.empty := by
  have hne : ¬ s = ByteArray.empty := fun e => by subst e; exact absurd h (by decide)
  exact ⟨fun e => hne (toList_nil_iff_emptyBytes s |>.1 e), hne⟩
theorem name_yes (s : ByteArray) (h0 : 0 < s.size) (h20 : s.size ≤ 20) (hl : letterB s[0].toNat = true) : ((wordN s : Int) == (s.size : Int)) = nameB s := by
  have h1 : decide (s.size ≠ 0) = true := decide_eq_true (by omega)
  rw [nameB_eq, dif_pos h0, hl, h1, decide_eq_true h20, Bool.true_and, Bool.true_and, Bool.true_and, Bool.eq_iff_iff, beq_iff_eq, decide_eq_true_iff]
  omega
theorem name_no (s : ByteArray) (h0 : 0 < s.size) (hl : letterB s[0].toNat = false) : nameB s = false := by
  rw [nameB_eq, dif_pos h0, hl]; simp
theorem name_big (s : ByteArray) (h20 : ¬ s.size ≤ 20) : nameB s = false := by
  rw [nameB_eq, decide_eq_false h20]; simp
theorem name_no0 : nameB ByteArray.empty = false := by rfl
theorem empty_of (s : ByteArray) (h : ¬ 0 < s.size) : s = ByteArray.empty := by
  apply ByteArray.ext
  have : s.data.size = 0 := by have h1 : s.data.size = s.size := rfl; omega
  exact Array.eq_empty_of_size_eq_zero this

set_option maxHeartbeats 400000 in
theorem name_any (s : ByteArray) (w : World) (hs : s.size ≤ maxLen) : Calls Try.prog 53 #[.string s] w fun e w' => e = .returned (.bool (nameB s)) ∧ w = w' := by
  by_cases h0 : 0 < s.size
  · obtain ⟨g1, _⟩ := name_facts s h0
    have hE : s.toList.isEmpty = false := by rw [Bool.eq_false_iff]; intro e; exact g1 (List.isEmpty_iff.1 e)
    have hs' := hs
    have he : ((s.size : Int) == 0) = false := by rw [Bool.eq_false_iff]; intro e; rw [beq_iff_eq] at e; omega
    unfold maxLen at hs
    by_cases h20 : s.size ≤ 20
    · by_cases hl : letterB s[0].toNat = true
      · go_enter Try.func53, Try.ntmps53
        go_wp2_with (first | (go_at_call 74; refine (letter_any _ _).mono ?_; rintro e w' ⟨rfl, rfl⟩) | (go_at_call 75; refine (word_any _ _ hs').mono ?_; rintro e w' ⟨rfl, rfl⟩))
        go_ret
        exact ⟨ret_bool (name_yes s h0 h20 hl), rfl⟩
      · have hl := Bool.eq_false_iff.2 hl
        go_enter Try.func53, Try.ntmps53
        go_wp2_with (first | (go_at_call 74; refine (letter_any _ _).mono ?_; rintro e w' ⟨rfl, rfl⟩))
        go_ret
        exact ⟨ret_bool (name_no s h0 hl).symm, rfl⟩
    · go_enter Try.func53, Try.ntmps53
      go_wp2
      go_ret
      exact ⟨ret_bool (name_big s h20).symm, rfl⟩
  · obtain rfl := empty_of s h0
    go_enter Try.func53, Try.ntmps53
    go_wp2
    go_ret
    exact ⟨ret_bool (by rw [name_no0]), rfl⟩

set_option maxHeartbeats 400000 in
theorem rname_any (s : ByteArray) (w : World) (hs : s.size ≤ maxLen) : Calls Try.prog 40 #[.string s] w fun e w' => e = .returned (.bool (nameB s)) ∧ w = w' := by
  by_cases h0 : 0 < s.size
  · obtain ⟨_, g1⟩ := name_facts s h0
    have hs' := hs
    have he : ((s.size : Int) == 0) = false := by rw [Bool.eq_false_iff]; intro e; rw [beq_iff_eq] at e; omega
    unfold maxLen at hs
    by_cases h20 : s.size ≤ 20
    · by_cases hl : letterB s[0].toNat = true
      · have hd : decide ((20 : Int) < (s.size : Int)) = false := decide_eq_false (by omega)
        go_enter Try.func40, Try.ntmps40
        go_wp2_with (first | (go_at_call 67; refine (rletter_any _ _).mono ?_; rintro e w' ⟨rfl, rfl⟩) | (go_at_call 68; refine (rword_any _ _ hs').mono ?_; rintro e w' ⟨rfl, rfl⟩))
        go_ret
        exact ⟨ret_bool (name_yes s h0 h20 hl), rfl⟩
      · have hl := Bool.eq_false_iff.2 hl
        go_enter Try.func40, Try.ntmps40
        go_wp2_with (first | (go_at_call 67; refine (rletter_any _ _).mono ?_; rintro e w' ⟨rfl, rfl⟩))
        go_ret
        exact ⟨ret_bool (name_no s h0 hl).symm, rfl⟩
    · go_enter Try.func40, Try.ntmps40
      go_wp2
      go_ret
      exact ⟨ret_bool (name_big s h20).symm, rfl⟩
  · obtain rfl := empty_of s h0
    go_enter Try.func40, Try.ntmps40
    go_wp2
    go_ret
    exact ⟨ret_bool (by rw [name_no0]), rfl⟩

end Go.Proofs.Ytlaplbkekfnldaa
