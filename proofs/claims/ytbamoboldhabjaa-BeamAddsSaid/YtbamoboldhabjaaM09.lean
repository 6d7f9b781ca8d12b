/- Joined by merge.py: PlG1, PlRw, PlG2, PlG3, PlG4, PlG5, PlH1, PlJ1, PlJ1c, PlK3, PlQ8a, PlR8, PlR9, PlR10, PlK1, PlQ8, PlQ8b, PlQ10, PlK0, PlJ0, PlK7, PlQ9, PlR11, PlR12, PlR13, PlR14, PlR15, PlV1, PlV2, PlV3, PlV4, PlK6, PlQ11, PlT1, PlK8. -/
import Derived.Test.YtbamoboldhabjaaM08
/- The reference's numbers of many digits (base 2^24): trim, larger, digit, plus, minus. -/
namespace Go.Proofs.Ytbamoboldhabjaa
set_option linter.unusedVariables false
set_option linter.unusedSimpArgs false

theorem tight_snoc {d : List Int} {x : Int} (h : x ≠ 0) : tight (d ++ [x]) := by
 unfold tight; simpa using h
theorem dg_out {l : List Int} {k : Nat} (h : l.length ≤ k) : dg l k = 0 := by simp [dg, h]
theorem tight_take {l : List Int} {m : Nat} (h : m < l.length) (hx : dg l m ≠ 0) : tight (l.take (m + 1)) := by
 rw [take_snoc h]
 rw [dg_get h] at hx
 exact tight_snoc hx
theorem g_trim {neg : Bool} {l : List Int} (hd : dig (16777216 : Int) l) (hl : l.length ≤ 16500000) : ∃ r : TBig, F_ref08_trim ⟨neg, l⟩ = some r ∧ (bv (16777216 : Int) r.d = bv (16777216 : Int) l ∧ dig (16777216 : Int) r.d ∧ tight r.d ∧ r.d.length ≤ l.length ∧ (r.neg = true ↔ neg = true ∧ bv (16777216 : Int) l ≠ 0)) := by
 unfold F_ref08_trim
 refine iter_bind (Q := fun r : Int × Unit => ∃ m : Nat, r = ((m : Int), ()) ∧ m ≤ l.length ∧ bv (16777216 : Int) (l.take m) = bv (16777216 : Int) l ∧ tight (l.take m))
  (fun k s => ∃ m : Nat, s = ((m : Int), ()) ∧ m + k = l.length ∧ bv (16777216 : Int) (l.take m) = bv (16777216 : Int) l) l.length (by unfold big; omega) ?_ ⟨l.length, rfl, rfl, by rw [List.take_length]⟩ ?_
 ·rintro k s hk ⟨m, rfl, hm, hv⟩
  cases m with
  | zero =>
   have e0 : decide (((0 : Nat) : Int) > 0) = false := by decide
   refine .inr ⟨_, ?_, 0, rfl, Nat.zero_le _, hv, by simp [tight]⟩
   simp only [e0, cond_false, Option.bind_some]
  | succ m =>
   have e0 : decide (((m + 1 : Nat) : Int) > 0) = true := by simp
   have e1 : IntKind.i64.wrap (((m + 1 : Nat) : Int) - 1) = (m : Int) := by rw [wrap64 (by omega) (by omega)]; omega
   have hlt : m < l.length := by omega
   simp only [e0, cond_true, e1]
   rw [idx_nat hlt, ← dg_get hlt]
   simp only [Option.bind_some]
   rcases Decidable.em (dg l m = 0) with h | h
   ·have e2 : (dg l m == 0) = true := by rw [h]; rfl
    rw [e2, cond_true]
    refine .inl ⟨_, rfl, by omega, m, rfl, by omega, ?_⟩
    rw [bv_take_succ, h] at hv
    simpa using hv
   ·have e2 : (dg l m == 0) = false := by simpa using h
    rw [e2, cond_false]
    exact .inr ⟨_, rfl, m + 1, rfl, by omega, hv, tight_take hlt h⟩
 ·rintro _ ⟨m, rfl, hm, hv, ht⟩
  simp only [Int.toNat_natCast]
  rw [if_pos ⟨by omega, by omega, by omega⟩]
  have hd2 := dig_take hd m
  have hz := bv_zero (by decide) hd2 ht
  rw [hv] at hz
  have hd0 : List.drop (Int.toNat 0) (l.take m) = l.take m := rfl
  rw [hd0]
  rcases Decidable.em (m = 0) with h | h
  ·have e2 : ((m : Int) == 0) = true := by simp [h]
   rw [e2, cond_true]
   refine ⟨_, rfl, hv, hd2, ht, by simp; omega, ?_⟩
   have : bv (16777216 : Int) l = 0 := hz.2 (by rw [h]; rfl)
   simp [this]
  ·have e2 : ((m : Int) == 0) = false := by simp; omega
   rw [e2, cond_false]
   refine ⟨_, rfl, hv, hd2, ht, by simp; omega, ?_⟩
   have : bv (16777216 : Int) l ≠ 0 := fun e => by
    have hl2 : (l.take m).length = m := by simp; omega
    rw [hz.1 e] at hl2
    simp at hl2
    omega
   simp [this]
theorem g_larger (a b : List Int) (ha : dig (16777216 : Int) a) (hb : dig (16777216 : Int) b) (hta : tight a) (htb : tight b) (hla : a.length ≤ 16500000) (hlb : b.length ≤ 16500000) :
  F_ref08_larger a b = some (decide (bv (16777216 : Int) b < bv (16777216 : Int) a)) := by
 suffices h : ∃ r, F_ref08_larger a b = some r ∧ r = decide (bv (16777216 : Int) b < bv (16777216 : Int) a) by
  obtain ⟨r, h1, rfl⟩ := h
  exact h1
 unfold F_ref08_larger
 rcases Decidable.em (a.length = b.length) with he | hne
 ·have e0 : (((a.length : Nat) : Int) != ((b.length : Nat) : Int)) = false := by rw [he]; simp
  rw [e0, cond_false]
  refine iter_bind (Q := fun r : (Bool × Unit) ⊕ Unit => match r with
    | .inl y => y.1 = decide (bv (16777216 : Int) b < bv (16777216 : Int) a)
    | .inr _ => false = decide (bv (16777216 : Int) b < bv (16777216 : Int) a))
   (fun k s => ∃ m, m + k = a.length ∧ s = ((m : Int) - 1, ()) ∧ a.drop m = b.drop m) a.length (by unfold big; omega) ?_ ⟨a.length, by omega, by rw [wrap64 (by omega) (by omega)], by rw [List.drop_length, he, List.drop_length]⟩ ?_
  ·rintro k s hk ⟨m, hm, rfl, hdr⟩
   cases m with
   | zero =>
    have e1 : decide ((((0 : Nat) : Int) - 1) ≥ 0) = false := by decide
    refine .inr ⟨.inr (), by simp only [e1, cond_false], ?_⟩
    simp only [List.drop_zero] at hdr
    subst hdr
    exact (decide_eq_false (by omega)).symm
   | succ m =>
    have e1 : decide ((((m + 1 : Nat) : Int) - 1) ≥ 0) = true := by simp
    have e2 : (((m + 1 : Nat) : Int) - 1) = (m : Int) := by omega
    have hma : m < a.length := by omega
    have hmb : m < b.length := by omega
    have ga : dg a m = a[m] := by simp [dg, hma]
    have gb : dg b m = b[m] := by simp [dg, hmb]
    simp only [e1, cond_true]
    rw [e2, idx_nat hma, idx_nat hmb]
    simp only [Option.bind_some]
    rw [← ga, ← gb]
    rcases Decidable.em (dg a m = dg b m) with h | h
    ·have e3 : (dg a m != dg b m) = false := by rw [h]; simp
     rw [e3, cond_false]
     refine .inl ⟨_, rfl, by omega, m, by omega, ?_, ?_⟩
     ·rw [wrap64 (by omega) (by omega)]
     ·rw [List.drop_eq_getElem_cons hma, List.drop_eq_getElem_cons hmb, hdr, ← ga, ← gb, h]
    ·have e3 : (dg a m != dg b m) = true := by simpa using h
     rw [e3, cond_true]
     rcases Int.lt_or_le (dg a m) (dg b m) with h2 | h2
     ·have e4 : decide (dg a m > dg b m) = false := by simp; omega
      have := bv_lt_of (by decide) ha hb he hma hdr h2
      refine .inr ⟨_, rfl, ?_⟩
      show decide (dg a m > dg b m) = _
      rw [e4]; exact (decide_eq_false (by omega)).symm
     ·have e4 : decide (dg a m > dg b m) = true := by simp; omega
      have := bv_lt_of (by decide) hb ha he.symm hmb hdr.symm (by omega)
      refine .inr ⟨_, rfl, ?_⟩
      show decide (dg a m > dg b m) = _
      rw [e4]; exact (decide_eq_true (by omega)).symm
  ·rintro (y | y) h
   ·exact ⟨y.1, rfl, h⟩
   ·exact ⟨false, rfl, h⟩
 ·have e0 : (((a.length : Nat) : Int) != ((b.length : Nat) : Int)) = true := by simp; omega
  rw [e0, cond_true]
  refine ⟨_, rfl, ?_⟩
  rcases Nat.lt_or_ge a.length b.length with h | h
  ·have := bv_lt_len (by decide) ha hb htb h
   rw [decide_eq_false (by omega), decide_eq_false (by omega)]
  ·have := bv_lt_len (by decide) hb ha hta (by omega)
   rw [decide_eq_true (by omega), decide_eq_true (by omega)]
theorem g_digit (l : List Int) (k : Nat) : F_ref08_digit l (k : Int) = some (dg l k) := by
 unfold F_ref08_digit
 rcases Nat.lt_or_ge k l.length with h | h
 ·have e0 : decide ((k : Int) < ((l.length : Nat) : Int)) = true := by simp; omega
  rw [e0, cond_true, idx_nat h, dg_get h]; rfl
 ·have e0 : decide ((k : Int) < ((l.length : Nat) : Int)) = false := by simp; omega
  rw [e0, cond_false]
  have : dg l k = 0 := by simp [dg, h]
  rw [this]
theorem bv_take_all {l : List Int} {k : Nat} (h : l.length ≤ k) : bv (16777216 : Int) (l.take k) = bv (16777216 : Int) l := by rw [List.take_of_length_le h]
theorem h_plus (a b : List Int) (ha : dig (16777216 : Int) a) (hb : dig (16777216 : Int) b) (hta : tight a) (htb : tight b) (hla : a.length ≤ 16500000) (hlb : b.length ≤ 16500000) :
  ∃ r, F_ref08_plus a b = some r ∧ (bv (16777216 : Int) r = bv (16777216 : Int) a + bv (16777216 : Int) b ∧ dig (16777216 : Int) r ∧ tight r ∧ r.length ≤ max a.length b.length + 1) := by
 unfold F_ref08_plus
 obtain ⟨m, hm⟩ : ∃ m, max a.length b.length = m := ⟨_, rfl⟩
 rw [hm]
 refine iter_bind (Q := fun r : List Int × Unit => bv (16777216 : Int) r.1 = bv (16777216 : Int) a + bv (16777216 : Int) b ∧ dig (16777216 : Int) r.1 ∧ tight r.1 ∧ r.1.length ≤ m + 1)
  (fun k s => ∃ c out, s = (c, (k : Int), out, ()) ∧ out.length = k ∧ dig (16777216 : Int) out ∧ 0 ≤ c ∧ c ≤ 1 ∧ bv (16777216 : Int) out + (16777216 : Int) ^ k * c = bv (16777216 : Int) (a.take k) + bv (16777216 : Int) (b.take k) ∧ (m < k → c = 0) ∧ (m ≤ k → c = 0 → tight out)) (m + 1) (by unfold big; omega) ?_ ⟨0, [], rfl, rfl, (fun x hx => nomatch hx), by omega, by omega, by simp [bv], fun _ => rfl, fun _ _ => by simp [tight]⟩ ?_
 ·rintro k s hk ⟨c, out, rfl, hlo, hdo, hc0, hc1, hv, hcm, htm⟩
  simp only
  obtain ⟨t, ht1, ht2⟩ : ∃ t : Bool, ((bif (decide ((k : Int) < ((a.length : Nat) : Int))) then some (true, ()) else (bif (decide ((k : Int) < ((b.length : Nat) : Int))) then some (true, ()) else some ((decide (c > 0)), ()))) : Option (Bool × Unit)) = some (t, ()) ∧ (t = true ↔ k < m ∨ 0 < c) := by
   rcases Nat.lt_or_ge k a.length with h | h
   ·have e0 : decide ((k : Int) < ((a.length : Nat) : Int)) = true := by simp; omega
    rw [e0]; exact ⟨true, rfl, by simp; omega⟩
   ·have e0 : decide ((k : Int) < ((a.length : Nat) : Int)) = false := by simp; omega
    rw [e0, cond_false]
    rcases Nat.lt_or_ge k b.length with h2 | h2
    ·have e0 : decide ((k : Int) < ((b.length : Nat) : Int)) = true := by simp; omega
     rw [e0]; exact ⟨true, rfl, by simp; omega⟩
    ·have e0 : decide ((k : Int) < ((b.length : Nat) : Int)) = false := by simp; omega
     rw [e0, cond_false]
     exact ⟨_, rfl, by simp; omega⟩
  rw [ht1]
  simp only [Option.bind_some]
  rcases Bool.eq_false_or_eq_true t with h | h
  ·have hor := ht2.1 h
   subst h
   have hkm : k < m + 1 := by
    rcases hor with h | h
    ·omega
    ·rcases Nat.lt_or_ge m k with h2 | h2
     ·have := hcm h2; omega
     ·omega
   simp only [cond_true]
   rw [g_digit, g_digit]
   simp only [Option.bind_some]
   have hx := dg_range (by decide) ha k
   have hy := dg_range (by decide) hb k
   have h1 := bv_take_succ (16777216 : Int) a k
   have h2 := bv_take_succ (16777216 : Int) b k
   obtain ⟨x, hxe⟩ : ∃ x, dg a k = x := ⟨_, rfl⟩
   obtain ⟨y, hye⟩ : ∃ y, dg b k = y := ⟨_, rfl⟩
   rw [hxe] at hx h1 ⊢
   rw [hye] at hy h2 ⊢
   have w1 : IntKind.i64.wrap (IntKind.i64.wrap (x + y) + c) = x + y + c := by rw [wrap64 (n := x + y) (by omega) (by omega), wrap64 (by omega) (by omega)]
   rw [w1, if_pos (by simp; omega), Int.tmod_eq_emod_of_nonneg (by omega), Int.tdiv_eq_ediv_of_nonneg (by omega), wrap64 (n := (x + y + c) / 16777216) (by omega) (by omega), wrap64 (n := (k : Int) + 1) (by omega) (by omega)]
   refine .inl ⟨_, rfl, hkm, _, _, rfl, by simp [hlo], dig_snoc hdo (by omega) (by omega), by omega, by omega, ?_, ?_, ?_⟩
   ·rw [bv_append, hlo, h1, h2]
    simp only [bv, Int.mul_zero, Int.add_zero]
    have h3 : (16777216 : Int) ^ (k + 1) = (16777216 : Int) ^ k * (16777216 : Int) := Int.pow_succ _ _
    have h4 := Int.emod_add_mul_ediv (x + y + c) (16777216 : Int)
    rw [h3]
    generalize (x + y + c) % (16777216 : Int) = q at h4 ⊢
    generalize (x + y + c) / (16777216 : Int) = t at h4 ⊢
    generalize bv (16777216 : Int) (a.take k) = A at *
    generalize bv (16777216 : Int) (b.take k) = D at *
    grind
   ·intro hlt
    have hk2 : m = k := by omega
    have : x = 0 := by rw [← hxe]; exact dg_out (by omega)
    have : y = 0 := by rw [← hye]; exact dg_out (by omega)
    omega
   ·intro hle hz
    rcases Nat.lt_or_ge k m with h | h
    ·-- the last digit of the longer one
     have hk2 : m = k + 1 := by omega
     have hone : x ≠ 0 ∨ y ≠ 0 := by
      rcases Nat.lt_or_ge k a.length with h3 | h3
      ·left
       intro e
       have : a = a.take k ++ [a[k]] := by rw [← take_snoc h3, List.take_of_length_le (by omega)]
       apply hta
       rw [this, ← dg_get h3, hxe, e]; simp
      ·right
       intro e
       have h4 : k < b.length := by omega
       have : b = b.take k ++ [b[k]] := by rw [← take_snoc h4, List.take_of_length_le (by omega)]
       apply htb
       rw [this, ← dg_get h4, hye, e]; simp
     exact tight_snoc (by omega)
    ·have : x = 0 := by rw [← hxe]; exact dg_out (by omega)
     have : y = 0 := by rw [← hye]; exact dg_out (by omega)
     exact tight_snoc (by omega)
  ·have hor : ¬(k < m ∨ 0 < c) := by rw [← ht2, h]; simp
   subst h
   have hc : c = 0 := by omega
   refine .inr ⟨(out, ()), by simp only [cond_false], ?_, hdo, htm (by omega) hc, by show out.length ≤ _; omega⟩
   rw [hc, bv_take_all (by omega), bv_take_all (by omega)] at hv
   show bv (16777216 : Int) out = _
   rw [← hv]; simp
 ·rintro ⟨r, u⟩ ⟨q1, q2, q3, q4⟩
  exact ⟨r, rfl, q1, q2, q3, q4⟩
theorem h_minus (a b : List Int) (ha : dig (16777216 : Int) a) (hb : dig (16777216 : Int) b) (hla : a.length ≤ 16500000) (hle : b.length ≤ a.length) (hv0 : bv (16777216 : Int) b ≤ bv (16777216 : Int) a) :
  ∃ r, F_ref08_minus a b = some r ∧ (bv (16777216 : Int) r = bv (16777216 : Int) a - bv (16777216 : Int) b ∧ dig (16777216 : Int) r ∧ r.length = a.length) := by
 unfold F_ref08_minus
 refine iter_bind (Q := fun r : List Int × Unit => bv (16777216 : Int) r.1 = bv (16777216 : Int) a - bv (16777216 : Int) b ∧ dig (16777216 : Int) r.1 ∧ r.1.length = a.length)
  (fun k s => ∃ c out, s = (c, (k : Int), out, ()) ∧ k ≤ a.length ∧ out.length = k ∧ dig (16777216 : Int) out ∧ 0 ≤ c ∧ c ≤ 1 ∧ bv (16777216 : Int) out - (16777216 : Int) ^ k * c = bv (16777216 : Int) (a.take k) - bv (16777216 : Int) (b.take k)) a.length (by unfold big; omega) ?_ ⟨0, [], rfl, Nat.zero_le _, rfl, (fun x hx => nomatch hx), by omega, by omega, by simp [bv]⟩ ?_
 ·rintro k s hk ⟨c, out, rfl, _, hlo, hdo, hc0, hc1, hv⟩
  rcases Nat.lt_or_ge k a.length with hlt | hge
  ·have e0 : decide ((k : Int) < ((a.length : Nat) : Int)) = true := by simp; omega
   simp only [e0, cond_true]
   rw [idx_nat hlt, ← dg_get hlt, g_digit]
   simp only [Option.bind_some]
   have hx := dg_range (by decide) ha k
   have hy := dg_range (by decide) hb k
   have h1 := bv_take_succ (16777216 : Int) a k
   have h2 := bv_take_succ (16777216 : Int) b k
   obtain ⟨x, hxe⟩ : ∃ x, dg a k = x := ⟨_, rfl⟩
   obtain ⟨y, hye⟩ : ∃ y, dg b k = y := ⟨_, rfl⟩
   rw [hxe] at hx h1 ⊢
   rw [hye] at hy h2 ⊢
   have w1 : IntKind.i64.wrap (IntKind.i64.wrap (x - y) - c) = x - y - c := by rw [wrap64 (n := x - y) (by omega) (by omega), wrap64 (by omega) (by omega)]
   rw [w1]
   refine .inl (step_of hlt ?_)
   have hp : ∃ c' z, ((bif (decide (x - y - c < 0)) then some (1, (IntKind.i64.wrap (x - y - c + 16777216)), ()) else some (0, (x - y - c), ()) : Option (Int × Int × Unit))) = some (c', z, ()) ∧ 0 ≤ c' ∧ c' ≤ 1 ∧ 0 ≤ z ∧ z < 16777216 ∧ z - 16777216 * c' = x - y - c := by
    rcases Int.lt_or_le (x - y - c) 0 with h | h
    ·have e : decide (x - y - c < 0) = true := by simpa using h
     rw [e]
     exact ⟨1, x - y - c + 16777216, by rw [wrap64 (by omega) (by omega)]; rfl, by omega, by omega, by omega, by omega, by omega⟩
    ·have e : decide (x - y - c < 0) = false := by simpa using h
     rw [e]
     exact ⟨0, x - y - c, rfl, by omega, by omega, by omega, by omega, by omega⟩
   obtain ⟨c', z, p1, p2, p3, p4, p5, p6⟩ := hp
   rw [p1]
   simp only [Option.bind_some]
   rw [if_pos (by simp; omega), wrap64 (n := (k : Int) + 1) (by omega) (by omega)]
   refine ⟨_, rfl, _, rfl, c', _, rfl, hlt, by simp [hlo], dig_snoc hdo p4 p5, p2, p3, ?_⟩
   rw [bv_append, hlo, h1, h2]
   simp only [bv, Int.mul_zero, Int.add_zero]
   have h3 : (16777216 : Int) ^ (k + 1) = (16777216 : Int) ^ k * (16777216 : Int) := Int.pow_succ _ _
   rw [h3]
   generalize bv (16777216 : Int) (a.take k) = A at *
   generalize bv (16777216 : Int) (b.take k) = D at *
   grind
  ·have hk' : k = a.length := by omega
   subst hk'
   have e0 : decide (((a.length : Nat) : Int) < ((a.length : Nat) : Int)) = false := by simp
   refine .inr ⟨(out, ()), by simp only [e0, cond_false], ?_, hdo, hlo⟩
   rw [List.take_length, bv_take_all hle] at hv
   have hr := bv_range (by decide) hdo
   rw [hlo] at hr
   show bv (16777216 : Int) out = _
   have hc : c = 0 := by
    rcases Int.lt_or_le c 1 with h | h
    ·omega
    ·have : c = 1 := by omega
     rw [this, Int.mul_one] at hv
     omega
   rw [hc, Int.mul_zero, Int.sub_zero] at hv
   exact hv
 ·rintro ⟨r, u⟩ ⟨q1, q2, q3⟩
  exact ⟨r, rfl, q1, q2, q3⟩
end Go.Proofs.Ytbamoboldhabjaa

/- The reference's numbers of many digits: Int, Neg, Product, Sum, half, even. -/
namespace Go.Proofs.Ytbamoboldhabjaa
set_option linter.unusedVariables false
set_option linter.unusedSimpArgs false

theorem r_size {n : Int} (h : -9223372036854775808 ≤ n) (h2 : n ≤ 9223372036854775807) : F_ref02_Size n = some (n.natAbs : Int) := by
 unfold F_ref02_Size
 rw [wrap_u, wrap_u]
 by_cases hn : n < 0
 ·rw [decide_eq_true hn, cond_true]; congr 1; omega
 ·rw [decide_eq_false hn, cond_false]; congr 1; omega
structure Wg (l : List Int) (v : Nat) : Prop where
 dig : dig (16777216 : Int) l
 tight : tight l
 len : l.length ≤ 16000000
 val : bv (16777216 : Int) l = v
structure Nb (a : TBig) (v : Int) : Prop where
 w : Wg a.d v.natAbs
 neg : a.neg = true ↔ v < 0
 len : a.d.length ≤ 8000000
theorem Wg.zero {l : List Int} {v : Nat} (h : Wg l v) : l = [] ↔ v = 0 := by
 rw [← bv_zero (by decide) h.dig h.tight, h.val]; omega
theorem Wg.lt {l : List Int} {v : Nat} (h : Wg l v) : v < 2 ^ (24 * l.length) := by
 have h1 := (bv_range (by decide) h.dig).2
 rw [h.val] at h1
 have e : (16777216 : Int) ^ l.length = ((2 ^ (24 * l.length) : Nat) : Int) := by
  rw [Nat.pow_mul, Int.natCast_pow]; rfl
 rw [e] at h1
 exact_mod_cast h1
theorem Wg.le {a b : List Int} {u v : Nat} (ha : Wg a u) (hb : Wg b v) (h : u ≤ v) : a.length ≤ b.length := by
 rcases Nat.lt_or_ge b.length a.length with hl | hl
 ·have := bv_lt_len (by decide) hb.dig ha.dig ha.tight hl
  rw [ha.val, hb.val] at this
  omega
 ·exact hl
theorem Wg.add {a b : List Int} {u v : Nat} (ha : Wg a u) (hb : Wg b v) (hl : max a.length b.length + 1 ≤ 16000000) : ∃ r, F_ref08_plus a b = some r ∧ Wg r (u + v) ∧ r.length ≤ max a.length b.length + 1 := by
 obtain ⟨r, r1, r2, r3, r4, r5⟩ := h_plus a b ha.dig hb.dig ha.tight hb.tight (by have := ha.len; omega) (by have := hb.len; omega)
 exact ⟨r, r1, ⟨r3, r4, by omega, by rw [r2, ha.val, hb.val]; omega⟩, r5⟩
theorem Wg.larger {a b : List Int} {u v : Nat} (ha : Wg a u) (hb : Wg b v) : F_ref08_larger a b = some (decide (v < u)) := by
 rw [g_larger a b ha.dig hb.dig ha.tight hb.tight (by have := ha.len; omega) (by have := hb.len; omega), ha.val, hb.val]
 congr 1; apply decide_eq_decide.mpr; omega
theorem Wg.sub {a b : List Int} {u v : Nat} (neg : Bool) (ha : Wg a u) (hb : Wg b v) (h : v ≤ u) : ∃ r t, F_ref08_minus a b = some r ∧ F_ref08_trim ⟨neg, r⟩ = some t ∧ Wg t.d (u - v) ∧ t.d.length ≤ a.length ∧ (t.neg = true ↔ neg = true ∧ u - v ≠ 0) := by
 obtain ⟨r, r1, r2, r3, r4⟩ := h_minus a b ha.dig hb.dig (by have := ha.len; omega) (hb.le ha h) (by rw [ha.val, hb.val]; omega)
 obtain ⟨t, t1, t2, t3, t4, t5, t6⟩ := g_trim (neg := neg) r3 (by rw [r4]; have := ha.len; omega)
 have hv : bv (16777216 : Int) r = ((u - v : Nat) : Int) := by rw [r2, ha.val, hb.val]; omega
 refine ⟨r, t, r1, t1, ⟨t3, t4, by have := ha.len; omega, by rw [t2, hv]⟩, by omega, ?_⟩
 rw [t6, hv]
 exact and_congr_right fun _ => by omega
theorem g_int (n : Int) (h1 : -9223372036854775808 ≤ n) (h2 : n ≤ 9223372036854775807) : ∃ r, F_ref08_Int n = some r ∧ Nb r n ∧ r.d.length ≤ 3 := by
 unfold F_ref08_Int
 rw [r_size h1 h2]
 simp only [Option.bind_some]
 refine iter_bind (Q := fun r : TBig × Unit => Nb r.1 n ∧ r.1.d.length ≤ 3)
  (fun k s => ∃ (m : Nat) (out : List Int), s = ((m : Int), ⟨decide (n < 0), out⟩, ()) ∧ out.length = k ∧ dig (16777216 : Int) out ∧ bv (16777216 : Int) out + (16777216 : Int) ^ k * m = n.natAbs ∧ (m = 0 → tight out)) 3 (by unfold big; omega) ?_ ⟨n.natAbs, [], rfl, rfl, (fun x hx => nomatch hx), by simp [bv], fun _ => by simp [tight]⟩ ?_
 ·rintro k s hk ⟨m, out, rfl, hlo, hdo, hv, ht⟩
  have hr := (bv_range (by decide) hdo).1
  have hp : 0 < (16777216 : Int) ^ k := Int.pow_pos (by decide)
  have hmb : (m : Int) ≤ n.natAbs := by
   have := Int.mul_le_mul_of_nonneg_right (show 1 ≤ (16777216 : Int) ^ k from hp) (show 0 ≤ (m : Int) by omega)
   omega
  rcases Nat.eq_zero_or_pos m with h | h
  ·subst h
   have e0 : decide (((0 : Nat) : Int) > 0) = false := by decide
   refine .inr ⟨(⟨decide (n < 0), out⟩, ()), by simp only [e0, cond_false], ⟨⟨hdo, ht rfl, by show out.length ≤ _; omega, ?_⟩, by simp, by show out.length ≤ _; omega⟩, by show out.length ≤ _; omega⟩
   show bv (16777216 : Int) out = _
   rw [← hv]; simp
  ·have e0 : decide ((m : Int) > 0) = true := by simp; omega
   have hk3 : k < 3 := by
    rcases Nat.lt_or_ge k 3 with h3 | h3
    ·exact h3
    ·have : k = 3 := by omega
     subst this
     omega
   have w1 : IntKind.u64.wrap ((m : Int).tdiv 16777216) = ((m / 16777216 : Nat) : Int) := by
    rw [Int.tdiv_eq_ediv_of_nonneg (by omega), wrap_u]; omega
   have w2 : IntKind.i64.wrap ((m : Int).tmod 16777216) = ((m % 16777216 : Nat) : Int) := by
    rw [Int.tmod_eq_emod_of_nonneg (by omega), wrap64 (by omega) (by omega)]; omega
   refine .inl ⟨_, ?_, hk3, m / 16777216, out ++ [((m % 16777216 : Nat) : Int)], rfl, by simp [hlo], dig_snoc hdo (by omega) (by omega), ?_, fun hz => tight_snoc (by omega)⟩
   ·simp only [e0, cond_true]
    rw [w1, w2, if_pos (by simp; omega)]
   ·rw [bv_append, hlo, ← hv]
    simp only [bv, Int.mul_zero, Int.add_zero]
    have h3 : (16777216 : Int) ^ (k + 1) = (16777216 : Int) ^ k * (16777216 : Int) := Int.pow_succ _ _
    have h4 : (m : Int) = ((m % 16777216 : Nat) : Int) + 16777216 * ((m / 16777216 : Nat) : Int) := by omega
    rw [h3]
    generalize ((m % 16777216 : Nat) : Int) = q at h4 ⊢
    generalize ((m / 16777216 : Nat) : Int) = t at h4 ⊢
    rw [h4]
    grind
 ·rintro ⟨r, u⟩ ⟨q1, q2⟩
  exact ⟨r, rfl, q1, q2⟩
theorem g_neg {a : TBig} {v : Int} (h : Nb a v) : ∃ r, F_ref08_Neg a = some r ∧ Nb r (-v) ∧ r.d = a.d := by
 unfold F_ref08_Neg
 have hz := h.w.zero
 have hw : Wg a.d (-v).natAbs := by rw [Int.natAbs_neg]; exact h.w
 cases hn : a.neg with
 | false =>
  have h2 := h.neg
  rw [hn] at h2
  refine ⟨_, rfl, ⟨hw, ?_, h.len⟩, rfl⟩
  show decide (((a.d.length : Nat) : Int) > 0) = true ↔ -v < 0
  rw [decide_eq_true_iff]
  have : 0 < a.d.length ↔ a.d ≠ [] := List.length_pos_iff
  rw [ne_eq, hz] at this
  simp at h2
  omega
 | true =>
  have h2 := h.neg
  rw [hn] at h2
  refine ⟨_, rfl, ⟨hw, ?_, h.len⟩, rfl⟩
  simp at h2 ⊢; omega
set_option maxHeartbeats 1000000 in
theorem g_product {a b : TBig} {v w : Int} (ha : Nb a v) (hb : Nb b w) (hl : a.d.length + b.d.length + 1 ≤ 8000000) : ∃ r, F_ref08_Product a b = some r ∧ Nb r (v * w) ∧ r.d.length ≤ a.d.length + b.d.length + 1 := by
 unfold F_ref08_Product
 have hw : IntKind.i64.wrap ((IntKind.i64.wrap (((a.d.length : Nat) : Int) + ((b.d.length : Nat) : Int))) + 1) = ((a.d.length + b.d.length + 1 : Nat) : Int) := by rw [wrap64 (n := ((a.d.length : Nat) : Int) + ((b.d.length : Nat) : Int)) (by omega) (by omega), wrap64 (by omega) (by omega)]; omega
 rw [hw, if_pos ⟨by omega, by omega⟩]
 simp only [Int.toNat_natCast]
 have hda := ha.w.dig
 have hdb := hb.w.dig
 obtain ⟨x, hx⟩ : ∃ x, a.d = x := ⟨_, rfl⟩
 obtain ⟨y, hy⟩ : ∃ y, b.d = y := ⟨_, rfl⟩
 rw [hx] at hda hl ⊢
 rw [hy] at hdb hl ⊢
 refine iter_bind (Q := fun r : List Int × Unit => bv (16777216 : Int) r.1 = bv (16777216 : Int) x * bv (16777216 : Int) y ∧ dig (16777216 : Int) r.1 ∧ r.1.length = x.length + y.length + 1)
  (fun i s => ∃ out, s = ((i : Int), out, ()) ∧ i ≤ x.length ∧ out.length = x.length + y.length + 1 ∧ dig (16777216 : Int) out ∧ bv (16777216 : Int) out = bv (16777216 : Int) (x.take i) * bv (16777216 : Int) y ∧ ∀ q, i + y.length ≤ q → dg out q = 0)
  x.length (by unfold big; omega) ?_ ⟨List.replicate (x.length + y.length + 1) 0, rfl, Nat.zero_le _, by simp, ?_, ?_, ?_⟩ ?_
 ·rintro i s hi ⟨out, rfl, _, hlen, hdo, hv, hz⟩
  rcases Nat.lt_or_ge i x.length with hlt | hge
  ·refine .inl (step_of hlt ?_)
   have e0 : decide ((i : Int) < ((x.length : Nat) : Int)) = true := by simp; omega
   simp only [e0, cond_true]
   have hxi := dg_range (by decide) hda i
   obtain ⟨p, hp⟩ : ∃ p, dg x i = p := ⟨_, rfl⟩
   rw [hp] at hxi
   refine iter_bind (Q := fun r : List Int × Unit => r.1.length = x.length + y.length + 1 ∧ dig (16777216 : Int) r.1 ∧ bv (16777216 : Int) r.1 = bv (16777216 : Int) out + p * bv (16777216 : Int) y * (16777216 : Int) ^ i ∧ ∀ q, i + 1 + y.length ≤ q → dg r.1 q = 0)
    (fun k s => ∃ c o2, s = (c, (k : Int), o2, ()) ∧ k ≤ y.length + 1 ∧ o2.length = x.length + y.length + 1 ∧ dig (16777216 : Int) o2 ∧ 0 ≤ c ∧ c < (16777216 : Int) ∧ bv (16777216 : Int) o2 + (16777216 : Int) ^ (i + k) * c = bv (16777216 : Int) out + p * bv (16777216 : Int) (y.take k) * (16777216 : Int) ^ i ∧ (y.length < k → c = 0) ∧ ∀ q, i + k ≤ q → dg o2 q = dg out q)
    (y.length + 1) (by unfold big; omega) ?_ ⟨0, out, rfl, Nat.zero_le _, hlen, hdo, by omega, by omega, by simp [bv], fun _ => rfl, fun _ _ => rfl⟩ ?_
   ·rintro k s hk ⟨c, o2, rfl, _, hl2, hd2, hc0, hc1, hv2, hcz, hz2⟩
    simp only
    obtain ⟨t, ht1, ht2⟩ : ∃ t : Bool, ((bif (decide ((k : Int) < ((y.length : Nat) : Int))) then some (true, ()) else some ((decide (c > 0)), ())) : Option (Bool × Unit)) = some (t, ()) ∧ (t = true ↔ k < y.length ∨ 0 < c) := by
     rcases Nat.lt_or_ge k y.length with h | h
     ·have e0 : decide ((k : Int) < ((y.length : Nat) : Int)) = true := by simp; omega
      rw [e0]; exact ⟨true, rfl, by simp; omega⟩
     ·have e0 : decide ((k : Int) < ((y.length : Nat) : Int)) = false := by simp; omega
      rw [e0, cond_false]
      exact ⟨_, rfl, by simp; omega⟩
    rw [ht1]
    simp only [Option.bind_some]
    rcases Bool.eq_false_or_eq_true t with ht | ht
    ·have hor := ht2.1 ht
     subst ht
     have hkl : k < y.length + 1 := by
      rcases hor with h | h
      ·omega
      ·rcases Nat.lt_or_ge y.length k with h2 | h2
       ·have := hcz h2; omega
       ·omega
     have hyk := dg_range (by decide) hdb k
     have hok := dg_range (by decide) hd2 (i + k)
     have hik : i + k < o2.length := by omega
     have e2 : IntKind.i64.wrap ((i : Int) + (k : Int)) = ((i + k : Nat) : Int) := by rw [wrap64 (by omega) (by omega)]; omega
     simp only [cond_true]
     rw [e2, idx_nat hik]
     simp only [Option.bind_some, Int.toNat_natCast]
     rw [List.getElem?_eq_getElem hik, ← dg_get hik]
     simp only [Option.bind_some]
     rw [idx_nat hlt, ← dg_get hlt, hp, g_digit]
     simp only [Option.bind_some]
     have htk := bv_take_succ (16777216 : Int) y k
     obtain ⟨g, hg⟩ : ∃ g, dg y k = g := ⟨_, rfl⟩
     obtain ⟨z, hzz⟩ : ∃ z, dg o2 (i + k) = z := ⟨_, rfl⟩
     rw [hg] at hyk htk ⊢
     rw [hzz] at hok ⊢
     have hpg0 : 0 ≤ p * g := Int.mul_nonneg hxi.1 hyk.1
     have hpg1 : p * g ≤ 16777215 * 16777215 := Int.mul_le_mul (by omega) (by omega) hyk.1 (by omega)
     obtain ⟨pg, hpg⟩ : ∃ pg, p * g = pg := ⟨_, rfl⟩
     rw [hpg] at hpg0 hpg1 ⊢
     have w1 : IntKind.i64.wrap (IntKind.i64.wrap (z + IntKind.i64.wrap pg) + c) = c + (pg + z) := by
      rw [wrap64 (n := pg) (by omega) (by omega), wrap64 (n := z + pg) (by omega) (by omega), wrap64 (by omega) (by omega)]; omega
     rw [w1, Int.tmod_eq_emod_of_nonneg (by omega), Int.tdiv_eq_ediv_of_nonneg (by omega), wrap64 (n := (c + (pg + z)) / 16777216) (by omega) (by omega), wrap64 (n := (k : Int) + 1) (by omega) (by omega)]
     refine .inl ⟨_, rfl, hkl, _, _, rfl, hkl, by simp [hl2], dig_set hd2 (by omega) (by omega), by omega, by omega, ?_, ?_, ?_⟩
     ·rw [bv_set _ _ _ _ hik, htk, hzz]
      have he := Int.emod_add_mul_ediv (c + (pg + z)) (16777216 : Int)
      generalize (c + (pg + z)) % (16777216 : Int) = q at he ⊢
      generalize (c + (pg + z)) / (16777216 : Int) = t at he ⊢
      have h1 : (16777216 : Int) ^ (i + (k + 1)) = (16777216 : Int) ^ (i + k) * (16777216 : Int) := by rw [← Nat.add_assoc]; exact Int.pow_succ _ _
      have h2 : (16777216 : Int) ^ (i + k) = (16777216 : Int) ^ i * (16777216 : Int) ^ k := Int.pow_add _ _ _
      rw [h1]
      have h3 : p * (bv (16777216 : Int) (y.take k) + (16777216 : Int) ^ k * g) * (16777216 : Int) ^ i = p * bv (16777216 : Int) (y.take k) * (16777216 : Int) ^ i + (16777216 : Int) ^ (i + k) * pg := by rw [h2, ← hpg]; grind
      rw [h3]
      grind
     ·intro hlt2
      have hky : k = y.length := by omega
      have hg0 : g = 0 := by rw [← hg]; exact dg_out (by omega)
      have hz0 : z = 0 := by rw [← hzz, hz2 _ (Nat.le_refl _)]; exact hz _ (by omega)
      have : pg = 0 := by rw [← hpg, hg0]; simp
      omega
     ·intro q hq
      rw [dg_set (by omega)]
      exact hz2 q (by omega)
    ·have hor : ¬(k < y.length ∨ 0 < c) := by rw [← ht2, ht]; simp
     subst ht
     have hc : c = 0 := by omega
     refine .inr ⟨(o2, ()), by simp only [cond_false], hl2, hd2, ?_, fun q hq => (hz2 q (by omega)).trans (hz q (by omega))⟩
     rw [hc, bv_take_all (by omega)] at hv2
     show bv (16777216 : Int) o2 = _
     rw [← hv2]; simp
   ·rintro ⟨o2, u⟩ ⟨q1, q2, q3, q4⟩
    simp only at q1 q2 q3 q4 ⊢
    rw [wrap64 (n := (i : Int) + 1) (by omega) (by omega)]
    refine ⟨_, rfl, _, rfl, _, rfl, hlt, q1, q2, ?_, q4⟩
    rw [bv_take_succ, hp, q3, hv]
    grind
  ·have hi' : i = x.length := by omega
   subst hi'
   have e0 : decide (((x.length : Nat) : Int) < ((x.length : Nat) : Int)) = false := by simp
   refine .inr ⟨(out, ()), by simp only [e0, cond_false], ?_, hdo, hlen⟩
   rw [List.take_length] at hv
   exact hv
 ·intro z hz
  have := List.eq_of_mem_replicate hz
  omega
 ·rw [bv_zeros]; simp [bv]
 ·intro q _
  unfold dg
  simp only [List.getD_eq_getElem?_getD, List.getElem?_replicate]
  split <;> rfl
 ·rintro ⟨r, u⟩ ⟨q1, q2, q3⟩
  simp only at q1 q2 q3 ⊢
  obtain ⟨t, t1, t2, t3, t4, t5, t6⟩ := g_trim (neg := !(a.neg == b.neg)) q2 (by omega)
  rw [t1]
  have va := ha.w.val
  have vb := hb.w.val
  rw [hx] at va
  rw [hy] at vb
  have hv : bv (16777216 : Int) r = (((v * w).natAbs : Nat) : Int) := by rw [q1, va, vb, Int.natAbs_mul]; simp
  refine ⟨_, rfl, ⟨⟨t3, t4, by omega, by rw [t2, hv]⟩, ?_, by omega⟩, by omega⟩
  rw [t6, hv]
  have na := ha.neg
  have nb := hb.neg
  have hsg : v * w < 0 ↔ (v < 0 ∧ 0 < w) ∨ (0 < v ∧ w < 0) := by
   constructor
   ·intro h
    rcases Int.lt_trichotomy v 0 with h1 | h1 | h1
    ·rcases Int.lt_or_le 0 w with h2 | h2
     ·exact .inl ⟨h1, h2⟩
     ·have := Int.mul_nonneg_of_nonpos_of_nonpos (Int.le_of_lt h1) h2
      omega
    ·subst h1; simp at h
    ·rcases Int.lt_or_le w 0 with h2 | h2
     ·exact .inr ⟨h1, h2⟩
     ·have := Int.mul_nonneg (Int.le_of_lt h1) h2
      omega
   ·rintro (⟨h1, h2⟩ | ⟨h1, h2⟩)
    ·exact Int.mul_neg_of_neg_of_pos h1 h2
    ·exact Int.mul_neg_of_pos_of_neg h1 h2
  have hnz : (((v * w).natAbs : Nat) : Int) ≠ 0 ↔ v ≠ 0 ∧ w ≠ 0 := by
   rw [show ((((v * w).natAbs : Nat) : Int) ≠ 0 ↔ v * w ≠ 0) from by omega]
   simp [Int.mul_eq_zero]
  rw [hsg, hnz]
  cases hna : a.neg <;> cases hnb : b.neg <;> rw [hna] at na <;> rw [hnb] at nb <;> simp at na nb ⊢ <;> omega
theorem g_sum {a b : TBig} {v w : Int} (ha : Nb a v) (hb : Nb b w) (hl : max a.d.length b.d.length + 1 ≤ 8000000) : ∃ r, F_ref08_Sum a b = some r ∧ Nb r (v + w) ∧ r.d.length ≤ max a.d.length b.d.length + 1 := by
 unfold F_ref08_Sum
 have na := ha.neg
 have nb := hb.neg
 rcases Decidable.em (a.neg = b.neg) with he | hne
 ·have e0 : (a.neg == b.neg) = true := by simpa using he
  rw [e0, cond_true]
  obtain ⟨r, r1, r2, r3⟩ := ha.w.add hb.w (by omega)
  rw [r1]
  have hs : (v < 0 ↔ w < 0) := by rw [← na, ← nb, he]
  refine ⟨_, rfl, ⟨?_, ?_, by show r.length ≤ _; omega⟩, r3⟩
  ·rw [show (v + w).natAbs = v.natAbs + w.natAbs from by omega]; exact r2
  ·show a.neg = true ↔ _
   rw [na]; omega
 ·have e0 : (a.neg == b.neg) = false := by simpa using hne
  rw [e0, cond_false, hb.w.larger ha.w]
  simp only [Option.bind_some]
  have hs : ¬(v < 0 ↔ w < 0) := by
   rw [← na, ← nb]
   cases ha2 : a.neg <;> cases hb2 : b.neg <;> simp [ha2, hb2] at hne ⊢
  rcases Nat.lt_or_ge v.natAbs w.natAbs with h | h
  ·rw [decide_eq_true h]
   simp only [cond_true, Option.bind_some]
   obtain ⟨r, t, r1, t1, t2, t3, t4⟩ := hb.w.sub b.neg ha.w (Nat.le_of_lt h)
   rw [r1]
   simp only [Option.bind_some]
   rw [t1]
   refine ⟨t, rfl, ⟨?_, ?_, by omega⟩, by omega⟩
   ·rw [show (v + w).natAbs = w.natAbs - v.natAbs from by omega]; exact t2
   ·rw [t4, nb]; omega
  ·rw [decide_eq_false (by omega)]
   simp only [cond_false, Option.bind_some]
   obtain ⟨r, t, r1, t1, t2, t3, t4⟩ := ha.w.sub a.neg hb.w h
   rw [r1]
   simp only [Option.bind_some]
   rw [t1]
   refine ⟨t, rfl, ⟨?_, ?_, by omega⟩, by omega⟩
   ·rw [show (v + w).natAbs = v.natAbs - w.natAbs from by omega]; exact t2
   ·rw [t4, na]; omega
end Go.Proofs.Ytbamoboldhabjaa

/- The reference's numbers of many digits: Gcd. -/
namespace Go.Proofs.Ytbamoboldhabjaa
set_option linter.unusedVariables false
set_option linter.unusedSimpArgs false

theorem Wg.ne {l : List Int} {v : Nat} (h : Wg l v) (hv : 0 < v) : 0 < l.length := by
 apply List.length_pos_iff.2
 intro e
 have := h.zero.1 e
 omega
end Go.Proofs.Ytbamoboldhabjaa

/- The reference's exact numbers: Quotient, Lower; Plus, Less, Times, Over, Sign, Cmp as rational numbers. -/
namespace Go.Proofs.Ytbamoboldhabjaa
set_option linter.unusedVariables false
set_option linter.unusedSimpArgs false

structure Gq (x : TExact) (q : Rat) (c : Nat) : Prop where
 ex : ∃ v w : Int, Nb x.n v ∧ Nb x.d w ∧ 0 < w ∧ q * (w : Rat) = (v : Rat)
 ln : x.n.d.length ≤ c
 ld : x.d.d.length ≤ c
theorem Gq.mono {x : TExact} {q : Rat} {c e : Nat} (h : Gq x q c) (hc : c ≤ e) : Gq x q e := ⟨h.ex, Nat.le_trans h.ln hc, Nat.le_trans h.ld hc⟩
theorem Gq.cast {x : TExact} {q r : Rat} {c : Nat} (h : Gq x q c) (e : q = r) : Gq x r c := e ▸ h
theorem g_plusq {x y : TExact} {q r : Rat} {c e : Nat} (hx : Gq x q c) (hy : Gq y r e) (hm : c + e + 2 ≤ 8000000) : ∃ z, F_ref08_Plus x y = some z ∧ Gq z (q + r) (c + e + 2) := by
 unfold F_ref08_Plus
 have l1 := hx.ln
 have l2 := hx.ld
 have l3 := hy.ln
 have l4 := hy.ld
 obtain ⟨v1, w1, n1, d1, p1, h1⟩ := hx.ex
 obtain ⟨v2, w2, n2, d2, p2, h2⟩ := hy.ex
 obtain ⟨a, a1, a2, a3⟩ := g_product n1 d2 (by omega)
 obtain ⟨b, b1, b2, b3⟩ := g_product n2 d1 (by omega)
 obtain ⟨s, s1, s2, s3⟩ := g_sum a2 b2 (by omega)
 obtain ⟨d, d1', d2', d3'⟩ := g_product d1 d2 (by omega)
 rw [a1, b1]
 simp only [Option.bind_some]
 rw [s1, d1']
 refine ⟨_, rfl, ⟨_, _, s2, d2', Int.mul_pos p1 p2, ?_⟩, by show s.d.length ≤ _; omega, by show d.d.length ≤ _; omega⟩
 simp only [Rat.intCast_mul, Rat.intCast_add]
 grind
theorem g_lessq {x y : TExact} {q r : Rat} {c e : Nat} (hx : Gq x q c) (hy : Gq y r e) (hm : c + e + 2 ≤ 8000000) : ∃ z, F_ref08_Less x y = some z ∧ Gq z (q - r) (c + e + 2) := by
 unfold F_ref08_Less
 obtain ⟨v2, w2, n2, d2, p2, h2⟩ := hy.ex
 obtain ⟨a, a1, a2, a3⟩ := g_neg n2
 rw [a1]
 simp only [Option.bind_some]
 obtain ⟨z, z1, z2⟩ := g_plusq (y := ⟨a, y.d⟩) (r := -r) hx ⟨⟨_, _, a2, d2, p2, by simp only [Rat.intCast_neg]; grind⟩, by rw [a3]; exact hy.ln, hy.ld⟩ hm
 rw [z1]
 exact ⟨z, rfl, z2.cast (by rw [Rat.sub_eq_add_neg])⟩
theorem g_sign {x : TExact} {q : Rat} {c : Nat} (hx : Gq x q c) : ∃ s, F_ref08_Sign x = some s ∧ (s = 0 ↔ q = 0) := by
 unfold F_ref08_Sign
 obtain ⟨v, w, n, d, p, h⟩ := hx.ex
 have hz : q = 0 ↔ v = 0 := by
  have hw := int_ne (show w ≠ 0 by omega)
  constructor
  ·intro e
   subst e
   rw [Rat.zero_mul] at h
   exact Rat.intCast_inj.1 h.symm
  ·intro e
   subst e
   rcases Rat.mul_eq_zero.1 h with e | e
   ·exact e
   ·exact absurd e hw
 rw [hz]
 have hn := n.neg
 have h0 := n.w.zero
 cases hb : x.n.neg with
 | true =>
  rw [hb] at hn
  exact ⟨_, rfl, by simp at hn ⊢; omega⟩
 | false =>
  rw [hb] at hn
  simp at hn
  cases hd : x.n.d with
  | nil => exact ⟨0, rfl, by have := h0.1 hd; omega⟩
  | cons a l =>
   refine ⟨1, ?_, ?_⟩
   ·have e0 : ((((a :: l).length : Nat) : Int) == 0) = false := by simp; omega
    simp only [cond_false]
    rw [e0]; rfl
   ·have : ¬ v.natAbs = 0 := fun e => by
     have := h0.2 e
     rw [hd] at this
     cases this
    omega
theorem g_cmpq {x y : TExact} {q r : Rat} {c e : Nat} (hx : Gq x q c) (hy : Gq y r e) (hm : c + e + 2 ≤ 8000000) : ∃ s, F_ref08_Cmp x y = some s ∧ (s = 0 ↔ q = r) := by
 unfold F_ref08_Cmp
 obtain ⟨z, z1, z2⟩ := g_lessq hx hy hm
 obtain ⟨s, s1, s2⟩ := g_sign z2
 rw [z1]
 simp only [Option.bind_some]
 rw [s1]
 exact ⟨s, rfl, by rw [s2]; constructor <;> intro h <;> grind⟩
end Go.Proofs.Ytbamoboldhabjaa

/- The reference's exact numbers: Fraction, Told, part, Of. -/
namespace Go.Proofs.Ytbamoboldhabjaa
set_option linter.unusedVariables false
set_option linter.unusedSimpArgs false

theorem g_part (d : Int) (l : List Int) (h4 : d ≤ 9223372036854775807) (hd : 0 < d) (hl : ∀ x ∈ l, -9223372036854775808 ≤ x ∧ x ≤ 9223372036854775807) (hll : l.length ≤ 1000) :
  ∃ r, F_ref20_part l d = some r ∧ Gq r ((prodZ l : Rat) / (d : Rat)) (4 * l.length + 3) := by
 unfold F_ref20_part
 obtain ⟨o, o1, o2, o3⟩ := g_int 1 (by omega) (by omega)
 rw [o1]
 simp only [Option.bind_some]
 refine iter_bind (Q := fun r : TBig × Unit => Nb r.1 (prodZ l) ∧ r.1.d.length ≤ 4 * l.length + 3) (fun k s => ∃ t, s = ((k : Int), t, ()) ∧ k ≤ l.length ∧ Nb t (prodZ (l.take k)) ∧ t.d.length ≤ 4 * k + 3) l.length (by unfold big; omega) ?_ ⟨o, rfl, Nat.zero_le _, o2, by omega⟩ ?_
 ·rintro k s hk ⟨t, rfl, _, ht, htl⟩
  rcases Nat.lt_or_ge k l.length with hlt | hge
  ·have hx := hl l[k] (List.getElem_mem _)
   obtain ⟨a, a1, a2, a3⟩ := g_int l[k] hx.1 hx.2
   obtain ⟨p, p1, p2, p3⟩ := g_product ht a2 (by omega)
   have e0 : decide ((k : Int) < ((l.length : Nat) : Int)) = true := decide_eq_true (by omega)
   refine .inl ⟨_, ?_, hlt, p, rfl, hlt, ?_, by omega⟩
   ·simp only [e0, cond_true]
    rw [idx_nat hlt]
    simp only [Option.bind_some]
    rw [a1]
    simp only [Option.bind_some]
    rw [p1, wrap64 (by omega) (by omega)]
    rfl
   ·rw [List.take_succ_eq_append_getElem hlt, prodZ_append]
    simpa [prodZ] using p2
  ·have hk' : k = l.length := by omega
   subst hk'
   have e0 : decide (((l.length : Nat) : Int) < ((l.length : Nat) : Int)) = false := by simp
   rw [List.take_length] at ht
   exact .inr ⟨(t, ()), by simp only [e0, cond_false], ht, htl⟩
 ·rintro ⟨t, u⟩ ⟨t1, t2⟩
  simp only at t1 t2 ⊢
  obtain ⟨b, b1, b2, b3⟩ := g_int d (by omega) h4
  rw [b1]
  exact ⟨_, rfl, ⟨_, _, t1, b2, hd, by have := int_ne (show d ≠ 0 by omega); grind⟩, t2, by show b.d.length ≤ _; omega⟩
end Go.Proofs.Ytbamoboldhabjaa

/- The reference's beams as rational numbers: Turned, Left, Right, far. -/
namespace Go.Proofs.Ytbamoboldhabjaa
set_option linter.unusedVariables false
set_option linter.unusedSimpArgs false

theorem Gq.skip {x : TExact} {q : Rat} {c e : Nat} (h : Gq x q c) : Gq x (q + 0) (c + e) := (h.mono (Nat.le_add_right _ _)).cast (by grind)
theorem h_turned {b : TBeam} (hb : BeamIn b) (hs : SupOk b) : F_ref20_Turned b = some (turnB b) := by
 have hl0 := hb.l0
 have hl1 := hb.l1
 have hln := hb.ln
 have hn := hs.n10
 have hn1 := hs.n1
 apply gs_eq
 unfold F_ref20_Turned
 refine gloop (fun s : TBeam × Unit => s.1 = ⟨b.name, b.length, b.supports.reverse.map (fun s => b.length - s), [], b.even⟩)
  (fun k s => ∃ m : Nat, m + k = b.supports.length ∧ s = ((m : Int) - 1, ⟨b.name, b.length, (b.supports.drop m).reverse.map (fun s => b.length - s), [], b.even⟩, ())) b.supports.length (by unfold big; omega)
  ⟨b.supports.length, rfl, by rw [wrap64 (by omega) (by omega), List.drop_length]; rfl⟩ ?_ ?_
 ·rintro k s hk ⟨m, hm, rfl⟩
  cases m with
  | zero =>
   exact gf (decide_eq_false (by show ¬ (((0 : Nat) : Int) - 1 ≥ 0); omega)) (gend (by show (⟨_, _, _, _, _⟩ : TBeam) = _; rw [List.drop_zero]))
  | succ m =>
   have e2 : (((m + 1 : Nat) : Int) - 1) = (m : Int) := by omega
   have hlt : m < b.supports.length := by omega
   have pm := sp_get hlt
   have rm := sp_rg hs hlt
   refine gt (decide_eq_true (by show (((m + 1 : Nat) : Int) - 1 ≥ 0); omega)) (go (idx_w e2 pm) (gif (by simp; omega) (gend ⟨by omega, m, by omega, ?_⟩)))
   have hdr : b.supports.drop m = sp b m :: b.supports.drop (m + 1) := by
    rw [List.drop_eq_getElem_cons hlt]
    congr 1
    unfold sp; rw [List.getD_eq_getElem?_getD, List.getElem?_eq_getElem hlt]; rfl
   rw [hdr, List.reverse_cons, List.map_append]
   show (IntKind.i64.wrap (((m + 1 : Nat) : Int) - 1 - 1), (⟨b.name, b.length, (b.supports.drop (m + 1)).reverse.map (fun s => b.length - s) ++ [IntKind.i64.wrap (b.length - sp b m)], [], b.even⟩ : TBeam), ()) = _
   rw [e2, wrap64 (n := (m : Int) - 1) (by omega) (by omega), wrap64 (n := b.length - sp b m) (by omega) (by omega)]
   rfl
 ·rintro ⟨t, u⟩ ht
  simp only at ht
  subst ht
  refine gloop (fun s : TBeam × Unit => s.1 = turnB b) (fun k s => k ≤ b.loads.length ∧ s = ((k : Int), ⟨b.name, b.length, b.supports.reverse.map (fun s => b.length - s), (b.loads.take k).map (fun x => ⟨b.length - x.at_, x.weight⟩), b.even⟩, ())) b.loads.length (by unfold big; omega) ⟨Nat.zero_le _, rfl⟩ ?_ ?_
  ·rintro k s hk ⟨_, rfl⟩
   rcases Nat.lt_or_ge k b.loads.length with hlt | hge
   ·obtain ⟨x0, x1, x2, x3⟩ := hb.ld _ (List.getElem_mem hlt)
    have pk := idx_nat hlt
    refine gt (decide_eq_true (by show (k : Int) < ((b.loads.length : Nat) : Int); omega)) (go pk (go pk (gif (by simp; omega) (gend ⟨hlt, hlt, ?_⟩))))
    rw [List.take_succ_eq_append_getElem hlt, List.map_append]
    show (IntKind.i64.wrap ((k : Int) + 1), (⟨b.name, b.length, _, (b.loads.take k).map (fun x => ⟨b.length - x.at_, x.weight⟩) ++ [⟨IntKind.i64.wrap (b.length - b.loads[k].at_), b.loads[k].weight⟩], b.even⟩ : TBeam), ()) = _
    rw [wrap64 (n := b.length - b.loads[k].at_) (by omega) (by omega), wrap64 (n := (k : Int) + 1) (by omega) (by omega)]
    rfl
   ·refine gf (decide_eq_false (by show ¬ (k : Int) < ((b.loads.length : Nat) : Int); omega)) (gend ?_)
    show (⟨b.name, b.length, b.supports.reverse.map (fun s => b.length - s), (b.loads.take k).map (fun x => ⟨b.length - x.at_, x.weight⟩), b.even⟩ : TBeam) = turnB b
    rw [List.take_of_length_le hge]
    rfl
  ·rintro ⟨t, u⟩ h
   exact gend h
theorem gfe {γ : Type} {c : Bool} {X Y : γ} (h : c = false) : (bif c then X else Y) = Y := by subst h; rfl
theorem h_left {b : TBeam} (hb : BeamIn b) {a : Int} (h0 : 0 ≤ a) (h1 : a ≤ b.length) : Gs (F_ref20_Left b a) fun r => Gq r (overQ b.even (lds b.loads) a) 600 := by
 unfold F_ref20_Left
 have hl := hb.l1
 have he0 := hb.e0
 have he1 := hb.e1
 have hln := hb.ln
 obtain ⟨p, p1, p2⟩ := g_part 2000 [b.even, a, a] (by omega) (by omega) (by intro x hx; simp at hx; omega) (by simp)
 refine go p1 ?_
 refine gcall (loop_sumG (w := b.loads) (fun t q c => Gq t q c) (fun x => if x.at_ < a then (x.weight : Rat) * (a - x.at_) else 0) 13 (by omega) p2 ?_ (fun t => gfe (decide_eq_false (by show ¬ (((b.loads.length : Nat) : Int) < ((b.loads.length : Nat) : Int)); omega)))) ?_
 ·intro k h t q ht
  obtain ⟨x0, x1, x2, x3⟩ := hb.ld _ (List.getElem_mem h)
  have w1 : IntKind.i64.wrap ((k : Int) + 1) = ((k + 1 : Nat) : Int) := by rw [wrap64 (by omega) (by omega)]; omega
  have hx := idx_nat h
  refine gt (decide_eq_true (by show (k : Int) < ((b.loads.length : Nat) : Int); omega)) (goo hx ?_)
  generalize b.loads[k] = x at *
  by_cases hc : x.at_ < a
  ·have hw : IntKind.i64.wrap (a - x.at_) = a - x.at_ := wrap64 (by omega) (by omega)
   obtain ⟨z, z1, z2⟩ := g_part 1 [x.weight, a - x.at_] (by omega) (by omega) (by intro y hy; simp at hy; omega) (by simp)
   obtain ⟨s, s1, s2⟩ := g_plusq ht z2 (by simp only [List.length_cons, List.length_nil]; omega)
   refine gbt (decide_eq_true hc) (goo hx (goo hx (goo (by rw [hw]; exact z1) (goo s1 (gs (gend ⟨s, by simp only [w1], (s2.mono (by simp only [List.length_cons, List.length_nil]; omega)).cast ?_⟩))))))
   rw [div_one', prod2, Rat.intCast_sub, if_pos hc]
  ·refine gbf (decide_eq_false hc) (gs (gend ⟨t, by simp only [w1], ?_⟩))
   rw [if_neg hc]
   exact ht.skip
 ·rintro ⟨t, u⟩ ht
  refine gend ((ht.mono (by simp only [List.length_cons, List.length_nil]; omega)).cast ?_)
  unfold overQ lds
  rw [sumQ_map, prod3]
  rfl
theorem h_right {b : TBeam} (hb : BeamIn b) (hs : SupOk b) {a : Int} (h0 : 0 ≤ a) (h1 : a ≤ b.length) : Gs (F_ref20_Right b a) fun r => Gq r (overQ b.even (turnW b.length (lds b.loads)) (b.length - a)) 600 := by
 unfold F_ref20_Right
 have hl := hb.l1
 have hw : IntKind.i64.wrap (b.length - a) = b.length - a := wrap64 (by omega) (by omega)
 refine go (h_turned hb hs) (gcall (by rw [hw]; exact h_left (turn_in hb) (by omega) (by show b.length - a ≤ b.length; omega)) fun r hr => gend ?_)
 rw [turn_lds] at hr
 exact hr
end Go.Proofs.Ytbamoboldhabjaa

/- What the program and the reference tell of a beam's moments and reactions. -/
namespace Go.Proofs.Ytbamoboldhabjaa
set_option linter.unusedVariables false
set_option linter.unusedSimpArgs false

def tilt (b : TBeam) : Prop := b.supports.length = 1 ∧ fstQ b ≠ lstQ b
def reaL (b : TBeam) : List Rat := (List.range b.supports.length).map (reactB b)
structure SmallB (b : TBeam) : Prop where
 name : b.name.size ≤ 1000000
 sup : b.supports.length ≤ 1000000
 ld : b.loads.length ≤ 1000000
theorem list_of {α : Type} {R : α → Rat → Prop} {l : List α} {n : Nat} (f : Nat → Rat) (hl : l.length = n) (h : ∀ i, i < n → ∃ x, l[i]? = some x ∧ R x (f i)) : ∀ (i : Nat) (h1 : i < l.length) (h2 : i < ((List.range n).map f).length), R l[i] ((List.range n).map f)[i] := by
 intro i h1 h2
 obtain ⟨x, x1, x2⟩ := h i (by omega)
 rw [List.getElem?_eq_getElem h1] at x1
 injection x1 with x1
 rw [x1]
 simpa using x2
theorem f_given_bad {b : TBeam} (hw : SmallB b) (h : validBm b = false) : F_beam_given b = some ([], 1) := by
 unfold F_beam_given
 rw [f_bvalid hw.name hw.sup hw.ld, h]; rfl
theorem f_given_ok {b : TBeam} (hw : SmallB b) (h : validBm b = true) (ht : ¬ tilt b) : Gs (F_beam_given b) fun r => r.2 = 0 ∧ r.1.length = b.supports.length ∧ ∀ i, i < b.supports.length → ∃ x, r.1[i]? = some x ∧ Xq x (momB b i) 82000 := by
 obtain ⟨hb, hs⟩ := valid_in h
 unfold F_beam_given
 refine go (f_bvalid hw.name hw.sup hw.ld) (gf (by rw [h]; rfl) (gcall (f_moments hb hs) fun r hr => ?_))
 have h2 : r.2 = true := hr.1.2 fun h1 => Classical.byContradiction fun h3 => ht ⟨h1, h3⟩
 refine gf (by rw [h2]; rfl) (gend ⟨rfl, hr.2 h2⟩)
theorem f_Reactions {b : TBeam} (hw : SmallB b) (h : validBm b = true) (ht : ¬ tilt b) : F_beam_Reactions b = some (outL (reaL b)) := by
 apply gs_eq
 obtain ⟨hb, hs⟩ := valid_in h
 have hn : b.supports.length ≤ 10 := hs.n10
 unfold F_beam_Reactions
 refine gcall (f_given_ok hw h ht) fun r hr => ?_
 obtain ⟨h1, h2, h3⟩ := hr
 refine gf (by rw [h1]; rfl) (gcall (f_reactions hb hs h3) fun t ht => ?_)
 refine go (f_fractions (qs := reaL b) (c := 330000) (by omega) (by rw [ht.1]; unfold reaL; simp) ?_) (gend rfl)
 exact list_of (R := fun x q => Xq x q 330000) (reactB b) ht.1 ht.2
theorem f_Reactions_bad {b : TBeam} {e : Int} (he : e ≠ 0) (h : F_beam_given b = some ([], e)) : F_beam_Reactions b = some ([], e) := by
 unfold F_beam_Reactions
 rw [h]
 have : (e != 0) = true := by simpa using he
 simp only [Option.bind_some, this, cond_true]
theorem h_tilts {b : TBeam} (hb : BeamIn b) (hs : SupOk b) : Gs (F_ref20_Tilts b) fun r => r = true ↔ tilt b := by
 unfold F_ref20_Tilts tilt
 have hn := hs.n1
 rcases Decidable.em (b.supports.length = 1) with h | h
 ·have q0 := sp_get (b := b) (i := 0) (by omega)
  have r0 := sp_rg hs (i := 0) (by omega)
  refine gbt (by rw [beq_iff_eq]; omega) (goo (idx_q (k := 0) q0) (goo (idx_q (k := 0) q0) (gcalll (h_left hb r0.1 r0.2) fun x hx => gcalll (h_right hb hs r0.1 r0.2) fun y hy => ?_)))
  obtain ⟨s, s1, s2⟩ := g_cmpq hx hy (by omega)
  refine goo s1 (gs (gend ?_))
  show (s != 0) = true ↔ _
  rw [bne_iff_ne, ne_eq, s2]
  have e : b.supports.length - 1 = 0 := by omega
  unfold fstQ lstQ
  rw [e]
  constructor
  ·intro h2; exact ⟨h, fun h3 => h2 (by grind)⟩
  ·intro h2 h3; exact h2.2 (by rw [h3])
 ·refine gbf (by rw [beq_eq_false_iff_ne]; omega) (gs (gend ?_))
  show false = true ↔ _
  simp [h]
theorem h_given {b : TBeam} (hw : SmallB b) : Gs (F_ref20_Given b) fun r => (validBm b = false ∧ r = 1) ∨ (validBm b = true ∧ tilt b ∧ r = 22) ∨ (validBm b = true ∧ ¬ tilt b ∧ r = 0) := by
 unfold F_ref20_Given
 refine go (f_rvalid20 hw.name hw.sup hw.ld) ?_
 cases h : validBm b with
 | false => exact gt rfl (gend (.inl ⟨rfl, rfl⟩))
 | true =>
  obtain ⟨hb, hs⟩ := valid_in h
  refine gf rfl (gcall (h_tilts hb hs) fun r hr => ?_)
  cases hr2 : r with
  | true => exact gt rfl (gend (.inr (.inl ⟨rfl, hr.1 hr2, rfl⟩)))
  | false => exact gf rfl (gend (.inr (.inr ⟨rfl, (fun ht => absurd (hr.2 ht) (by rw [hr2]; simp)), rfl⟩)))
end Go.Proofs.Ytbamoboldhabjaa

/- Lists compared; small beams. -/
namespace Go.Proofs.Ytbamoboldhabjaa
set_option linter.unusedVariables false
set_option linter.unusedSimpArgs false

def longBm (b : TBeam) : Bool := (decide (((b.supports.length : Nat) : Int) > 5) && decide (((b.supports.length : Nat) : Int) ≤ 10)) || (decide (((b.supports.length : Nat) : Int) > 15) || ((decide (((b.loads.length : Nat) : Int) > 8) && decide (((b.loads.length : Nat) : Int) ≤ 40)) || (decide (((b.loads.length : Nat) : Int) > 45) || decide (((b.name.size : Nat) : Int) > 60))))
theorem f_long (b : TBeam) : F_law20_long b = some (longBm b) := by
 unfold F_law20_long longBm
 cases decide (((b.supports.length : Nat) : Int) > 5) <;> cases decide (((b.supports.length : Nat) : Int) ≤ 10) <;> cases decide (((b.supports.length : Nat) : Int) > 15) <;> cases decide (((b.loads.length : Nat) : Int) > 8) <;> cases decide (((b.loads.length : Nat) : Int) ≤ 40) <;> cases decide (((b.loads.length : Nat) : Int) > 45) <;> rfl
theorem long_small {b : TBeam} (h : longBm b = false) : SmallB b ∧ b.supports.length ≤ 15 ∧ b.loads.length ≤ 45 := by
 unfold longBm at h
 simp only [Bool.or_eq_false_iff, Bool.and_eq_false_iff, decide_eq_false_iff_not] at h
 exact ⟨⟨by omega, by omega, by omega⟩, by omega, by omega⟩
end Go.Proofs.Ytbamoboldhabjaa

/- All weight is borne; the moments of a beam that doesn't tilt. -/
namespace Go.Proofs.Ytbamoboldhabjaa
set_option linter.unusedVariables false
set_option linter.unusedSimpArgs false

theorem mom_end {b : TBeam} (hs : SupOk b) : momB b (b.supports.length - 1) = lstQ b := by
 unfold momB; rw [mom_last]
theorem mom_start {b : TBeam} (hs : SupOk b) (ht : ¬ tilt b) : momB b 0 = fstQ b := by
 have hn := hs.n1
 unfold momB
 by_cases h1 : b.supports.length = 1
 ·have := Classical.byContradiction fun h3 => ht ⟨h1, h3⟩
  rw [show (0 : Nat) = b.supports.length - 1 from by omega, mom_last]
  exact this.symm
 ·rw [mom_first _ _ _ _ (by omega)]
theorem mom_eqs {b : TBeam} (hs : SupOk b) {i : Nat} (h : i + 2 < b.supports.length) : gp b i * momB b i + 2 * (gp b i + gp b (i + 1)) * momB b (i + 1) + gp b (i + 1) * momB b (i + 2) = Rp b (i + 1) :=
 mom_three (fun j hj => gp_pos hs j hj) h
end Go.Proofs.Ytbamoboldhabjaa

/- Exact numbers: the product is in its lowest terms. -/
namespace Go.Proofs.Ytbamoboldhabjaa

theorem cop_mul {n1 d1 n2 d2 : Nat} (h1 : Nat.gcd n1 d1 = 1) (h2 : Nat.gcd n2 d2 = 1) (p1 : 0 < d1) (p2 : 0 < d2) :
  Nat.gcd ((n1 / Nat.gcd n1 d2) * (n2 / Nat.gcd n2 d1)) ((d1 / Nat.gcd n2 d1) * (d2 / Nat.gcd n1 d2)) = 1 := by
 have a1 : Nat.Coprime (n1 / Nat.gcd n1 d2) (d2 / Nat.gcd n1 d2) := Nat.gcd_div_gcd_div_gcd_of_pos_right p2
 have a2 : Nat.Coprime (n2 / Nat.gcd n2 d1) (d1 / Nat.gcd n2 d1) := Nat.gcd_div_gcd_div_gcd_of_pos_right p1
 have a3 : Nat.Coprime (n1 / Nat.gcd n1 d2) (d1 / Nat.gcd n2 d1) := Nat.Coprime.coprime_dvd_left (Nat.div_dvd_of_dvd (Nat.gcd_dvd_left _ _)) (Nat.Coprime.coprime_dvd_right (Nat.div_dvd_of_dvd (Nat.gcd_dvd_right _ _)) h1)
 have a4 : Nat.Coprime (n2 / Nat.gcd n2 d1) (d2 / Nat.gcd n1 d2) := Nat.Coprime.coprime_dvd_left (Nat.div_dvd_of_dvd (Nat.gcd_dvd_left _ _)) (Nat.Coprime.coprime_dvd_right (Nat.div_dvd_of_dvd (Nat.gcd_dvd_right _ _)) h2)
 exact Nat.Coprime.mul_left (Nat.Coprime.mul_right a3 a1) (Nat.Coprime.mul_right a2 a4)
theorem mul_red {n1 n2 : Int} {d1 d2 : Nat} (p1 : 0 < d1) (p2 : 0 < d2) (h1 : Nat.gcd n1.natAbs d1 = 1) (h2 : Nat.gcd n2.natAbs d2 = 1) {p q : Nat}
  (hp : p = (n1.natAbs / Nat.gcd n1.natAbs d2) * (n2.natAbs / Nat.gcd n2.natAbs d1)) (hq : q = (d1 / Nat.gcd n2.natAbs d1) * (d2 / Nat.gcd n1.natAbs d2)) :
  Nat.gcd (n1 * n2).natAbs (d1 * d2) = Nat.gcd n1.natAbs d2 * Nat.gcd n2.natAbs d1 ∧ (n1 * n2).natAbs / (Nat.gcd n1.natAbs d2 * Nat.gcd n2.natAbs d1) = p ∧ d1 * d2 / (Nat.gcd n1.natAbs d2 * Nat.gcd n2.natAbs d1) = q := by
 have hc := cop_mul h1 h2 p1 p2
 have g1 : 0 < Nat.gcd n1.natAbs d2 := Nat.gcd_pos_of_pos_right _ p2
 have g2 : 0 < Nat.gcd n2.natAbs d1 := Nat.gcd_pos_of_pos_right _ p1
 have e1 := Nat.div_mul_cancel (Nat.gcd_dvd_left n1.natAbs d2)
 have e2 := Nat.div_mul_cancel (Nat.gcd_dvd_left n2.natAbs d1)
 have e3 := Nat.div_mul_cancel (Nat.gcd_dvd_right n1.natAbs d2)
 have e4 := Nat.div_mul_cancel (Nat.gcd_dvd_right n2.natAbs d1)
 rw [← hp, ← hq] at hc
 have en : (n1 * n2).natAbs = p * (Nat.gcd n1.natAbs d2 * Nat.gcd n2.natAbs d1) := by
  rw [Int.natAbs_mul, hp]
  generalize Nat.gcd n1.natAbs d2 = u at *
  generalize Nat.gcd n2.natAbs d1 = v at *
  conv => lhs; rw [← e1, ← e2]
  grind
 have ed : d1 * d2 = q * (Nat.gcd n1.natAbs d2 * Nat.gcd n2.natAbs d1) := by
  rw [hq]
  generalize Nat.gcd n1.natAbs d2 = u at *
  generalize Nat.gcd n2.natAbs d1 = v at *
  conv => lhs; rw [← e3, ← e4]
  grind
 have gg := Nat.mul_pos g1 g2
 rw [en, ed]
 refine ⟨?_, Nat.mul_div_cancel _ gg, Nat.mul_div_cancel _ gg⟩
 rw [Nat.gcd_mul_right, hc, Nat.one_mul]
end Go.Proofs.Ytbamoboldhabjaa

/- Exact numbers: Mul. -/
namespace Go.Proofs.Ytbamoboldhabjaa

theorem RV.w {a : TFrac} (h : RV a) : RW a := ⟨by have := h.d0; omega, by have := h.d1; omega, by have := h.n0; omega, by have := h.n1; omega⟩
theorem rv_true {a : TFrac} (h : RV a) : F_ratio_Valid a = some true := by
 obtain ⟨v, e, i⟩ := f_qvalid h.w
 rw [e, i.mpr h]
theorem f_rmul {a b : TFrac} (ha : RV a) (hb : RV b) : F_ratio_Mul a b = some (outQ (qOf a * qOf b)) := by
 obtain ⟨an, ad⟩ := a
 obtain ⟨bn, bd⟩ := b
 obtain ⟨x0, x1, x2, x3, x4⟩ := id ha
 obtain ⟨y0, y1, y2, y3, y4⟩ := id hb
 dsimp only at *
 obtain ⟨d1, rfl⟩ := Int.eq_ofNat_of_zero_le (show 0 ≤ ad by omega)
 obtain ⟨d2, rfl⟩ := Int.eq_ofNat_of_zero_le (show 0 ≤ bd by omega)
 rw [Int.toNat_natCast] at x4 y4
 unfold F_ratio_Mul
 rw [rv_true ha, rv_true hb]
 simp only [Option.bind_some, Bool.not_true, cond_false]
 rw [f_size (by omega) (by omega), f_size (by omega) (by omega)]
 simp only [Option.bind_some, wrapu]
 rw [show (d2 : Int) % 18446744073709551616 = d2 from by omega, show (d1 : Int) % 18446744073709551616 = d1 from by omega, f_gcd _ _ (by unfold big; omega), f_gcd _ _ (by unfold big; omega)]
 simp only [Option.bind_some]
 have g1 : 0 < Nat.gcd an.natAbs d2 := Nat.gcd_pos_of_pos_right _ (by omega)
 have g2 : 0 < Nat.gcd bn.natAbs d1 := Nat.gcd_pos_of_pos_right _ (by omega)
 obtain ⟨hg, hp, hq⟩ := mul_red (n1 := an) (n2 := bn) (d1 := d1) (d2 := d2) (by omega) (by omega) x4 y4 rfl rfl
 have hout := out_red (n := an * bn) (d := d1 * d2) (Nat.ne_of_gt (Nat.mul_pos (by omega) (by omega))) hg
 rw [hp, hq] at hout
 rw [show qOf ⟨an, d1⟩ * qOf ⟨bn, d2⟩ = mkRat (an * bn) (d1 * d2) from by unfold qOf; exact Rat.mkRat_mul_mkRat _ _ _ _, hout]
 have dv (u v w : Nat) (hw : u ≤ w) : u / v ≤ w := Nat.le_trans (Nat.div_le_self _ _) hw
 have k1 := dv an.natAbs (Nat.gcd an.natAbs d2) 1152921504606846976 (by omega)
 have k2 := dv bn.natAbs (Nat.gcd bn.natAbs d1) 1152921504606846976 (by omega)
 have k3 := dv d1 (Nat.gcd bn.natAbs d1) 1152921504606846976 (by omega)
 have k4 := dv d2 (Nat.gcd an.natAbs d2) 1152921504606846976 (by omega)
 have tm (u v : Nat) : (u : Int).tdiv (v : Int) = ((u / v : Nat) : Int) := by rw [Int.tdiv_eq_ediv_of_nonneg (by omega), Int.natCast_ediv]
 simp only [tm]
 have hz : an * bn = 0 ↔ an.natAbs / Nat.gcd an.natAbs d2 * (bn.natAbs / Nat.gcd bn.natAbs d1) = 0 := by
  have e := Nat.div_mul_cancel (show Nat.gcd an.natAbs d2 * Nat.gcd bn.natAbs d1 ∣ (an * bn).natAbs from by rw [← hg]; exact Nat.gcd_dvd_left _ _)
  rw [hp] at e
  rw [← Int.natAbs_eq_zero, ← e]
  simp [Nat.mul_eq_zero, Nat.ne_of_gt g1, Nat.ne_of_gt g2]
 generalize an.natAbs / Nat.gcd an.natAbs d2 = A at *
 generalize bn.natAbs / Nat.gcd bn.natAbs d1 = B at *
 generalize d1 / Nat.gcd bn.natAbs d1 = C at *
 generalize d2 / Nat.gcd an.natAbs d2 = E at *
 have i1 : ((Nat.gcd an.natAbs d2 : Nat) : Int) ≠ 0 := by omega
 have i2 : ((Nat.gcd bn.natAbs d1 : Nat) : Int) ≠ 0 := by omega
 rw [if_neg i2, if_neg i1, if_neg i1, if_neg i2]
 rw [show (A : Int) % 18446744073709551616 = A from by omega, show (B : Int) % 18446744073709551616 = B from by omega, show (C : Int) % 18446744073709551616 = C from by omega, show (E : Int) % 18446744073709551616 = E from by omega]
 rw [f_product (by omega) (by omega) (by omega) (by omega), f_product (by omega) (by omega) (by omega) (by omega)]
 simp only [Option.bind_some]
 rw [← Int.natCast_mul, ← Int.natCast_mul]
 have hs : an * bn ≠ 0 → (!((decide (an < 0)) == (decide (bn < 0)))) = decide (an * bn < 0) := by
  intro h
  have h1 : an ≠ 0 := by rintro rfl; simp at h
  have h2 : bn ≠ 0 := by rintro rfl; simp at h
  by_cases c1 : an < 0 <;> by_cases c2 : bn < 0
  ·have := Int.mul_pos_of_neg_of_neg c1 c2; simp [c1, c2]; omega
  ·have := Int.mul_neg_of_neg_of_pos c1 (show 0 < bn by omega); simp [c1, c2, this]
  ·have := Int.mul_neg_of_pos_of_neg (show 0 < an by omega) c2; simp [c1, c2, this]
  ·have := Int.mul_pos (show 0 < an by omega) (show 0 < bn by omega); simp [c1, c2]; omega
 generalize A * B = p at *
 generalize C * E = q at *
 by_cases c1 : (p : Int) / 18446744073709551616 > 0
 ·rw [decide_eq_true c1, if_neg (by omega)]
  simp only [cond_true, Option.bind_some]
 ·rw [decide_eq_false c1]
  simp only [cond_false, Option.bind_some]
  by_cases c2 : (q : Int) / 18446744073709551616 > 0
  ·rw [decide_eq_true c2, if_neg (by omega)]
   simp only [cond_true]
  ·rw [decide_eq_false c2, cond_false, show (p : Int) % 18446744073709551616 = p from by omega, show (q : Int) % 18446744073709551616 = q from by omega]
   rw [f_signed (by omega) (by omega) (by omega) (by omega), f_signed (by omega) (by omega) (by omega) (by omega)]
   have hcond : ((p : Int) ≤ 1152921504606846976 ∧ (q : Int) ≤ 1152921504606846976) ↔ (p ≤ 1152921504606846976 ∧ q ≤ 1152921504606846976) := by omega
   by_cases h0 : (p : Int) > 0
   ·rw [decide_eq_true h0, hs (by intro h; have := hz.mp h; omega)]
    simp only [cond_true, Option.bind_some, hcond, decide_eq_true_eq]
   ·obtain rfl : p = 0 := by omega
    rw [decide_eq_false h0, hz.mpr rfl]
    simp only [cond_false, Option.bind_some, hcond]
    rfl
end Go.Proofs.Ytbamoboldhabjaa

/- What several sentences on beams use. -/
namespace Go.Proofs.Ytbamoboldhabjaa
set_option linter.unusedVariables false
set_option linter.unusedSimpArgs false

theorem f_right (b : TBeam) : Gs (F_law20_right b) fun v => v = true ↔ longBm b = false ∧ validBm b = true ∧ ¬ tilt b := by
 unfold F_law20_right
 refine goo (f_long b) ?_
 cases hl : longBm b with
 | true => exact gbf rfl (gs (gend (by simp)))
 | false =>
  obtain ⟨hw, _, _⟩ := long_small hl
  refine gbt rfl (gcalll (h_given hw) fun r hr => gs (gend ?_))
  rcases hr with ⟨h1, h2⟩ | ⟨h1, h2, h3⟩ | ⟨h1, h2, h3⟩
  ·subst h2
   show false = true ↔ _
   simp [h1]
  ·subst h3
   show false = true ↔ _
   simp [h1, h2]
  ·subst h3
   show true = true ↔ _
   simp [h1, h2]
end Go.Proofs.Ytbamoboldhabjaa

/- awake. -/
namespace Go.Proofs.Ytbamoboldhabjaa
theorem awake20 : F_law20_awake = some true := by kernel_rfl
end Go.Proofs.Ytbamoboldhabjaa

/- Exact numbers: Cmp. -/
namespace Go.Proofs.Ytbamoboldhabjaa

theorem wok_prod {x y : Int} (hx : 0 ≤ x) (hx2 : x < 18446744073709551616) (hy : 0 ≤ y) (hy2 : y < 18446744073709551616) : F_ratio_product x y = some (ofV (x * y)) ∧ WOk (ofV (x * y)) := by
 refine ⟨f_product hx hx2 hy hy2, wok_of (Int.mul_nonneg hx hy) ?_⟩
 have : x * y ≤ 18446744073709551615 * 18446744073709551615 := Int.mul_le_mul (by omega) (by omega) hy (by omega)
 omega
end Go.Proofs.Ytbamoboldhabjaa

/- Exact numbers: the sum in its lowest terms. -/
namespace Go.Proofs.Ytbamoboldhabjaa

theorem int_gcd_add {n1 n2 : Int} {e1 e2 : Nat} (h1 : Nat.gcd n1.natAbs e1 = 1) (h : Nat.gcd e2 e1 = 1) : Nat.gcd (n1 * e2 + n2 * e1).natAbs e1 = 1 := by
 have e : Int.gcd (n1 * e2 + n2 * e1) e1 = Int.gcd (n1 * e2) e1 := by
  rw [Int.gcd_add_mul_right_left]
 have e2' : Int.gcd (n1 * e2) e1 = Nat.gcd (n1.natAbs * e2) e1 := by
  show Nat.gcd (n1 * e2).natAbs e1 = _
  rw [Int.natAbs_mul]; rfl
 show Int.gcd (n1 * e2 + n2 * e1) e1 = 1
 rw [e, e2']
 exact Nat.Coprime.mul_left h1 h
theorem add_red {n1 n2 : Int} {e1 e2 g : Nat} (p1 : 0 < e1) (p2 : 0 < e2) (hg : 0 < g) (h1 : Nat.gcd n1.natAbs (e1 * g) = 1) (h2 : Nat.gcd n2.natAbs (e2 * g) = 1) (hc : Nat.gcd e1 e2 = 1) :
  mkRat n1 (e1 * g) + mkRat n2 (e2 * g) = mkRat (n1 * e2 + n2 * e1) (e1 * e2 * g) ∧ Nat.gcd (n1 * e2 + n2 * e1).natAbs (e1 * e2 * g) = Nat.gcd (n1 * e2 + n2 * e1).natAbs g := by
 constructor
 ·rw [Rat.mkRat_add_mkRat _ _ (Nat.ne_of_gt (Nat.mul_pos p1 hg)) (Nat.ne_of_gt (Nat.mul_pos p2 hg))]
  rw [show n1 * ((e2 * g : Nat) : Int) + n2 * ((e1 * g : Nat) : Int) = (n1 * e2 + n2 * e1) * (g : Int) from by rw [Int.natCast_mul, Int.natCast_mul]; grind, show e1 * g * (e2 * g) = e1 * e2 * g * g from by grind]
  exact Rat.mkRat_mul_right (by omega)
 ·have a1 : Nat.Coprime n1.natAbs e1 := Nat.Coprime.coprime_dvd_right (Nat.dvd_mul_right _ _) h1
  have a2 : Nat.Coprime n2.natAbs e2 := Nat.Coprime.coprime_dvd_right (Nat.dvd_mul_right _ _) h2
  have b1 : Nat.Coprime (n1 * e2 + n2 * e1).natAbs e1 := int_gcd_add a1 (by rw [Nat.gcd_comm]; exact hc)
  have b2 : Nat.Coprime (n1 * e2 + n2 * e1).natAbs e2 := by rw [Int.add_comm]; exact int_gcd_add a2 hc
  exact Nat.Coprime.gcd_mul_left_cancel_right _ (Nat.Coprime.mul_right b1 b2).symm
end Go.Proofs.Ytbamoboldhabjaa

/- Exact numbers: Add. -/
namespace Go.Proofs.Ytbamoboldhabjaa

theorem sum_sign {x y : Int} {p q : Twide} (hp : WOk p) (hq : WOk q) (ep : wv p = x.natAbs) (eq : wv q = y.natAbs) (hb : (x.natAbs : Int) + y.natAbs < 340282366920938463463374607431768211456)
  {u v : Bool} (hu : x ≠ 0 → u = decide (x < 0)) (hv : y ≠ 0 → v = decide (y < 0)) :
  ∃ n : Bool, (((bif (u == v) then (F_ratio_plus p q).bind fun r16 => some (u, r16, ()) else (F_ratio_less p q).bind fun r17 => (bif r17 then (F_ratio_minus q p).bind fun r18 => some ((!u), r18, ()) else (F_ratio_minus p q).bind fun r19 => some (u, r19, ()))) : Option (Bool × Twide × Unit))) = some (n, ofV ((x + y).natAbs : Int), ()) ∧ (x + y ≠ 0 → n = decide (x + y < 0)) := by
 rw [f_less hp hq, ep, eq]
 by_cases huv : u = v
 ·subst huv
  rw [beq_self_eq_true, cond_true, f_plus hp hq (by rw [ep, eq]; exact hb), ep, eq]
  by_cases hx : x = 0
  ·subst hx
   exact ⟨u, by rw [show ((0 : Int).natAbs : Int) + y.natAbs = ((0 + y).natAbs : Int) from by omega]; rfl, fun h => by rw [hv (by omega)]; simp⟩
  ·have hu := hu hx
   by_cases hy : y = 0
   ·subst hy
    exact ⟨u, by rw [show (x.natAbs : Int) + (0 : Int).natAbs = ((x + 0).natAbs : Int) from by omega]; rfl, fun h => by rw [hu]; simp⟩
   ·have hv := hv hy
    have hs : decide (x < 0) = decide (y < 0) := by rw [← hu, hv]
    have hs := decide_eq_decide.mp hs
    refine ⟨u, by rw [show (x.natAbs : Int) + y.natAbs = ((x + y).natAbs : Int) from by omega]; rfl, fun h => ?_⟩
    rw [hu]
    apply decide_eq_decide.mpr
    omega
 ·rw [beq_eq_false_iff_ne.mpr huv, cond_false, Option.bind_some]
  by_cases hl : (x.natAbs : Int) < y.natAbs
  ·rw [decide_eq_true hl, cond_true, f_minus hq hp (by rw [ep, eq]; omega), ep, eq]
   have hv := hv (by omega)
   have hnu : (!u) = v := by cases u <;> cases v <;> simp at huv ⊢
   by_cases hx : x = 0
   ·subst hx
    refine ⟨!u, by rw [show (y.natAbs : Int) - (0 : Int).natAbs = ((0 + y).natAbs : Int) from by omega]; rfl, fun h => ?_⟩
    rw [hnu, hv]; simp
   ·have hu := hu hx
    have hs : (!decide (x < 0)) = decide (y < 0) := by rw [← hu, ← hv]; exact hnu
    have hs : ¬ x < 0 ↔ y < 0 := by rw [← decide_not] at hs; exact decide_eq_decide.mp hs
    refine ⟨!u, by rw [show (y.natAbs : Int) - x.natAbs = ((x + y).natAbs : Int) from by omega]; rfl, fun h => ?_⟩
    rw [hnu, hv]
    apply decide_eq_decide.mpr
    omega
  ·rw [decide_eq_false hl, cond_false, f_minus hp hq (by rw [ep, eq]; omega), ep, eq]
   by_cases hx : x = 0
   ·subst hx
    have : y = 0 := by omega
    subst this
    exact ⟨u, rfl, fun h => absurd rfl h⟩
   ·have hu := hu hx
    by_cases hy : y = 0
    ·subst hy
     exact ⟨u, by rw [show (x.natAbs : Int) - (0 : Int).natAbs = ((x + 0).natAbs : Int) from by omega]; rfl, fun h => by rw [hu]; simp⟩
    ·have hv := hv hy
     have hnu : (!u) = v := by cases u <;> cases v <;> simp at huv ⊢
     have hs : (!decide (x < 0)) = decide (y < 0) := by rw [← hu, ← hv]; exact hnu
     have hs : ¬ x < 0 ↔ y < 0 := by rw [← decide_not] at hs; exact decide_eq_decide.mp hs
     refine ⟨u, by rw [show (x.natAbs : Int) - y.natAbs = ((x + y).natAbs : Int) from by omega]; rfl, fun h => ?_⟩
     rw [hu]
     apply decide_eq_decide.mpr
     omega
end Go.Proofs.Ytbamoboldhabjaa

/- Exact numbers: Add, Sub. -/
namespace Go.Proofs.Ytbamoboldhabjaa

theorem ofv_nat (n : Nat) : ofV (n : Int) = ⟨((n / 18446744073709551616 : Nat) : Int), ((n % 18446744073709551616 : Nat) : Int)⟩ := by
 unfold ofV
 congr 1
theorem f_radd {a b : TFrac} (ha : RV a) (hb : RV b) : F_ratio_Add a b = some (outQ (qOf a + qOf b)) := by
 obtain ⟨n1, ad⟩ := a
 obtain ⟨n2, bd⟩ := b
 obtain ⟨x0, x1, x2, x3, x4⟩ := id ha
 obtain ⟨y0, y1, y2, y3, y4⟩ := id hb
 dsimp only at *
 obtain ⟨d1, rfl⟩ := Int.eq_ofNat_of_zero_le (show 0 ≤ ad by omega)
 obtain ⟨d2, rfl⟩ := Int.eq_ofNat_of_zero_le (show 0 ≤ bd by omega)
 rw [Int.toNat_natCast] at x4 y4
 unfold F_ratio_Add
 rw [rv_true ha, rv_true hb]
 simp only [Option.bind_some, Bool.not_true, cond_false, wrapu]
 rw [show (d2 : Int) % 18446744073709551616 = d2 from by omega, show (d1 : Int) % 18446744073709551616 = d1 from by omega, f_gcd _ _ (by unfold big; omega)]
 simp only [Option.bind_some]
 have hg : 0 < Nat.gcd d1 d2 := Nat.gcd_pos_of_pos_right _ (by omega)
 have hc : Nat.gcd (d1 / Nat.gcd d1 d2) (d2 / Nat.gcd d1 d2) = 1 := Nat.gcd_div_gcd_div_gcd_of_pos_right (by omega)
 have hd1 := Nat.div_mul_cancel (Nat.gcd_dvd_left d1 d2)
 have hd2 := Nat.div_mul_cancel (Nat.gcd_dvd_right d1 d2)
 have hq1 := Nat.div_le_self d1 (Nat.gcd d1 d2)
 have hq2 := Nat.div_le_self d2 (Nat.gcd d1 d2)
 have hgle : Nat.gcd d1 d2 ≤ d1 := Nat.gcd_le_left _ (by omega)
 have tm (u v : Nat) : (u : Int).tdiv (v : Int) = ((u / v : Nat) : Int) := by rw [Int.tdiv_eq_ediv_of_nonneg (by omega), Int.natCast_ediv]
 have hp1 : 0 < d1 / Nat.gcd d1 d2 := Nat.div_pos hgle hg
 have hp2 : 0 < d2 / Nat.gcd d1 d2 := Nat.div_pos (Nat.gcd_le_right _ (by omega)) hg
 have ea : qOf ⟨n1, d1⟩ + qOf ⟨n2, d2⟩ = mkRat n1 d1 + mkRat n2 d2 := rfl
 rw [ea]
 simp only [tm]
 generalize Nat.gcd d1 d2 = g at *
 generalize he1 : d1 / g = e1 at *
 generalize he2 : d2 / g = e2 at *
 have hi : ((g : Nat) : Int) ≠ 0 := by omega
 simp only [if_neg hi]
 rw [f_size (by omega) (by omega), f_size (by omega) (by omega)]
 simp only [Option.bind_some]
 rw [show (e1 : Int) % 18446744073709551616 = e1 from by omega, show (e2 : Int) % 18446744073709551616 = e2 from by omega]
 obtain ⟨p1, k1⟩ := wok_prod (x := (n1.natAbs : Int)) (y := (e2 : Int)) (by omega) (by omega) (by omega) (by omega)
 obtain ⟨p2, k2⟩ := wok_prod (x := (n2.natAbs : Int)) (y := (e1 : Int)) (by omega) (by omega) (by omega) (by omega)
 rw [p1, p2]
 simp only [Option.bind_some]
 rw [← hd1] at x4
 rw [← hd2] at y4
 obtain ⟨es, eg⟩ := add_red (n1 := n1) (n2 := n2) hp1 hp2 hg x4 y4 hc
 rw [show mkRat n1 d1 + mkRat n2 d2 = mkRat (n1 * e2 + n2 * e1) (e1 * e2 * g) from by rw [← hd1, ← hd2]; exact es]
 have ab1 : ((n1.natAbs : Int) * (e2 : Int)) = ((n1 * e2).natAbs : Int) := by rw [Int.natAbs_mul]; rfl
 have ab2 : ((n2.natAbs : Int) * (e1 : Int)) = ((n2 * e1).natAbs : Int) := by rw [Int.natAbs_mul]; rfl
 have b1 : ((n1 * e2).natAbs : Int) ≤ 1329227995784915872903807060280344576 := by
  rw [← ab1]; exact Int.le_trans (Int.mul_le_mul (show (n1.natAbs : Int) ≤ 1152921504606846976 by omega) (show (e2 : Int) ≤ 1152921504606846976 by omega) (by omega) (by omega)) (by decide)
 have b2 : ((n2 * e1).natAbs : Int) ≤ 1329227995784915872903807060280344576 := by
  rw [← ab2]; exact Int.le_trans (Int.mul_le_mul (show (n2.natAbs : Int) ≤ 1152921504606846976 by omega) (show (e1 : Int) ≤ 1152921504606846976 by omega) (by omega) (by omega)) (by decide)
 have sg (n : Int) (e : Nat) (he : 0 < e) : decide (n < 0) = decide (n * e < 0) := by
  apply decide_eq_decide.mpr
  constructor
  ·intro h; exact Int.mul_neg_of_neg_of_pos h (by omega)
  ·intro h
   rcases Int.lt_or_le n 0 with h1 | h1
   ·exact h1
   ·have := Int.mul_nonneg h1 (show (0 : Int) ≤ e by omega); omega
 obtain ⟨n, hsum, hn⟩ := sum_sign (x := n1 * e2) (y := n2 * e1) k1 k2 (by rw [wv_of, ab1]) (by rw [wv_of, ab2]) (by omega) (u := decide (n1 < 0)) (v := decide (n2 < 0)) (fun _ => sg n1 e2 hp2) (fun _ => sg n2 e1 hp1)
 rw [hsum]
 simp only [Option.bind_some]
 have hg18 : g ≤ 1152921504606846976 := by omega
 have hM : ((n1 * e2 + n2 * e1).natAbs : Int) ≤ 2658455991569831745807614120560689152 := by omega
 by_cases h0 : n1 * e2 + n2 * e1 = 0
 ·rw [h0]
  rw [show (((ofV ((0 : Int).natAbs : Int)).hi == 0) && ((ofV ((0 : Int).natAbs : Int)).lo == 0)) = true from by decide, cond_true, Rat.zero_mkRat]
  rfl
 ·have hMp : 0 < (n1 * e2 + n2 * e1).natAbs := by omega
  have hn' := hn h0
  subst hn'
  rw [out_red (n := n1 * e2 + n2 * e1) (d := e1 * e2 * g) (g := Nat.gcd (n1 * e2 + n2 * e1).natAbs g) (Nat.ne_of_gt (Nat.mul_pos (Nat.mul_pos hp1 hp2) hg)) eg]
  have hcg : Nat.gcd (n1 * e2 + n2 * e1).natAbs g ∣ g := Nat.gcd_dvd_right _ _
  have hcp : 0 < Nat.gcd (n1 * e2 + n2 * e1).natAbs g := Nat.gcd_pos_of_pos_right _ hg
  have hcle := Nat.le_of_dvd hg hcg
  have hrec : Nat.gcd g ((n1 * e2 + n2 * e1).natAbs % g) = Nat.gcd (n1 * e2 + n2 * e1).natAbs g := by
   rw [Nat.gcd_comm g, ← Nat.gcd_rec, Nat.gcd_comm]
  generalize hMd : (n1 * e2 + n2 * e1).natAbs = M at *
  generalize hC : Nat.gcd M g = c at *
  have hnz : (((ofV (M : Int)).hi == 0) && ((ofV (M : Int)).lo == 0)) = false := by
   rw [ofv_nat]
   simp only [Bool.and_eq_false_iff, beq_eq_false_iff_ne]
   omega
  rw [hnz, cond_false, f_over (wok_of (by omega) (by omega)) (by omega) (by omega), wv_of]
  simp only [Option.bind_some]
  rw [show (M : Int) % (g : Int) = ((M % g : Nat) : Int) from (Int.natCast_emod _ _).symm, f_gcd _ _ (by have := Nat.mod_lt M hg; unfold big; omega), hrec]
  simp only [Option.bind_some]
  rw [f_over (wok_of (by omega) (by omega)) (by omega) (by omega), wv_of]
  simp only [Option.bind_some]
  have hcI : ((c : Nat) : Int) ≠ 0 := by omega
  rw [if_neg hcI]
  have hd2c : d2 / c ≤ d2 := Nat.div_le_self _ _
  have hden : e1 * e2 * g / c = e1 * (d2 / c) := by
   rw [Nat.mul_assoc, hd2, Nat.mul_div_assoc]
   exact Nat.dvd_trans hcg ⟨e2, by rw [← hd2, Nat.mul_comm]⟩
  rw [tm, hden]
  generalize d2 / c = q at *
  rw [show ((q : Nat) : Int) % 18446744073709551616 = ((q : Nat) : Int) from by omega]
  rw [f_product (by omega) (by omega) (by omega) (by omega)]
  simp only [Option.bind_some]
  rw [show (M : Int) / (c : Int) = ((M / c : Nat) : Int) from (Int.natCast_ediv _ _).symm, ← Int.natCast_mul, ofv_nat]
  generalize M / c = u at *
  generalize e1 * q = v at *
  by_cases c1 : ((u / 18446744073709551616 : Nat) : Int) > 0
  ·rw [decide_eq_true c1, if_neg (by omega)]
   simp only [cond_true, Option.bind_some]
  ·rw [decide_eq_false c1]
   simp only [cond_false, Option.bind_some]
   by_cases c2 : (v : Int) / 18446744073709551616 > 0
   ·rw [decide_eq_true c2, if_neg (by omega)]
    simp only [cond_true]
   ·rw [decide_eq_false c2, cond_false, f_signed (by omega) (by omega) (by omega) (by omega)]
    rw [show ((u % 18446744073709551616 : Nat) : Int) = u from by omega, show (v : Int) % 18446744073709551616 = v from by omega]
    have hcond : ((u : Int) ≤ 1152921504606846976 ∧ (v : Int) ≤ 1152921504606846976) ↔ (u ≤ 1152921504606846976 ∧ v ≤ 1152921504606846976) := by omega
    simp only [Option.bind_some, hcond, decide_eq_true_eq]
end Go.Proofs.Ytbamoboldhabjaa

/- BeamSupported. -/
namespace Go.Proofs.Ytbamoboldhabjaa
set_option linter.unusedVariables false
set_option linter.unusedSimpArgs false

theorem f_cloneL (l : List TLoad) (h : l.length ≤ 1000000) : F_slices_Clone_api_Load l = some l := by
 unfold F_slices_Clone_api_Load
 rw [if_pos (by simp; omega)]; rfl
end Go.Proofs.Ytbamoboldhabjaa

/- What the supports bear adds up, and is multiplied with the weights. -/
namespace Go.Proofs.Ytbamoboldhabjaa
set_option linter.unusedVariables false
set_option linter.unusedSimpArgs false

def wS (w : List Ld) (g : Int → Rat) : Rat := sumQ (fun x => (x.2 : Rat) * g x.1) w
structure CombW (E E1 E2 : Int) (w w1 w2 : List Ld) (c d : Rat) : Prop where
 ev : (E : Rat) = c * (E1 : Rat) + d * (E2 : Rat)
 ld : ∀ g : Int → Rat, wS w g = c * wS w1 g + d * wS w2 g
section
variable {E E1 E2 : Int} {w w1 w2 : List Ld} {c d : Rat}
theorem CombW.sum (h : CombW E E1 E2 w w1 w2 c d) {f : Ld → Rat} (g : Int → Rat) (hf : ∀ x, f x = (x.2 : Rat) * g x.1) : sumQ f w = c * sumQ f w1 + d * sumQ f w2 := by
 have e : ∀ l : List Ld, sumQ f l = wS l g := fun l => sumQ_congr fun x _ => hf x
 rw [e, e, e]
 exact h.ld g
theorem CombW.over (h : CombW E E1 E2 w w1 w2 c d) (a : Int) : overQ E w a = c * overQ E1 w1 a + d * overQ E2 w2 a := by
 unfold overQ
 rw [h.sum (fun p => if p < a then (a : Rat) - (p : Rat) else 0) (fun x => by split <;> grind), h.ev]
 grind
theorem CombW.beyond (h : CombW E E1 E2 w w1 w2 c d) (a : Int) : beyondQ E w a = c * beyondQ E1 w1 a + d * beyondQ E2 w2 a := by
 unfold beyondQ
 rw [h.sum (fun p => if p < a then 1 else 0) (fun x => by split <;> grind), h.ev]
 grind
theorem CombW.at_ (h : CombW E E1 E2 w w1 w2 c d) (a : Int) : atQ w a = c * atQ w1 a + d * atQ w2 a := by
 unfold atQ
 exact h.sum (fun p => if p = a then 1 else 0) (fun x => by split <;> grind)
theorem CombW.lever (h : CombW E E1 E2 w w1 w2 c d) (fr to : Int) (left : Bool) : leverQ E w fr to left = c * leverQ E1 w1 fr to left + d * leverQ E2 w2 fr to left := by
 unfold leverQ
 rw [h.sum (fun p => if p ≤ fr ∨ to ≤ p then 0 else ((if left then to - p else p - fr : Int) : Rat) / ((to - fr : Int) : Rat)) (fun x => by split <;> grind), h.ev]
 grind
theorem CombW.side (h : CombW E E1 E2 w w1 w2 c d) (fr to : Int) (left : Bool) : sideQ E w fr to left = c * sideQ E1 w1 fr to left + d * sideQ E2 w2 fr to left := by
 unfold sideQ
 rw [h.sum (fun p => if p ≤ fr ∨ to ≤ p then 0 else ((if left then p - fr else to - p : Int) : Rat) * (((to - fr) * (to - fr) - (if left then p - fr else to - p) * (if left then p - fr else to - p) : Int) : Rat) / ((to - fr : Int) : Rat)) (fun x => by split <;> grind), h.ev]
 grind
theorem CombW.turn (h : CombW E E1 E2 w w1 w2 c d) (L : Int) : CombW E E1 E2 (turnW L w) (turnW L w1) (turnW L w2) c d := by
 refine ⟨h.ev, fun g => ?_⟩
 have e : ∀ l : List Ld, wS (turnW L l) g = wS l fun p => g (L - p) := fun l => by
  unfold wS turnW
  rw [sumQ_map]
 rw [e, e, e]
 exact h.ld _
end
structure Comb (b b1 b2 : TBeam) (c d : Rat) : Prop where
 s1 : b1.supports = b.supports
 s2 : b2.supports = b.supports
 l1 : b1.length = b.length
 l2 : b2.length = b.length
 w : CombW b.even b1.even b2.even (lds b.loads) (lds b1.loads) (lds b2.loads) c d
section
variable {b b1 b2 : TBeam} {c d : Rat}
theorem sp_of {b b1 : TBeam} (h : b1.supports = b.supports) (i : Nat) : sp b1 i = sp b i := by unfold sp; rw [h]
theorem gp_of {b b1 : TBeam} (h : b1.supports = b.supports) (i : Nat) : gp b1 i = gp b i := by unfold gp; rw [sp_of h, sp_of h]
theorem Comb.fst (h : Comb b b1 b2 c d) : fstQ b = c * fstQ b1 + d * fstQ b2 := by
 unfold fstQ
 rw [sp_of h.s1, sp_of h.s2, h.w.over]
 grind
theorem Comb.lst (h : Comb b b1 b2 c d) : lstQ b = c * lstQ b1 + d * lstQ b2 := by
 unfold lstQ
 rw [h.s1, h.s2, h.l1, h.l2, sp_of h.s1, sp_of h.s2, (h.w.turn b.length).over]
 grind
theorem Comb.rp (h : Comb b b1 b2 c d) (i : Nat) : Rp b i = c * Rp b1 i + d * Rp b2 i := by
 unfold Rp
 simp only [sp_of h.s1, sp_of h.s2]
 rw [h.w.side, h.w.side]
 grind
theorem sup_of {b b1 : TBeam} (hs : SupOk b) (h : b1.supports = b.supports) (hl : b1.length = b.length) : SupOk b1 := by
 obtain ⟨a1, a2, a3, a4⟩ := hs
 exact ⟨by rw [h]; exact a1, by rw [h]; exact a2, by rw [h, hl]; exact a3, by rw [h]; exact a4⟩
theorem Comb.mo (h : Comb b b1 b2 c d) (hs : SupOk b) (t1 : ¬ tilt b1) (t2 : ¬ tilt b2) {i : Nat} (hi : i < b.supports.length) : momB b i = c * momB b1 i + d * momB b2 i := by
 have S1 := sup_of hs h.s1 h.l1
 have S2 := sup_of hs h.s2 h.l2
 symm
 unfold momB
 rw [h.s1, h.s2]
 refine mom_unique (n := b.supports.length) (g := gp b) (R := Rp b) (first := fstQ b) (last := lstQ b) (fun k hk => gp_pos hs k hk) (fun j => c * mom (gp b1) (Rp b1) (fstQ b1) (lstQ b1) b.supports.length j + d * mom (gp b2) (Rp b2) (fstQ b2) (lstQ b2) b.supports.length j) ?_ ?_ ?_ hi
 ·have e1 := mom_start S1 t1
  have e2 := mom_start S2 t2
  unfold momB at e1 e2
  rw [h.s1] at e1
  rw [h.s2] at e2
  rw [e1, e2, h.fst]
 ·have e1 := mom_end S1
  have e2 := mom_end S2
  unfold momB at e1 e2
  rw [h.s1] at e1
  rw [h.s2] at e2
  rw [e1, e2, h.lst]
 ·intro j hj
  have e1 := mom_eqs S1 (i := j) (by rw [h.s1]; exact hj)
  have e2 := mom_eqs S2 (i := j) (by rw [h.s2]; exact hj)
  unfold momB at e1 e2
  rw [h.s1] at e1
  rw [h.s2] at e2
  simp only [gp_of h.s1] at e1
  simp only [gp_of h.s2] at e2
  rw [h.rp, ← e1, ← e2, show gp b1 = gp b from funext (gp_of h.s1), show gp b2 = gp b from funext (gp_of h.s2)]
  grind
theorem Comb.rea (h : Comb b b1 b2 c d) (hs : SupOk b) (t1 : ¬ tilt b1) (t2 : ¬ tilt b2) {i : Nat} (hi : i < b.supports.length) : reactB b i = c * reactB b1 i + d * reactB b2 i := by
 unfold reactB reactQ
 simp only [h.s1, h.s2, h.l1, h.l2, sp_of h.s1, sp_of h.s2]
 have hm : ∀ k, k < b.supports.length → momB b k = c * momB b1 k + d * momB b2 k := fun k hk => h.mo hs t1 t2 hk
 have e1 : (if 0 < i then leverQ b.even (lds b.loads) (sp b (i - 1)) (sp b i) false + (momB b (i - 1) - momB b i) / ((sp b i - sp b (i - 1) : Int) : Rat) else 0) = c * (if 0 < i then leverQ b1.even (lds b1.loads) (sp b (i - 1)) (sp b i) false + (momB b1 (i - 1) - momB b1 i) / ((sp b i - sp b (i - 1) : Int) : Rat) else 0) + d * (if 0 < i then leverQ b2.even (lds b2.loads) (sp b (i - 1)) (sp b i) false + (momB b2 (i - 1) - momB b2 i) / ((sp b i - sp b (i - 1) : Int) : Rat) else 0) := by
  by_cases h0 : 0 < i
  ·rw [if_pos h0, if_pos h0, if_pos h0, h.w.lever, hm i hi, hm (i - 1) (by omega)]
   grind
  ·rw [if_neg h0, if_neg h0, if_neg h0]; grind
 have e2 : (if i + 1 < b.supports.length then leverQ b.even (lds b.loads) (sp b i) (sp b (i + 1)) true + (momB b (i + 1) - momB b i) / ((sp b (i + 1) - sp b i : Int) : Rat) else 0) = c * (if i + 1 < b.supports.length then leverQ b1.even (lds b1.loads) (sp b i) (sp b (i + 1)) true + (momB b1 (i + 1) - momB b1 i) / ((sp b (i + 1) - sp b i : Int) : Rat) else 0) + d * (if i + 1 < b.supports.length then leverQ b2.even (lds b2.loads) (sp b i) (sp b (i + 1)) true + (momB b2 (i + 1) - momB b2 i) / ((sp b (i + 1) - sp b i : Int) : Rat) else 0) := by
  by_cases h0 : i + 1 < b.supports.length
  ·rw [if_pos h0, if_pos h0, if_pos h0, h.w.lever, hm i hi, hm (i + 1) h0]
   grind
  ·rw [if_neg h0, if_neg h0, if_neg h0]; grind
 have e3 : (if i = 0 then beyondQ b.even (lds b.loads) (sp b i) else 0) = c * (if i = 0 then beyondQ b1.even (lds b1.loads) (sp b i) else 0) + d * (if i = 0 then beyondQ b2.even (lds b2.loads) (sp b i) else 0) := by
  by_cases h0 : i = 0
  ·rw [if_pos h0, if_pos h0, if_pos h0, h.w.beyond]
  ·rw [if_neg h0, if_neg h0, if_neg h0]; grind
 have e4 : (if i + 1 = b.supports.length then beyondQ b.even (turnW b.length (lds b.loads)) (b.length - sp b i) else 0) = c * (if i + 1 = b.supports.length then beyondQ b1.even (turnW b.length (lds b1.loads)) (b.length - sp b i) else 0) + d * (if i + 1 = b.supports.length then beyondQ b2.even (turnW b.length (lds b2.loads)) (b.length - sp b i) else 0) := by
  by_cases h0 : i + 1 = b.supports.length
  ·rw [if_pos h0, if_pos h0, if_pos h0, (h.w.turn b.length).beyond]
  ·rw [if_neg h0, if_neg h0, if_neg h0]; grind
 rw [h.w.at_, e1, e2, e3, e4]
 grind
end
end Go.Proofs.Ytbamoboldhabjaa

/- Sums, products and comparisons of fractions that fit. -/
namespace Go.Proofs.Ytbamoboldhabjaa
set_option linter.unusedVariables false
set_option linter.unusedSimpArgs false

theorem t_fitint {n : Int} (h : n.natAbs ≤ 1152921504606846976) : fitQ (n : Rat) := by
 unfold fitQ
 rw [Rat.num_intCast, Rat.den_intCast]
 omega
theorem t_add {a b : Rat} (ha : fitQ a) (hb : fitQ b) : F_ratio_Add (frQ a) (frQ b) = some (outQ (a + b)) := by
 rw [f_radd (fr_rv ha).1 (fr_rv hb).1, (fr_rv ha).2, (fr_rv hb).2]
theorem t_mul {a b : Rat} (ha : fitQ a) (hb : fitQ b) : F_ratio_Mul (frQ a) (frQ b) = some (outQ (a * b)) := by
 rw [f_rmul (fr_rv ha).1 (fr_rv hb).1, (fr_rv ha).2, (fr_rv hb).2]
end Go.Proofs.Ytbamoboldhabjaa

/- BeamAdds: reactions add up; multiplied weights have multiplied reactions. -/
namespace Go.Proofs.Ytbamoboldhabjaa
set_option linter.unusedVariables false
set_option linter.unusedSimpArgs false

def partA (b : TBeam) (k : Nat) : TBeam := ⟨b.name, b.length, b.supports, b.loads.take k, b.even⟩
def partB (b : TBeam) (k : Nat) : TBeam := ⟨b.name, b.length, b.supports, b.loads.drop k, 0⟩
def multB (b : TBeam) (n : Int) : TBeam := ⟨b.name, b.length, b.supports, b.loads.map fun x => ⟨x.at_, x.weight * n⟩, b.even * n⟩
theorem valid_parts {b : TBeam} (h : validBm b = true) (k : Nat) : validBm (partA b k) = true ∧ validBm (partB b k) = true := by
 unfold validBm at h ⊢
 rw [Bool.and_eq_true, Bool.and_eq_true, Bool.and_eq_true] at h
 obtain ⟨h1, h2, h3, h4⟩ := h
 rw [Bool.and_eq_true, Bool.and_eq_true, Bool.and_eq_true, Bool.and_eq_true, Bool.and_eq_true, Bool.and_eq_true]
 have e2 : ∀ l : List TLoad, l.length ≤ b.loads.length → (!badH2 (⟨b.name, b.length, b.supports, l, b.even⟩ : TBeam)) = true := by
  intro l hl
  unfold badH2 at h2 ⊢
  simp only [Bool.not_eq_true', Bool.or_eq_false_iff, decide_eq_false_iff_not] at h2 ⊢
  refine ⟨h2.1, h2.2.1, ?_⟩
  show ¬ ((l.length : Nat) : Int) > 40
  have := h2.2.2
  omega
 have e4 : ∀ l : List TLoad, (∀ x ∈ l, x ∈ b.loads) → l.all (fun x => !badL b x) = true := by
  intro l hl
  rw [List.all_eq_true] at h4 ⊢
  exact fun x hx => h4 x (hl x hx)
 refine ⟨⟨h1, e2 (b.loads.take k) (by simp; omega), h3, e4 (b.loads.take k) fun x hx => List.mem_of_mem_take hx⟩, ?_, e2 (b.loads.drop k) (by simp), h3, e4 (b.loads.drop k) fun x hx => List.mem_of_mem_drop hx⟩
 unfold badH1 at h1 ⊢
 simp only [Bool.not_eq_true', Bool.or_eq_false_iff, decide_eq_false_iff_not, Bool.not_eq_false'] at h1 ⊢
 exact ⟨h1.1, h1.2.1, h1.2.2.1, by show ¬ (0 : Int) < 0; omega, by show ¬ (0 : Int) > 1048576; omega⟩
theorem comb_parts (b : TBeam) (k : Nat) : Comb b (partA b k) (partB b k) 1 1 := by
 refine ⟨rfl, rfl, rfl, rfl, ⟨?_, fun g => ?_⟩⟩
 ·show (b.even : Rat) = 1 * (b.even : Rat) + 1 * ((0 : Int) : Rat)
  have : ((0 : Int) : Rat) = 0 := rfl
  rw [this]; grind
 ·show wS (lds b.loads) g = 1 * wS (lds (b.loads.take k)) g + 1 * wS (lds (b.loads.drop k)) g
  have e : lds b.loads = lds (b.loads.take k) ++ lds (b.loads.drop k) := by
   unfold lds
   rw [← List.map_append, List.take_append_drop]
  rw [e]
  unfold wS
  rw [sumQ_append]
  grind
theorem comb_mult (b : TBeam) (n : Int) : Comb (multB b n) b b (n : Rat) 0 := by
 refine ⟨rfl, rfl, rfl, rfl, ⟨?_, fun g => ?_⟩⟩
 ·show ((b.even * n : Int) : Rat) = (n : Rat) * (b.even : Rat) + 0 * (b.even : Rat)
  rw [Rat.intCast_mul]; grind
 ·show wS (lds (b.loads.map fun x => ⟨x.at_, x.weight * n⟩)) g = (n : Rat) * wS (lds b.loads) g + 0 * wS (lds b.loads) g
  have e : ∀ l : List TLoad, wS (lds (l.map fun x => ⟨x.at_, x.weight * n⟩)) g = (n : Rat) * wS (lds l) g := by
   intro l
   induction l with
   | nil => show (0 : Rat) = (n : Rat) * 0; grind
   | cons x l ih =>
    show (((x.weight * n : Int) : Rat) * g x.at_ + wS (lds (l.map fun x => ⟨x.at_, x.weight * n⟩)) g) = (n : Rat) * ((x.weight : Rat) * g x.at_ + wS (lds l) g)
    rw [ih, Rat.intCast_mul]
    grind
  rw [e]; grind
theorem reaF_get {b : TBeam} {i : Nat} (h : i < b.supports.length) : ((reaL b).map frQ)[i]? = some (frQ (reactB b i)) := by
 unfold reaL
 rw [List.map_map, List.getElem?_map, List.getElem?_range h]; rfl
theorem reaF_len (b : TBeam) : (reaL b).length = b.supports.length := by unfold reaL; simp
theorem rea_fit {b : TBeam} (h : ∀ q ∈ reaL b, fitQ q) {i : Nat} (hi : i < b.supports.length) : fitQ (reactB b i) := h _ (List.mem_map.2 ⟨i, List.mem_range.2 hi, rfl⟩)
theorem out_ways (l : List Rat) : ((∀ q ∈ l, fitQ q) ∧ outL l = (l.map frQ, 0)) ∨ outL l = ([], 5) := by
 by_cases h : ∀ q ∈ l, fitQ q
 ·exact .inl ⟨h, outL_fit h⟩
 ·exact .inr (outL_big h)
theorem mul_set {l : List TLoad} (n : Int) {k : Nat} (h : k < l.length) : ((l.take k).map (fun x => (⟨x.at_, x.weight * n⟩ : TLoad)) ++ l.drop k).set k ⟨l[k].at_, l[k].weight * n⟩ = (l.take (k + 1)).map (fun x => (⟨x.at_, x.weight * n⟩ : TLoad)) ++ l.drop (k + 1) ∧ ((l.take k).map (fun x => (⟨x.at_, x.weight * n⟩ : TLoad)) ++ l.drop k)[k]? = some l[k] := by
 have hl : ((l.take k).map (fun x => (⟨x.at_, x.weight * n⟩ : TLoad))).length = k := by rw [List.length_map, List.length_take]; omega
 constructor
 ·rw [List.drop_eq_getElem_cons h, List.set_append_right _ _ (by omega), hl, Nat.sub_self, List.set_cons_zero, List.take_succ_eq_append_getElem h, List.map_append, List.append_assoc]
  rfl
 ·rw [List.drop_eq_getElem_cons h, List.getElem?_append_right (by omega), hl, Nat.sub_self]; rfl
theorem w8_of {n : Int} (h : W_u8 n) : 0 ≤ n ∧ n ≤ 255 := by
 unfold W_u8 at h
 have h3 : IntKind.min .u8 ≤ n ∧ n ≤ IntKind.max .u8 := by simpa [Lit.wf] using h
 exact h3
theorem gnif {γ : Type} {c : Prop} [Decidable c] {X Y : Option γ} {P : γ → Prop} (h : ¬ c) (g : Gs Y P) : Gs (if c then X else Y) P := by rw [if_neg h]; exact g
theorem main_BeamAdds (x0 : TBeam) (x1 : Int) (x2 : Int) (w0 : W_Beam x0) (w1 : W_u8 x1) (w2 : W_u8 x2) : F_law20_BeamAdds x0 x1 x2 = some true := by
 apply gs_eq
 unfold F_law20_BeamAdds
 refine go awake20 (gf rfl (gcalll (f_right x0) fun v hv0 => ?_))
 cases hvv : v with
 | false => exact gbt rfl (gs (gt rfl (gend rfl)))
 | true =>
  obtain ⟨hl, hv, ht⟩ := hv0.1 hvv
  obtain ⟨hw, _, hl45⟩ := long_small hl
  obtain ⟨hb, hs⟩ := valid_in hv
  have hn := hs.n10
  have hl0 := hb.l0
  have hlb := hb.l1
  refine gbf rfl (gs ?_)
  by_cases h2 : x0.supports.length < 2
  ·exact gt (decide_eq_true (by omega)) (gend rfl)
  refine gf (decide_eq_false (by omega)) ?_
  have hx1 := w8_of w1
  have hx2 := w8_of w2
  have hwl : IntKind.i64.wrap (((x0.loads.length : Nat) : Int) + 1) = ((x0.loads.length + 1 : Nat) : Int) := by rw [wrap64 (by omega) (by omega)]; omega
  have hk0 : ((IntKind.i64.wrap x1).tmod (IntKind.i64.wrap (((x0.loads.length : Nat) : Int) + 1))) = (((x1 % ((x0.loads.length + 1 : Nat) : Int)).toNat : Nat) : Int) := by
   rw [hwl, wrap64 (n := x1) (by omega) (by omega), Int.tmod_eq_emod_of_nonneg hx1.1]
   have := Int.emod_nonneg x1 (show ((x0.loads.length + 1 : Nat) : Int) ≠ 0 by omega)
   omega
  have hkl : (x1 % ((x0.loads.length + 1 : Nat) : Int)).toNat ≤ x0.loads.length := by
   have h3 := Int.emod_nonneg x1 (show ((x0.loads.length + 1 : Nat) : Int) ≠ 0 by omega)
   have h4 := Int.emod_lt_of_pos x1 (show (0 : Int) < ((x0.loads.length + 1 : Nat) : Int) by omega)
   omega
  rw [hk0]
  generalize (x1 % ((x0.loads.length + 1 : Nat) : Int)).toNat = k at hkl ⊢
  have hN0 : IntKind.i64.wrap (1 + ((IntKind.i64.wrap x2).tmod 7)) = 1 + x2 % 7 := by
   rw [wrap64 (n := x2) (by omega) (by omega), Int.tmod_eq_emod_of_nonneg hx2.1, wrap64 (by omega) (by omega)]
  rw [hN0]
  obtain ⟨n, hn'⟩ : ∃ n, n = 1 + x2 % 7 := ⟨_, rfl⟩
  rw [← hn']
  have hn1 : 1 ≤ n ∧ n ≤ 7 := by omega
  obtain ⟨va, vb⟩ := valid_parts hv k
  have t0 : x0.supports.length ≠ 1 := by omega
  have ta : ¬ tilt (partA x0 k) := fun e => t0 e.1
  have tb : ¬ tilt (partB x0 k) := fun e => t0 e.1
  have sa : SmallB (partA x0 k) := ⟨hw.name, hw.sup, by show (x0.loads.take k).length ≤ _; have := hw.ld; simp; omega⟩
  have sb : SmallB (partB x0 k) := ⟨hw.name, hw.sup, by show (x0.loads.drop k).length ≤ _; have := hw.ld; simp; omega⟩
  have hR := f_Reactions hw hv ht
  have hA := f_Reactions sa va ta
  have hB := f_Reactions sb vb tb
  have eA : TBeam.mk x0.name x0.length x0.supports ((x0.loads.take (Int.toNat ((k : Nat) : Int))).drop (Int.toNat (0 : Int))) x0.even = partA x0 k := by rw [Int.toNat_natCast]; rfl
  have eB : TBeam.mk x0.name x0.length x0.supports ((x0.loads.take (Int.toNat ((x0.loads.length : Nat) : Int))).drop (Int.toNat ((k : Nat) : Int))) 0 = partB x0 k := by rw [Int.toNat_natCast, Int.toNat_natCast, List.take_length]; rfl
  rw [eA, eB]
  refine gnif (by rw [hwl]; omega) (gif (by omega) (gif (by omega) (go hR (go hA (go hB ?_)))))
  have hrl := reaF_len x0
  have hra := reaF_len (partA x0 k)
  have hrb := reaF_len (partB x0 k)
  have sA : (partA x0 k).supports = x0.supports := rfl
  have sB : (partB x0 k).supports = x0.supports := rfl
  -- what the parts say
  refine gcall (Q := fun y => y = .inr ()) ?_ ?_
  ·rcases out_ways (reaL x0) with ⟨f0, e0⟩ | e0
   ·rcases out_ways (reaL (partA x0 k)) with ⟨fa, ea⟩ | ea
    ·rcases out_ways (reaL (partB x0 k)) with ⟨fb, eb⟩ | eb
     ·rw [e0, ea, eb]
      refine gbt rfl (gbt rfl (gs (gt rfl ?_)))
      refine gbf ?_ (gs (gf ?_ ?_))
      ·show (((((reaL (partA x0 k)).map frQ).length : Nat) : Int) != ((((reaL x0).map frQ).length : Nat) : Int)) = false
       rw [List.length_map, List.length_map, hra, hrl, sA]; simp
      ·show (((((reaL (partB x0 k)).map frQ).length : Nat) : Int) != ((((reaL x0).map frQ).length : Nat) : Int)) = false
       rw [List.length_map, List.length_map, hrb, hrl, sB]; simp
      refine gloop (fun r : (Bool × Unit) ⊕ Unit => r = .inr ()) (fun j t => j ≤ x0.supports.length ∧ t = ((j : Int), ())) x0.supports.length (by unfold big; omega) ⟨Nat.zero_le _, rfl⟩ ?_ ?_
      ·rintro j t hj ⟨_, rfl⟩
       rcases Nat.lt_or_ge j x0.supports.length with hlt | hge
       ·have g0 := reaF_get (b := x0) hlt
        have ga := reaF_get (b := partA x0 k) (i := j) hlt
        have gb := reaF_get (b := partB x0 k) (i := j) hlt
        have hadd := t_add (rea_fit fa (i := j) hlt) (rea_fit fb (i := j) hlt)
        have hsum : reactB (partA x0 k) j + reactB (partB x0 k) j = reactB x0 j := by
         have := (comb_parts x0 k).rea hs ta tb hlt
         rw [this]; grind
        rw [hsum, fr_fit (rea_fit f0 hlt)] at hadd
        have w1 : IntKind.i64.wrap ((j : Int) + 1) = ((j + 1 : Nat) : Int) := by rw [wrap64 (by omega) (by omega)]; omega
        refine gt (decide_eq_true (by show (j : Int) < ((((reaL x0).map frQ).length : Nat) : Int); rw [List.length_map, hrl]; omega)) (go (idx_q ga) (go (at_w rfl ga) (go (idx_q gb) (go (at_w rfl gb) (go hadd (gbt rfl (goo (idx_q g0) (goo (at_w rfl g0) (gs (gf (by simp) (gend ⟨hlt, hlt, ?_⟩)))))))))))
        show (IntKind.i64.wrap ((j : Int) + 1), ()) = _
        rw [w1]
       ·exact gf (decide_eq_false (by show ¬ (j : Int) < ((((reaL x0).map frQ).length : Nat) : Int); rw [List.length_map, hrl]; omega)) (gend rfl)
      ·rintro r rfl
       exact gend rfl
     ·rw [e0, ea, eb]
      exact gbt rfl (gbt rfl (gs (gf rfl (gend rfl))))
    ·rw [e0, ea]
     exact gbt rfl (gbf rfl (gs (gf rfl (gend rfl))))
   ·rw [e0]
    exact gbf rfl (gs (gf rfl (gend rfl)))
  rintro y rfl
  refine go (f_cloneL _ (by have := hw.ld; omega)) ?_
  have hload : ∀ x ∈ x0.loads, 0 ≤ x.weight ∧ x.weight ≤ 67108864 := fun x hx => by
   have := hb.ld x hx
   exact ⟨this.2.2.1, this.2.2.2⟩
  refine gloop (fun r : List TLoad × Unit => r = (x0.loads.map (fun x => (⟨x.at_, x.weight * n⟩ : TLoad)), ())) (fun j t => j ≤ x0.loads.length ∧ t = ((j : Int), (x0.loads.take j).map (fun x => (⟨x.at_, x.weight * n⟩ : TLoad)) ++ x0.loads.drop j, ())) x0.loads.length (by unfold big; omega) ⟨Nat.zero_le _, rfl⟩ ?_ ?_
  ·rintro j t hj ⟨_, rfl⟩
   rcases Nat.lt_or_ge j x0.loads.length with hlt | hge
   ·obtain ⟨m1, m2⟩ := mul_set n hlt
    have hwt := hload _ (List.getElem_mem hlt)
    have hprod : 0 ≤ x0.loads[j].weight * n ∧ x0.loads[j].weight * n ≤ 469762048 := by
     refine ⟨Int.mul_nonneg hwt.1 (by omega), ?_⟩
     have := Int.mul_le_mul hwt.2 hn1.2 (by omega) (by omega)
     omega
    have hwm : IntKind.i64.wrap (x0.loads[j].weight * n) = x0.loads[j].weight * n := wrap64 (by omega) (by omega)
    have w1 : IntKind.i64.wrap ((j : Int) + 1) = ((j + 1 : Nat) : Int) := by rw [wrap64 (by omega) (by omega)]; omega
    refine gt (decide_eq_true (by show (j : Int) < ((x0.loads.length : Nat) : Int); omega)) (go (idx_q m2) (go (at_w rfl m2) (go (idx_q m2) (go (at_w rfl m2) (gend ⟨hlt, hlt, ?_⟩)))))
    show (IntKind.i64.wrap ((j : Int) + 1), (((x0.loads.take j).map (fun x => (⟨x.at_, x.weight * n⟩ : TLoad)) ++ x0.loads.drop j).set (Int.toNat (j : Int)) (TLoad.mk x0.loads[j].at_ (IntKind.i64.wrap (x0.loads[j].weight * n)))), ()) = _
    rw [w1, hwm, Int.toNat_natCast, m1]
   ·refine gf (decide_eq_false (by show ¬ (j : Int) < ((x0.loads.length : Nat) : Int); omega)) (gend ?_)
    show ((x0.loads.take j).map (fun x => (⟨x.at_, x.weight * n⟩ : TLoad)) ++ x0.loads.drop j, ()) = _
    rw [List.take_of_length_le hge, List.drop_of_length_le hge, List.append_nil]
  rintro r rfl
  have he0 := hb.e0; have he1 := hb.e1
  have hprod : 0 ≤ x0.even * n ∧ x0.even * n ≤ 7340032 := by
   refine ⟨Int.mul_nonneg he0 (by omega), ?_⟩
   have := Int.mul_le_mul he1 hn1.2 (by omega) (by omega)
   omega
  have hwe : IntKind.i64.wrap (x0.even * n) = x0.even * n := wrap64 (by omega) (by omega)
  have eM : TBeam.mk x0.name x0.length x0.supports (x0.loads.map (fun x => (⟨x.at_, x.weight * n⟩ : TLoad))) (IntKind.i64.wrap (x0.even * n)) = multB x0 n := by rw [hwe]; rfl
  have sM : SmallB (multB x0 n) := ⟨hw.name, hw.sup, by show (x0.loads.map _).length ≤ _; rw [List.length_map]; exact hw.ld⟩
  have tM : ¬ tilt (multB x0 n) := fun e => t0 e.1
  have hM : ∃ y : List TFrac × Int, F_beam_Reactions (multB x0 n) = some y ∧ (y = ([], 1) ∨ y = ([], 5) ∨ (y = ((reaL (multB x0 n)).map frQ, 0) ∧ ∀ q ∈ reaL (multB x0 n), fitQ q)) := by
   cases hvm : validBm (multB x0 n) with
   | true =>
    refine ⟨_, f_Reactions sM hvm tM, ?_⟩
    rcases out_ways (reaL (multB x0 n)) with ⟨f, e⟩ | e
    ·exact .inr (.inr ⟨e, f⟩)
    ·exact .inr (.inl e)
   | false => exact ⟨_, f_Reactions_bad (by decide) (f_given_bad sM hvm), .inl rfl⟩
  obtain ⟨y, hM1, hM2⟩ := hM
  rw [← eM] at hM1
  refine go hM1 ?_
  rcases out_ways (reaL x0) with ⟨f0, e0⟩ | e0
  ·rw [e0]
   rcases hM2 with rfl | rfl | ⟨rfl, fM⟩
   ·exact gbf rfl (gs (gt rfl (gbt rfl (gbf rfl (gbf rfl (gs (gend rfl)))))))
   ·exact gbf rfl (gs (gt rfl (gbt rfl (gbf rfl (gbt rfl (gs (gend rfl)))))))
   ·have hrm := reaF_len (multB x0 n)
    have sMm : (multB x0 n).supports = x0.supports := rfl
    refine gbf rfl (gs (gf rfl (gf ?_ ?_)))
    ·show (((((reaL (multB x0 n)).map frQ).length : Nat) : Int) != ((((reaL x0).map frQ).length : Nat) : Int)) = false
     rw [List.length_map, List.length_map, hrm, hrl, sMm]; simp
    refine gloop (fun r : (Bool × Unit) ⊕ Unit => r = .inr ()) (fun j t => j ≤ x0.supports.length ∧ t = ((j : Int), ())) x0.supports.length (by unfold big; omega) ⟨Nat.zero_le _, rfl⟩ ?_ ?_
    ·rintro j t hj ⟨_, rfl⟩
     rcases Nat.lt_or_ge j x0.supports.length with hlt | hge
     ·have g0 := reaF_get (b := x0) hlt
      have gm := reaF_get (b := multB x0 n) (i := j) hlt
      have hof : F_law20_of n = some (frQ (n : Rat)) := by rw [fr_int]; rfl
      have hmul := t_mul (rea_fit f0 (i := j) hlt) (t_fitint (n := n) (by omega))
      have hsum : reactB x0 j * (n : Rat) = reactB (multB x0 n) j := by
       have := (comb_mult x0 n).rea (sup_of hs rfl rfl) ht ht (i := j) hlt
       rw [this]; grind
      rw [hsum, fr_fit (rea_fit fM hlt)] at hmul
      have w1 : IntKind.i64.wrap ((j : Int) + 1) = ((j + 1 : Nat) : Int) := by rw [wrap64 (by omega) (by omega)]; omega
      refine gt (decide_eq_true (by show (j : Int) < ((((reaL x0).map frQ).length : Nat) : Int); rw [List.length_map, hrl]; omega)) (go (idx_q g0) (go (at_w rfl g0) (go hof (go hmul (gbt rfl (goo (idx_q gm) (goo (at_w rfl gm) (gs (gf (by simp) (gend ⟨hlt, hlt, ?_⟩))))))))))
      show (IntKind.i64.wrap ((j : Int) + 1), ()) = _
      rw [w1]
     ·exact gf (decide_eq_false (by show ¬ (j : Int) < ((((reaL x0).map frQ).length : Nat) : Int); rw [List.length_map, hrl]; omega)) (gend rfl)
    ·rintro r rfl
     exact gend rfl
  ·rw [e0]
   rcases hM2 with rfl | rfl | ⟨rfl, fM⟩
   ·exact gbt rfl (gs (gt rfl (gbf rfl (gbt rfl (gbf rfl (gbf rfl (gs (gend rfl))))))))
   ·exact gbt rfl (gs (gt rfl (gbf rfl (gbt rfl (gbf rfl (gbt rfl (gs (gend rfl))))))))
   ·exact gbt rfl (gs (gt rfl (gbf rfl (gbt rfl (gbt rfl (gs (gend rfl)))))))
end Go.Proofs.Ytbamoboldhabjaa
