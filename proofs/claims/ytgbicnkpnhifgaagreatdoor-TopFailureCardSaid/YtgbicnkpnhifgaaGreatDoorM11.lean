/- Joined by merge.py: PlN13, PlN14, PlQ3, PlQ4, PlQ5, PlQ6, PlQ7, PlG1, PlRw, PlG2, PlG3, PlG4, PlG5, PlH1, PlJ1, PlQ8a, PlQ8b, PlH2, PlH3, PlH4, PlJ1b, PlT2, PlT4a, PlT4, PlJ1c, PlT5, PlT6, PlW1, PlW2, PlW3, PlW4, PlW5, PlX2, PlX3, PlX4, PlX5. -/
import Derived.Test.YtgbicnkpnhifgaaGreatDoorM10
/- Exact numbers of the program: lowest, whole, over, plus, less, times, by as rational numbers. -/
namespace Go.Proofs.YtgbicnkpnhifgaaGreatDoor
set_option linter.unusedVariables false
set_option linter.unusedSimpArgs false

theorem q_mul (q : Rat) : q * ((q.den : Int) : Rat) = (q.num : Rat) := by
 have h := Rat.mkRat_self q
 rw [Rat.mkRat_eq_div] at h
 have hd : ((q.den : Nat) : Rat) ≠ 0 := by
  intro e
  have : (q.den : Int) = 0 := by
   apply Rat.intCast_inj.1
   simpa using e
  have := q.den_nz
  omega
 have e : (((q.den : Nat) : Int) : Rat) = ((q.den : Nat) : Rat) := rfl
 rw [e]
 grind
theorem low_of {q : Rat} {v w : Int} (hw : w ≠ 0) (h : q * (w : Rat) = (v : Rat)) : ∃ t : Int, t ≠ 0 ∧ v = q.num * t ∧ w = q.den * t := by
 have h1 := q_mul q
 have h2 : q.num * w = v * q.den := by
  apply Rat.intCast_inj.1
  rw [Rat.intCast_mul, Rat.intCast_mul]
  grind
 have hd : (q.den : Int) ∣ w := by
  have h3 : (q.den : Int) ∣ q.num * w := ⟨v, by rw [h2, Int.mul_comm]⟩
  have h4 : q.den ∣ q.num.natAbs * w.natAbs := by
   have := Int.natAbs_dvd_natAbs.2 h3
   rwa [Int.natAbs_natCast, Int.natAbs_mul] at this
  have h5 : Nat.Coprime q.den q.num.natAbs := Nat.Coprime.symm q.reduced
  have h6 := h5.dvd_of_dvd_mul_left h4
  exact Int.ofNat_dvd_left.2 h6
 obtain ⟨t, rfl⟩ := hd
 have hd0 : (q.den : Int) ≠ 0 := by have := q.den_nz; omega
 refine ⟨t, ?_, ?_, rfl⟩
 ·rintro rfl; simp at hw
 ·have : v * q.den = (q.num * t) * q.den := by rw [← h2]; grind
  exact (Int.mul_eq_mul_right_iff hd0).1 this
theorem low_gcd {q : Rat} {v w : Int} (hw : w ≠ 0) (h : q * (w : Rat) = (v : Rat)) : v.natAbs / Nat.gcd v.natAbs w.natAbs = q.num.natAbs ∧ w.natAbs / Nat.gcd v.natAbs w.natAbs = q.den ∧ (0 < w → (v < 0 ↔ q.num < 0)) ∧ (w < 0 → (0 < v ↔ q.num < 0)) ∧ (v = 0 ↔ q = 0) := by
 obtain ⟨t, t0, rfl, rfl⟩ := low_of hw h
 have hd0 : (0 : Int) < q.den := by have := q.den_nz; omega
 have hg : Nat.gcd (q.num * t).natAbs ((q.den : Int) * t).natAbs = t.natAbs := by
  rw [Int.natAbs_mul, Int.natAbs_mul, Int.natAbs_natCast, Nat.gcd_mul_right, show Nat.gcd q.num.natAbs q.den = 1 from q.reduced, Nat.one_mul]
 have ht : 0 < t.natAbs := by omega
 refine ⟨?_, ?_, ?_, ?_, ?_⟩
 ·rw [hg, Int.natAbs_mul, Nat.mul_div_cancel _ ht]
 ·rw [hg, Int.natAbs_mul, Nat.mul_div_cancel _ ht, Int.natAbs_natCast]
 ·intro hp
  have : 0 < t := Int.pos_of_mul_pos_right hp hd0 |> fun x => x
  constructor
  ·intro hv
   rcases Int.lt_or_le q.num 0 with h0 | h0
   ·exact h0
   ·have := Int.mul_nonneg h0 (Int.le_of_lt this); omega
  ·intro hv
   exact Int.mul_neg_of_neg_of_pos hv this
 ·intro hp
  have htn : t < 0 := by
   rcases Int.lt_or_le t 0 with h0 | h0
   ·exact h0
   ·have := Int.mul_nonneg (Int.le_of_lt hd0) h0; omega
  constructor
  ·intro hv
   rcases Int.lt_or_le q.num 0 with h0 | h0
   ·exact h0
   ·have := Int.mul_nonneg h0 (show 0 ≤ -t by omega)
    rw [Int.mul_neg] at this; omega
  ·intro hv
   exact Int.mul_pos_of_neg_of_neg hv htn
 ·rw [← Rat.num_eq_zero]
  constructor
  ·intro hv
   rcases Int.mul_eq_zero.1 hv with e | e
   ·exact e
   ·exact absurd e t0
  ·intro e; rw [e, Int.zero_mul]
theorem Num.wd {a : Tnumber} {v : Int} (h : Num a v) : Wd a.words v.natAbs := by
 refine ⟨h.dig, h.tight, by have := h.len; omega, ?_⟩
 have h1 := (bv_range (by decide) h.dig).1
 have h2 := h.val
 split at h2 <;> omega
theorem Num.neg_iff {a : Tnumber} {v : Int} (h : Num a v) (hv : v ≠ 0) : a.neg = true ↔ v < 0 := by
 have h1 := (bv_range (by decide) h.dig).1
 have h2 := h.val
 cases hn : a.neg <;> simp [hn] at h2 ⊢ <;> omega
structure Xq (x : Texact) (q : Rat) (c : Nat) : Prop where
 n : Num x.n q.num
 d : Num x.d q.den
 ln : x.n.words.length ≤ c
 ld : x.d.words.length ≤ c
theorem Xq.mono {x : Texact} {q : Rat} {c e : Nat} (h : Xq x q c) (hc : c ≤ e) : Xq x q e := ⟨h.n, h.d, Nat.le_trans h.ln hc, Nat.le_trans h.ld hc⟩
theorem Xq.cast {x : Texact} {q r : Rat} {c : Nat} (h : Xq x q c) (e : q = r) : Xq x r c := e ▸ h
theorem f_whole (n : Int) (h1 : -9223372036854775808 ≤ n) (h2 : n ≤ 9223372036854775807) : ∃ r, F_beam_whole n = some r ∧ Xq r (n : Rat) 2 := by
 obtain ⟨a, a1, a2, a3⟩ := f_integer n h1 h2
 obtain ⟨b, b1, b2, b3⟩ := f_integer 1 (by omega) (by omega)
 unfold F_beam_whole
 rw [a1, b1]
 exact ⟨_, rfl, a2, b2, a3, b3⟩
theorem num_of {neg : Bool} {l : List Int} {u : Nat} {z : Int} (h : Wd l u) (hl : l.length ≤ 8000000) (hz : z.natAbs = u) (hn : z ≠ 0 → (neg = true ↔ z < 0)) : Num ⟨neg, l⟩ z := by
 refine ⟨h.dig, h.tight, hl, ?_⟩
 show z = if neg = true then - bv (4294967296 : Int) l else bv (4294967296 : Int) l
 rw [h.val]
 rcases Decidable.em (z = 0) with e | e
 ·subst e
  have : u = 0 := by omega
  subst this
  simp
 ·have := hn e
  cases neg
  ·simp at this ⊢; omega
  ·simp at this ⊢; omega
theorem f_lowest {n d : Tnumber} {v w : Int} {q : Rat} {c : Nat} (hn : Num n v) (hd : Num d w) (hw : w ≠ 0) (hq : q * (w : Rat) = (v : Rat)) (hln : n.words.length ≤ c) (hld : d.words.length ≤ c) (hc : 2 ≤ c) : ∃ r, F_beam_lowest n d = some r ∧ Xq r q c := by
 unfold F_beam_lowest
 obtain ⟨s, s1, s2, s3⟩ := f_sign hn
 obtain ⟨e1, e2, e3, e4, e5⟩ := low_gcd hw hq
 rw [s1]
 simp only [Option.bind_some]
 rcases Decidable.em (v = 0) with hv | hv
 ·obtain ⟨r, r1, r2⟩ := f_whole 0 (by omega) (by omega)
  rw [s2.2 hv, r1]
  refine ⟨r, rfl, ?_⟩
  have := e5.1 hv
  subst this
  exact r2.mono hc
 ·have hs0 : (s == 0) = false := by
   rw [beq_eq_false_iff_ne]; exact fun e => hv (s2.1 e)
  rw [hs0, cond_false]
  obtain ⟨n', d', p, pn, pd, nn⟩ : ∃ n' d' : Tnumber, ((bif d.neg then (F_beam_number__opposite n).bind fun r9 => (F_beam_number__opposite d).bind fun r10 => some (r9, r10, ()) else some (n, d, ())) : Option (Tnumber × Tnumber × Unit)) = some (n', d', ()) ∧ n'.words = n.words ∧ d'.words = d.words ∧ (n'.neg = true ↔ q.num < 0) := by
   have hdn := hd.neg_iff hw
   have hnn := hn.neg_iff hv
   cases hdg : d.neg with
   | false =>
    refine ⟨n, d, rfl, rfl, rfl, ?_⟩
    rw [hdg] at hdn
    rw [hnn]
    exact e3 (by simp at hdn; omega)
   | true =>
    rw [hdg] at hdn
    obtain ⟨x, x1, x2, x3⟩ := f_opposite hn
    obtain ⟨y, y1, y2, y3⟩ := f_opposite hd
    rw [x1, y1]
    refine ⟨x, y, rfl, x3, y3, ?_⟩
    rw [x2.neg_iff (by omega), ← e4 (hdn.1 rfl)]
    omega
  have hw2 := hd.wd
  have hn2 := hn.wd
  rw [p]
  simp only [Option.bind_some]
  rw [pn, pd]
  obtain ⟨g, g1, g2⟩ := f_common hn2 hw2 (by omega) (by omega) hn.len hd.len
  have hgp : 0 < Nat.gcd v.natAbs w.natAbs := Nat.gcd_pos_of_pos_left _ (by omega)
  have hgl : g.length ≤ 8000000 := Nat.le_trans (g2.le hn2 (Nat.gcd_le_left _ (by omega))) hn.len
  obtain ⟨x, x1, x2, x3⟩ := f_divided hn2 g2 hgp hn.len hgl
  obtain ⟨y, y1, y2, y3⟩ := f_divided hw2 g2 hgp hd.len hgl
  rw [g1]
  simp only [Option.bind_some]
  rw [x1, y1]
  refine ⟨_, rfl, ?_, ?_, ?_, ?_⟩
  ·rw [e1] at x2
   exact num_of x2 (Nat.le_trans x3 hn.len) rfl fun _ => nn
  ·rw [e2] at y2
   refine num_of y2 (Nat.le_trans y3 hd.len) (by omega) fun _ => ?_
   simp
  ·exact Nat.le_trans x3 hln
  ·exact Nat.le_trans y3 hld
theorem f_eplus {x y : Texact} {q r : Rat} {c e : Nat} (hx : Xq x q c) (hy : Xq y r e) (hc : 2 ≤ c + e) (hm : c + e + 1 ≤ 8000000) : ∃ z, F_beam_exact__plus x y = some z ∧ Xq z (q + r) (c + e + 1) := by
 unfold F_beam_exact__plus
 have l1 := hx.ln
 have l2 := hx.ld
 have l3 := hy.ln
 have l4 := hy.ld
 obtain ⟨a, a1, a2, a3⟩ := f_times hx.n hy.d (by omega)
 obtain ⟨b, b1, b2, b3⟩ := f_times hy.n hx.d (by omega)
 obtain ⟨s, s1, s2, s3⟩ := f_nplus a2 b2 (by omega)
 obtain ⟨d, d1, d2, d3⟩ := f_times hx.d hy.d (by omega)
 have hw : (q.den : Int) * (r.den : Int) ≠ 0 := by
  have h1 := q.den_nz
  have h2 := r.den_nz
  intro e
  rcases Int.mul_eq_zero.1 e with e | e <;> omega
 obtain ⟨z, z1, z2⟩ := f_lowest (q := q + r) (c := c + e + 1) s2 d2 hw (by
  have h1 := q_mul q
  have h2 := q_mul r
  simp only [Rat.intCast_mul, Rat.intCast_add]
  grind) (by omega) (by omega) (by omega)
 rw [a1, b1]
 simp only [Option.bind_some]
 rw [s1, d1]
 simp only [Option.bind_some]
 rw [z1]
 exact ⟨z, rfl, z2⟩
theorem f_eless {x y : Texact} {q r : Rat} {c e : Nat} (hx : Xq x q c) (hy : Xq y r e) (hc : 2 ≤ c + e) (hm : c + e + 1 ≤ 8000000) : ∃ z, F_beam_exact__less x y = some z ∧ Xq z (q - r) (c + e + 1) := by
 unfold F_beam_exact__less
 obtain ⟨a, a1, a2, a3⟩ := f_opposite hy.n
 rw [a1]
 simp only [Option.bind_some]
 obtain ⟨z, z1, z2⟩ := f_eplus (y := ⟨a, y.d⟩) (r := -r) hx ⟨a2, hy.d, by rw [a3]; exact hy.ln, hy.ld⟩ hc hm
 rw [z1]
 exact ⟨z, rfl, z2.cast (by rw [Rat.sub_eq_add_neg])⟩
theorem f_etimes {x y : Texact} {q r : Rat} {c e : Nat} (hx : Xq x q c) (hy : Xq y r e) (hc : 2 ≤ c + e) (hm : c + e ≤ 8000000) : ∃ z, F_beam_exact__times x y = some z ∧ Xq z (q * r) (c + e) := by
 unfold F_beam_exact__times
 have l1 := hx.ln
 have l2 := hx.ld
 have l3 := hy.ln
 have l4 := hy.ld
 obtain ⟨a, a1, a2, a3⟩ := f_times hx.n hy.n (by omega)
 obtain ⟨d, d1, d2, d3⟩ := f_times hx.d hy.d (by omega)
 have hw : (q.den : Int) * (r.den : Int) ≠ 0 := by
  have h1 := q.den_nz
  have h2 := r.den_nz
  intro e
  rcases Int.mul_eq_zero.1 e with e | e <;> omega
 obtain ⟨z, z1, z2⟩ := f_lowest (q := q * r) (c := c + e) a2 d2 hw (by
  have h1 := q_mul q
  have h2 := q_mul r
  simp only [Rat.intCast_mul]
  grind) (by omega) (by omega) (by omega)
 rw [a1, d1]
 simp only [Option.bind_some]
 rw [z1]
 exact ⟨z, rfl, z2⟩
theorem f_eby {x y : Texact} {q r : Rat} {c e : Nat} (hx : Xq x q c) (hy : Xq y r e) (hr : r ≠ 0) (hc : 2 ≤ c + e) (hm : c + e ≤ 8000000) : ∃ z, F_beam_exact__by x y = some z ∧ Xq z (q / r) (c + e) := by
 unfold F_beam_exact__by
 have l1 := hx.ln
 have l2 := hx.ld
 have l3 := hy.ln
 have l4 := hy.ld
 obtain ⟨a, a1, a2, a3⟩ := f_times hx.n hy.d (by omega)
 obtain ⟨d, d1, d2, d3⟩ := f_times hx.d hy.n (by omega)
 have hw : (q.den : Int) * r.num ≠ 0 := by
  have h1 := q.den_nz
  intro e
  rcases Int.mul_eq_zero.1 e with e | e
  ·omega
  ·exact hr (Rat.num_eq_zero.1 e)
 obtain ⟨z, z1, z2⟩ := f_lowest (q := q / r) (c := c + e) a2 d2 hw (by
  have h1 := q_mul q
  have h2 := q_mul r
  simp only [Rat.intCast_mul]
  grind) (by omega) (by omega) (by omega)
 rw [a1, d1]
 simp only [Option.bind_some]
 rw [z1]
 exact ⟨z, rfl, z2⟩
theorem int_ne {n : Int} (h : n ≠ 0) : (n : Rat) ≠ 0 := by
 intro e
 exact h (Rat.intCast_inj.1 (show (n : Rat) = ((0 : Int) : Rat) from e))
def prodZ : List Int → Int
 | [] => 1
 | x :: l => x * prodZ l
theorem prodZ_append : ∀ (a b : List Int), prodZ (a ++ b) = prodZ a * prodZ b
 | [], b => by simp [prodZ]
 | x :: a, b => by simp only [List.cons_append, prodZ, prodZ_append a b, Int.mul_assoc]
theorem f_eproduct (d : Int) (l : List Int) (h3 : -9223372036854775808 ≤ d) (h4 : d ≤ 9223372036854775807) (hd : d ≠ 0) (hl : ∀ x ∈ l, -9223372036854775808 ≤ x ∧ x ≤ 9223372036854775807) (hll : l.length ≤ 1000) :
  ∃ r, F_beam_product d l = some r ∧ Xq r ((prodZ l : Rat) / (d : Rat)) (2 * l.length + 2) := by
 unfold F_beam_product
 obtain ⟨o, o1, o2, o3⟩ := f_integer 1 (by omega) (by omega)
 rw [o1]
 simp only [Option.bind_some]
 refine iter_bind (Q := fun r : Tnumber × Unit => Num r.1 (prodZ l) ∧ r.1.words.length ≤ 2 * l.length + 2) (fun k s => ∃ t, s = ((k : Int), t, ()) ∧ k ≤ l.length ∧ Num t (prodZ (l.take k)) ∧ t.words.length ≤ 2 * k + 2) l.length (by unfold big; omega) ?_ ⟨o, rfl, Nat.zero_le _, o2, by omega⟩ ?_
 ·rintro k s hk ⟨t, rfl, _, ht, htl⟩
  rcases Nat.lt_or_ge k l.length with hlt | hge
  ·have hx := hl l[k] (List.getElem_mem _)
   obtain ⟨a, a1, a2, a3⟩ := f_integer l[k] hx.1 hx.2
   obtain ⟨p, p1, p2, p3⟩ := f_times ht a2 (by omega)
   have e0 : decide ((k : Int) < ((l.length : Nat) : Int)) = true := by simp; omega
   refine .inl ⟨_, ?_, hlt, p, rfl, hlt, ?_, by omega⟩
   ·simp only [e0, cond_true]
    rw [idx_nat hlt]
    simp only [Option.bind_some]
    rw [a1]
    simp only [Option.bind_some]
    rw [p1, wrap64 (by omega) (by omega)]
    rfl
   ·rw [List.take_succ_eq_append_getElem hlt, prodZ_append]
    simpa [prodZ] using p2
  ·have hk' : k = l.length := by omega
   subst hk'
   have e0 : decide (((l.length : Nat) : Int) < ((l.length : Nat) : Int)) = false := by simp
   rw [List.take_length] at ht
   exact .inr ⟨(t, ()), by simp only [e0, cond_false], ht, htl⟩
 ·rintro ⟨t, u⟩ ⟨t1, t2⟩
  simp only at t1 t2 ⊢
  obtain ⟨b, b1, b2, b3⟩ := f_integer d h3 h4
  obtain ⟨z, z1, z2⟩ := f_lowest (q := (prodZ l : Rat) / (d : Rat)) (c := 2 * l.length + 2) t1 b2 hd (by have := int_ne hd; grind) t2 (by omega) (by omega)
  rw [b1]
  simp only [Option.bind_some]
  rw [z1]
  exact ⟨z, rfl, z2⟩
end Go.Proofs.YtgbicnkpnhifgaaGreatDoor

/- Exact numbers of the program: fraction, fractions. -/
namespace Go.Proofs.YtgbicnkpnhifgaaGreatDoor
set_option linter.unusedVariables false
set_option linter.unusedSimpArgs false

theorem or64 (m h : Nat) (hm : m < 4294967296) (hh : h < 4294967296) : bitsOf .or .u64 (m : Int) ((h * 4294967296 : Nat) : Int) = ((m + h * 4294967296 : Nat) : Int) := by
 unfold bitsOf
 rw [wrap_u]
 have e0 : ((2 ^ 64 : Nat) : Int) = 18446744073709551616 := by decide
 have h1 : (BitVec.ofInt IntKind.u64.bits (m : Int) ||| BitVec.ofInt IntKind.u64.bits ((h * 4294967296 : Nat) : Int)).toNat = m ||| h * 4294967296 := by
  show (BitVec.ofInt 64 (m : Int) ||| BitVec.ofInt 64 ((h * 4294967296 : Nat) : Int)).toNat = _
  rw [BitVec.toNat_or, BitVec.toNat_ofInt, BitVec.toNat_ofInt]
  have e1 : ((m : Int) % ((2 ^ 64 : Nat) : Int)).toNat = m := by
   rw [e0, Int.emod_eq_of_lt (by omega) (by omega)]; exact Int.toNat_natCast _
  have e2 : (((h * 4294967296 : Nat) : Int) % ((2 ^ 64 : Nat) : Int)).toNat = h * 4294967296 := by
   rw [e0, Int.emod_eq_of_lt (by omega) (by omega)]; exact Int.toNat_natCast _
  rw [e1, e2]
 have h2 : m ||| h * 4294967296 = m + h * 4294967296 := by
  have := Nat.two_pow_add_eq_or_of_lt (i := 32) (b := m) (by omega) h
  rw [Nat.or_comm, Nat.mul_comm h, Nat.add_comm m]
  exact this.symm
 show ((BitVec.ofInt IntKind.u64.bits (m : Int) ||| BitVec.ofInt IntKind.u64.bits ((h * 4294967296 : Nat) : Int)).toNat : Int) % 18446744073709551616 = _
 rw [h1, h2]
 omega
theorem or_word {l : List Int} {k : Nat} (hd : dig (4294967296 : Int) l) (hk : k < 2) : bitsOf .or .u64 (bv (4294967296 : Int) (l.take k)) (IntKind.u64.wrap ((IntKind.u64.wrap (dg l k)) * 2 ^ min (Int.toNat (IntKind.i64.wrap (32 * (k : Int)))) IntKind.u64.bits)) = bv (4294967296 : Int) (l.take (k + 1)) := by
 have hr := dg_range (by decide) hd k
 have h0 := dg_range (by decide) hd 0
 rw [bv_take_succ]
 obtain ⟨x, hx⟩ : ∃ x, dg l k = x := ⟨_, rfl⟩
 rw [hx] at hr ⊢
 have w1 : IntKind.u64.wrap x = x := by rw [wrap_u]; omega
 rw [w1]
 obtain ⟨n, rfl⟩ := Int.eq_ofNat_of_zero_le hr.1
 rcases Nat.lt_or_ge k 1 with h | h
 ·have : k = 0 := by omega
  subst this
  have e1 : (2 : Int) ^ min (Int.toNat (IntKind.i64.wrap (32 * ((0 : Nat) : Int)))) IntKind.u64.bits = 1 := by decide
  rw [e1, Int.mul_one, w1]
  have := or64 n 0 (by omega) (by omega)
  simp only [List.take_zero, bv, Int.pow_zero, Int.one_mul, Int.zero_add]
  simp only [Nat.zero_mul, Nat.add_zero] at this
  refine Eq.trans ?_ this
  show IntKind.u64.wrap (((BitVec.ofInt IntKind.u64.bits 0) ||| (BitVec.ofInt IntKind.u64.bits (n : Int))).toNat : Int) = IntKind.u64.wrap (((BitVec.ofInt IntKind.u64.bits (n : Int)) ||| (BitVec.ofInt IntKind.u64.bits ((0 : Nat) : Int))).toNat : Int)
  rw [BitVec.or_comm]
  rfl
 ·have : k = 1 := by omega
  subst this
  have e1 : (2 : Int) ^ min (Int.toNat (IntKind.i64.wrap (32 * ((1 : Nat) : Int)))) IntKind.u64.bits = 4294967296 := by decide
  have e2 : bv (4294967296 : Int) (l.take 1) = dg l 0 := by rw [show (1 : Nat) = 0 + 1 from rfl, bv_take_succ]; simp [bv]
  rw [e1, e2]
  obtain ⟨m, hm⟩ := Int.eq_ofNat_of_zero_le h0.1
  rw [hm] at h0 ⊢
  have e3 : IntKind.u64.wrap ((n : Int) * 4294967296) = ((n * 4294967296 : Nat) : Int) := by rw [wrap_u]; omega
  rw [e3, or64 m n (by omega) (by omega)]
  simp only [Int.pow_one]
  omega
theorem big_words {l : List Int} {u : Nat} (h : Wd l u) (hl : 2 < l.length) : 18446744073709551616 ≤ u := by
 have h1 := bv_lt_len (B := (4294967296 : Int)) (a := [4294967295, 4294967295]) (by decide) (by intro x hx; simp at hx; subst hx; omega) h.dig h.tight (by simp; omega)
 rw [h.val] at h1
 simp [bv] at h1
 omega
set_option maxHeartbeats 1000000 in
theorem f_fraction {x : Texact} {q : Rat} {c : Nat} (h : Xq x q c) : F_beam_exact__fraction x = some (outQ q) := by
 suffices hs : ∃ r, F_beam_exact__fraction x = some r ∧ r = outQ q by
  obtain ⟨r, h1, rfl⟩ := hs
  exact h1
 have hn := h.n.wd
 have hd := h.d.wd
 have hnn := h.n.neg_iff
 obtain ⟨⟨neg, wn⟩, ⟨dneg, wd⟩⟩ := x
 simp only at hn hd hnn
 unfold F_beam_exact__fraction
 dsimp only
 rcases Nat.lt_or_ge 2 wn.length with hl | hl
 ·have := big_words hn hl
  rw [decide_eq_true (by omega)]
  refine ⟨_, rfl, ?_⟩
  rw [fr_big]
  unfold fitQ; omega
 ·rw [decide_eq_false (by omega), cond_false]
  refine iter_bind (Q := fun r : TAr302 × Unit => r.1 = ⟨(q.num.natAbs : Int), 0⟩) (fun k s => k ≤ wn.length ∧ s = ((k : Int), ⟨bv (4294967296 : Int) (wn.take k), 0⟩, ())) wn.length (by unfold big; omega) ?_ ⟨Nat.zero_le _, by simp [bv]⟩ ?_
  ·rintro k s hk ⟨_, rfl⟩
   rcases Nat.lt_or_ge k wn.length with hlt | hge
   ·have e0 : decide ((k : Int) < ((wn.length : Nat) : Int)) = true := decide_eq_true (by omega)
    have e1 : ¬ (IntKind.i64.wrap (32 * (k : Int)) < 0) := by rw [wrap64 (by omega) (by omega)]; omega
    refine .inl ⟨_, ?_, hlt, hlt, rfl⟩
    simp only [e0, cond_true]
    rw [idx_nat hlt, ← dg_get hlt]
    simp only [Option.bind_some]
    rw [if_neg e1, or_word hn.dig (by omega), wrap64 (n := (k : Int) + 1) (by omega) (by omega)]
    rfl
   ·have hk' : k = wn.length := by omega
    subst hk'
    have e0 : decide (((wn.length : Nat) : Int) < ((wn.length : Nat) : Int)) = false := by simp
    refine .inr ⟨(⟨bv (4294967296 : Int) wn, 0⟩, ()), by simp only [e0, cond_false, List.take_length], ?_⟩
    rw [hn.val]
  ·rintro ⟨y, u⟩ hy
   simp only at hy ⊢
   subst hy
   dsimp only
   by_cases f1 : (q.num.natAbs : Int) > 1152921504606846976
   ·rw [decide_eq_true f1]
    refine ⟨_, rfl, ?_⟩
    rw [fr_big]
    unfold fitQ; omega
   ·rw [decide_eq_false f1, cond_false]
    rcases Nat.lt_or_ge 2 wd.length with hl2 | hl2
    ·have := big_words hd hl2
     rw [decide_eq_true (by omega)]
     refine ⟨_, rfl, ?_⟩
     rw [fr_big]
     unfold fitQ; omega
    ·rw [decide_eq_false (by omega), cond_false]
     refine iter_bind (Q := fun r : TAr302 × Unit => r.1 = ⟨(q.num.natAbs : Int), (q.den : Int)⟩) (fun k s => k ≤ wd.length ∧ s = ((k : Int), ⟨(q.num.natAbs : Int), bv (4294967296 : Int) (wd.take k)⟩, ())) wd.length (by unfold big; omega) ?_ ⟨Nat.zero_le _, by simp [bv]⟩ ?_
     ·rintro k s hk ⟨_, rfl⟩
      rcases Nat.lt_or_ge k wd.length with hlt | hge
      ·have e0 : decide ((k : Int) < ((wd.length : Nat) : Int)) = true := decide_eq_true (by omega)
       have e1 : ¬ (IntKind.i64.wrap (32 * (k : Int)) < 0) := by rw [wrap64 (by omega) (by omega)]; omega
       refine .inl ⟨_, ?_, hlt, hlt, rfl⟩
       simp only [e0, cond_true]
       rw [idx_nat hlt, ← dg_get hlt]
       simp only [Option.bind_some]
       rw [if_neg e1, or_word hd.dig (by omega), wrap64 (n := (k : Int) + 1) (by omega) (by omega)]
       rfl
      ·have hk' : k = wd.length := by omega
       subst hk'
       have e0 : decide (((wd.length : Nat) : Int) < ((wd.length : Nat) : Int)) = false := by simp
       refine .inr ⟨(⟨(q.num.natAbs : Int), bv (4294967296 : Int) wd⟩, ()), by simp only [e0, cond_false, List.take_length], ?_⟩
       rw [hd.val]; rfl
     ·rintro ⟨y, u⟩ hy
      simp only at hy ⊢
      subst hy
      dsimp only
      by_cases f2 : (q.den : Int) > 1152921504606846976
      ·rw [decide_eq_true f2]
       refine ⟨_, rfl, ?_⟩
       rw [fr_big]
       unfold fitQ; omega
      ·rw [decide_eq_false f2, cond_false, fr_fit (by unfold fitQ; omega)]
       rw [wrap64 (n := (q.num.natAbs : Int)) (by omega) (by omega), wrap64 (n := (q.den : Int)) (by omega) (by omega), wrap64 (n := 0 - (q.num.natAbs : Int)) (by omega) (by omega)]
       unfold frQ
       cases neg with
       | true =>
        refine ⟨_, rfl, ?_⟩
        rcases Decidable.em (q.num = 0) with h0 | h0
        ·rw [h0]; rfl
        ·have := (hnn h0).1 rfl
         dsimp only
         rw [show (0 : Int) - (q.num.natAbs : Int) = q.num from by omega]
       | false =>
        refine ⟨_, rfl, ?_⟩
        have : ¬ q.num < 0 := fun hneg => by
         have := (hnn (by omega)).2 hneg
         cases this
        dsimp only
        rw [show ((q.num.natAbs : Nat) : Int) = q.num from by omega]
theorem f_fractions {l : List Texact} {qs : List Rat} {c : Nat} (hl : l.length ≤ 1000000) (hq : l.length = qs.length) (hR : ∀ (i : Nat) (h : i < l.length) (h2 : i < qs.length), Xq l[i] qs[i] c) : F_beam_fractions l = some (outL qs) := by
 unfold F_beam_fractions
 exact iter_told (T := F_beam_exact__fraction) (R := fun a q => Xq a q c) (fun a q h => f_fraction h) hl hq hR
end Go.Proofs.YtgbicnkpnhifgaaGreatDoor

/- The program's beams as rational numbers: overhang, side, lever, beyond. -/
namespace Go.Proofs.YtgbicnkpnhifgaaGreatDoor
set_option linter.unusedVariables false
set_option linter.unusedSimpArgs false

theorem loop_sum {α τ γ : Type} {F : Int × τ × Unit → Option ((Int × τ × Unit) ⊕ (τ × Unit))} {K : τ × Unit → Option γ} {P : γ → Prop} {w : List α} (R : τ → Rat → Nat → Prop) (f : α → Rat) (e : Nat) (hw : w.length ≤ 1000000) {t0 : τ} {q0 : Rat} {c0 : Nat} (h0 : R t0 q0 c0)
  (hin : ∀ (k : Nat) (h : k < w.length) (t : τ) (q : Rat), R t q (c0 + e * k) → ∃ t', F ((k : Int), t, ()) = some (.inl (((k + 1 : Nat) : Int), t', ())) ∧ R t' (q + f w[k]) (c0 + e * k + e))
  (hout : ∀ t, F ((w.length : Int), t, ()) = some (.inr (t, ())))
  (hK : ∀ t, R t (q0 + sumQ f w) (c0 + e * w.length) → ∃ y, K (t, ()) = some y ∧ P y) : ∃ y, (iterF F big (0, t0, ())).bind K = some y ∧ P y := by
 refine iter_bind (Q := fun s : τ × Unit => R s.1 (q0 + sumQ f w) (c0 + e * w.length)) (fun k s => k ≤ w.length ∧ ∃ t, s = ((k : Int), t, ()) ∧ R t (q0 + sumQ f (w.take k)) (c0 + e * k)) w.length (by unfold big; omega) ?_ ⟨Nat.zero_le _, t0, rfl, ?_⟩ ?_
 ·rintro k s hk ⟨_, t, rfl, ht⟩
  rcases Nat.lt_or_ge k w.length with hlt | hge
  ·obtain ⟨t', h1, h2⟩ := hin k hlt t _ ht
   refine .inl ⟨_, h1, hlt, hlt, t', rfl, ?_⟩
   have e1 : q0 + sumQ f (w.take (k + 1)) = q0 + sumQ f (w.take k) + f w[k] := by rw [sumQ_take f hlt]; grind
   rw [e1, Nat.mul_succ, ← Nat.add_assoc]
   exact h2
  ·have hk' : k = w.length := by omega
   subst hk'
   rw [List.take_length] at ht
   exact .inr ⟨(t, ()), hout t, ht⟩
 ·simp only [List.take_zero, sumQ, Nat.mul_zero, Nat.add_zero]
  have : q0 + 0 = q0 := by grind
  rw [this]; exact h0
 ·rintro ⟨t, u⟩ h
  exact hK t h
def lds (w : List TLoad) : List Ld := w.map fun x => (x.at_, x.weight)
def LoadOk (L : Int) (x : TLoad) : Prop := 0 ≤ x.at_ ∧ x.at_ ≤ L ∧ 0 ≤ x.weight ∧ x.weight ≤ 67108864
structure BeamIn (b : TBeam) : Prop where
 l0 : 1 ≤ b.length
 l1 : b.length ≤ 1048576
 e0 : 0 ≤ b.even
 e1 : b.even ≤ 1048576
 ld : ∀ x ∈ b.loads, LoadOk b.length x
 ln : b.loads.length ≤ 40
theorem Xq.skip {x : Texact} {q : Rat} {c e : Nat} (h : Xq x q c) : Xq x (q + 0) (c + e) := (h.mono (Nat.le_add_right _ _)).cast (by grind)
theorem prod2 (a b : Int) : (prodZ [a, b] : Rat) = (a : Rat) * b := by simp only [prodZ, Int.mul_one]; rw [Rat.intCast_mul]
theorem prod3 (a b c : Int) : (prodZ [a, b, c] : Rat) = (a : Rat) * b * c := by simp only [prodZ, Int.mul_one]; rw [Rat.intCast_mul, Rat.intCast_mul, Rat.mul_assoc]
theorem prod4 (a b c d : Int) : (prodZ [a, b, c, d] : Rat) = (a : Rat) * b * c * d := by simp only [prodZ, Int.mul_one]; rw [Rat.intCast_mul, Rat.intCast_mul, Rat.intCast_mul]; grind
theorem div_one' (q : Rat) : q / ((1 : Int) : Rat) = q := by
 have : ((1 : Int) : Rat) = 1 := rfl
 rw [this]; grind
theorem f_over2 {b : TBeam} (hb : BeamIn b) {a : Int} (ha : b.supports.head? = some a) (h0 : 0 ≤ a) (h1 : a ≤ b.length) : ∃ r, F_beam_overhang b = some r ∧ Xq r (0 - overQ b.even (lds b.loads) a) 300 := by
 unfold F_beam_overhang
 have hl := hb.l1
 have he0 := hb.e0
 have he1 := hb.e1
 have hln := hb.ln
 have hx : idx b.supports 0 = some a := by
  cases hs : b.supports with
  | nil => rw [hs] at ha; simp at ha
  | cons x t => rw [hs] at ha; simp at ha; subst ha; rfl
 obtain ⟨p, p1, p2⟩ := f_eproduct 2000 [b.even, a, a] (by omega) (by omega) (by omega) (by intro x hx; simp at hx; omega) (by simp)
 rw [hx]
 simp only [Option.bind_some]
 rw [p1]
 simp only [Option.bind_some]
 refine loop_sum (w := b.loads) (fun t q c => Xq t q c) (fun x => if x.at_ < a then (x.weight : Rat) * (a - x.at_) else 0) 7 (by omega) p2 ?_ ?_ ?_
 ·intro k h t q ht
  have hx := hb.ld _ (List.getElem_mem h)
  obtain ⟨x0, x1, x2, x3⟩ := hx
  have e0 : decide ((k : Int) < ((b.loads.length : Nat) : Int)) = true := decide_eq_true (by omega)
  simp only [e0, cond_true]
  rw [idx_nat h]
  simp only [Option.bind_some]
  generalize b.loads[k] = x at *
  by_cases hc : x.at_ < a
  ·rw [decide_eq_true hc, if_pos hc, cond_true, wrap64 (n := a - x.at_) (by omega) (by omega)]
   obtain ⟨z, z1, z2⟩ := f_eproduct 1 [x.weight, a - x.at_] (by omega) (by omega) (by omega) (by intro y hy; simp at hy; omega) (by simp)
   obtain ⟨s, s1, s2⟩ := f_eplus ht z2 (by omega) (by simp only [List.length_cons, List.length_nil]; omega)
   rw [z1]
   simp only [Option.bind_some]
   rw [s1]
   simp only [Option.bind_some]
   rw [wrap64 (n := (k : Int) + 1) (by omega) (by omega)]
   refine ⟨s, rfl, (s2.mono (by simp only [List.length_cons, List.length_nil]; omega)).cast ?_⟩
   rw [div_one', prod2, Rat.intCast_sub]
  ·rw [decide_eq_false hc, if_neg hc, cond_false]
   simp only [Option.bind_some]
   rw [wrap64 (n := (k : Int) + 1) (by omega) (by omega)]
   exact ⟨t, rfl, ht.skip⟩
 ·intro t
  have e0 : decide (((b.loads.length : Nat) : Int) < ((b.loads.length : Nat) : Int)) = false := by simp
  simp only [e0, cond_false]
 ·intro t ht
  obtain ⟨z, z1, z2⟩ := f_whole 0 (by omega) (by omega)
  obtain ⟨s, s1, s2⟩ := f_eless z2 ht (by omega) (by simp only [List.length_cons, List.length_nil]; omega)
  simp only
  rw [z1]
  simp only [Option.bind_some]
  rw [s1]
  refine ⟨s, rfl, (s2.mono (by simp only [List.length_cons, List.length_nil]; omega)).cast ?_⟩
  unfold overQ lds
  rw [sumQ_map, prod3]
  rfl
theorem f_side {b : TBeam} (hb : BeamIn b) {fr to : Int} (left : Bool) (h0 : 0 ≤ fr) (h1 : fr < to) (h2 : to ≤ b.length) : ∃ r, F_beam_side b fr to left = some r ∧ Xq r (sideQ b.even (lds b.loads) fr to left) 400 := by
 unfold F_beam_side
 have hl := hb.l1
 have he0 := hb.e0
 have he1 := hb.e1
 have hln := hb.ln
 have hll : IntKind.i64.wrap (to - fr) = to - fr := wrap64 (by omega) (by omega)
 obtain ⟨p, p1, p2⟩ := f_eproduct 4000 [b.even, to - fr, to - fr, to - fr] (by omega) (by omega) (by omega) (by intro x hx; simp at hx; omega) (by simp)
 rw [hll, p1]
 simp only [Option.bind_some]
 refine loop_sum (w := b.loads) (fun t q c => Xq t q c) (fun x => if x.at_ ≤ fr ∨ to ≤ x.at_ then 0 else
  (x.weight : Rat) * ((if left then x.at_ - fr else to - x.at_ : Int) : Rat) * (((to - fr) * (to - fr) - (if left then x.at_ - fr else to - x.at_) * (if left then x.at_ - fr else to - x.at_) : Int) : Rat) / ((to - fr : Int) : Rat)) 9 (by omega) p2 ?_ ?_ ?_
 ·intro k h t q ht
  have hx := hb.ld _ (List.getElem_mem h)
  obtain ⟨x0, x1, x2, x3⟩ := hx
  have e0 : decide ((k : Int) < ((b.loads.length : Nat) : Int)) = true := decide_eq_true (by omega)
  simp only [e0, cond_true]
  rw [idx_nat h]
  simp only [Option.bind_some]
  generalize b.loads[k] = x at *
  by_cases hc : x.at_ ≤ fr ∨ to ≤ x.at_
  ·have ht1 : (((bif (decide (x.at_ ≤ fr)) then some (true, ()) else some ((decide (x.at_ ≥ to)), ())) : Option (Bool × Unit))) = some (true, ()) := by
    rcases Int.lt_or_le fr x.at_ with h3 | h3
    ·rw [decide_eq_false (by omega), cond_false, decide_eq_true (by omega)]
    ·rw [decide_eq_true h3]; rfl
   rw [ht1, if_pos hc]
   simp only [Option.bind_some, cond_true]
   rw [wrap64 (n := (k : Int) + 1) (by omega) (by omega)]
   exact ⟨t, rfl, ht.skip⟩
  ·have ht1 : (((bif (decide (x.at_ ≤ fr)) then some (true, ()) else some ((decide (x.at_ ≥ to)), ())) : Option (Bool × Unit))) = some (false, ()) := by
    rw [decide_eq_false (by omega), cond_false, decide_eq_false (by omega)]
   rw [ht1, if_neg hc]
   simp only [Option.bind_some, cond_false]
   obtain ⟨a, ha⟩ : ∃ a, (if left then x.at_ - fr else to - x.at_ : Int) = a := ⟨_, rfl⟩
   have hab : 0 < a ∧ a < to - fr := by rw [← ha]; split <;> omega
   have hy : (((bif (!left) then some ((IntKind.i64.wrap (to - x.at_)), ()) else some ((IntKind.i64.wrap (x.at_ - fr)), ())) : Option (Int × Unit))) = some (a, ()) := by
    rw [← ha, wrap64 (n := to - x.at_) (by omega) (by omega), wrap64 (n := x.at_ - fr) (by omega) (by omega)]
    cases left <;> rfl
   rw [hy, ha]
   simp only [Option.bind_some]
   have hsq1 : (to - fr) * (to - fr) ≤ 1048576 * 1048576 := Int.mul_le_mul (by omega) (by omega) (by omega) (by omega)
   have hsq2 : a * a ≤ (to - fr) * (to - fr) := Int.mul_le_mul (by omega) (by omega) (by omega) (by omega)
   have hsq0 : 0 ≤ a * a := Int.mul_nonneg (by omega) (by omega)
   rw [wrap64 (n := (to - fr) * (to - fr)) (by omega) (by omega), wrap64 (n := a * a) (by omega) (by omega), wrap64 (n := (to - fr) * (to - fr) - a * a) (by omega) (by omega)]
   obtain ⟨z, z1, z2⟩ := f_eproduct (to - fr) [x.weight, a, (to - fr) * (to - fr) - a * a] (by omega) (by omega) (by omega) (by intro y hy; simp at hy; omega) (by simp)
   obtain ⟨s, s1, s2⟩ := f_eplus ht z2 (by omega) (by simp only [List.length_cons, List.length_nil]; omega)
   rw [z1]
   simp only [Option.bind_some]
   rw [s1]
   simp only [Option.bind_some]
   rw [wrap64 (n := (k : Int) + 1) (by omega) (by omega)]
   refine ⟨s, rfl, (s2.mono (by simp only [List.length_cons, List.length_nil]; omega)).cast ?_⟩
   rw [prod3]
 ·intro t
  have e0 : decide (((b.loads.length : Nat) : Int) < ((b.loads.length : Nat) : Int)) = false := by simp
  simp only [e0, cond_false]
 ·intro t ht
  refine ⟨t, rfl, (ht.mono (by simp only [List.length_cons, List.length_nil]; omega)).cast ?_⟩
  unfold sideQ lds
  rw [sumQ_map, prod4]
  rfl
theorem f_lever {b : TBeam} (hb : BeamIn b) {fr to : Int} (left : Bool) (h0 : 0 ≤ fr) (h1 : fr < to) (h2 : to ≤ b.length) : ∃ r, F_beam_lever b fr to left = some r ∧ Xq r (leverQ b.even (lds b.loads) fr to left) 300 := by
 unfold F_beam_lever
 have hl := hb.l1
 have he0 := hb.e0
 have he1 := hb.e1
 have hln := hb.ln
 have hll : IntKind.i64.wrap (to - fr) = to - fr := wrap64 (by omega) (by omega)
 obtain ⟨p, p1, p2⟩ := f_eproduct 2000 [b.even, to - fr] (by omega) (by omega) (by omega) (by intro x hx; simp at hx; omega) (by simp)
 rw [hll, p1]
 simp only [Option.bind_some]
 refine loop_sum (w := b.loads) (fun t q c => Xq t q c) (fun x => if x.at_ ≤ fr ∨ to ≤ x.at_ then 0 else (x.weight : Rat) * ((if left then to - x.at_ else x.at_ - fr : Int) : Rat) / ((to - fr : Int) : Rat)) 7 (by omega) p2 ?_ ?_ ?_
 ·intro k h t q ht
  have hx := hb.ld _ (List.getElem_mem h)
  obtain ⟨x0, x1, x2, x3⟩ := hx
  have e0 : decide ((k : Int) < ((b.loads.length : Nat) : Int)) = true := decide_eq_true (by omega)
  simp only [e0, cond_true]
  rw [idx_nat h]
  simp only [Option.bind_some]
  generalize b.loads[k] = x at *
  by_cases hc : x.at_ ≤ fr ∨ to ≤ x.at_
  ·have ht1 : (((bif (decide (x.at_ ≤ fr)) then some (true, ()) else some ((decide (x.at_ ≥ to)), ())) : Option (Bool × Unit))) = some (true, ()) := by
    rcases Int.lt_or_le fr x.at_ with h3 | h3
    ·rw [decide_eq_false (by omega), cond_false, decide_eq_true (by omega)]
    ·rw [decide_eq_true h3]; rfl
   rw [ht1, if_pos hc]
   simp only [Option.bind_some, cond_true]
   rw [wrap64 (n := (k : Int) + 1) (by omega) (by omega)]
   exact ⟨t, rfl, ht.skip⟩
  ·have ht1 : (((bif (decide (x.at_ ≤ fr)) then some (true, ()) else some ((decide (x.at_ ≥ to)), ())) : Option (Bool × Unit))) = some (false, ()) := by
    rw [decide_eq_false (by omega), cond_false, decide_eq_false (by omega)]
   rw [ht1, if_neg hc]
   simp only [Option.bind_some, cond_false]
   obtain ⟨a, ha⟩ : ∃ a, (if left then to - x.at_ else x.at_ - fr : Int) = a := ⟨_, rfl⟩
   have hab : 0 < a ∧ a < to - fr := by rw [← ha]; split <;> omega
   have hy : (((bif (!left) then some ((IntKind.i64.wrap (x.at_ - fr)), ()) else some ((IntKind.i64.wrap (to - x.at_)), ())) : Option (Int × Unit))) = some (a, ()) := by
    rw [← ha, wrap64 (n := to - x.at_) (by omega) (by omega), wrap64 (n := x.at_ - fr) (by omega) (by omega)]
    cases left <;> rfl
   rw [hy, ha]
   simp only [Option.bind_some]
   obtain ⟨z, z1, z2⟩ := f_eproduct (to - fr) [x.weight, a] (by omega) (by omega) (by omega) (by intro y hy; simp at hy; omega) (by simp)
   obtain ⟨s, s1, s2⟩ := f_eplus ht z2 (by omega) (by simp only [List.length_cons, List.length_nil]; omega)
   rw [z1]
   simp only [Option.bind_some]
   rw [s1]
   simp only [Option.bind_some]
   rw [wrap64 (n := (k : Int) + 1) (by omega) (by omega)]
   refine ⟨s, rfl, (s2.mono (by simp only [List.length_cons, List.length_nil]; omega)).cast ?_⟩
   rw [prod2]
 ·intro t
  have e0 : decide (((b.loads.length : Nat) : Int) < ((b.loads.length : Nat) : Int)) = false := by simp
  simp only [e0, cond_false]
 ·intro t ht
  refine ⟨t, rfl, (ht.mono (by simp only [List.length_cons, List.length_nil]; omega)).cast ?_⟩
  unfold leverQ lds
  rw [sumQ_map, prod2]
  rfl
theorem f_beyond {b : TBeam} (hb : BeamIn b) {a : Int} (h0 : 0 ≤ a) (h1 : a ≤ b.length) : ∃ r, F_beam_beyond b a = some r ∧ Xq r (beyondQ b.even (lds b.loads) a) 200 := by
 unfold F_beam_beyond
 have hl := hb.l1
 have he0 := hb.e0
 have he1 := hb.e1
 have hln := hb.ln
 obtain ⟨p, p1, p2⟩ := f_eproduct 1000 [b.even, a] (by omega) (by omega) (by omega) (by intro x hx; simp at hx; omega) (by simp)
 rw [p1]
 simp only [Option.bind_some]
 refine loop_sum (w := b.loads) (fun t q c => Xq t q c) (fun x => if x.at_ < a then (x.weight : Rat) else 0) 3 (by omega) p2 ?_ ?_ ?_
 ·intro k h t q ht
  have hx := hb.ld _ (List.getElem_mem h)
  obtain ⟨x0, x1, x2, x3⟩ := hx
  have e0 : decide ((k : Int) < ((b.loads.length : Nat) : Int)) = true := decide_eq_true (by omega)
  simp only [e0, cond_true]
  rw [idx_nat h]
  simp only [Option.bind_some]
  generalize b.loads[k] = x at *
  by_cases hc : x.at_ < a
  ·rw [decide_eq_true hc, if_pos hc, cond_true]
   obtain ⟨z, z1, z2⟩ := f_whole x.weight (by omega) (by omega)
   obtain ⟨s, s1, s2⟩ := f_eplus ht z2 (by omega) (by simp only [List.length_cons, List.length_nil]; omega)
   rw [z1]
   simp only [Option.bind_some]
   rw [s1]
   simp only [Option.bind_some]
   rw [wrap64 (n := (k : Int) + 1) (by omega) (by omega)]
   exact ⟨s, rfl, s2.mono (by omega)⟩
  ·rw [decide_eq_false hc, if_neg hc, cond_false]
   simp only [Option.bind_some]
   rw [wrap64 (n := (k : Int) + 1) (by omega) (by omega)]
   exact ⟨t, rfl, ht.skip⟩
 ·intro t
  have e0 : decide (((b.loads.length : Nat) : Int) < ((b.loads.length : Nat) : Int)) = false := by simp
  simp only [e0, cond_false]
 ·intro t ht
  refine ⟨t, rfl, (ht.mono (by simp only [List.length_cons, List.length_nil]; omega)).cast ?_⟩
  unfold beyondQ lds
  rw [sumQ_map, prod2]
  rfl
end Go.Proofs.YtgbicnkpnhifgaaGreatDoor

/- The program's beams as rational numbers: turned, moments. -/
namespace Go.Proofs.YtgbicnkpnhifgaaGreatDoor
set_option linter.unusedVariables false
set_option linter.unusedSimpArgs false

def turnB (b : TBeam) : TBeam := ⟨b.name, b.length, b.supports.reverse.map (fun s => b.length - s), b.loads.map (fun x => ⟨b.length - x.at_, x.weight⟩), b.even⟩
theorem ordS_snd {α : Type} (l : List α) : (ordS true l).map (fun x => x.2) = l.reverse := by
 unfold ordS
 rw [List.map_reverse, List.map_map]
 congr 1
 have : ((fun x : Nat × α => x.2) ∘ fun p : α × Nat => (p.2, p.1)) = Prod.fst := rfl
 rw [this]
 exact List.zipIdx_map_fst 0 l
theorem fold_turn (L : Int) (hL0 : 0 ≤ L) (hL : L ≤ 1048576) : ∀ (l : List (Nat × Int)) (s : TBeam), (∀ x ∈ l, 0 ≤ x.2 ∧ x.2 ≤ L) → s.supports.length + l.length ≤ 1000000 →
  foldR (σ := TBeam × Unit) (τ := Nat × Int) (fun s1 x2 => (if s1.1.supports.length + ([(IntKind.i64.wrap (L - x2.2))] : List Int).length ≤ 2147483648 then some ((TBeam.mk s1.1.name s1.1.length (s1.1.supports ++ ([(IntKind.i64.wrap (L - x2.2))] : List Int)) s1.1.loads s1.1.even), ()) else none)) l (s, ()) = some (⟨s.name, s.length, s.supports ++ (l.map fun x => x.2).map (fun x => L - x), s.loads, s.even⟩, ())
 | [], s, _, _ => by simp [foldR]
 | x :: l, s, h, hl => by
  have hx := h x List.mem_cons_self
  unfold foldR
  rw [if_pos (by simp at hl ⊢; omega), wrap64 (by omega) (by omega)]
  simp only [Option.bind_some]
  rw [fold_turn L hL0 hL l _ (fun y hy => h y (List.mem_cons_of_mem _ hy)) (by simp at hl ⊢; omega)]
  simp
structure SupOk (b : TBeam) : Prop where
 n1 : 1 ≤ b.supports.length
 n10 : b.supports.length ≤ 10
 rg : ∀ x ∈ b.supports, 0 ≤ x ∧ x ≤ b.length
 inc : ∀ i, i + 1 < b.supports.length → b.supports.getD i 0 < b.supports.getD (i + 1) 0
theorem f_turned {b : TBeam} (hb : BeamIn b) (hs : SupOk b) : F_beam_turned b = some (turnB b) := by
 have hl0 := hb.l0
 have hl1 := hb.l1
 have hln := hb.ln
 have hn := hs.n10
 suffices h : ∃ r, F_beam_turned b = some r ∧ r = turnB b by
  obtain ⟨r, h1, rfl⟩ := h
  exact h1
 unfold F_beam_turned
 rw [if_pos (by omega), fold_turn b.length (by omega) hl1 _ _ (by
  intro x hx
  have h1 : x.2 ∈ b.supports := by
   have h2 : x.2 ∈ (ordS true b.supports).map (fun x => x.2) := List.mem_map_of_mem hx
   rw [ordS_snd] at h2
   exact List.mem_reverse.1 h2
  exact hs.rg _ h1) (by simp [ordS]; omega), ordS_snd]
 simp only [Option.bind_some, List.nil_append]
 refine iter_bind (Q := fun s : TBeam × Unit => s.1 = turnB b) (fun k s => k ≤ b.loads.length ∧ s = ((k : Int), ⟨b.name, b.length, b.supports.reverse.map (fun s => b.length - s), (b.loads.take k).map (fun x => ⟨b.length - x.at_, x.weight⟩), b.even⟩, ())) b.loads.length (by unfold big; omega) ?_ ⟨Nat.zero_le _, rfl⟩ ?_
 ·rintro k s hk ⟨_, rfl⟩
  rcases Nat.lt_or_ge k b.loads.length with hlt | hge
  ·have e0 : decide ((k : Int) < ((b.loads.length : Nat) : Int)) = true := decide_eq_true (by omega)
   obtain ⟨x0, x1, x2, x3⟩ := hb.ld _ (List.getElem_mem hlt)
   refine .inl ⟨_, ?_, hlt, hlt, rfl⟩
   simp only [e0, cond_true]
   rw [idx_nat hlt]
   simp only [Option.bind_some]
   rw [if_pos (by simp; omega), wrap64 (n := b.length - b.loads[k].at_) (by omega) (by omega), wrap64 (n := (k : Int) + 1) (by omega) (by omega), List.take_succ_eq_append_getElem hlt, List.map_append]
   rfl
  ·have e0 : decide ((k : Int) < ((b.loads.length : Nat) : Int)) = false := decide_eq_false (by omega)
   refine .inr ⟨((⟨b.name, b.length, b.supports.reverse.map (fun s => b.length - s), (b.loads.take k).map (fun x => ⟨b.length - x.at_, x.weight⟩), b.even⟩ : TBeam), ()), by simp only [e0, cond_false], ?_⟩
   show (⟨b.name, b.length, b.supports.reverse.map (fun s => b.length - s), (b.loads.take k).map (fun x => ⟨b.length - x.at_, x.weight⟩), b.even⟩ : TBeam) = turnB b
   rw [List.take_of_length_le hge]
   rfl
 ·rintro ⟨t, u⟩ h
  exact ⟨t, rfl, h⟩
theorem turn_in {b : TBeam} (hb : BeamIn b) : BeamIn (turnB b) := by
 refine ⟨hb.l0, hb.l1, hb.e0, hb.e1, ?_, by show (b.loads.map _).length ≤ 40; rw [List.length_map]; exact hb.ln⟩
 intro x hx
 obtain ⟨y, hy, rfl⟩ := List.mem_map.1 hx
 obtain ⟨x0, x1, x2, x3⟩ := hb.ld y hy
 exact ⟨by show 0 ≤ b.length - y.at_; omega, by show b.length - y.at_ ≤ b.length; omega, x2, x3⟩
theorem turn_lds (b : TBeam) : lds (turnB b).loads = turnW b.length (lds b.loads) := by
 unfold lds turnW turnB
 rw [List.map_map, List.map_map]
 rfl
def sp (b : TBeam) (i : Nat) : Int := b.supports.getD i 0
def gp (b : TBeam) (i : Nat) : Rat := ((sp b (i + 1) - sp b i : Int) : Rat)
def Rp (b : TBeam) (i : Nat) : Rat := 0 - sideQ b.even (lds b.loads) (sp b (i - 1)) (sp b i) true - sideQ b.even (lds b.loads) (sp b i) (sp b (i + 1)) false
def fstQ (b : TBeam) : Rat := 0 - overQ b.even (lds b.loads) (sp b 0)
def lstQ (b : TBeam) : Rat := 0 - overQ b.even (turnW b.length (lds b.loads)) (b.length - sp b (b.supports.length - 1))
def momB (b : TBeam) (i : Nat) : Rat := mom (gp b) (Rp b) (fstQ b) (lstQ b) b.supports.length i
theorem sp_get {b : TBeam} {i : Nat} (h : i < b.supports.length) : b.supports[i]? = some (sp b i) := by
 unfold sp
 rw [List.getD_eq_getElem?_getD, List.getElem?_eq_getElem h]; rfl
theorem idx_q {α : Type} {l : List α} {k : Nat} {x : α} (h : l[k]? = some x) : idx l (k : Int) = some x := by
 unfold idx
 rw [if_pos (by omega), Int.toNat_natCast, h]
theorem sp_idx {b : TBeam} {i : Nat} (h : i < b.supports.length) : idx b.supports (i : Int) = some (sp b i) := idx_q (sp_get h)
theorem sp_rg {b : TBeam} (hs : SupOk b) {i : Nat} (h : i < b.supports.length) : 0 ≤ sp b i ∧ sp b i ≤ b.length := by
 have := sp_get h
 exact hs.rg _ (List.mem_of_getElem? this)
theorem gp_pos {b : TBeam} (hs : SupOk b) : ∀ i, i + 1 < b.supports.length → 0 < gp b i := by
 intro i h
 have := hs.inc i h
 unfold gp
 exact Rat.intCast_lt_intCast.2 (show (0 : Int) < sp b (i + 1) - sp b i by unfold sp; omega)
theorem f_bfirst {b : TBeam} (hb : BeamIn b) (hs : SupOk b) : ∃ r, F_beam_overhang b = some r ∧ Xq r (fstQ b) 300 := by
 have h := sp_rg hs (i := 0) (by have := hs.n1; omega)
 refine f_over2 hb ?_ h.1 h.2
 rw [List.head?_eq_getElem?]
 exact sp_get (by have := hs.n1; omega)
theorem f_last {b : TBeam} (hb : BeamIn b) (hs : SupOk b) : ∃ r, F_beam_overhang (turnB b) = some r ∧ Xq r (lstQ b) 300 := by
 have hn := hs.n1
 have h := sp_rg hs (i := b.supports.length - 1) (by omega)
 have hl : (turnB b).length = b.length := rfl
 obtain ⟨r, r1, r2⟩ := f_over2 (turn_in hb) (a := b.length - sp b (b.supports.length - 1)) (by
  show (b.supports.reverse.map (fun s => b.length - s)).head? = _
  rw [List.head?_map, List.head?_reverse, List.getLast?_eq_getElem?, sp_get (by omega)]
  rfl) (by omega) (by rw [hl]; omega)
 exact ⟨r, r1, r2.cast (by rw [turn_lds]; rfl)⟩
end Go.Proofs.YtgbicnkpnhifgaaGreatDoor

/- The program's moments as rational numbers. -/
namespace Go.Proofs.YtgbicnkpnhifgaaGreatDoor
set_option linter.unusedVariables false
set_option linter.unusedSimpArgs false

def rtB (b : TBeam) (i : Nat) : Rat := Rp b i - gp b (i - 1) * (pq (gp b) (Rp b) (fstQ b) (i - 1)).1
def mdB (b : TBeam) (i : Nat) : Rat := midQ (gp b) (Rp b) (fstQ b) (i - 1)
theorem pq_one (b : TBeam) (i : Nat) : (pq (gp b) (Rp b) (fstQ b) (i + 1)).1 = rtB b (i + 1) / mdB b (i + 1) ∧ (pq (gp b) (Rp b) (fstQ b) (i + 1)).2 = gp b (i + 1) / mdB b (i + 1) := ⟨rfl, rfl⟩
theorem md_pos {b : TBeam} (hs : SupOk b) {i : Nat} (h0 : 1 ≤ i) (h : i + 1 < b.supports.length) : 0 < mdB b i := by
 unfold mdB
 exact mid_pos (n := b.supports.length - 1) (fun j hj => gp_pos hs j (by omega)) (by omega)
theorem get_set {α : Type} {l : List α} {i j : Nat} {v : α} (hi : i < l.length) : (l.set i v)[j]? = if i = j then some v else l[j]? := by
 rw [List.getElem?_set]
 by_cases h : i = j
 ·subst h; rw [if_pos rfl, if_pos rfl, if_pos hi]
 ·rw [if_neg h, if_neg h]
theorem f_bgap {b : TBeam} (hb : BeamIn b) (hs : SupOk b) {i : Nat} (h : i + 1 < b.supports.length) : ∃ r, F_beam_whole (IntKind.i64.wrap (sp b (i + 1) - sp b i)) = some r ∧ Xq r (gp b i) 2 := by
 have h1 := sp_rg hs (i := i) (by omega)
 have h2 := sp_rg hs (i := i + 1) (by omega)
 have hl := hb.l1
 rw [wrap64 (by omega) (by omega)]
 exact f_whole _ (by omega) (by omega)
theorem idx_w {α : Type} {l : List α} {k : Nat} {z : Int} {x : α} (e : z = (k : Int)) (h : l[k]? = some x) : idx l z = some x := by subst e; exact idx_q h
theorem at_w {α : Type} {l : List α} {k : Nat} {z : Int} {x : α} (e : z = (k : Int)) (h : l[k]? = some x) : l[Int.toNat z]? = some x := by subst e; rw [Int.toNat_natCast]; exact h
def FwB (b : TBeam) (k : Nat) (D T : List Texact) : Prop := D.length = b.supports.length ∧ T.length = b.supports.length ∧ (∀ j, 1 ≤ j → j ≤ k → ∃ v, D[j]? = some v ∧ Xq v (mdB b j) (7 * j + 2)) ∧ ∀ j, 1 ≤ j → j ≤ k → ∃ v, T[j]? = some v ∧ Xq v (rtB b j) (1000 * (j + 1))
theorem fw_set {b : TBeam} {k : Nat} {D T : List Texact} (h : FwB b k D T) (hk : k + 1 < b.supports.length) {d t d0 t0 : Texact} (hd : Xq d (mdB b (k + 1)) (7 * (k + 1) + 2)) (ht : Xq t (rtB b (k + 1)) (1000 * (k + 1 + 1))) : FwB b (k + 1) ((D.set (k + 1) d0).set (k + 1) d) ((T.set (k + 1) t0).set (k + 1) t) := by
 obtain ⟨h1, h2, h3, h4⟩ := h
 refine ⟨by simp [h1], by simp [h2], fun j a c => ?_, fun j a c => ?_⟩
 ·rw [List.set_set, get_set (by omega)]
  rcases Decidable.em (k + 1 = j) with e | e
  ·subst e; rw [if_pos rfl]; exact ⟨d, rfl, hd⟩
  ·rw [if_neg e]; exact h3 j a (by omega)
 ·rw [List.set_set, get_set (by omega)]
  rcases Decidable.em (k + 1 = j) with e | e
  ·subst e; rw [if_pos rfl]; exact ⟨t, rfl, ht⟩
  ·rw [if_neg e]; exact h4 j a (by omega)
theorem fw_set1 {b : TBeam} {k : Nat} {D T : List Texact} (h : FwB b k D T) (hk : k + 1 < b.supports.length) {d t t0 : Texact} (hd : Xq d (mdB b (k + 1)) (7 * (k + 1) + 2)) (ht : Xq t (rtB b (k + 1)) (1000 * (k + 1 + 1))) : FwB b (k + 1) (D.set (k + 1) d) ((T.set (k + 1) t0).set (k + 1) t) := by
 have := fw_set h hk (d0 := d) (t0 := t0) hd ht
 rwa [List.set_set] at this
def BwB (b : TBeam) (m : Nat) (O : List Texact) : Prop := O.length = b.supports.length ∧ (∃ v, O[0]? = some v ∧ Xq v (momB b 0) 300) ∧ ∀ i, m < i → i < b.supports.length → ∃ v, O[i]? = some v ∧ Xq v (momB b i) (400 + (b.supports.length - 1 - i) * 10100)
set_option maxHeartbeats 2000000 in
theorem f_moments {b : TBeam} (hb : BeamIn b) (hs : SupOk b) : Gs (F_beam_moments b) fun r => (r.2 = true ↔ (b.supports.length = 1 → fstQ b = lstQ b)) ∧ (r.2 = true → r.1.length = b.supports.length ∧ ∀ i, i < b.supports.length → ∃ x, r.1[i]? = some x ∧ Xq x (momB b i) 82000) := by
 unfold F_beam_moments
 obtain ⟨x, x1, x2⟩ := f_bfirst hb hs
 obtain ⟨y, y1, y2⟩ := f_last hb hs
 have hl := hb.l1
 have hn1 := hs.n1
 have hn10 := hs.n10
 refine go x1 (go (f_turned hb hs) (go y1 ?_))
 rcases Decidable.em (b.supports.length = 1) with h1 | h1
 ·obtain ⟨z, z1, z2⟩ := f_eless x2 y2 (by omega) (by omega)
  obtain ⟨s, s1, s2, s3⟩ := f_sign z2.n
  refine gt (by rw [beq_iff_eq]; omega) (goo z1 (goo s1 (gs (gend ?_))))
  have hd : fstQ b - lstQ b = 0 ↔ fstQ b = lstQ b := by constructor <;> intro h <;> grind
  have ht : (s == 0) = true ↔ fstQ b = lstQ b := by rw [beq_iff_eq, s2, Rat.num_eq_zero, hd]
  refine ⟨?_, ?_⟩
  ·show (s == 0) = true ↔ _
   rw [ht]
   exact ⟨fun h _ => h, fun h => h h1⟩
  ·intro h
   have h := ht.1 h
   refine ⟨by show 1 = _; omega, fun i hi => ?_⟩
   have : i = 0 := by omega
   subst this
   refine ⟨x, rfl, (x2.mono (by omega)).cast ?_⟩
   rw [h]
   unfold momB
   rw [show (0 : Nat) = b.supports.length - 1 from by omega, mom_last]
 refine gf (by rw [beq_eq_false_iff_ne]; omega) (gif ⟨by omega, by omega⟩ ?_)
 obtain ⟨Z, hZ⟩ : ∃ Z, List.replicate (Int.toNat ((b.supports.length : Nat) : Int)) (⟨⟨false, []⟩, ⟨false, []⟩⟩ : Texact) = Z := ⟨_, rfl⟩
 have hZl : Z.length = b.supports.length := by rw [← hZ, List.length_replicate, Int.toNat_natCast]
 rw [hZ]
 have hw1 : IntKind.i64.wrap (((b.supports.length : Nat) : Int) - 1) = ((b.supports.length - 1 : Nat) : Int) := by rw [wrap64 (by omega) (by omega)]; omega
 have hw2 : IntKind.i64.wrap (((b.supports.length : Nat) : Int) - 2) = ((b.supports.length - 2 : Nat) : Int) := by rw [wrap64 (by omega) (by omega)]; omega
 have g1 : Z[0]? = some Z[0] := List.getElem?_eq_getElem _
 obtain ⟨q, g2⟩ : ∃ q, (Z.set 0 x)[b.supports.length - 1]? = some q := ⟨_, List.getElem?_eq_getElem (by simp; omega)⟩
 have ht0 : Int.toNat 0 = 0 := rfl
 rw [ht0]
 refine goo (idx_w (k := 0) rfl g1) (goo g1 (goo (idx_w hw1 g2) (goo (at_w hw1 g2) (gs ?_))))
 refine gbif ⟨by omega, by omega⟩ (gbif ⟨by omega, by omega⟩ (gs ?_))
 refine gloop (fun s : List Texact × List Texact × Unit => FwB b (b.supports.length - 2) s.1 s.2.1)
  (fun k s => ∃ D T, s = (((k + 1 : Nat) : Int), D, T, ()) ∧ k + 1 ≤ b.supports.length - 1 ∧ FwB b k D T)
  (b.supports.length - 2) (by unfold big; omega) ⟨Z, Z, rfl, by omega, hZl, hZl, fun j h2 h3 => by omega, fun j h2 h3 => by omega⟩ ?_ ?_
 ·rintro k s hk ⟨D, T, rfl, hk1, hF⟩
  rcases Nat.lt_or_ge (k + 1) (b.supports.length - 1) with hlt | hge
  ·obtain ⟨hDl, hTl, hD, hT⟩ := id hF
   have w1 : IntKind.i64.wrap (((k + 1 : Nat) : Int) - 1) = (k : Int) := by rw [wrap64 (by omega) (by omega)]; omega
   have w2 : IntKind.i64.wrap (((k + 1 : Nat) : Int) + 1) = ((k + 2 : Nat) : Int) := by rw [wrap64 (by omega) (by omega)]; omega
   have r0 := sp_rg hs (i := k) (by omega)
   have r1 := sp_rg hs (i := k + 1) (by omega)
   have r2 := sp_rg hs (i := k + 2) (by omega)
   have c0 : sp b k < sp b (k + 1) := hs.inc k (by omega)
   have c1 : sp b (k + 1) < sp b (k + 2) := hs.inc (k + 1) (by omega)
   have p0 := sp_get (b := b) (i := k) (by omega)
   have p1 := sp_get (b := b) (i := k + 1) (by omega)
   have p2 := sp_get (b := b) (i := k + 2) (by omega)
   have w3 : IntKind.i64.wrap (2 * IntKind.i64.wrap (IntKind.i64.wrap (sp b (k + 1) - sp b k) + IntKind.i64.wrap (sp b (k + 2) - sp b (k + 1)))) = 2 * ((sp b (k + 1) - sp b k) + (sp b (k + 2) - sp b (k + 1))) := by
    rw [wrap64 (n := sp b (k + 1) - sp b k) (by omega) (by omega), wrap64 (n := sp b (k + 2) - sp b (k + 1)) (by omega) (by omega), wrap64 (n := (sp b (k + 1) - sp b k) + (sp b (k + 2) - sp b (k + 1))) (by omega) (by omega), wrap64 (by omega) (by omega)]
   obtain ⟨dg0, d1, d2⟩ := f_whole (IntKind.i64.wrap (2 * IntKind.i64.wrap (IntKind.i64.wrap (sp b (k + 1) - sp b k) + IntKind.i64.wrap (sp b (k + 2) - sp b (k + 1))))) (by rw [w3]; omega) (by rw [w3]; omega)
   have d3 : Xq dg0 (2 * (gp b k + gp b (k + 1))) 2 := d2.cast (by rw [w3]; unfold gp; simp only [Rat.intCast_mul, Rat.intCast_add]; rfl)
   obtain ⟨z0, zz1, zz2⟩ := f_whole 0 (by omega) (by omega)
   obtain ⟨sa, sa1, sa2⟩ := f_side hb (fr := sp b k) (to := sp b (k + 1)) true r0.1 c0 r1.2
   obtain ⟨sb, sb1, sb2⟩ := f_side hb (fr := sp b (k + 1)) (to := sp b (k + 2)) false r1.1 c1 r2.2
   obtain ⟨u1, u11, u12⟩ := f_eless zz2 sa2 (by omega) (by omega)
   obtain ⟨u2, u21, u22⟩ := f_eless u12 sb2 (by omega) (by omega)
   have u3 : Xq u2 (Rp b (k + 1)) 804 := u22.cast rfl
   obtain ⟨qd, qd1⟩ : ∃ q, D[k + 1]? = some q := ⟨_, List.getElem?_eq_getElem (by omega)⟩
   obtain ⟨qt, qt1⟩ : ∃ q, T[k + 1]? = some q := ⟨_, List.getElem?_eq_getElem (by omega)⟩
   refine gt (decide_eq_true (by show ((k + 1 : Nat) : Int) < IntKind.i64.wrap _; rw [hw1]; omega)) ?_
   refine goo (idx_w rfl p1) (goo (idx_w w1 p0) (goo (idx_w w2 p2) (goo (idx_w rfl p1) (goo d1 ?_))))
   refine goo (idx_w rfl qd1) (goo (at_w rfl qd1) (goo (idx_w w1 p0) (goo (idx_w rfl p1) (goo (idx_w rfl p1) (goo (idx_w w2 p2) (goo zz1 (goo sa1 (goo u11 (goo sb1 (goo u21 (goo (idx_w rfl qt1) (goo (at_w rfl qt1) ?_))))))))))))
   obtain ⟨gk, gk1, gk2⟩ := f_bgap hb hs (i := k) (by omega)
   have sD : ∀ v, (D.set (k + 1) v)[k + 1]? = some v := fun v => by rw [get_set (by omega), if_pos rfl]
   have sT : ∀ v, (T.set (k + 1) v)[k + 1]? = some v := fun v => by rw [get_set (by omega), if_pos rfl]
   rcases Nat.eq_zero_or_pos k with hk0 | hk0
   ·subst hk0
    obtain ⟨t1, t11, t12⟩ := f_etimes x2 gk2 (by omega) (by omega)
    obtain ⟨t2, t21, t22⟩ := f_eless u3 t12 (by omega) (by omega)
    refine gbt rfl (goo (idx_w rfl (sT _)) (goo (at_w rfl (sT _)) (goo gk1 (goo t11 (goo t21 (goo (idx_w rfl (sT _)) (goo (at_w rfl (sT _)) (gs (gend ?_)))))))))
    refine ⟨by omega, D.set (0 + 1) dg0, (T.set (0 + 1) u2).set (0 + 1) t2, by simp only [w2, Int.toNat_natCast], by omega, fw_set1 hF (by omega) ((d3.mono (by omega)).cast ?_) ((t22.mono (by omega)).cast ?_)⟩
    ·show _ = 2 * (gp b 0 + gp b (0 + 1)) - gp b 0 * (0 : Rat)
     grind
    ·show _ = Rp b (0 + 1) - gp b 0 * fstQ b
     grind
   ·obtain ⟨dp, dp1, dp2⟩ := hD k hk0 (Nat.le_refl _)
    obtain ⟨tp, tp1, tp2⟩ := hT k hk0 (Nat.le_refl _)
    have hmp := md_pos hs hk0 (show k + 1 < b.supports.length by omega)
    have sDk : ∀ v, (D.set (k + 1) v)[k]? = some dp := fun v => by rw [get_set (by omega), if_neg (by omega)]; exact dp1
    have sTk : ∀ v, (T.set (k + 1) v)[k]? = some tp := fun v => by rw [get_set (by omega), if_neg (by omega)]; exact tp1
    obtain ⟨f, f1, f2⟩ := f_eby gk2 dp2 (by grind) (by omega) (by omega)
    obtain ⟨fk, fk1, fk2⟩ := f_etimes f2 gk2 (by omega) (by omega)
    obtain ⟨dn, dn1, dn2⟩ := f_eless d3 fk2 (by omega) (by omega)
    obtain ⟨ft, ft1, ft2⟩ := f_etimes f2 tp2 (by omega) (by omega)
    obtain ⟨tn, tn1, tn2⟩ := f_eless u3 ft2 (by omega) (by omega)
    refine gbf (by show (((k + 1 : Nat) : Int) == 1) = false; rw [beq_eq_false_iff_ne]; omega) (goo (idx_w w1 (sDk _)) (goo (at_w w1 (sDk _)) (goo gk1 (goo f1 (goo (idx_w rfl (sD _)) (goo (at_w rfl (sD _)) (goo gk1 (goo fk1 (goo dn1 ?_)))))))))
    refine goo (idx_w rfl (sD _)) (goo (at_w rfl (sD _)) (goo (idx_w rfl (sT _)) (goo (at_w rfl (sT _)) (goo (idx_w w1 (sTk _)) (goo (at_w w1 (sTk _)) (goo ft1 (goo tn1 (goo (idx_w rfl (sT _)) (goo (at_w rfl (sT _)) (gs (gend ?_)))))))))))
    obtain ⟨i, rfl⟩ : ∃ i, k = i + 1 := ⟨k - 1, by omega⟩
    have hpq := pq_one b i
    refine ⟨by omega, (D.set (i + 1 + 1) dg0).set (i + 1 + 1) dn, (T.set (i + 1 + 1) u2).set (i + 1 + 1) tn, by simp only [w2, Int.toNat_natCast], by omega, fw_set hF (by omega) ((dn2.mono (by omega)).cast ?_) ((tn2.mono (by omega)).cast ?_)⟩
    ·show _ = 2 * (gp b (i + 1) + gp b (i + 1 + 1)) - gp b (i + 1) * (pq (gp b) (Rp b) (fstQ b) (i + 1)).2
     rw [hpq.2]
     grind
    ·show _ = Rp b (i + 1 + 1) - gp b (i + 1) * (pq (gp b) (Rp b) (fstQ b) (i + 1)).1
     rw [hpq.1]
     grind
  ·refine gf (decide_eq_false (by show ¬ ((k + 1 : Nat) : Int) < IntKind.i64.wrap _; rw [hw1]; omega)) (gend ?_)
   have : k = b.supports.length - 2 := by omega
   subst this
   exact hF
 ·rintro ⟨D, T, u⟩ hF
  obtain ⟨hDl, hTl, hD, hT⟩ := hF
  refine gloop (fun s : List Texact × Unit => BwB b 0 s.1)
   (fun k s => ∃ (O : List Texact) (m : Nat), s = ((m : Int), O, ()) ∧ m + k = b.supports.length - 2 ∧ BwB b m O)
   (b.supports.length - 2) (by unfold big; omega) ⟨_, b.supports.length - 2, by rw [hw2], by omega, by simp [hZl], ⟨x, ?_, x2.cast ?_⟩, ?_⟩ ?_ ?_
  ·rw [hw1, Int.toNat_natCast, get_set (by simp; omega), if_neg (by omega), get_set (by omega), if_pos rfl]
  ·unfold momB
   rw [mom_first _ _ _ _ (by omega)]
  ·intro i hi hi2
   have : i = b.supports.length - 1 := by omega
   refine ⟨y, by rw [hw1, Int.toNat_natCast, get_set (by simp; omega), if_pos this.symm], (y2.mono (by omega)).cast ?_⟩
   rw [this]
   unfold momB
   rw [mom_last]
  ·rintro k s hk ⟨O, m, rfl, hm, hO⟩
   rcases Nat.eq_zero_or_pos m with hm0 | hm0
   ·subst hm0
    exact gf (decide_eq_false (by show ¬ ((0 : Nat) : Int) > 0; omega)) (gend hO)
   ·obtain ⟨hOl, hO0, hO⟩ := hO
    have w2 : IntKind.i64.wrap ((m : Int) + 1) = ((m + 1 : Nat) : Int) := by rw [wrap64 (by omega) (by omega)]; omega
    have w1 : IntKind.i64.wrap ((m : Int) - 1) = ((m - 1 : Nat) : Int) := by rw [wrap64 (by omega) (by omega)]; omega
    obtain ⟨t, t1, t2⟩ := hT m hm0 (by omega)
    obtain ⟨d, d1, d2⟩ := hD m hm0 (by omega)
    obtain ⟨o, o1, o2⟩ := hO (m + 1) (by omega) (by omega)
    obtain ⟨gk, gk1, gk2⟩ := f_bgap hb hs (i := m) (by omega)
    have hmp := md_pos hs hm0 (show m + 1 < b.supports.length by omega)
    have hm9 : m ≤ 8 := by omega
    obtain ⟨c, hc⟩ : ∃ c, (b.supports.length - 1 - (m + 1)) * 10100 = c := ⟨_, rfl⟩
    have hc2 : (b.supports.length - 1 - m) * 10100 = c + 10100 := by
     rw [← hc, show b.supports.length - 1 - m = b.supports.length - 1 - (m + 1) + 1 from by omega, Nat.add_mul]
    have hc3 : c ≤ 8 * 10100 := by rw [← hc]; exact Nat.mul_le_mul_right _ (by omega)
    rw [hc] at o2
    obtain ⟨og, og1, og2⟩ := f_etimes o2 gk2 (by omega) (by omega)
    obtain ⟨l1, l11, l12⟩ := f_eless t2 og2 (by omega) (by omega)
    obtain ⟨z, z1, z2⟩ := f_eby l12 d2 (by grind) (by omega) (by omega)
    have p0 := sp_get (b := b) (i := m) (by omega)
    have p1 := sp_get (b := b) (i := m + 1) (by omega)
    obtain ⟨qo, qo1⟩ : ∃ q, O[m]? = some q := ⟨_, List.getElem?_eq_getElem (by omega)⟩
    refine gt (decide_eq_true (by show (0 : Int) < (m : Int); omega)) ?_
    refine go (idx_w w2 p1) (go (idx_w rfl p0) (go (idx_w rfl t1) (go (at_w rfl t1) (go (idx_w w2 o1) (go (at_w w2 o1) (go (idx_w rfl d1) (go (at_w rfl d1) (go gk1 (go og1 (go l11 (go z1 (go (idx_w rfl qo1) (go (at_w rfl qo1) (gend ?_))))))))))))))
    refine ⟨by omega, O.set m z, m - 1, by simp only [w1, Int.toNat_natCast], by omega, by simp [hOl], ?_, ?_⟩
    ·rw [get_set (by omega), if_neg (by omega)]
     exact hO0
    ·intro i hi hi2
     rw [get_set (by omega)]
     rcases Decidable.em (m = i) with h | h
     ·subst h
      rw [if_pos rfl]
      refine ⟨z, rfl, (z2.mono (by omega)).cast ?_⟩
      obtain ⟨j, rfl⟩ : ∃ j, m = j + 1 := ⟨m - 1, by omega⟩
      have hpq := pq_one b j
      unfold momB
      rw [mom_step _ _ _ _ (i := j + 1) (by omega), hpq.1, hpq.2]
      grind
     ·rw [if_neg h]
      exact hO i (by omega) hi2
  ·rintro ⟨O, u⟩ ⟨h2, h3, h4⟩
   refine gend ⟨⟨fun _ h => absurd h h1, fun _ => rfl⟩, fun _ => ⟨h2, fun i hi => ?_⟩⟩
   rcases Nat.eq_zero_or_pos i with h0 | h0
   ·subst h0
    obtain ⟨v, v1, v2⟩ := h3
    exact ⟨v, v1, v2.mono (by omega)⟩
   ·obtain ⟨v, v1, v2⟩ := h4 i h0 hi
    refine ⟨v, v1, v2.mono ?_⟩
    have : (b.supports.length - 1 - i) * 10100 ≤ 8 * 10100 := Nat.mul_le_mul_right _ (by omega)
    omega
end Go.Proofs.YtgbicnkpnhifgaaGreatDoor

/- The program's reactions as rational numbers. -/
namespace Go.Proofs.YtgbicnkpnhifgaaGreatDoor
set_option linter.unusedVariables false
set_option linter.unusedSimpArgs false

theorem loop_sumG {α τ : Type} {F : Int × τ × Unit → Option ((Int × τ × Unit) ⊕ (τ × Unit))} {w : List α} (R : τ → Rat → Nat → Prop) (f : α → Rat) (e : Nat) (hw : w.length ≤ 1000000) {t0 : τ} {q0 : Rat} {c0 : Nat} (h0 : R t0 q0 c0)
  (hin : ∀ (k : Nat) (h : k < w.length) (t : τ) (q : Rat), R t q (c0 + e * k) → Gs (F ((k : Int), t, ())) fun y => ∃ t', y = .inl (((k + 1 : Nat) : Int), t', ()) ∧ R t' (q + f w[k]) (c0 + e * k + e))
  (hout : ∀ t, F ((w.length : Int), t, ()) = some (.inr (t, ()))) : Gs (iterF F big (0, t0, ())) fun r => R r.1 (q0 + sumQ f w) (c0 + e * w.length) := by
 obtain ⟨r, h1, h2⟩ := loop_sum (F := F) (K := some) (P := fun r => R r.1 (q0 + sumQ f w) (c0 + e * w.length)) R f e hw h0 (fun k h t q ht => by
  obtain ⟨y, h1, t', rfl, h2⟩ := hin k h t q ht
  exact ⟨t', h1, h2⟩) hout fun t ht => ⟨(t, ()), rfl, ht⟩
 refine ⟨r, ?_, h2⟩
 revert h1
 cases iterF F big (0, t0, ()) with
 | none => intro h1; cases h1
 | some a => intro h1; exact h1
def reactB (b : TBeam) (i : Nat) : Rat := reactQ b.even b.length (lds b.loads) (sp b) b.supports.length (momB b) i
def Rk (n i : Nat) (O t : List Texact) (q : Rat) (c : Nat) : Prop := t.length = n ∧ (∀ j, j < i → t[j]? = O[j]?) ∧ ∃ v, t[i]? = some v ∧ Xq v q c
theorem Rk.set {n i : Nat} {O t : List Texact} {q r : Rat} {c e : Nat} {z : Texact} (h : Rk n i O t q c) (hi : i < n) (hz : Xq z r e) : Rk n i O (t.set i z) r e := by
 obtain ⟨h1, h2, h3⟩ := h
 refine ⟨by simp [h1], fun j hj => ?_, z, by rw [get_set (by omega), if_pos rfl], hz⟩
 rw [get_set (by omega), if_neg (by omega)]
 exact h2 j hj
theorem Rk.mono {n i : Nat} {O t : List Texact} {q : Rat} {c e : Nat} (h : Rk n i O t q c) (hc : c ≤ e) : Rk n i O t q e := by
 obtain ⟨h1, h2, v, h3, h4⟩ := h
 exact ⟨h1, h2, v, h3, h4.mono hc⟩
theorem Rk.cast {n i : Nat} {O t : List Texact} {q r : Rat} {c : Nat} (h : Rk n i O t q c) (e : q = r) : Rk n i O t r c := e ▸ h
set_option maxHeartbeats 2000000 in
theorem f_reactions {b : TBeam} (hb : BeamIn b) (hs : SupOk b) {m : List Texact} (hm : ∀ i, i < b.supports.length → ∃ x, m[i]? = some x ∧ Xq x (momB b i) 82000) :
  Gs (F_beam_reactions b m) fun r => r.length = b.supports.length ∧ ∀ i, i < b.supports.length → ∃ x, r[i]? = some x ∧ Xq x (reactB b i) 330000 := by
 unfold F_beam_reactions
 have hl := hb.l1
 have hn1 := hs.n1
 have hn10 := hs.n10
 have hln := hb.ln
 have hw1 : IntKind.i64.wrap (((b.supports.length : Nat) : Int) - 1) = ((b.supports.length - 1 : Nat) : Int) := by rw [wrap64 (by omega) (by omega)]; omega
 refine gif ⟨by omega, by omega⟩ ?_
 refine gloop (fun s : List Texact × Unit => s.1.length = b.supports.length ∧ ∀ i, i < b.supports.length → ∃ x, s.1[i]? = some x ∧ Xq x (reactB b i) 330000)
  (fun i s => ∃ O, s = ((i : Int), O, ()) ∧ O.length = b.supports.length ∧ ∀ j, j < i → ∃ x, O[j]? = some x ∧ Xq x (reactB b j) 330000)
  b.supports.length (by unfold big; omega) ⟨_, rfl, by simp, fun j hj => absurd hj (Nat.not_lt_zero j)⟩ ?_ ?_
 ·rintro i s hi ⟨O, rfl, hOl, hO⟩
  rcases Nat.lt_or_ge i b.supports.length with hlt | hge
  ·refine gt (decide_eq_true (by show (i : Int) < ((b.supports.length : Nat) : Int); omega)) ?_
   have pi := sp_get hlt
   have ri := sp_rg hs hlt
   obtain ⟨z0, zz1, zz2⟩ := f_whole 0 (by omega) (by omega)
   obtain ⟨qo, qo1⟩ : ∃ q, O[i]? = some q := ⟨_, List.getElem?_eq_getElem (by omega)⟩
   obtain ⟨mi, mi1, mi2⟩ := hm i hlt
   have start : Rk b.supports.length i O (O.set i z0) (0 : Rat) 2 := by
    refine ⟨by simp [hOl], fun j hj => ?_, z0, by rw [get_set (by omega), if_pos rfl], zz2⟩
    rw [get_set (by omega), if_neg (by omega)]
   have ht0 : Int.toNat ((i : Nat) : Int) = i := Int.toNat_natCast i
   simp only [ht0]
   refine goo (idx_w rfl pi) (goo zz1 (goo (idx_w rfl qo1) (goo qo1 ?_)))
   refine gcalll (loop_sumG (w := b.loads) (Rk b.supports.length i O) (fun x => if x.at_ = sp b i then (x.weight : Rat) else 0) 3 (by omega) start ?_ ?_) ?_
   ·rintro k hk t q ⟨t1, t2, v, v1, v2⟩
    obtain ⟨x0, x1, x2, x3⟩ := hb.ld _ (List.getElem_mem hk)
    have hx := idx_nat hk
    have w1 : IntKind.i64.wrap ((k : Int) + 1) = ((k + 1 : Nat) : Int) := by rw [wrap64 (by omega) (by omega)]; omega
    refine gt (decide_eq_true (by show (k : Int) < ((b.loads.length : Nat) : Int); omega)) (goo hx ?_)
    generalize b.loads[k] = x at *
    rcases Decidable.em (x.at_ = sp b i) with h | h
    ·obtain ⟨a, a1, a2⟩ := f_whole x.weight (by omega) (by omega)
     obtain ⟨p, p1, p2⟩ := f_eplus v2 a2 (by omega) (by omega)
     refine gbt (by rw [beq_iff_eq]; exact h) (goo (idx_q v1) (goo v1 (goo a1 (goo p1 (goo (idx_q v1) (goo v1 (gs (gend ⟨t.set i p, by simp only [w1], ?_⟩))))))))
     rw [if_pos h]
     exact Rk.set ⟨t1, t2, v, v1, v2⟩ hlt (p2.mono (by omega))
    ·refine gbf (by rw [beq_eq_false_iff_ne]; exact h) (gs (gend ⟨t, by simp only [w1], ?_⟩))
     rw [if_neg h]
     exact ⟨t1, t2, v, v1, v2.skip⟩
   ·intro t
    have e0 : decide (((b.loads.length : Nat) : Int) < ((b.loads.length : Nat) : Int)) = false := by simp
    simp only [e0, cond_false]
   rintro ⟨t, u⟩ ht
   have ht : Rk b.supports.length i O t (atQ (lds b.loads) (sp b i)) 122 := (ht.mono (by omega)).cast (by unfold atQ lds; rw [sumQ_map]; grind)
   refine gcalll (Q := fun r : List Texact × Unit => Rk b.supports.length i O r.1 (atQ (lds b.loads) (sp b i) + (if 0 < i then leverQ b.even (lds b.loads) (sp b (i - 1)) (sp b i) false + (momB b (i - 1) - momB b i) / ((sp b i - sp b (i - 1) : Int) : Rat) else 0)) 164427) ?_ ?_
   ·obtain ⟨t1, t2, v, v1, v2⟩ := id ht
    rcases Nat.eq_zero_or_pos i with h0 | h0
    ·subst h0
     refine gf (decide_eq_false (by omega)) (gend ?_)
     rw [if_neg (by omega)]
     exact (ht.mono (by omega)).cast (by grind)
    ·obtain ⟨j, rfl⟩ : ∃ j, i = j + 1 := ⟨i - 1, by omega⟩
     have w1 : IntKind.i64.wrap (((j + 1 : Nat) : Int) - 1) = (j : Int) := by rw [wrap64 (by omega) (by omega)]; omega
     have pj := sp_get (b := b) (i := j) (by omega)
     have rj := sp_rg hs (i := j) (by omega)
     have hc : sp b j < sp b (j + 1) := hs.inc j (by omega)
     obtain ⟨mj, mj1, mj2⟩ := hm j (by omega)
     obtain ⟨l, l1, l2⟩ := f_lever hb (fr := sp b j) (to := sp b (j + 1)) false rj.1 hc ri.2
     obtain ⟨a, a1, a2⟩ := f_eplus v2 l2 (by omega) (by omega)
     obtain ⟨d, d1, d2⟩ := f_eless mj2 mi2 (by omega) (by omega)
     obtain ⟨g, g1, g2⟩ := f_bgap hb hs (i := j) (by omega)
     obtain ⟨e, e1, e2⟩ := f_eby d2 g2 (by have := gp_pos hs j (by omega); grind) (by omega) (by omega)
     obtain ⟨f, f1, f2⟩ := f_eplus a2 e2 (by omega) (by omega)
     refine gt (decide_eq_true (by omega)) (go (idx_w w1 pj) (go (idx_q v1) (go v1 (go (idx_w w1 mj1) (go (idx_q mi1) (go l1 (go a1 (go d1 (go g1 (go e1 (go f1 (go (idx_q v1) (go v1 (gend ?_))))))))))))))
     refine Rk.set ht hlt ((f2.mono (by omega)).cast ?_)
     rw [if_pos (by omega)]
     show _ = atQ (lds b.loads) (sp b (j + 1)) + (leverQ b.even (lds b.loads) (sp b j) (sp b (j + 1)) false + (momB b j - momB b (j + 1)) / gp b j)
     grind
   rintro ⟨t', u'⟩ ht'
   clear ht
   obtain ⟨qa, hqa⟩ : ∃ qa, atQ (lds b.loads) (sp b i) + (if 0 < i then leverQ b.even (lds b.loads) (sp b (i - 1)) (sp b i) false + (momB b (i - 1) - momB b i) / ((sp b i - sp b (i - 1) : Int) : Rat) else 0) = qa := ⟨_, rfl⟩
   rw [hqa] at ht'
   have w2 : IntKind.i64.wrap ((i : Int) + 1) = ((i + 1 : Nat) : Int) := by rw [wrap64 (by omega) (by omega)]; omega
   refine gcalll (Q := fun r : List Texact × Unit => Rk b.supports.length i O r.1 (qa + (if i + 1 < b.supports.length then leverQ b.even (lds b.loads) (sp b i) (sp b (i + 1)) true + (momB b (i + 1) - momB b i) / ((sp b (i + 1) - sp b i : Int) : Rat) else 0)) 328732) ?_ ?_
   ·obtain ⟨t1, t2, v, v1, v2⟩ := id ht'
    rcases Nat.lt_or_ge (i + 1) b.supports.length with h0 | h0
    ·have pj := sp_get (b := b) (i := i + 1) (by omega)
     have rj := sp_rg hs (i := i + 1) (by omega)
     have hc : sp b i < sp b (i + 1) := hs.inc i (by omega)
     obtain ⟨mj, mj1, mj2⟩ := hm (i + 1) (by omega)
     obtain ⟨l, l1, l2⟩ := f_lever hb (fr := sp b i) (to := sp b (i + 1)) true ri.1 hc rj.2
     obtain ⟨a, a1, a2⟩ := f_eplus v2 l2 (by omega) (by omega)
     obtain ⟨d, d1, d2⟩ := f_eless mj2 mi2 (by omega) (by omega)
     obtain ⟨g, g1, g2⟩ := f_bgap hb hs (i := i) (by omega)
     obtain ⟨e, e1, e2⟩ := f_eby d2 g2 (by have := gp_pos hs i (by omega); grind) (by omega) (by omega)
     obtain ⟨f, f1, f2⟩ := f_eplus a2 e2 (by omega) (by omega)
     refine gt (decide_eq_true (by show IntKind.i64.wrap ((i : Int) + 1) < ((b.supports.length : Nat) : Int); rw [w2]; omega)) (go (idx_w w2 pj) (go (idx_q v1) (go v1 (go (idx_w w2 mj1) (go (idx_q mi1) (go l1 (go a1 (go d1 (go g1 (go e1 (go f1 (go (idx_q v1) (go v1 (gend ?_))))))))))))))
     refine Rk.set ht' hlt ((f2.mono (by omega)).cast ?_)
     rw [if_pos (by omega)]
     show _ = qa + (leverQ b.even (lds b.loads) (sp b i) (sp b (i + 1)) true + (momB b (i + 1) - momB b i) / gp b i)
     grind
    ·refine gf (decide_eq_false (by show ¬ IntKind.i64.wrap ((i : Int) + 1) < ((b.supports.length : Nat) : Int); rw [w2]; omega)) (gend ?_)
     rw [if_neg (by omega)]
     exact (ht'.mono (by omega)).cast (by grind)
   rintro ⟨ta, ua⟩ hta
   clear ht'
   obtain ⟨qb, hqb⟩ : ∃ qb, qa + (if i + 1 < b.supports.length then leverQ b.even (lds b.loads) (sp b i) (sp b (i + 1)) true + (momB b (i + 1) - momB b i) / ((sp b (i + 1) - sp b i : Int) : Rat) else 0) = qb := ⟨_, rfl⟩
   rw [hqb] at hta
   refine gcalll (Q := fun r : List Texact × Unit => Rk b.supports.length i O r.1 (qb + (if i = 0 then beyondQ b.even (lds b.loads) (sp b i) else 0)) 328940) ?_ ?_
   ·obtain ⟨t1, t2, v, v1, v2⟩ := id hta
    rcases Decidable.em (i = 0) with h0 | h0
    ·obtain ⟨l, l1, l2⟩ := f_beyond hb (a := sp b i) ri.1 ri.2
     obtain ⟨a, a1, a2⟩ := f_eplus v2 l2 (by omega) (by omega)
     refine gt (by rw [beq_iff_eq]; omega) (go (idx_q v1) (go v1 (go l1 (go a1 (go (idx_q v1) (go v1 (gend ?_)))))))
     rw [if_pos h0]
     exact Rk.set hta hlt (a2.mono (by omega))
    ·refine gf (by rw [beq_eq_false_iff_ne]; omega) (gend ?_)
     rw [if_neg h0]
     exact (hta.mono (by omega)).cast (by grind)
   rintro ⟨tb, ub⟩ htb
   clear hta
   obtain ⟨qc, hqc⟩ : ∃ qc, qb + (if i = 0 then beyondQ b.even (lds b.loads) (sp b i) else 0) = qc := ⟨_, rfl⟩
   rw [hqc] at htb
   refine gcall (Q := fun r : List Texact × Unit => Rk b.supports.length i O r.1 (qc + (if i + 1 = b.supports.length then beyondQ b.even (turnW b.length (lds b.loads)) (b.length - sp b i) else 0)) 330000) ?_ ?_
   ·obtain ⟨t1, t2, v, v1, v2⟩ := id htb
    rcases Decidable.em (i + 1 = b.supports.length) with h0 | h0
    ·have hbl : IntKind.i64.wrap (b.length - sp b i) = b.length - sp b i := wrap64 (by omega) (by omega)
     obtain ⟨l, l1, l2⟩ := f_beyond (turn_in hb) (a := b.length - sp b i) (by omega) (by show b.length - sp b i ≤ b.length; omega)
     rw [turn_lds] at l2
     obtain ⟨a, a1, a2⟩ := f_eplus v2 l2 (by omega) (by omega)
     refine gt (by rw [hw1, beq_iff_eq]; omega) (go (idx_q v1) (go v1 (go (f_turned hb hs) (go (by rw [hbl]; exact l1) (go a1 (go (idx_q v1) (go v1 (gend ?_))))))))
     rw [if_pos h0]
     exact Rk.set htb hlt (a2.mono (by omega))
    ·refine gf (by rw [hw1, beq_eq_false_iff_ne]; omega) (gend ?_)
     rw [if_neg h0]
     exact (htb.mono (by omega)).cast (by grind)
   rintro ⟨tc, uc⟩ ⟨c1, c2, v, v1, v2⟩
   refine gend ⟨hlt, tc, by simp only [w2], c1, fun j hj => ?_⟩
   rcases Decidable.em (j = i) with h | h
   ·subst h
    refine ⟨v, v1, v2.cast ?_⟩
    unfold reactB reactQ
    rw [← hqc, ← hqb, ← hqa]
   ·rw [c2 j (by omega)]
    exact hO j (by omega)
  ·have : i = b.supports.length := by omega
   subst this
   exact gf (decide_eq_false (by show ¬ ((b.supports.length : Nat) : Int) < ((b.supports.length : Nat) : Int); omega)) (gend ⟨hOl, hO⟩)
 ·rintro ⟨O, u⟩ h
  exact gend h
end Go.Proofs.YtgbicnkpnhifgaaGreatDoor

/- Valid beams. -/
namespace Go.Proofs.YtgbicnkpnhifgaaGreatDoor
set_option linter.unusedVariables false
set_option linter.unusedSimpArgs false

def badH1 (b : TBeam) : Bool := !nameB b.name || (decide (b.length < 1) || (decide (b.length > 1048576) || (decide (b.even < 0) || decide (b.even > 1048576))))
def badH2 (b : TBeam) : Bool := decide (((b.supports.length : Nat) : Int) < 1) || (decide (((b.supports.length : Nat) : Int) > 10) || decide (((b.loads.length : Nat) : Int) > 40))
def badS (b : TBeam) (i : Nat) : Bool := decide (sp b i < 0) || (decide (sp b i > b.length) || (decide (0 < i) && decide (sp b i ≤ sp b (i - 1))))
def badL (b : TBeam) (x : TLoad) : Bool := decide (x.at_ < 0) || (decide (x.at_ > b.length) || (decide (x.weight < 0) || decide (x.weight > 67108864)))
def validBm (b : TBeam) : Bool := !badH1 b && (!badH2 b && ((List.range b.supports.length).all (fun i => !badS b i) && b.loads.all (fun x => !badL b x)))
theorem bif_or (c d : Bool) : ((bif c then some (true, ()) else some (d, ())) : Option (Bool × Unit)) = some (c || d, ()) := by cases c <;> rfl
theorem all_of {n : Nat} {p : Nat → Bool} (h : ∀ j, j < n → p j = true) : (List.range n).all p = true := by
 rw [List.all_eq_true]
 intro j hj
 exact h j (List.mem_range.1 hj)
theorem all_not {n : Nat} {p : Nat → Bool} {k : Nat} (hk : k < n) (h : p k = false) : (List.range n).all p = false := by
 rw [List.all_eq_false]
 exact ⟨k, List.mem_range.2 hk, by rw [h]; simp⟩
theorem f_badload (b : TBeam) (x : TLoad) : F_beam_Valid_1 x b = some (badL b x) := by
 unfold F_beam_Valid_1 badL
 simp only [bif_or, Option.bind_some]
theorem bad_sup {b : TBeam} {k : Nat} (hk : k < b.supports.length) (hn : b.supports.length ≤ 1000000) (x : Int) (hx : x = sp b k) :
  ((bif (decide (x < 0)) then some (true, ()) else (bif (decide (x > b.length)) then some (true, ()) else (bif (decide ((k : Int) > 0)) then (idx b.supports (IntKind.i64.wrap ((k : Int) - 1))).bind fun x10 => some ((decide (x ≤ x10)), ()) else some (false, ()))) : Option (Bool × Unit))) = some (badS b k, ()) := by
 subst hx
 have h : ((bif (decide ((k : Int) > 0)) then (idx b.supports (IntKind.i64.wrap ((k : Int) - 1))).bind fun x10 => some ((decide (sp b k ≤ x10)), ()) else some (false, ())) : Option (Bool × Unit)) = some (decide (0 < k) && decide (sp b k ≤ sp b (k - 1)), ()) := by
  rcases Nat.eq_zero_or_pos k with h | h
  ·subst h; rfl
  ·rw [decide_eq_true (show (k : Int) > 0 by omega), decide_eq_true h, wrap64 (by omega) (by omega), show (k : Int) - 1 = ((k - 1 : Nat) : Int) from by omega, sp_idx (by omega)]
   rfl
 rw [h, bif_or, bif_or]
 rfl
theorem f_bvalid {b : TBeam} (hname : b.name.size ≤ 1000000) (hn : b.supports.length ≤ 1000000) (hl : b.loads.length ≤ 1000000) : F_beam_Valid b = some (validBm b) := by
 apply gs_eq
 unfold F_beam_Valid
 rw [f_name _ (by omega)]
 simp only [Option.bind_some, bif_or]
 have hh : (!nameB b.name || (decide (b.length < 1) || (decide (b.length > 1048576) || (decide (b.even < 0) || (decide (b.even > 1048576) || (decide (((b.supports.length : Nat) : Int) < 1) || (decide (((b.supports.length : Nat) : Int) > 10) || decide (((b.loads.length : Nat) : Int) > 40)))))))) = (badH1 b || badH2 b) := by
  unfold badH1 badH2
  simp only [Bool.or_assoc]
 rw [hh]
 cases h1 : (badH1 b || badH2 b) with
 | true =>
  refine gt rfl (gend ?_)
  unfold validBm
  rw [Bool.or_eq_true] at h1
  rcases h1 with h | h <;> simp [h]
 | false =>
  rw [Bool.or_eq_false_iff] at h1
  refine gf rfl ?_
  refine gloop (fun r : (Bool × Unit) ⊕ Unit => match r with
    | .inl y => y.1 = false ∧ (List.range b.supports.length).all (fun i => !badS b i) = false
    | .inr _ => (List.range b.supports.length).all (fun i => !badS b i) = true)
   (fun k s => s = ((k : Int), ()) ∧ ∀ j, j < k → (!badS b j) = true) b.supports.length (by unfold big; omega) ⟨rfl, fun j hj => absurd hj (Nat.not_lt_zero j)⟩ ?_ ?_
  ·rintro k s hk ⟨rfl, hj⟩
   rcases Nat.lt_or_ge k b.supports.length with hlt | hge
   ·refine gt (decide_eq_true (by show (k : Int) < ((b.supports.length : Nat) : Int); omega)) (go (sp_idx hlt) (go (bad_sup hlt hn _ rfl) ?_))
    cases hb : badS b k with
    | true => exact gt rfl (gend ⟨rfl, all_not hlt (by rw [hb]; rfl)⟩)
    | false =>
     refine gf rfl (gend ⟨hlt, by show (IntKind.i64.wrap ((k : Int) + 1), ()) = (((k + 1 : Nat) : Int), ()); rw [wrap64 (by omega) (by omega)]; rfl, fun j hj2 => ?_⟩)
     rcases Decidable.em (j = k) with h | h
     ·subst h; rw [hb]; rfl
     ·exact hj j (by omega)
   ·have : k = b.supports.length := by omega
    subst this
    exact gf (decide_eq_false (by show ¬ ((b.supports.length : Nat) : Int) < ((b.supports.length : Nat) : Int); omega)) (gend (all_of hj))
  ·rintro (y | y) hr
   ·obtain ⟨h2, h3⟩ := hr
    refine gend ?_
    unfold validBm
    rw [h3, h2]
    simp
   ·simp only at hr ⊢
    refine go (f_slices_ContainsFunc_api_Load b.loads (by omega) (fun z16 => F_beam_Valid_1 z16 b) (fun x => badL b x) (fun x _ => f_badload b x)) (gend ?_)
    unfold validBm
    rw [hr, h1.1, h1.2]
    simp only [Bool.not_false, Bool.true_and]
    rw [Bool.eq_iff_iff]
    simp
theorem valid_in {b : TBeam} (h : validBm b = true) : BeamIn b ∧ SupOk b := by
 unfold validBm at h
 rw [Bool.and_eq_true, Bool.and_eq_true, Bool.and_eq_true] at h
 obtain ⟨h1, h2, h3, h4⟩ := h
 unfold badH1 at h1
 unfold badH2 at h2
 simp only [Bool.not_eq_true', Bool.or_eq_false_iff, decide_eq_false_iff_not] at h1 h2
 obtain ⟨_, a1, a2, a3, a4⟩ := h1
 obtain ⟨b1, b2, b3⟩ := h2
 rw [List.all_eq_true] at h3 h4
 have hS : ∀ i, i < b.supports.length → 0 ≤ sp b i ∧ sp b i ≤ b.length ∧ (0 < i → sp b (i - 1) < sp b i) := by
  intro i hi
  have := h3 i (List.mem_range.2 hi)
  unfold badS at this
  simp only [Bool.not_eq_true', Bool.or_eq_false_iff, Bool.and_eq_false_iff, decide_eq_false_iff_not] at this
  omega
 refine ⟨⟨by omega, by omega, by omega, by omega, ?_, by omega⟩, ⟨by omega, by omega, ?_, ?_⟩⟩
 ·intro x hx
  have := h4 x hx
  unfold badL at this
  simp only [Bool.not_eq_true', Bool.or_eq_false_iff, decide_eq_false_iff_not] at this
  unfold LoadOk
  omega
 ·intro x hx
  obtain ⟨i, hi, rfl⟩ := List.getElem_of_mem hx
  have := hS i hi
  have e : sp b i = b.supports[i] := by unfold sp; rw [List.getD_eq_getElem?_getD, List.getElem?_eq_getElem hi]; rfl
  omega
 ·intro i hi
  have := (hS (i + 1) hi).2.2 (by omega)
  simpa [sp] using this
end Go.Proofs.YtgbicnkpnhifgaaGreatDoor

/- The reference's numbers of many digits: Int, Neg, Product, Sum, half, even. -/
namespace Go.Proofs.YtgbicnkpnhifgaaGreatDoor
set_option linter.unusedVariables false
set_option linter.unusedSimpArgs false

structure Wg (l : List Int) (v : Nat) : Prop where
 dig : dig (16777216 : Int) l
 tight : tight l
 len : l.length ≤ 16000000
 val : bv (16777216 : Int) l = v
theorem Wg.zero {l : List Int} {v : Nat} (h : Wg l v) : l = [] ↔ v = 0 := by
 rw [← bv_zero (by decide) h.dig h.tight, h.val]; omega
theorem Wg.lt {l : List Int} {v : Nat} (h : Wg l v) : v < 2 ^ (24 * l.length) := by
 have h1 := (bv_range (by decide) h.dig).2
 rw [h.val] at h1
 have e : (16777216 : Int) ^ l.length = ((2 ^ (24 * l.length) : Nat) : Int) := by
  rw [Nat.pow_mul, Int.natCast_pow]; rfl
 rw [e] at h1
 exact_mod_cast h1
theorem Wg.le {a b : List Int} {u v : Nat} (ha : Wg a u) (hb : Wg b v) (h : u ≤ v) : a.length ≤ b.length := by
 rcases Nat.lt_or_ge b.length a.length with hl | hl
 ·have := bv_lt_len (by decide) hb.dig ha.dig ha.tight hl
  rw [ha.val, hb.val] at this
  omega
 ·exact hl
end Go.Proofs.YtgbicnkpnhifgaaGreatDoor

/- The reference's numbers of many digits: Gcd. -/
namespace Go.Proofs.YtgbicnkpnhifgaaGreatDoor
set_option linter.unusedVariables false
set_option linter.unusedSimpArgs false

theorem Wg.ne {l : List Int} {v : Nat} (h : Wg l v) (hv : 0 < v) : 0 < l.length := by
 apply List.length_pos_iff.2
 intro e
 have := h.zero.1 e
 omega
end Go.Proofs.YtgbicnkpnhifgaaGreatDoor

/- What the program and the reference tell of a beam's moments and reactions. -/
namespace Go.Proofs.YtgbicnkpnhifgaaGreatDoor
set_option linter.unusedVariables false
set_option linter.unusedSimpArgs false

def tilt (b : TBeam) : Prop := b.supports.length = 1 ∧ fstQ b ≠ lstQ b
def reaL (b : TBeam) : List Rat := (List.range b.supports.length).map (reactB b)
structure SmallB (b : TBeam) : Prop where
 name : b.name.size ≤ 1000000
 sup : b.supports.length ≤ 1000000
 ld : b.loads.length ≤ 1000000
theorem list_of {α : Type} {R : α → Rat → Prop} {l : List α} {n : Nat} (f : Nat → Rat) (hl : l.length = n) (h : ∀ i, i < n → ∃ x, l[i]? = some x ∧ R x (f i)) : ∀ (i : Nat) (h1 : i < l.length) (h2 : i < ((List.range n).map f).length), R l[i] ((List.range n).map f)[i] := by
 intro i h1 h2
 obtain ⟨x, x1, x2⟩ := h i (by omega)
 rw [List.getElem?_eq_getElem h1] at x1
 injection x1 with x1
 rw [x1]
 simpa using x2
theorem f_given_ok {b : TBeam} (hw : SmallB b) (h : validBm b = true) (ht : ¬ tilt b) : Gs (F_beam_given b) fun r => r.2 = 0 ∧ r.1.length = b.supports.length ∧ ∀ i, i < b.supports.length → ∃ x, r.1[i]? = some x ∧ Xq x (momB b i) 82000 := by
 obtain ⟨hb, hs⟩ := valid_in h
 unfold F_beam_given
 refine go (f_bvalid hw.name hw.sup hw.ld) (gf (by rw [h]; rfl) (gcall (f_moments hb hs) fun r hr => ?_))
 have h2 : r.2 = true := hr.1.2 fun h1 => Classical.byContradiction fun h3 => ht ⟨h1, h3⟩
 refine gf (by rw [h2]; rfl) (gend ⟨rfl, hr.2 h2⟩)
theorem f_Reactions {b : TBeam} (hw : SmallB b) (h : validBm b = true) (ht : ¬ tilt b) : F_beam_Reactions b = some (outL (reaL b)) := by
 apply gs_eq
 obtain ⟨hb, hs⟩ := valid_in h
 have hn : b.supports.length ≤ 10 := hs.n10
 unfold F_beam_Reactions
 refine gcall (f_given_ok hw h ht) fun r hr => ?_
 obtain ⟨h1, h2, h3⟩ := hr
 refine gf (by rw [h1]; rfl) (gcall (f_reactions hb hs h3) fun t ht => ?_)
 refine go (f_fractions (qs := reaL b) (c := 330000) (by omega) (by rw [ht.1]; unfold reaL; simp) ?_) (gend rfl)
 exact list_of (R := fun x q => Xq x q 330000) (reactB b) ht.1 ht.2
end Go.Proofs.YtgbicnkpnhifgaaGreatDoor

/- The beam of a valid set; the set seen from the other side. -/
namespace Go.Proofs.YtgbicnkpnhifgaaGreatDoor
set_option linter.unusedVariables false
set_option linter.unusedSimpArgs false

def setBeam (s : TSet) : TBeam := ⟨s.name, s.length, s.lines, s.items.map (fun x => ⟨x.at_ + x.width / 2, x.weight⟩), s.pipe⟩
theorem set_sp {s : TSet} {i : Nat} (h : i < s.lines.length) : sp (setBeam s) i = s.lines[i] := by
 show s.lines.getD i 0 = _
 rw [List.getD_eq_getElem?_getD, List.getElem?_eq_getElem h]; rfl
theorem set_valid {s : TSet} (hg : Good s) : validBm (setBeam s) = true ∧ ¬ tilt (setBeam s) := by
 have a1 := hg.n0; have a2 := hg.n1; have a3 := hg.p0; have a4 := hg.p1; have a5 := hg.ln0; have a6 := hg.ln1; have a7 := hg.ni
 constructor
 ·unfold validBm
  rw [Bool.and_eq_true, Bool.and_eq_true, Bool.and_eq_true]
  refine ⟨?_, ?_, ?_, ?_⟩
  ·unfold badH1
   simp only [Bool.not_eq_true', Bool.or_eq_false_iff, decide_eq_false_iff_not, Bool.not_eq_false']
   refine ⟨hg.name, ?_, ?_, ?_, ?_⟩
   ·show ¬ s.length < 1; omega
   ·show ¬ s.length > 1048576; omega
   ·show ¬ s.pipe < 0; omega
   ·show ¬ s.pipe > 1048576; omega
  ·unfold badH2
   simp only [Bool.not_eq_true', Bool.or_eq_false_iff, decide_eq_false_iff_not]
   refine ⟨?_, ?_, ?_⟩
   ·show ¬ ((s.lines.length : Nat) : Int) < 1; omega
   ·show ¬ ((s.lines.length : Nat) : Int) > 10; omega
   ·show ¬ (((s.items.map _).length : Nat) : Int) > 40; rw [List.length_map]; omega
  ·apply all_of
   intro j hj
   have hj2 : j < s.lines.length := hj
   have h := hg.lat j hj2
   rw [lineAt_eq _ _ _ hj2, Bool.and_eq_true, between_iff, Bool.or_eq_true, decide_eq_true_iff, decide_eq_true_iff] at h
   have e1 := set_sp hj2
   have e2 := set_sp (s := s) (i := j - 1) (by omega)
   unfold badS
   simp only [Bool.not_eq_true', Bool.or_eq_false_iff, Bool.and_eq_false_iff, decide_eq_false_iff_not]
   rw [e1, e2]
   show ¬ s.lines[j] < 0 ∧ ¬ s.lines[j] > s.length ∧ _
   omega
  ·rw [List.all_eq_true]
   intro x hx
   obtain ⟨y, hy, rfl⟩ := List.mem_map.1 hx
   have h := hg.items y hy
   have b1 := h.p0; have b2 := h.w1; have b3 := h.pw; have b4 := h.m0; have b5 := h.m1
   unfold badL
   simp only [Bool.not_eq_true', Bool.or_eq_false_iff, decide_eq_false_iff_not]
   show ¬ y.at_ + y.width / 2 < 0 ∧ ¬ y.at_ + y.width / 2 > s.length ∧ ¬ y.weight < 0 ∧ ¬ y.weight > 67108864
   omega
 ·rintro ⟨h, _⟩
  have : s.lines.length = 1 := h
  omega
theorem set_small {s : TSet} (hn : s.name.size ≤ 1000000) (hg : Good s) : SmallB (setBeam s) := by
 have a6 := hg.ln1; have a7 := hg.ni
 exact ⟨hn, by show s.lines.length ≤ _; omega, by show (s.items.map _).length ≤ _; rw [List.length_map]; omega⟩
end Go.Proofs.YtgbicnkpnhifgaaGreatDoor

/- The loads of the lines, by batten and by the reference of layer 21. -/
namespace Go.Proofs.YtgbicnkpnhifgaaGreatDoor
set_option linter.unusedVariables false
set_option linter.unusedSimpArgs false

theorem mid_of {L : Int} {x : TItem} (h : GoodItem L x) (hL : L ≤ 1048576) : IntKind.i64.wrap (x.at_ + IntKind.i64.wrap (x.width.tdiv 2)) = x.at_ + x.width / 2 := by
 have b1 := h.p0; have b2 := h.w1; have b3 := h.pw
 rw [Int.tdiv_eq_ediv_of_nonneg (by omega), wrap64 (n := x.width / 2) (by omega) (by omega), wrap64 (by omega) (by omega)]
theorem t_beamOf {s : TSet} (hg : Good s) : F_batten_beamOf s = some (setBeam s) := by
 have a6 := hg.ln1; have a7 := hg.ni; have a2 := hg.n1
 apply gs_eq
 unfold F_batten_beamOf
 refine go (f_clone_int _ (by omega)) ?_
 refine gloop (fun r : TBeam × Unit => r.1 = setBeam s) (fun k t => k ≤ s.items.length ∧ t = ((k : Int), ⟨s.name, s.length, s.lines, (s.items.take k).map (fun x => ⟨x.at_ + x.width / 2, x.weight⟩), s.pipe⟩, ())) s.items.length (by unfold big; omega) ⟨Nat.zero_le _, rfl⟩ ?_ ?_
 ·rintro k t hk ⟨_, rfl⟩
  rcases Nat.lt_or_ge k s.items.length with hlt | hge
  ·have hm := mid_of (hg.items _ (List.getElem_mem hlt)) a2
   have hmid : F_batten_middle s.items[k] = some (s.items[k].at_ + s.items[k].width / 2) := by unfold F_batten_middle; rw [hm]
   refine gt (decide_eq_true (by show (k : Int) < ((s.items.length : Nat) : Int); omega)) (go (idx_at hlt) (go hmid (gif (by simp; omega) (gend ⟨hlt, hlt, ?_⟩))))
   rw [List.take_succ_eq_append_getElem hlt, List.map_append]
   show (IntKind.i64.wrap ((k : Int) + 1), _, ()) = _
   rw [wrap64 (by omega) (by omega)]
   rfl
  ·refine gf (decide_eq_false (by show ¬ (k : Int) < ((s.items.length : Nat) : Int); omega)) (gend ?_)
   show (⟨s.name, s.length, s.lines, (s.items.take k).map (fun x => ⟨x.at_ + x.width / 2, x.weight⟩), s.pipe⟩ : TBeam) = setBeam s
   rw [List.take_of_length_le hge]; rfl
 ·rintro ⟨t, u⟩ h
  exact gend h
structure Sm (s : TSet) : Prop where
 fits : Fits s
 name : s.name.size ≤ 1000000
theorem sm_of {s : TSet} {m : Int} (h : smallB s m = true) : Sm s := by
 refine ⟨small_fits h, ?_⟩
 simp only [smallB, smallH, Bool.and_eq_true, decide_eq_true_eq, List.all_eq_true] at h
 omega
def linesT (s : TSet) : List TFrac × Int := if validB s = true then outL (reaL (setBeam s)) else ([], 1)
theorem t_lines {s : TSet} (h : Sm s) : F_batten_Lines s = some (linesT s) := by
 apply gs_eq
 unfold F_batten_Lines linesT
 refine go (f_valid s h.fits) ?_
 cases hv : validB s with
 | false => exact gt rfl (gend rfl)
 | true =>
  have hg := Good.of hv
  obtain ⟨h1, h2⟩ := set_valid hg
  exact gf rfl (go (t_beamOf hg) (go (f_Reactions (set_small h.name hg) h1 h2) (gend rfl)))
theorem lq_len {s : TSet} : (reaL (setBeam s)).length = s.lines.length := by unfold reaL setBeam; simp
theorem lines_cases (s : TSet) : (validB s = false ∧ linesT s = ([], 1)) ∨ (validB s = true ∧ (∀ q ∈ reaL (setBeam s), fitQ q) ∧ linesT s = ((reaL (setBeam s)).map frQ, 0)) ∨ (validB s = true ∧ linesT s = ([], 5)) := by
 unfold linesT
 by_cases hv : validB s = true
 ·right
  rw [if_pos hv]
  by_cases hf : ∀ q ∈ reaL (setBeam s), fitQ q
  ·exact .inl ⟨hv, hf, outL_fit hf⟩
  ·exact .inr ⟨hv, outL_big hf⟩
 ·left
  rw [if_neg hv]
  exact ⟨by simpa using hv, rfl⟩
theorem fr_neg (q : Rat) : decide ((frQ q).num < 0) = decide (q < 0) := by
 apply decide_eq_decide.2
 show q.num < 0 ↔ q < 0
 have := Rat.num_nonneg (q := q)
 constructor
 ·intro h; rcases Rat.le_total (a := 0) (b := q) with h1 | h1
  ·have := this.2 h1; omega
  ·rcases Decidable.em (q = 0) with e | e
   ·subst e; exact absurd h (by decide)
   ·grind
 ·intro h
  rcases Int.lt_or_le q.num 0 with h1 | h1
  ·exact h1
  ·have := this.1 h1; grind
theorem fr_get {l : List Rat} {k : Nat} (h : k < l.length) : (l.map frQ)[k]? = some (frQ (l.getD k 0)) := by
 rw [List.getElem?_map, List.getD_eq_getElem?_getD, List.getElem?_eq_getElem h]; rfl
theorem fit_get {l : List Rat} (hf : ∀ q ∈ l, fitQ q) {k : Nat} (h : k < l.length) : fitQ (l.getD k 0) := by
 rw [List.getD_eq_getElem?_getD, List.getElem?_eq_getElem h]
 exact hf _ (List.getElem_mem h)
end Go.Proofs.YtgbicnkpnhifgaaGreatDoor

/- The loads of the lines: by the program and by the reference; Heaviest, Slack, Loft, Head, Travel. -/
namespace Go.Proofs.YtgbicnkpnhifgaaGreatDoor
set_option linter.unusedVariables false
set_option linter.unusedSimpArgs false

theorem t_llines {s : TSet} (h : Sm s) : F_liftline_Lines s = some (linesT s) := by
 unfold F_liftline_Lines
 rw [t_lines h]; rfl
end Go.Proofs.YtgbicnkpnhifgaaGreatDoor

/- Law 22: LiftlineLoads, LiftlineWeighs, LiftlineTravels, LiftlineTurned. -/
namespace Go.Proofs.YtgbicnkpnhifgaaGreatDoor
set_option linter.unusedVariables false
set_option linter.unusedSimpArgs false

theorem frq_int (n : Int) : (⟨n, 1⟩ : TFrac) = frQ (n : Rat) := (fr_int n).symm
end Go.Proofs.YtgbicnkpnhifgaaGreatDoor

/- Law 22: LiftlineTurned, LiftlineHeads, LiftlineHeaviest. -/
namespace Go.Proofs.YtgbicnkpnhifgaaGreatDoor
set_option linter.unusedVariables false
set_option linter.unusedSimpArgs false

theorem map_set {α : Type} (f : α → α) (l : List α) {k : Nat} (h : k < l.length) : ((l.take k).map f ++ l.drop k).set k (f l[k]) = (l.take (k + 1)).map f ++ l.drop (k + 1) ∧ ((l.take k).map f ++ l.drop k)[k]? = some l[k] := by
 have hl : ((l.take k).map f).length = k := by rw [List.length_map, List.length_take]; omega
 constructor
 ·rw [List.drop_eq_getElem_cons h, List.set_append_right _ _ (by omega), hl, Nat.sub_self, List.set_cons_zero, List.take_succ_eq_append_getElem h, List.map_append, List.append_assoc]
  rfl
 ·rw [List.drop_eq_getElem_cons h, List.getElem?_append_right (by omega), hl, Nat.sub_self]; rfl
theorem t_contains (l : List Int) (v : Int) (hl : l.length ≤ 1000000) : F_slices_Contains_int l v = some (decide (v ∈ l)) := by
 apply gs_eq
 unfold F_slices_Contains_int
 refine gcall (Q := fun r : Int => decide (r ≥ 0) = decide (v ∈ l)) ?_ fun r hr => gend hr
 unfold F_slices_Index_int
 refine gloop (fun r : (Int × Unit) ⊕ Unit => match r with | .inl y => 0 ≤ y.1 ∧ v ∈ l | .inr _ => v ∉ l) (fun k t => k ≤ l.length ∧ t = ((k : Int), ()) ∧ v ∉ l.take k) l.length (by unfold big; omega) ⟨Nat.zero_le _, rfl, by simp⟩ ?_ ?_
 ·rintro k t hk ⟨_, rfl, hn⟩
  rcases Nat.lt_or_ge k l.length with hlt | hge
  ·refine gt (decide_eq_true (by show (k : Int) < ((l.length : Nat) : Int); omega)) (go (idx_at hlt) ?_)
   by_cases hc : v = l[k]
   ·refine gt (by rw [beq_iff_eq]; exact hc) (gend ⟨by show (0 : Int) ≤ (k : Int); omega, by rw [hc]; exact List.getElem_mem hlt⟩)
   ·refine gf (by rw [beq_eq_false_iff_ne]; exact hc) (gend ⟨hlt, hlt, ?_, ?_⟩)
    ·show (IntKind.i64.wrap ((k : Int) + 1), ()) = _
     rw [wrap64 (by omega) (by omega)]; rfl
    ·rw [List.take_succ_eq_append_getElem hlt, List.mem_append]
     rintro (h | h)
     ·exact hn h
     ·simp at h; exact hc h
  ·rw [List.take_of_length_le hge] at hn
   exact gf (decide_eq_false (by show ¬ (k : Int) < ((l.length : Nat) : Int); omega)) (gend hn)
 ·rintro (y | y) hy
  ·exact gend (by rw [decide_eq_true hy.2]; exact decide_eq_true hy.1)
  ·exact gend (by rw [decide_eq_false hy]; rfl)
end Go.Proofs.YtgbicnkpnhifgaaGreatDoor

/- A set without a line: valid; its loads; what both sides make of it. -/
namespace Go.Proofs.YtgbicnkpnhifgaaGreatDoor
set_option linter.unusedVariables false
set_option linter.unusedSimpArgs false

def cutS (s : TSet) (k : Nat) : TSet := { s with lines := s.lines.take k ++ s.lines.drop (k + 1) }
theorem cut_len {α : Type} {l : List α} {k : Nat} (hk : k < l.length) : (l.take k ++ l.drop (k + 1)).length = l.length - 1 := by simp; omega
theorem cut_get {α : Type} {l : List α} {k : Nat} (hk : k < l.length) {i : Nat} (hi : i < (l.take k ++ l.drop (k + 1)).length) : (l.take k ++ l.drop (k + 1))[i] = if h : i < k then l[i] else l[i + 1]'(by rw [cut_len hk] at hi; omega) := by
 have hl := cut_len hk
 have ht : (l.take k).length = k := by simp; omega
 split
 ·rename_i h
  rw [List.getElem_append_left (by omega), List.getElem_take]
 ·rename_i h
  rw [List.getElem_append_right (by omega), List.getElem_drop]
  congr 1
  omega
theorem cut_valid {s : TSet} (hv : validB s = true) (h3 : 3 ≤ s.lines.length) {k : Nat} (hk : k < s.lines.length) : validB (cutS s k) = true := by
 unfold validB at hv ⊢
 rw [Bool.and_eq_true, Bool.and_eq_true, Bool.and_eq_true, Bool.and_eq_true] at hv ⊢
 obtain ⟨h1, h2, h4, h5, h6⟩ := hv
 refine ⟨h1, ?_, h4, h5, h6⟩
 rw [linesB_iff] at h2 ⊢
 obtain ⟨l1, l2, l3⟩ := h2
 have hL : (cutS s k).length = s.length := rfl
 have hln : (cutS s k).lines = s.lines.take k ++ s.lines.drop (k + 1) := rfl
 have hlen : (cutS s k).lines.length = s.lines.length - 1 := cut_len hk
 have hget : ∀ (i : Nat) (hi : i < (cutS s k).lines.length), (cutS s k).lines[i] = if h : i < k then s.lines[i] else s.lines[i + 1]'(by omega) := fun i hi => cut_get hk hi
 refine ⟨by omega, by omega, fun i hi => ?_⟩
 rw [hL, hget i hi]
 have up : ∀ (a b : Nat) (hb : b < s.lines.length) (hab : a < b), s.lines[a]'(by omega) < s.lines[b] := by
  intro a b hb hab
  obtain ⟨d, rfl⟩ : ∃ d, b = a + d + 1 := ⟨b - a - 1, by omega⟩
  induction d with
  | zero =>
   rcases (l3 (a + 0 + 1) hb).2.2 with h | h
   ·omega
   ·exact h
  | succ d ih =>
   have := ih (by omega) (by omega)
   rcases (l3 (a + (d + 1) + 1) hb).2.2 with h | h
   ·omega
   ·have e : s.lines[a + (d + 1) + 1 - 1]'(by omega) = s.lines[a + d + 1]'(by omega) := by congr 1
    rw [e] at h
    omega
 by_cases hik : i < k
 ·rw [dif_pos hik]
  obtain ⟨r1, r2, r3⟩ := l3 i (by omega)
  refine ⟨r1, r2, ?_⟩
  rcases Nat.eq_zero_or_pos i with h0 | h0
  ·exact .inl h0
  ·right
   rw [hget (i - 1) (by omega), dif_pos (by omega)]
   exact up (i - 1) i (by omega) (by omega)
 ·rw [dif_neg hik]
  obtain ⟨r1, r2, r3⟩ := l3 (i + 1) (by omega)
  refine ⟨r1, r2, ?_⟩
  rcases Nat.eq_zero_or_pos i with h0 | h0
  ·exact .inl h0
  ·right
   rw [hget (i - 1) (by omega)]
   split
   ·exact up (i - 1) (i + 1) (by omega) (by omega)
   ·exact up (i - 1 + 1) (i + 1) (by omega) (by omega)
theorem cut_sm {s : TSet} (h : Sm s) (k : Nat) : Sm (cutS s k) := by
 obtain ⟨⟨f1, f2, f3, f4, f5, f6⟩, n⟩ := h
 exact ⟨⟨f1, by show (s.lines.take k ++ s.lines.drop (k + 1)).length ≤ _; simp; omega, f3, f4, f5, f6⟩, n⟩
def Qc (s : TSet) (k : Nat) : List Rat := reaL (setBeam (cutS s k))
def Rs (s : TSet) : List Rat := reaL (setBeam s)
theorem Qc_len {s : TSet} {k : Nat} (hk : k < s.lines.length) : (Qc s k).length = s.lines.length - 1 := by
 unfold Qc
 rw [lq_len]
 exact cut_len hk
theorem Rs_len {s : TSet} : (Rs s).length = s.lines.length := lq_len
theorem w_cut {s : TSet} (h : Sm s) (h10 : s.lines.length ≤ 10) {k : Nat} (hk : k < s.lines.length) : F_failure_cut s (k : Int) = some (cutS s k) := by
 have w1 : IntKind.i64.wrap ((k : Int) + 1) = ((k + 1 : Nat) : Int) := by rw [wrap64 (by omega) (by omega)]; omega
 apply gs_eq
 unfold F_failure_cut
 refine go (f_clone_int _ h.fits.lines) (gif (by rw [w1]; omega) (go (f_clone_item _ h.fits.items) (go (f_clone_brick _ h.fits.bricks) (gend ?_))))
 rw [w1, Int.toNat_natCast, Int.toNat_natCast]
 rfl
theorem w_given (s : TSet) (h : Sm s) (h10 : s.lines.length ≤ 15) (line : Int) : F_failure_given s line = some (if validB s = true then (if line < 0 ∨ (s.lines.length : Int) ≤ line then 2 else if s.lines.length = 2 then 14 else 0) else 1) := by
 apply gs_eq
 unfold F_failure_given
 refine go (f_valid s h.fits) ?_
 cases hv : validB s with
 | false => exact gt rfl (gend rfl)
 | true =>
  refine gf rfl ?_
  simp only [if_true]
  by_cases h1 : line < 0
  ·exact gbt (decide_eq_true h1) (gs (gt rfl (gend (by rw [if_pos (.inl h1)]))))
  ·refine gbf (decide_eq_false h1) (gs ?_)
   by_cases h2 : (s.lines.length : Int) ≤ line
   ·exact gt (decide_eq_true h2) (gend (by rw [if_pos (.inr h2)]))
   ·refine gf (decide_eq_false h2) ?_
    rw [if_neg (by omega)]
    by_cases h3 : s.lines.length = 2
    ·rw [if_pos h3]; exact gt (by simp [h3]) (gend rfl)
    ·rw [if_neg h3]; exact gf (by simp; omega) (gend rfl)
def othL (s : TSet) (k : Nat) : List Rat := (Qc s k).take k ++ [0] ++ (Qc s k).drop k
theorem oth_len {s : TSet} {k : Nat} (hk : k < s.lines.length) : (othL s k).length = s.lines.length := by
 have := Qc_len hk
 unfold othL
 simp
 omega
def fitAll (l : List Rat) : Prop := ∀ q ∈ l, fitQ q
theorem oth_fit {s : TSet} {k : Nat} (h : fitAll (Qc s k)) : fitAll (othL s k) := by
 intro q hq
 unfold othL at hq
 rcases List.mem_append.1 hq with hq | hq
 ·rcases List.mem_append.1 hq with hq | hq
  ·exact h q (List.mem_of_mem_take hq)
  ·simp at hq; subst hq; exact t_fit0
 ·exact h q (List.mem_of_mem_drop hq)
theorem w_lines {s : TSet} (h : Sm s) (hv : validB s = true) (h3 : 3 ≤ s.lines.length) {k : Nat} (hk : k < s.lines.length) : F_batten_Lines (cutS s k) = some (outL (Qc s k)) := by
 rw [t_lines (cut_sm h k)]
 unfold linesT
 rw [if_pos (cut_valid hv h3 hk)]
 rfl
theorem w_others {s : TSet} (h : Sm s) (hv : validB s = true) (h3 : 3 ≤ s.lines.length) (h10 : s.lines.length ≤ 10) {k : Nat} (hk : k < s.lines.length) :
  (fitAll (Qc s k) → F_failure_others s (k : Int) = some ((othL s k).map frQ, 0)) ∧ (¬ fitAll (Qc s k) → F_failure_others s (k : Int) = some ([], 5)) := by
 have hl := Qc_len hk
 constructor
 ·intro hf
  apply gs_eq
  unfold F_failure_others
  have hL := w_lines h hv h3 hk
  rw [outL_fit hf] at hL
  refine go (w_cut h h10 hk) (go hL (gf rfl (gif ?_ (gend ?_))))
  ·refine ⟨rfl, by omega, ?_, ?_⟩
   ·show (k : Int) ≤ ((((Qc s k).map frQ).length : Nat) : Int)
    rw [List.length_map]; omega
   ·show ((Qc s k).map frQ).length ≤ _
    rw [List.length_map]; omega
  ·rw [Int.toNat_natCast]
   unfold othL
   rw [List.map_append, List.map_append, ← List.map_take, ← List.map_drop]
   rfl
 ·intro hf
  apply gs_eq
  unfold F_failure_others
  have hL := w_lines h hv h3 hk
  rw [outL_big hf] at hL
  exact go (w_cut h h10 hk) (go hL (gt rfl (gend rfl)))
end Go.Proofs.YtgbicnkpnhifgaaGreatDoor

/- The worst loads: by the program and by the reference. -/
namespace Go.Proofs.YtgbicnkpnhifgaaGreatDoor
set_option linter.unusedVariables false
set_option linter.unusedSimpArgs false

theorem rg_get (f : Nat → Rat) {n x : Nat} (h : x < n) : ((List.range n).map f).getD x 0 = f x := by
 rw [List.getD_eq_getElem?_getD, List.getElem?_map, List.getElem?_range h]; rfl
theorem rg_of {l : List Rat} {n : Nat} (f : Nat → Rat) (hl : l.length = n) (h : ∀ x, x < n → l.getD x 0 = f x) : l = (List.range n).map f := by
 apply List.ext_getElem
 ·simp [hl]
 ·intro i h1 h2
  have := h i (by omega)
  rw [List.getD_eq_getElem?_getD, List.getElem?_eq_getElem h1] at this
  simpa using this
theorem set_get {l : List Rat} {k : Nat} (hk : k < l.length) (v : Rat) (x : Nat) : (l.set k v).getD x 0 = if x = k then v else l.getD x 0 := by
 rw [List.getD_eq_getElem?_getD, List.getElem?_set]
 by_cases h : x = k
 ·subst h; rw [if_pos rfl, if_pos rfl, if_pos hk]; rfl
 ·rw [if_neg (fun e => h e.symm), if_neg h, ← List.getD_eq_getElem?_getD]
theorem cmp_pos (a b : Rat) : decide ((if a < b then (-1 : Int) else if b < a then 1 else 0) > 0) = decide (b < a) := by
 apply decide_eq_decide.2
 by_cases h1 : a < b
 ·rw [if_pos h1]
  exact ⟨fun h => absurd h (by decide), fun h => by grind⟩
 ·rw [if_neg h1]
  by_cases h2 : b < a
  ·rw [if_pos h2]; exact ⟨fun _ => h2, fun _ => by decide⟩
  ·rw [if_neg h2]; exact ⟨fun h => absurd h (by decide), fun h => absurd h h2⟩
def updW (s : TSet) (k : Nat) (a : Nat → Rat) (x : Nat) : Rat := if x ≠ k ∧ a x < (othL s k).getD x 0 then (othL s k).getD x 0 else a x
def wst (s : TSet) : Nat → Nat → Rat
 | 0, x => (Rs s).getD x 0
 | k + 1, x => updW s k (wst s k) x
def wstL (s : TSet) (k : Nat) : List Rat := (List.range s.lines.length).map (wst s k)
theorem wst_len (s : TSet) (k : Nat) : (wstL s k).length = s.lines.length := by unfold wstL; simp
theorem wst_get (s : TSet) (k : Nat) {x : Nat} (h : x < s.lines.length) : (wstL s k).getD x 0 = wst s k x := rg_get _ h
theorem oth_fitx {s : TSet} {k x : Nat} (h : fitAll (Qc s k)) : fitQ ((othL s k).getD x 0) := by
 rw [List.getD_eq_getElem?_getD]
 cases hx : (othL s k)[x]? with
 | none => exact t_fit0
 | some q => exact oth_fit h q (List.mem_of_getElem? hx)
theorem wst_fit {s : TSet} (hR : fitAll (Rs s)) : ∀ (k : Nat), (∀ j, j < k → fitAll (Qc s j)) → ∀ x, fitQ (wst s k x)
 | 0, _, x => by
  unfold wst
  rw [List.getD_eq_getElem?_getD]
  cases hx : (Rs s)[x]? with
  | none => exact t_fit0
  | some q => exact hR q (List.mem_of_getElem? hx)
 | k + 1, h, x => by
  unfold wst updW
  split
  ·exact oth_fitx (h k (by omega))
  ·exact wst_fit hR k (fun j hj => h j (by omega)) x
theorem wst_start (s : TSet) : Rs s = wstL s 0 := by
 unfold wstL
 exact rg_of _ Rs_len fun x _ => rfl
open Classical in
noncomputable def worstT (s : TSet) : List TFrac × Int := if validB s = true then (if s.lines.length = 2 then ([], 14) else if fitAll (Rs s) ∧ ∀ k, k < s.lines.length → fitAll (Qc s k) then ((wstL s s.lines.length).map frQ, 0) else ([], 5)) else ([], 1)
theorem worst_ok {s : TSet} (hv : validB s = true) (h2 : s.lines.length ≠ 2) (h : fitAll (Rs s) ∧ ∀ k, k < s.lines.length → fitAll (Qc s k)) : worstT s = ((wstL s s.lines.length).map frQ, 0) := by
 unfold worstT; rw [if_pos hv, if_neg h2, if_pos h]
theorem worst_big {s : TSet} (hv : validB s = true) (h2 : s.lines.length ≠ 2) (h : ¬ (fitAll (Rs s) ∧ ∀ k, k < s.lines.length → fitAll (Qc s k))) : worstT s = ([], 5) := by
 unfold worstT; rw [if_pos hv, if_neg h2, if_neg h]
theorem fset (l : List Rat) (k : Nat) (q : Rat) : (l.map frQ).set k (frQ q) = (l.set k q).map frQ := by rw [List.map_set]
theorem w_worst {s : TSet} (h : Sm s) (h15 : s.lines.length ≤ 15) : F_failure_Worst s = some (worstT s) := by
 apply gs_eq
 unfold F_failure_Worst
 refine go (w_given s h h15 0) ?_
 cases hv : validB s with
 | false =>
  refine gt rfl (gend ?_)
  unfold worstT
  rw [hv]; rfl
 | true =>
  have hg := Good.of hv
  have n2 := hg.ln0; have n10 := hg.ln1
  rw [if_pos rfl, if_neg (by omega)]
  by_cases h2 : s.lines.length = 2
  ·rw [if_pos h2]
   refine gt rfl (gend ?_)
   unfold worstT
   rw [if_pos hv, if_pos h2]
  ·rw [if_neg h2]
   have h3 : 3 ≤ s.lines.length := by omega
   refine gf rfl (go (t_lines h) ?_)
   rcases lines_cases s with ⟨e, _⟩ | ⟨_, hR, e⟩ | ⟨_, e⟩
   ·rw [hv] at e; cases e
   ·rw [e]
    have hR : fitAll (Rs s) := hR
    refine gf rfl ?_
    refine gloop (fun r : (List TFrac × Int × List TFrac × Unit) ⊕ (List TFrac × Unit) => match r with
      | .inl y => ((y.1, y.2.1) : List TFrac × Int) = worstT s
      | .inr y => ((y.1, 0) : List TFrac × Int) = worstT s)
     (fun k t => k ≤ s.lines.length ∧ t = ((k : Int), (wstL s k).map frQ, ()) ∧ ∀ j, j < k → fitAll (Qc s j)) s.lines.length (by unfold big; omega) ⟨Nat.zero_le _, by rw [← wst_start]; rfl, fun j hj => by omega⟩ ?_ ?_
    ·rintro k t hk ⟨_, rfl, hall⟩
     rcases Nat.lt_or_ge k s.lines.length with hlt | hge
     ·obtain ⟨o1, o2⟩ := w_others h hv h3 n10 hlt
      refine gt (decide_eq_true (by show (k : Int) < ((s.lines.length : Nat) : Int); omega)) ?_
      by_cases hf : fitAll (Qc s k)
      ·refine go (o1 hf) (gf rfl ?_)
       have hol := oth_len hlt
       refine gloop (fun r : List TFrac × Unit => r = ((wstL s (k + 1)).map frQ, ()))
        (fun t y => t ≤ s.lines.length ∧ ∃ l : List Rat, y = ((t : Int), l.map frQ, ()) ∧ l.length = s.lines.length ∧ ∀ x, x < s.lines.length → l.getD x 0 = if x < t then wst s (k + 1) x else wst s k x) s.lines.length (by unfold big; omega)
        ⟨Nat.zero_le _, _, rfl, wst_len s k, fun x hx => by rw [if_neg (Nat.not_lt_zero x)]; exact wst_get s k hx⟩ ?_ ?_
       ·rintro t y ht ⟨_, l, rfl, hl, hx⟩
        rcases Nat.lt_or_ge t s.lines.length with htl | htg
        ·have e1 : l.getD t 0 = wst s k t := by rw [hx t htl, if_neg (Nat.lt_irrefl t)]
         have g1 := fr_get (l := othL s k) (k := t) (by omega)
         have g2 := fr_get (l := l) (k := t) (by omega)
         rw [e1] at g2
         have hcmp := t_cmp (oth_fitx (x := t) hf) (wst_fit hR k hall t)
         have w1 : IntKind.i64.wrap ((t : Int) + 1) = ((t + 1 : Nat) : Int) := by rw [wrap64 (by omega) (by omega)]; omega
         have hlast : ∀ v, v = wst s (k + 1) t → (∀ x, x < s.lines.length → (l.set t v).getD x 0 = if x < t + 1 then wst s (k + 1) x else wst s k x) := by
          intro v hv2 x hx2
          rw [set_get (by omega)]
          by_cases hxt : x = t
          ·subst hxt; rw [if_pos rfl, if_pos (by omega)]; exact hv2
          ·rw [if_neg hxt, hx x hx2]
           by_cases hh : x < t
           ·rw [if_pos hh, if_pos (by omega)]
           ·rw [if_neg hh, if_neg (by omega)]
         have hun : wst s (k + 1) t = updW s k (wst s k) t := rfl
         unfold updW at hun
         refine gt (decide_eq_true (by show (t : Int) < (((((othL s k).map frQ).length : Nat)) : Int); rw [List.length_map, hol]; omega)) (goo (idx_q g1) (goo (at_w rfl g1) (goo (idx_q g2) (goo (at_w rfl g2) (goo hcmp ?_)))))
         have keep : ¬ (t ≠ k ∧ wst s k t < (othL s k).getD t 0) → ∀ x, x < s.lines.length → l.getD x 0 = if x < t + 1 then wst s (k + 1) x else wst s k x := by
          intro hn x hx2
          rw [if_neg hn] at hun
          rw [hx x hx2]
          by_cases hxt : x = t
          ·subst hxt; rw [if_neg (Nat.lt_irrefl x), if_pos (by omega), hun]
          ·by_cases hh : x < t
           ·rw [if_pos hh, if_pos (by omega)]
           ·rw [if_neg hh, if_neg (by omega)]
         by_cases htk : t = k
         ·refine gbbf (by rw [htk]; simp) (gss (gbf rfl (gs (gend ⟨htl, htl, l, ?_, hl, keep (fun e => e.1 htk)⟩))))
          rw [w1]
         ·refine gbbt (by simp; omega) (gss ?_)
          by_cases hc : wst s k t < (othL s k).getD t 0
          ·refine gbt (by rw [cmp_pos]; exact decide_eq_true hc) (goo (idx_q g2) (goo (at_w rfl g2) (gs (gend ⟨htl, htl, l.set t ((othL s k).getD t 0), ?_, by simp [hl], hlast _ (by rw [hun, if_pos ⟨htk, hc⟩])⟩))))
           show (IntKind.i64.wrap ((t : Int) + 1), (l.map frQ).set (Int.toNat (t : Int)) (frQ ((othL s k).getD t 0)), ()) = _
           rw [w1, Int.toNat_natCast, fset]
          ·refine gbf (by rw [cmp_pos]; exact decide_eq_false hc) (gs (gend ⟨htl, htl, l, ?_, hl, keep (fun e => hc e.2)⟩))
           show (IntKind.i64.wrap ((t : Int) + 1), l.map frQ, ()) = _
           rw [w1]
        ·refine gf (decide_eq_false (by show ¬ (t : Int) < (((((othL s k).map frQ).length : Nat)) : Int); rw [List.length_map, hol]; omega)) (gend ?_)
         have : t = s.lines.length := by omega
         subst this
         rw [rg_of (l := l) (wst s (k + 1)) hl (fun x hx2 => by rw [hx x hx2, if_pos hx2])]
         rfl
       ·rintro r rfl
        refine gend ⟨hlt, hlt, ?_, fun j hj => ?_⟩
        ·show (IntKind.i64.wrap ((k : Int) + 1), _, ()) = _
         rw [wrap64 (by omega) (by omega)]; rfl
        ·rcases Nat.lt_or_ge j k with hjk | hjk
         ·exact hall j hjk
         ·have : j = k := by omega
          subst this; exact hf
      ·refine go (o2 hf) (gt rfl (gend ?_))
       show (([], 5) : List TFrac × Int) = _
       rw [worst_big hv h2 (fun e => hf (e.2 k hlt))]
     ·have : k = s.lines.length := by omega
      subst this
      refine gf (decide_eq_false (by show ¬ ((s.lines.length : Nat) : Int) < ((s.lines.length : Nat) : Int); omega)) (gend ?_)
      show (((wstL s s.lines.length).map frQ, 0) : List TFrac × Int) = _
      rw [worst_ok hv h2 ⟨hR, hall⟩]
    ·rintro (y | y) hy
     ·exact gend hy
     ·exact gend hy
   ·rw [e]
    refine gt rfl (gend ?_)
    have hnf : ¬ fitAll (Rs s) := by
     intro hf
     unfold linesT at e
     rw [if_pos hv, outL_fit (l := reaL (setBeam s)) hf] at e
     exact absurd (congrArg Prod.snd e) (by show ¬ ((0 : Int) = 5); decide)
    show (([], 5) : List TFrac × Int) = _
    rw [worst_big hv h2 (fun e => hnf e.1)]
end Go.Proofs.YtgbicnkpnhifgaaGreatDoor

/- The critical lines: by the program and by the reference; FailureCritical. -/
namespace Go.Proofs.YtgbicnkpnhifgaaGreatDoor
set_option linter.unusedVariables false
set_option linter.unusedSimpArgs false

theorem gs_loop {σ ρ : Type} {F : σ → Option (σ ⊕ ρ)} (Q : ρ → Prop) (I : Nat → σ → Prop) (n : Nat) (hn : n < big) {s : σ}
  (h : I 0 s) (step : ∀ k s, k ≤ n → I k s → Gs (F s) fun y => match y with | .inl s' => k < n ∧ I (k + 1) s' | .inr r => Q r) : Gs (iterF F big s) Q :=
 iter_inv (F := F) (Q := Q) I n hn (fun k s hk hi => by
  obtain ⟨y, h1, h2⟩ := step k s hk hi
  cases y with
  | inl s' => exact .inl ⟨s', h1, h2.1, h2.2⟩
  | inr r => exact .inr ⟨r, h1, h2⟩) h
def badQ (m : Int) (q : Rat) : Bool := decide (q < 0) || decide ((m : Rat) < q)
def critL (s : TSet) (m : Int) (k : Nat) : List Int := ((List.range k).filter fun i => (Qc s i).any (badQ m)).map fun (i : Nat) => (i : Int)
theorem crit_succ (s : TSet) (m : Int) (k : Nat) : critL s m (k + 1) = if (Qc s k).any (badQ m) = true then critL s m k ++ [(k : Int)] else critL s m k := by
 unfold critL
 rw [List.range_succ, List.filter_append, List.map_append]
 cases h : (Qc s k).any (badQ m) with
 | true => rw [if_pos rfl, List.filter_cons, if_pos h]; rfl
 | false => rw [if_neg (by simp), List.filter_cons, if_neg (by simp [h])]; simp
theorem crit_len (s : TSet) (m : Int) (k : Nat) : (critL s m k).length ≤ k := by
 unfold critL
 rw [List.length_map]
 exact Nat.le_trans (List.length_filter_le _ _) (by simp)
open Classical in
noncomputable def critT (s : TSet) : List Int × Int := if validB s = true then (if s.lines.length = 2 then ([0, 1], 0) else if ∀ k, k < s.lines.length → fitAll (Qc s k) then (critL s s.most s.lines.length, 0) else ([], 5)) else ([], 1)
theorem crit_ok {s : TSet} (hv : validB s = true) (h2 : s.lines.length ≠ 2) (h : ∀ k, k < s.lines.length → fitAll (Qc s k)) : critT s = (critL s s.most s.lines.length, 0) := by
 unfold critT; rw [if_pos hv, if_neg h2, if_pos h]
theorem crit_big {s : TSet} (hv : validB s = true) (h2 : s.lines.length ≠ 2) (h : ¬ ∀ k, k < s.lines.length → fitAll (Qc s k)) : critT s = ([], 5) := by
 unfold critT; rw [if_pos hv, if_neg h2, if_neg h]
theorem oth_any {s : TSet} {k : Nat} {m : Int} (hm : 0 ≤ m) : (othL s k).any (badQ m) = (Qc s k).any (badQ m) := by
 have h0 : badQ m 0 = false := by
  unfold badQ
  rw [Bool.or_eq_false_iff]
  refine ⟨by decide, decide_eq_false ?_⟩
  intro h
  have : (0 : Rat) ≤ (m : Rat) := by exact_mod_cast hm
  grind
 unfold othL
 rw [List.any_append, List.any_append]
 have e : (Qc s k).any (badQ m) = (((Qc s k).take k ++ (Qc s k).drop k)).any (badQ m) := by rw [List.take_append_drop]
 rw [e, List.any_append]
 simp [h0]
theorem w_bad {q : Rat} {m : Int} (hq : fitQ q) (hm : m.natAbs ≤ 1152921504606846976) : F_failure_Critical_1 (frQ q) ⟨m, 1⟩ = some (badQ m q) := by
 apply gs_eq
 unfold F_failure_Critical_1
 have hc := t_cmp hq (t_fitint hm)
 rw [← frq_int] at hc
 refine go hc ?_
 unfold badQ
 by_cases h : q < 0
 ·refine gbt (by rw [fr_neg]; exact decide_eq_true h) (gs (gend ?_))
  rw [decide_eq_true h]; rfl
 ·refine gbf (by rw [fr_neg]; exact decide_eq_false h) (gs (gend ?_))
  rw [decide_eq_false h, Bool.false_or]
  exact cmp_pos _ _
theorem w_contains {l : List Rat} {m : Int} (hl : l.length ≤ 1000) (hf : fitAll l) (hm : m.natAbs ≤ 1152921504606846976) : F_slices_ContainsFunc_api_Frac (l.map frQ) (fun z24 => F_failure_Critical_1 z24 ⟨m, 1⟩) = some (l.any (badQ m)) := by
 have := f_slices_ContainsFunc_api_Frac (l.map frQ) (by rw [List.length_map]; omega) (fun z24 => F_failure_Critical_1 z24 ⟨m, 1⟩) (fun x => badQ m (qOf x)) (fun x hx => by
  obtain ⟨q, hq, rfl⟩ := List.mem_map.1 hx
  rw [(fr_rv (hf q hq)).2]
  exact w_bad (hf q hq) hm)
 rw [this, List.any_map]
 congr 1
 have : ∀ l : List Rat, fitAll l → l.any ((fun x => badQ m (qOf x)) ∘ frQ) = l.any (badQ m) := by
  intro l
  induction l with
  | nil => intro _; rfl
  | cons q l ih =>
   intro h
   rw [List.any_cons, List.any_cons, ih (fun x hx => h x (List.mem_cons_of_mem _ hx))]
   show (badQ m (qOf (frQ q)) || _) = _
   rw [(fr_rv (h q List.mem_cons_self)).2]
 exact this l hf
theorem w_critical {s : TSet} (h : Sm s) (h15 : s.lines.length ≤ 15) : F_failure_Critical s = some (critT s) := by
 apply gs_eq
 unfold F_failure_Critical
 refine go (w_given s h h15 0) ?_
 cases hv : validB s with
 | false =>
  refine gf rfl (gf rfl (gend ?_))
  unfold critT
  rw [hv]; rfl
 | true =>
  have hg := Good.of hv
  have n2 := hg.ln0; have n10 := hg.ln1; have m0 := hg.m0; have m1 := hg.m1
  rw [if_pos rfl, if_neg (by omega)]
  by_cases h2 : s.lines.length = 2
  ·rw [if_pos h2]
   refine gf rfl (gt rfl (gend ?_))
   unfold critT
   rw [if_pos hv, if_pos h2]
  ·rw [if_neg h2]
   have h3 : 3 ≤ s.lines.length := by omega
   refine gt rfl ?_
   refine gloop (fun r : (List Int × Int × List Int × Unit) ⊕ (List Int × Unit) => match r with
     | .inl y => ((y.1, y.2.1) : List Int × Int) = critT s
     | .inr y => ((y.1, 0) : List Int × Int) = critT s)
    (fun k t => k ≤ s.lines.length ∧ t = ((k : Int), critL s s.most k, ()) ∧ ∀ j, j < k → fitAll (Qc s j)) s.lines.length (by unfold big; omega) ⟨Nat.zero_le _, rfl, fun j hj => by omega⟩ ?_ ?_
   ·rintro k t hk ⟨_, rfl, hall⟩
    rcases Nat.lt_or_ge k s.lines.length with hlt | hge
    ·obtain ⟨o1, o2⟩ := w_others h hv h3 n10 hlt
     refine gt (decide_eq_true (by show (k : Int) < ((s.lines.length : Nat) : Int); omega)) ?_
     by_cases hf : fitAll (Qc s k)
     ·have hol := oth_len hlt
      have hcl := crit_len s s.most k
      have hall' : ∀ j, j < k + 1 → fitAll (Qc s j) := fun j hj => by
       rcases Nat.lt_or_ge j k with hjk | hjk
       ·exact hall j hjk
       ·have : j = k := by omega
        subst this; exact hf
      have w1 : IntKind.i64.wrap ((k : Int) + 1) = ((k + 1 : Nat) : Int) := by rw [wrap64 (by omega) (by omega)]; omega
      refine goo (o1 hf) (gbf rfl (goo (w_contains (by omega) (oth_fit hf) (by omega)) ?_))
      rw [oth_any (by omega)]
      cases hb : (Qc s k).any (badQ s.most) with
      | true =>
       refine gbt rfl (gbif (by simp; omega) (gs (gend ⟨hlt, hlt, ?_, hall'⟩)))
       show (IntKind.i64.wrap ((k : Int) + 1), critL s s.most k ++ [(k : Int)], ()) = _
       rw [w1, crit_succ, if_pos hb]
      | false =>
       refine gbf rfl (gs (gend ⟨hlt, hlt, ?_, hall'⟩))
       show (IntKind.i64.wrap ((k : Int) + 1), critL s s.most k, ()) = _
       rw [w1, crit_succ, if_neg (by simp [hb])]
     ·refine goo (o2 hf) (gbt rfl (gs (gend ?_)))
      show (([], 5) : List Int × Int) = _
      rw [crit_big hv h2 (fun e => hf (e k hlt))]
    ·have : k = s.lines.length := by omega
     subst this
     refine gf (decide_eq_false (by show ¬ ((s.lines.length : Nat) : Int) < ((s.lines.length : Nat) : Int); omega)) (gend ?_)
     show ((critL s s.most s.lines.length, 0) : List Int × Int) = _
     rw [crit_ok hv h2 hall]
   ·rintro (y | y) hy
    ·exact gend hy
    ·exact gend hy
theorem w_sameI (a : List Int) (ha : a.length ≤ 1000000) : F_slices_Equal_int a a = some true := by
 apply gs_eq
 unfold F_slices_Equal_int
 refine gf (by simp) ?_
 refine gloop (fun r : (Bool × Unit) ⊕ Unit => r = .inr ()) (fun k t => k ≤ a.length ∧ t = ((k : Int), ())) a.length (by unfold big; omega) ⟨Nat.zero_le _, rfl⟩ ?_ ?_
 ·rintro k t hk ⟨_, rfl⟩
  rcases Nat.lt_or_ge k a.length with hlt | hge
  ·refine gt (decide_eq_true (by show (k : Int) < ((a.length : Nat) : Int); omega)) (go (idx_at hlt) (go (idx_at hlt) (gf (by simp) (gend ⟨hlt, hlt, ?_⟩))))
   show (IntKind.i64.wrap ((k : Int) + 1), ()) = _
   rw [wrap64 (by omega) (by omega)]; rfl
  ·exact gf (decide_eq_false (by show ¬ (k : Int) < ((a.length : Nat) : Int); omega)) (gend rfl)
 ·rintro r rfl
  exact gend rfl
end Go.Proofs.YtgbicnkpnhifgaaGreatDoor

/- TopFailure: numbers' texts, joined findings, the findings of a set's lines. -/
namespace Go.Proofs.YtgbicnkpnhifgaaGreatDoor
set_option linter.unusedVariables false
set_option linter.unusedSimpArgs false

theorem x_itoa {n : Int} (h1 : 1 ≤ n) (h2 : n ≤ 15) : ∃ b : ByteArray, F_strconv_Itoa n = some b ∧ b.size ≤ 2 := by
 have : n = 1 ∨ n = 2 ∨ n = 3 ∨ n = 4 ∨ n = 5 ∨ n = 6 ∨ n = 7 ∨ n = 8 ∨ n = 9 ∨ n = 10 ∨ n = 11 ∨ n = 12 ∨ n = 13 ∨ n = 14 ∨ n = 15 := by omega
 rcases this with rfl | rfl | rfl | rfl | rfl | rfl | rfl | rfl | rfl | rfl | rfl | rfl | rfl | rfl | rfl
 ·exact ⟨⟨#[49]⟩, by kernel_rfl, by decide⟩
 ·exact ⟨⟨#[50]⟩, by kernel_rfl, by decide⟩
 ·exact ⟨⟨#[51]⟩, by kernel_rfl, by decide⟩
 ·exact ⟨⟨#[52]⟩, by kernel_rfl, by decide⟩
 ·exact ⟨⟨#[53]⟩, by kernel_rfl, by decide⟩
 ·exact ⟨⟨#[54]⟩, by kernel_rfl, by decide⟩
 ·exact ⟨⟨#[55]⟩, by kernel_rfl, by decide⟩
 ·exact ⟨⟨#[56]⟩, by kernel_rfl, by decide⟩
 ·exact ⟨⟨#[57]⟩, by kernel_rfl, by decide⟩
 ·exact ⟨⟨#[49, 48]⟩, by kernel_rfl, by decide⟩
 ·exact ⟨⟨#[49, 49]⟩, by kernel_rfl, by decide⟩
 ·exact ⟨⟨#[49, 50]⟩, by kernel_rfl, by decide⟩
 ·exact ⟨⟨#[49, 51]⟩, by kernel_rfl, by decide⟩
 ·exact ⟨⟨#[49, 52]⟩, by kernel_rfl, by decide⟩
 ·exact ⟨⟨#[49, 53]⟩, by kernel_rfl, by decide⟩
theorem x_concat0 (a b : List TFinding) : F_slices_Concat_api_Finding [a, b] = (bif decide (IntKind.i64.wrap (0 + ((a.length : Nat) : Int)) < 0) then none else bif decide (IntKind.i64.wrap (IntKind.i64.wrap (0 + ((a.length : Nat) : Int)) + ((b.length : Nat) : Int)) < 0) then none else
  if 0 ≤ IntKind.i64.wrap (IntKind.i64.wrap (0 + ((a.length : Nat) : Int)) + ((b.length : Nat) : Int)) ∧ IntKind.i64.wrap (IntKind.i64.wrap (0 + ((a.length : Nat) : Int)) + ((b.length : Nat) : Int)) ≤ 1000 then
   (if ([] : List TFinding).length + a.length ≤ 2147483648 then (if ([] ++ a).length + b.length ≤ 2147483648 then some (([] ++ a) ++ b) else none) else none) else none) := by kernel_rfl
theorem x_concat {a b : List TFinding} (ha : a.length ≤ 100) (hb : b.length ≤ 100) : F_slices_Concat_api_Finding [a, b] = some (a ++ b) := by
 have w1 : IntKind.i64.wrap (0 + ((a.length : Nat) : Int)) = ((a.length : Nat) : Int) := by rw [wrap64 (by omega) (by omega)]; omega
 have w2 : IntKind.i64.wrap (((a.length : Nat) : Int) + ((b.length : Nat) : Int)) = ((a.length + b.length : Nat) : Int) := by rw [wrap64 (by omega) (by omega)]; omega
 rw [x_concat0, w1, w2, decide_eq_false (by omega), decide_eq_false (by omega)]
 rw [cond_false, cond_false, if_pos ⟨by omega, by omega⟩, if_pos (by simp; omega), if_pos (by simp; omega)]
 rfl
end Go.Proofs.YtgbicnkpnhifgaaGreatDoor

/- TopFailure: what limits.Check and lineset.Check find. -/
namespace Go.Proofs.YtgbicnkpnhifgaaGreatDoor
set_option linter.unusedVariables false
set_option linter.unusedSimpArgs false

theorem x_given {s : TSet} (h : Sm s) : F_limits_given s ⟨1, 1⟩ = some (linesT s) := by
 apply gs_eq
 unfold F_limits_given
 refine go (f_valid s h.fits) ?_
 cases hv : validB s with
 | false =>
  refine gt rfl (gend ?_)
  unfold linesT
  rw [hv]; rfl
 | true =>
  exact gf rfl (go (show F_limits_isFactor ⟨1, 1⟩ = some 0 from by kernel_rfl) (gf rfl (go (t_llines h) (gend rfl))))
theorem x_any (l : List Rat) (m : Int) {k : Nat} (h : k < l.length) : (l.take (k + 1)).any (badQ m) = ((l.take k).any (badQ m) || badQ m (l.getD k 0)) := by
 rw [List.take_add_one, List.any_append, List.getD_eq_getElem?_getD, List.getElem?_eq_getElem h]
 simp
theorem x_lcmp {q : Rat} {m : Int} (hq : fitQ q) (hm : m.natAbs ≤ 1152921504606846976) : F_limits_cmp (frQ q) ⟨m, 1⟩ = some (if q < (m : Rat) then -1 else if (m : Rat) < q then 1 else 0) := by
 apply gs_eq
 unfold F_limits_cmp
 have hc := t_cmp hq (t_fitint hm)
 rw [← frq_int] at hc
 exact go hc (gend rfl)
theorem x_one {q : Rat} (hq : fitQ q) : F_ratio_Mul (frQ q) ⟨1, 1⟩ = some (frQ q, 0) := by
 have h := t_mul hq (t_fitint (n := 1) (by decide))
 rw [← frq_int, show ((1 : Int) : Rat) = 1 from rfl, Rat.mul_one] at h
 rw [h]
 unfold outQ
 rw [if_pos hq]
 rfl
theorem x_limits {s : TSet} (h : Sm s) (h15 : s.lines.length ≤ 14) (hm : s.most.natAbs ≤ 1152921504606846976) (hv : validB s = true) :
  (fitAll (Rs s) → ∃ L : List TFinding, F_limits_Check s ⟨1, 1⟩ = some (L, 0) ∧ decide (0 < L.length) = (Rs s).any (badQ s.most) ∧ L.length ≤ 60) ∧
  (¬ fitAll (Rs s) → F_limits_Check s ⟨1, 1⟩ = some ([], 5)) := by
 have hlt : linesT s = outL (Rs s) := by unfold linesT Rs; rw [if_pos hv]
 constructor
 ·intro hf
  rw [outL_fit hf] at hlt
  have hl := Rs_len (s := s)
  suffices hs : Gs (F_limits_Check s ⟨1, 1⟩) fun r => r.2 = 0 ∧ decide (0 < r.1.length) = (Rs s).any (badQ s.most) ∧ r.1.length ≤ 60 by
   obtain ⟨⟨L, e⟩, h1, h2, h3, h4⟩ := hs
   cases h2
   exact ⟨L, h1, h3, h4⟩
  unfold F_limits_Check
  refine go (x_given h) ?_
  rw [hlt]
  refine gf rfl ?_
  refine gloop (fun r : Tchecker × List TFinding × List TFinding × Unit => ∃ o l : List TFinding, r = (⟨⟨1, 1⟩, 0⟩, o, l, ()) ∧ (decide (0 < o.length) || decide (0 < l.length)) = (Rs s).any (badQ s.most) ∧ o.length ≤ 15 ∧ l.length ≤ 15)
   (fun k y => k ≤ (Rs s).length ∧ ∃ o l : List TFinding, y = ((k : Int), ⟨⟨1, 1⟩, 0⟩, o, l, ()) ∧ (decide (0 < o.length) || decide (0 < l.length)) = ((Rs s).take k).any (badQ s.most) ∧ o.length ≤ k ∧ l.length ≤ k) (Rs s).length (by rw [hl]; unfold big; omega) ⟨Nat.zero_le _, [], [], rfl, rfl, Nat.le_refl _, Nat.le_refl _⟩ ?_ ?_
  ·rintro k y hk ⟨_, o, l, rfl, hb, ho, hl2⟩
   rcases Nat.lt_or_ge k (Rs s).length with hlk | hge
   ·have g1 := fr_get (l := Rs s) hlk
    have hq := fit_get hf hlk
    have w1 : IntKind.i64.wrap ((k : Int) + 1) = ((k + 1 : Nat) : Int) := by rw [wrap64 (by omega) (by omega)]; omega
    obtain ⟨b, hit, _⟩ := x_itoa (n := ((k + 1 : Nat) : Int)) (by omega) (by omega)
    rw [← w1] at hit
    refine gt (decide_eq_true (by show (k : Int) < ((((Rs s).map frQ).length : Nat) : Int); rw [List.length_map]; omega)) ?_
    refine gcall (Q := fun y97 : Tchecker × List TFinding × List TFinding × Unit => ∃ o' l' : List TFinding, y97 = (⟨⟨1, 1⟩, 0⟩, o', l', ()) ∧ (decide (0 < o'.length) || decide (0 < l'.length)) = ((Rs s).take (k + 1)).any (badQ s.most) ∧ o'.length ≤ k + 1 ∧ l'.length ≤ k + 1) ?_ ?_
    ·refine go (idx_q g1) (go (at_w rfl g1) (go hit ?_))
     refine gcall (Q := fun y96 : Tchecker × List TFinding × Unit => ∃ o' : List TFinding, y96 = (⟨⟨1, 1⟩, 0⟩, o', ()) ∧ decide (0 < o'.length) = (decide (0 < o.length) || decide ((s.most : Rat) < (Rs s).getD k 0)) ∧ o'.length ≤ k + 1) ?_ ?_
     ·refine go (x_one hq) (gf rfl (go (show F_limits_of s.most = some ⟨s.most, 1⟩ from rfl) (go (x_lcmp hq hm) ?_)))
      by_cases hov : (s.most : Rat) < (Rs s).getD k 0
      ·refine gt (by rw [cmp_pos]; exact decide_eq_true hov) (gif (by simp; omega) (gend ⟨_, rfl, ?_, ?_⟩))
       ·rw [decide_eq_true hov, Bool.or_true]; simp
       ·simp; omega
      ·refine gf (by rw [cmp_pos]; exact decide_eq_false hov) (gend ⟨o, rfl, ?_, by omega⟩)
       rw [decide_eq_false hov, Bool.or_false]
     ·rintro _ ⟨o', rfl, he, ho'⟩
      by_cases hn : (Rs s).getD k 0 < 0
      ·refine gt (by rw [fr_neg]; exact decide_eq_true hn) (gif (by simp; omega) (gend ⟨o', _, rfl, ?_, ho', by simp; omega⟩))
       rw [x_any _ _ hlk]
       unfold badQ
       rw [decide_eq_true hn]
       simp
      ·refine gf (by rw [fr_neg]; exact decide_eq_false hn) (gend ⟨o', l, rfl, ?_, ho', by omega⟩)
       rw [x_any _ _ hlk, ← hb, he]
       unfold badQ
       rw [decide_eq_false hn, Bool.false_or]
       cases decide (0 < o.length) <;> cases decide (0 < l.length) <;> cases decide ((s.most : Rat) < (Rs s).getD k 0) <;> rfl
    ·rintro _ ⟨o', l', rfl, he, ho', hl'⟩
     refine gend ⟨hlk, hlk, o', l', ?_, he, ho', hl'⟩
     show (IntKind.i64.wrap ((k : Int) + 1), _, _, _, ()) = _
     rw [w1]
   ·have : k = (Rs s).length := by omega
    subst this
    refine gf (decide_eq_false (by show ¬ (((Rs s).length : Nat) : Int) < ((((Rs s).map frQ).length : Nat) : Int); rw [List.length_map]; omega)) (gend ⟨o, l, rfl, ?_, by omega, by omega⟩)
    rw [hb, List.take_length]
  ·rintro _ ⟨o, l, rfl, hb, ho, hl2⟩
   refine gf rfl (go (x_concat (by show o.length ≤ 100; omega) (by show l.length ≤ 100; omega)) (gend ⟨rfl, ?_, ?_⟩))
   ·show decide (0 < (o ++ l).length) = _
    rw [← hb, List.length_append]
    rw [← Bool.decide_or]
    apply decide_eq_decide.2
    omega
   ·show (o ++ l).length ≤ 60
    rw [List.length_append]; omega
 ·intro hf
  rw [outL_big hf] at hlt
  apply gs_eq
  unfold F_limits_Check
  refine go (x_given h) ?_
  rw [hlt]
  exact gt rfl (gend rfl)
def holdsB (s : TSet) : Bool := decide (maxZ (balanceI s) (IntKind.i64.wrap (0 - balanceI s)) ≤ s.brake)
theorem x_holds {s : TSet} (h : Sm s) (hv : validB s = true) : F_arbor_Holds s = some (holdsB s, 0) := by
 apply gs_eq
 unfold F_arbor_Holds
 refine go (f_balance s h.fits) ?_
 rw [if_pos hv]
 exact gbt rfl (gs (gend rfl))
theorem x_slack {q : Rat} : F_lineset_Check_2 (frQ q) = some (decide (q < 0)) := by
 unfold F_lineset_Check_2
 rw [fr_neg]
theorem x_over {q : Rat} {s : TSet} (hq : fitQ q) (hm : s.most.natAbs ≤ 1152921504606846976) : F_lineset_Check_3 (frQ q) s = some (decide ((s.most : Rat) < q)) := by
 apply gs_eq
 unfold F_lineset_Check_3
 have hc := t_cmp hq (t_fitint hm)
 rw [← frq_int] at hc
 refine go hc (gbt rfl (gs (gend ?_)))
 exact cmp_pos _ _
theorem x_anyp (l : List Rat) (p : Rat → Bool) {k : Nat} (h : k < l.length) : (l.take (k + 1)).any p = ((l.take k).any p || p (l.getD k 0)) := by
 rw [List.take_add_one, List.any_append, List.getD_eq_getElem?_getD, List.getElem?_eq_getElem h]
 simp
theorem any_bad (l : List Rat) (m : Int) : l.any (badQ m) = (l.any (fun q => decide (q < 0)) || l.any (fun q => decide ((m : Rat) < q))) := by
 induction l with
 | nil => rfl
 | cons a l ih =>
  rw [List.any_cons, List.any_cons, List.any_cons, ih]
  unfold badQ
  cases decide (a < 0) <;> cases decide ((m : Rat) < a) <;> cases l.any (fun q => decide (q < 0)) <;> cases l.any (fun q => decide ((m : Rat) < q)) <;> rfl
end Go.Proofs.YtgbicnkpnhifgaaGreatDoor

/- TopFailure: what lineset.Check finds. -/
namespace Go.Proofs.YtgbicnkpnhifgaaGreatDoor
set_option linter.unusedVariables false
set_option linter.unusedSimpArgs false

theorem x_loop {R : List Rat} (hf : fitAll R) (hl : R.length ≤ 14) {p : Rat → Bool} {Fp : TFrac → Option Bool} (hp : ∀ q, fitQ q → Fp (frQ q) = some (p q)) (kd : Int) (o0 : List TFinding) (ho0 : o0.length ≤ 20) :
  Gs (iterF (σ := Int × (List TFinding) × Unit) (ρ := (List TFinding) × Unit) (fun s33 => (bif (decide (s33.1 < (((R.map frQ).length : Nat) : Int))) then ((idx (R.map frQ) s33.1).bind fun _x34 => ((R.map frQ)[(Int.toNat s33.1)]?).bind fun x35 => (Fp x35).bind fun r36 => (bif r36 then (F_strconv_Itoa (IntKind.i64.wrap (s33.1 + 1))).bind fun r37 => (if (⟨#[108, 105, 110, 101]⟩ : ByteArray).size + r37.size ≤ 2147483648 then (if s33.2.1.length + ([(TFinding.mk kd ((⟨#[108, 105, 110, 101]⟩ : ByteArray) ++ r37))] : List TFinding).length ≤ 2147483648 then some ((s33.2.1 ++ ([(TFinding.mk kd ((⟨#[108, 105, 110, 101]⟩ : ByteArray) ++ r37))] : List TFinding)), ()) else none) else none) else some (s33.2.1, ())) : Option ((List TFinding) × Unit)).bind fun y38 => some (.inl ((IntKind.i64.wrap (s33.1 + 1)), y38.1, ())) else some (.inr (s33.2.1, ())))) big (0, o0, ()))
   fun r => decide (0 < r.1.length) = (decide (0 < o0.length) || R.any p) ∧ r.1.length ≤ o0.length + 14 := by
 refine gs_loop _ (fun k y => k ≤ R.length ∧ ∃ o : List TFinding, y = ((k : Int), o, ()) ∧ decide (0 < o.length) = (decide (0 < o0.length) || (R.take k).any p) ∧ o.length ≤ o0.length + k) R.length (by unfold big; omega) ⟨Nat.zero_le _, o0, rfl, by simp, Nat.le_refl _⟩ ?_
 rintro k y hk ⟨_, o, rfl, hb, ho⟩
 rcases Nat.lt_or_ge k R.length with hlk | hge
 ·have g1 := fr_get (l := R) hlk
  have hq := fit_get hf hlk
  have w1 : IntKind.i64.wrap ((k : Int) + 1) = ((k + 1 : Nat) : Int) := by rw [wrap64 (by omega) (by omega)]; omega
  obtain ⟨b, hit, hbs⟩ := x_itoa (n := ((k + 1 : Nat) : Int)) (by omega) (by omega)
  rw [← w1] at hit
  refine gt (decide_eq_true (by show (k : Int) < (((R.map frQ).length : Nat) : Int); rw [List.length_map]; omega)) ?_
  refine gcall (Q := fun y38 : List TFinding × Unit => decide (0 < y38.1.length) = (decide (0 < o0.length) || (R.take (k + 1)).any p) ∧ y38.1.length ≤ o0.length + (k + 1)) ?_ ?_
  ·refine go (idx_q g1) (go (at_w rfl g1) (go (hp _ hq) ?_))
   cases hpq : p (R.getD k 0) with
   | true =>
    refine gt rfl (go hit (gif (by show 4 + b.size ≤ 2147483648; omega) (gif (by simp; omega) (gend ⟨?_, ?_⟩))))
    ·rw [x_anyp _ _ hlk, hpq, Bool.or_true, Bool.or_true]; simp
    ·simp; omega
   | false =>
    refine gf rfl (gend ⟨?_, by show o.length ≤ _; omega⟩)
    rw [x_anyp _ _ hlk, hpq, Bool.or_false]
    exact hb
  ·rintro ⟨o', ⟨⟩⟩ ⟨he, ho'⟩
   refine gend ⟨hlk, hlk, o', ?_, he, ho'⟩
   show (IntKind.i64.wrap ((k : Int) + 1), _, ()) = _
   rw [w1]
 ·have : k = R.length := by omega
  subst this
  refine gf (decide_eq_false (by show ¬ ((R.length : Nat) : Int) < (((R.map frQ).length : Nat) : Int); rw [List.length_map]; omega)) (gend ⟨?_, by show o.length ≤ _; omega⟩)
  rw [List.take_length] at hb
  exact hb
theorem x_check {s : TSet} (h : Sm s) (h15 : s.lines.length ≤ 14) (hm : s.most.natAbs ≤ 1152921504606846976) (hv : validB s = true) :
  (fitAll (Rs s) → ∃ L : List TFinding, F_lineset_Check s = some (L, 0) ∧ decide (0 < L.length) = (!holdsB s || (Rs s).any (badQ s.most)) ∧ L.length ≤ 60) ∧
  (¬ fitAll (Rs s) → F_lineset_Check s = some ([], 5)) := by
 have hlt : linesT s = outL (Rs s) := by unfold linesT Rs; rw [if_pos hv]
 constructor
 ·intro hf
  rw [outL_fit hf] at hlt
  have hl := Rs_len (s := s)
  suffices hs : Gs (F_lineset_Check s) fun r => r.2 = 0 ∧ decide (0 < r.1.length) = (!holdsB s || (Rs s).any (badQ s.most)) ∧ r.1.length ≤ 60 by
   obtain ⟨⟨L, e⟩, h1, h2, h3, h4⟩ := hs
   cases h2
   exact ⟨L, h1, h3, h4⟩
  unfold F_lineset_Check
  refine go (t_lines h) ?_
  rw [hlt]
  refine gf rfl (go (x_holds h hv) (gf rfl ?_))
  refine gcall (Q := fun y3 : List TFinding × Unit => decide (0 < y3.1.length) = !holdsB s ∧ y3.1.length ≤ 1) ?_ ?_
  ·cases hb : holdsB s with
   | true => exact gf rfl (gend ⟨rfl, Nat.zero_le _⟩)
   | false => exact gt rfl (gif (by simp) (gend ⟨rfl, Nat.le_refl _⟩))
  ·rintro ⟨o0, ⟨⟩⟩ ⟨he, ho⟩
   have ho' : o0.length ≤ 1 := ho
   have he' : decide (0 < o0.length) = !holdsB s := he
   refine gcall (x_loop (R := Rs s) hf (by omega) (p := fun q => decide (q < 0)) (Fp := fun x => F_lineset_Check_2 x) (fun q _ => x_slack) 2 o0 (by omega)) ?_
   rintro ⟨o1, ⟨⟩⟩ ⟨h1, h2⟩
   have h1' : decide (0 < o1.length) = (decide (0 < o0.length) || (Rs s).any fun q => decide (q < 0)) := h1
   have h2' : o1.length ≤ o0.length + 14 := h2
   refine gcall (x_loop (R := Rs s) hf (by omega) (p := fun q => decide ((s.most : Rat) < q)) (Fp := fun x => F_lineset_Check_3 x s) (fun q hq => x_over hq hm) 3 o1 (by omega)) ?_
   rintro ⟨o2, ⟨⟩⟩ ⟨h3, h4⟩
   have h4' : o2.length ≤ o1.length + 14 := h4
   refine gend ⟨rfl, ?_, by show o2.length ≤ 60; omega⟩
   refine h3.trans ?_
   rw [h1', he', any_bad, Bool.or_assoc]
 ·intro hf
  rw [outL_big hf] at hlt
  apply gs_eq
  unfold F_lineset_Check
  refine go (t_lines h) ?_
  rw [hlt]
  exact gt rfl (gend rfl)
theorem x_len0 (L : List TFinding) : (((L.length : Nat) : Int) == 0) = !decide (0 < L.length) := by
 cases L with
 | nil => rfl
 | cons a l => simp; omega
theorem x_accepted {s : TSet} {L : List TFinding} {e : Int} (h : F_lineset_Check s = some (L, e)) : F_lineset_Accepted s = some ((e == 0) && !decide (0 < L.length)) := by
 apply gs_eq
 unfold F_lineset_Accepted
 refine go h ?_
 show Gs ((bif (e == 0) then some ((((L.length : Nat) : Int) == 0), ()) else some (false, ()) : Option (Bool × Unit)).bind fun y2 => some y2.1) _
 rw [x_len0]
 cases e == 0 with
 | true => exact gbt rfl (gs (gend rfl))
 | false => exact gbf rfl (gs (gend rfl))
theorem x_without {s : TSet} (h : Sm s) (hv : validB s = true) (h2 : s.lines.length ≠ 2) {k : Nat} (hk : k < s.lines.length) : F_failure_Without s (k : Int) = some (cutS s k, 0) := by
 have hg := Good.of hv
 have n2 := hg.ln0; have n10 := hg.ln1
 have hg1 := w_given s h (by omega) (k : Int)
 rw [if_pos hv, if_neg (by omega), if_neg h2] at hg1
 apply gs_eq
 unfold F_failure_Without
 exact go hg1 (gf rfl (go (w_cut h n10 hk) (gend rfl)))
end Go.Proofs.YtgbicnkpnhifgaaGreatDoor

/- TopFailure. -/
namespace Go.Proofs.YtgbicnkpnhifgaaGreatDoor
set_option linter.unusedVariables false
set_option linter.unusedSimpArgs false

theorem x_notbad {l : List Rat} {m : Int} (h : l.any (badQ m) = false) (hm : 0 ≤ m) (x : Nat) : l.getD x 0 ≤ (m : Rat) := by
 rw [List.getD_eq_getElem?_getD]
 cases hx : l[x]? with
 | none =>
  show (0 : Rat) ≤ (m : Rat)
  have := Rat.intCast_le_intCast.2 hm
  simpa using this
 | some q =>
  have hq := List.mem_of_getElem? hx
  have h1 : badQ m q = false := by
   cases hb : badQ m q with
   | false => rfl
   | true => rw [List.any_eq_true.2 ⟨q, hq, hb⟩] at h; cases h
  unfold badQ at h1
  rw [Bool.or_eq_false_iff] at h1
  exact Rat.not_lt.1 (of_decide_eq_false h1.2)
theorem x_wst {s : TSet} (hm : 0 ≤ s.most) (h0 : (Rs s).any (badQ s.most) = false) : ∀ (k : Nat), (∀ j, j < k → (Qc s j).any (badQ s.most) = false) → ∀ x, wst s k x ≤ (s.most : Rat)
 | 0, _, x => x_notbad h0 hm x
 | k + 1, h, x => by
  show updW s k (wst s k) x ≤ _
  unfold updW
  split
  ·exact x_notbad (by rw [oth_any hm]; exact h k (Nat.lt_succ_self k)) hm x
  ·exact x_wst hm h0 k (fun j hj => h j (by omega)) x
theorem x_mem {s : TSet} {m : Int} {n k : Nat} (hk : k < n) : decide ((k : Int) ∈ critL s m n) = (Qc s k).any (badQ m) := by
 unfold critL
 cases hb : (Qc s k).any (badQ m) with
 | true =>
  apply decide_eq_true
  exact List.mem_map.2 ⟨k, List.mem_filter.2 ⟨List.mem_range.2 hk, hb⟩, rfl⟩
 | false =>
  apply decide_eq_false
  intro hc
  obtain ⟨i, hi, e⟩ := List.mem_map.1 hc
  have : i = k := by omega
  subst this
  have := (List.mem_filter.1 hi).2
  rw [hb] at this
  cases this
theorem x_none {s : TSet} {m : Int} {n : Nat} (h : (critL s m n).length = 0) {j : Nat} (hj : j < n) : (Qc s j).any (badQ m) = false := by
 rw [← x_mem (s := s) (m := m) hj, List.length_eq_zero_iff.1 h]
 rfl
theorem x_gt0 (L : List TFinding) : decide (((L.length : Nat) : Int) > 0) = decide (0 < L.length) := by
 apply decide_eq_decide.2
 omega
theorem main_TopFailure (x0 : TSet) (w0 : W_Set x0) : F_top_TopFailure x0 = some true := by
 apply gs_eq
 unfold F_top_TopFailure
 refine go x_awake (gf rfl (goo (f_small x0 6) ?_))
 cases hs : smallB x0 6 with
 | false => exact gbt rfl (gs (gt rfl (gend rfl)))
 | true =>
  have h := sm_of hs
  refine gbf rfl (goo (f_valid x0 h.fits) (gs ?_))
  cases hv : validB x0 with
  | false => exact gt rfl (gend rfl)
  | true =>
   have hg := Good.of hv
   have n2 := hg.ln0; have n10 := hg.ln1; have m0 := hg.m0; have m1 := hg.m1
   refine gf rfl (go (show F_top_soundFrac 1 = some ⟨1, 1⟩ from rfl) ?_)
   obtain ⟨l1, l2⟩ := x_limits h (by omega) (by omega) hv
   obtain ⟨c1, c2⟩ := x_check h (by omega) (by omega) hv
   have hcr := w_critical h (by omega)
   have hho := x_holds h hv
   by_cases hR : fitAll (Rs x0)
   rotate_left
   ·exact go (l2 hR) (go (c2 hR) (go hcr (go hho (gbt rfl (gs (gt rfl (gend rfl)))))))
   obtain ⟨L1, e1, b1, k1⟩ := l1 hR
   obtain ⟨L2, e2, b2, k2⟩ := c1 hR
   have hac := x_accepted e2
   refine go e1 (go e2 (go hcr (go hho (gbf rfl (gbf rfl (gs (gf rfl ?_)))))))
   refine gcall (Q := fun y19 : Bool × Unit => y19.1 = false) ?_ ?_
   ·refine go hac ?_
    show Gs (bif holdsB x0 then (bif (!((((0 : Int) == 0) && !decide (0 < L2.length)) == (((L1.length : Nat) : Int) == 0))) then some (true, ()) else (F_lineset_Accepted x0).bind fun r17 => some ((!((((L2.length : Nat) : Int) == 0) == r17)), ())) else (bif (!((((0 : Int) == 0) && !decide (0 < L2.length)) == false)) then some (true, ()) else (F_lineset_Accepted x0).bind fun r18 => some ((!((((L2.length : Nat) : Int) == 0) == r18)), ()))) _
    rw [x_len0 L1, x_len0 L2, b1]
    cases hb : holdsB x0 with
    | true =>
     rw [hb] at b2
     refine gt rfl (gf ?_ (go hac (gend ?_)))
     ·rw [b2]; cases (Rs x0).any (badQ x0.most) <;> rfl
     ·show (!(!decide (0 < L2.length)) == (((0 : Int) == 0) && !decide (0 < L2.length))) = false
      cases decide (0 < L2.length) <;> rfl
    | false =>
     rw [hb] at b2
     refine gf rfl (gf ?_ (go hac (gend ?_)))
     ·rw [b2]; rfl
     ·show (!(!decide (0 < L2.length)) == (((0 : Int) == 0) && !decide (0 < L2.length))) = false
      cases decide (0 < L2.length) <;> rfl
   rintro ⟨y19, ⟨⟩⟩ hy
   cases hy
   refine gf rfl ?_
   by_cases h2 : x0.lines.length = 2
   ·have ec : critT x0 = ([0, 1], 0) := by unfold critT; rw [if_pos hv, if_pos h2]
    rw [ec]
    exact gbf rfl (gs (gt (by simp [h2]) (gbf rfl (goo (w_sameI [0, 1] (by decide)) (gs (gend rfl))))))
   have h3 : 3 ≤ x0.lines.length := by omega
   by_cases hQ : ∀ k, k < x0.lines.length → fitAll (Qc x0 k)
   rotate_left
   ·rw [crit_big hv h2 hQ]
    exact gbt rfl (gs (gt rfl (gbt rfl (gs (gend rfl)))))
   rw [crit_ok hv h2 hQ]
   have hcl := crit_len x0 x0.most x0.lines.length
   refine gbf rfl (gs (gf (by simp; omega) ?_))
   refine gloop (fun r : (Bool × Unit) ⊕ Unit => r = .inr ()) (fun k y => k ≤ x0.lines.length ∧ y = ((k : Int), ())) x0.lines.length (by unfold big; omega) ⟨Nat.zero_le _, rfl⟩ ?_ ?_
   ·rintro k y hk ⟨_, rfl⟩
    rcases Nat.lt_or_ge k x0.lines.length with hlk | hge
    ·have w1 : IntKind.i64.wrap ((k : Int) + 1) = ((k + 1 : Nat) : Int) := by rw [wrap64 (by omega) (by omega)]; omega
     have hcut := cut_len (l := x0.lines) hlk
     obtain ⟨q1, _⟩ := x_limits (cut_sm h k) (by show (x0.lines.take k ++ x0.lines.drop (k + 1)).length ≤ 14; omega) (by show x0.most.natAbs ≤ _; omega) (cut_valid hv h3 hlk)
     obtain ⟨L3, e3, b3, k3⟩ := q1 (hQ k hlk)
     have b3' : decide (0 < L3.length) = (Qc x0 k).any (badQ x0.most) := b3
     refine gt (decide_eq_true (by show (k : Int) < ((x0.lines.length : Nat) : Int); omega)) (go (x_without h hv h2 hlk) (go (show F_top_soundFrac 1 = some ⟨1, 1⟩ from rfl) (go e3 (gbf rfl (gbf rfl (goo (t_contains _ _ (by show (critL x0 x0.most x0.lines.length).length ≤ _; omega)) (gs (gf ?_ (gend ⟨hlk, hlk, ?_⟩)))))))))
     ·show (!(decide ((k : Int) ∈ critL x0 x0.most x0.lines.length) == decide (((L3.length : Nat) : Int) > 0))) = false
      rw [x_gt0, b3', x_mem hlk]
      cases (Qc x0 k).any (badQ x0.most) <;> rfl
     ·show (IntKind.i64.wrap ((k : Int) + 1), ()) = _
      rw [w1]
    ·have : k = x0.lines.length := by omega
     subst this
     exact gf (decide_eq_false (by show ¬ ((x0.lines.length : Nat) : Int) < ((x0.lines.length : Nat) : Int); omega)) (gend rfl)
   ·rintro _ rfl
    have hwl := wst_len x0 x0.lines.length
    have hWfit := wst_fit hR x0.lines.length hQ
    refine go (w_worst h (by omega)) ?_
    rw [worst_ok hv h2 ⟨hR, hQ⟩]
    refine gbf rfl (gs (gf ?_ ?_))
    ·show (((((wstL x0 x0.lines.length).map frQ).length : Nat) : Int) != ((x0.lines.length : Nat) : Int)) = false
     rw [List.length_map, hwl]; simp
    refine gloop (fun r : Bool × Unit => (Rs x0).any (badQ x0.most) = false → (critL x0 x0.most x0.lines.length).length = 0 → r.1 = true)
     (fun k y => k ≤ x0.lines.length ∧ ∃ b : Bool, y = (b, (k : Int), ()) ∧ ((Rs x0).any (badQ x0.most) = false → (critL x0 x0.most x0.lines.length).length = 0 → b = true)) x0.lines.length (by unfold big; omega) ⟨Nat.zero_le _, true, rfl, fun _ _ => rfl⟩ ?_ ?_
    ·rintro k y hk ⟨_, b, rfl, hb⟩
     rcases Nat.lt_or_ge k x0.lines.length with hlk | hge
     ·have w1 : IntKind.i64.wrap ((k : Int) + 1) = ((k + 1 : Nat) : Int) := by rw [wrap64 (by omega) (by omega)]; omega
      have g2 := fr_get (l := wstL x0 x0.lines.length) (k := k) (by omega)
      rw [wst_get x0 _ hlk] at g2
      refine gt (decide_eq_true (by show (k : Int) < ((((wstL x0 x0.lines.length).map frQ).length : Nat) : Int); rw [List.length_map, hwl]; omega)) ?_
      refine gcall (Q := fun y55 : Bool × Unit => (Rs x0).any (badQ x0.most) = false → (critL x0 x0.most x0.lines.length).length = 0 → y55.1 = true) ?_ ?_
      ·refine go (idx_q g2) (go (at_w rfl g2) ?_)
       cases b with
       | false => exact gf rfl (gend fun ha hc => hb ha hc)
       | true =>
        have hcmp := t_rcmp (hWfit k) (t_fitint (n := x0.most) (by omega))
        rw [← frq_int] at hcmp
        refine gt rfl (go (show F_top_soundFrac x0.most = some ⟨x0.most, 1⟩ from rfl) (go hcmp (gend fun ha hc => ?_)))
        have hle := x_wst (show 0 ≤ x0.most by omega) ha x0.lines.length (fun j hj => x_none hc hj) k
        apply decide_eq_true
        have h5 : ¬ (x0.most : Rat) < wst x0 x0.lines.length k := Rat.not_lt.2 hle
        show (if wst x0 x0.lines.length k < (x0.most : Rat) then (-1 : Int) else if (x0.most : Rat) < wst x0 x0.lines.length k then 1 else 0) ≤ 0
        rw [if_neg h5]
        split <;> omega
      ·rintro ⟨b', ⟨⟩⟩ hb'
       refine gend ⟨hlk, hlk, b', ?_, hb'⟩
       show (b', IntKind.i64.wrap ((k : Int) + 1), ()) = _
       rw [w1]
     ·have : k = x0.lines.length := by omega
      subst this
      exact gf (decide_eq_false (by show ¬ ((x0.lines.length : Nat) : Int) < ((((wstL x0 x0.lines.length).map frQ).length : Nat) : Int); rw [List.length_map, hwl]; omega)) (gend hb)
    ·rintro ⟨b, ⟨⟩⟩ hb
     have hb' : (Rs x0).any (badQ x0.most) = false → (critL x0 x0.most x0.lines.length).length = 0 → b = true := hb
     cases b with
     | true => exact gbt rfl (gs (gend rfl))
     | false =>
      refine gbf rfl ?_
      show Gs ((bif decide (((L1.length : Nat) : Int) > 0) then some (true, ()) else some ((decide ((((critL x0 x0.most x0.lines.length).length : Nat) : Int) > 0)), ()) : Option (Bool × Unit)).bind fun y57 => some y57.1) _
      rw [x_gt0, b1]
      cases ha : (Rs x0).any (badQ x0.most) with
      | true => exact gbt rfl (gs (gend rfl))
      | false =>
       refine gbf rfl (gs (gend ?_))
       show decide ((((critL x0 x0.most x0.lines.length).length : Nat) : Int) > 0) = true
       apply decide_eq_true
       rcases Nat.eq_zero_or_pos (critL x0 x0.most x0.lines.length).length with h0 | h0
       ·have := hb' ha h0
        cases this
       ·omega
end Go.Proofs.YtgbicnkpnhifgaaGreatDoor
