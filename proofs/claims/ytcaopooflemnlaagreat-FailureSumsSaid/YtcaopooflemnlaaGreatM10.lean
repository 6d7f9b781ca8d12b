/- Joined by merge.py: PlN12, PlN13, PlN14, PlQ3, PlQ4, PlQ5, PlQ6, PlQ7, PlG1, PlRw, PlG2, PlG3, PlG4, PlG5, PlH1, PlJ1, PlQ8a, PlQ8b, PlH2, PlH3, PlH4, PlJ1b, PlT2, PlT4a, PlT4, PlJ1c, PlT5, PlT6, PlW1, PlW2, PlW3, PlW4, PlW5, PlW6. -/
import Derived.Test.YtcaopooflemnlaaGreatM09
/- Numbers of many digits: beam.divided. -/
namespace Go.Proofs.YtcaopooflemnlaaGreat
set_option linter.unusedVariables false
set_option linter.unusedSimpArgs false

theorem dg_val : ∀ {l : List Int} (_ : dig (4294967296 : Int) l) (k : Nat), dg l k = bv (4294967296 : Int) l / (4294967296 : Int) ^ k % (4294967296 : Int)
 | [], _, k => by simp [dg, bv]
 | x :: l, h, 0 => by
  have hx := h x List.mem_cons_self
  have e : dg (x :: l) 0 = x := by simp [dg]
  rw [e]
  simp only [bv, Int.pow_zero, Int.ediv_one]
  omega
 | x :: l, h, k + 1 => by
  have hx := h x List.mem_cons_self
  have e : dg (x :: l) (k + 1) = dg l k := by simp [dg]
  rw [e, dg_val (fun y hy => h y (List.mem_cons_of_mem _ hy)) k]
  have e2 : bv (4294967296 : Int) (x :: l) / (4294967296 : Int) = bv (4294967296 : Int) l := by simp only [bv]; omega
  rw [Int.pow_succ, Int.mul_comm, ← Int.ediv_ediv_of_nonneg (by decide), e2]
theorem bit_of {u k j : Nat} (hj : j < 32) : u / 4294967296 ^ k % 4294967296 / 2 ^ j % 2 = u / 2 ^ (32 * k + j) % 2 := by
 have e0 : (4294967296 : Nat) = 2 ^ 32 := by decide
 have e1 : (4294967296 : Nat) ^ k = 2 ^ (32 * k) := by rw [e0, ← Nat.pow_mul]
 have e2 : (4294967296 : Nat) = 2 ^ j * (2 * 2 ^ (31 - j)) := by
  rw [e0, ← Nat.pow_succ', ← Nat.pow_add]; congr 1; omega
 rw [e1, Nat.pow_add, ← Nat.div_div_eq_div_mul]
 generalize u / 2 ^ (32 * k) = w
 rw [e2, Nat.mod_mul_right_div_self, Nat.mod_mul_right_mod]
theorem room_of {q k j : Nat} (hj : j < 32) : ∃ m, 2 ^ (32 * k + j + 1) * q / 4294967296 ^ k % 4294967296 = 2 ^ (j + 1) * m ∧ 2 ^ (j + 1) * m + 2 ^ j < 4294967296 := by
 have e0 : (4294967296 : Nat) = 2 ^ 32 := by decide
 have e1 : (4294967296 : Nat) ^ k = 2 ^ (32 * k) := by rw [e0, ← Nat.pow_mul]
 have e2 : (4294967296 : Nat) = 2 ^ (j + 1) * 2 ^ (31 - j) := by
  rw [e0, ← Nat.pow_add]; congr 1; omega
 refine ⟨q % 2 ^ (31 - j), ?_, ?_⟩
 ·rw [e1, Nat.add_assoc, Nat.pow_add, Nat.mul_assoc, Nat.mul_div_cancel_left _ (Nat.pow_pos (by decide)), e2, Nat.mul_mod_mul_left]
 ·have h1 := Nat.mod_lt q (show 0 < 2 ^ (31 - j) from Nat.pow_pos (by decide))
  generalize q % 2 ^ (31 - j) = m at h1 ⊢
  have h2 : 2 ^ (j + 1) * (m + 1) ≤ 4294967296 := by
   conv => rhs; rw [e2]
   exact Nat.mul_le_mul_left _ h1
  have h3 : 2 ^ (j + 1) = 2 ^ j * 2 := Nat.pow_succ _ _
  have h4 : 0 < 2 ^ j := Nat.pow_pos (by decide)
  rw [Nat.mul_add, Nat.mul_one] at h2
  omega
theorem bit_step {u i : Nat} : u / 2 ^ i = 2 * (u / 2 ^ (i + 1)) + u / 2 ^ i % 2 := by
 rw [Nat.pow_succ, ← Nat.div_div_eq_div_mul]
 omega
theorem Wd.dgn {l : List Int} {u : Nat} (h : Wd l u) (k : Nat) : dg l k = ((u / 4294967296 ^ k % 4294967296 : Nat) : Int) := by
 rw [dg_val h.dig, h.val]
 rw [Int.natCast_emod, Int.natCast_ediv, Int.natCast_pow]; rfl
theorem wd_one : Wd [1] 1 := ⟨by intro x hx; simp at hx; subst hx; omega, by simp [tight], by decide, by simp [bv]⟩
theorem tdiv_nat (i : Nat) : IntKind.i64.wrap ((i : Int).tdiv 32) = ((i / 32 : Nat) : Int) ∨ 9223372036854775808 ≤ i := by
 rcases Nat.lt_or_ge i 9223372036854775808 with h | h
 ·left
  rw [Int.tdiv_eq_ediv_of_nonneg (by omega), wrap64 (by omega) (by omega)]
  omega
 ·exact .inr h
theorem tmod_nat (i : Nat) : ((i : Int).tmod 32) = ((i % 32 : Nat) : Int) := by
 rw [Int.tmod_eq_emod_of_nonneg (by omega)]; omega
set_option maxHeartbeats 1000000 in
theorem f_divided {a b : List Int} {u v : Nat} (ha : Wd a u) (hb : Wd b v) (hv : 0 < v) (hla : a.length ≤ 8000000) (hlb : b.length ≤ 8000000) : ∃ r, F_beam_divided a b = some r ∧ Wd r (u / v) ∧ r.length ≤ a.length := by
 unfold F_beam_divided
 rw [if_pos ⟨by omega, by omega⟩]
 simp only [Int.toNat_natCast]
 have hw0 : IntKind.i64.wrap ((IntKind.i64.wrap (32 * ((a.length : Nat) : Int))) - 1) = ((32 * a.length : Nat) : Int) - 1 - ((0 : Nat) : Int) := by
  rw [wrap64 (n := 32 * ((a.length : Nat) : Int)) (by omega) (by omega), wrap64 (by omega) (by omega)]; omega
 rw [hw0]
 obtain ⟨T, hT⟩ : ∃ T, 32 * a.length = T := ⟨_, rfl⟩
 rw [hT]
 refine iter_bind (Q := fun r : List Int × Unit => bv (4294967296 : Int) r.1 = ((u / v : Nat) : Int) ∧ dig (4294967296 : Int) r.1 ∧ r.1.length = a.length)
  (fun k s => ∃ rest out q ρ, s = (rest, (T : Int) - 1 - (k : Int), out, ()) ∧ k ≤ T ∧ Wd rest ρ ∧ ρ < v ∧ q * v + ρ = u / 2 ^ (T - k) ∧ out.length = a.length ∧ dig (4294967296 : Int) out ∧ bv (4294967296 : Int) out = ((2 ^ (T - k) * q : Nat) : Int))
  T (by unfold big; omega) ?_ ⟨[], List.replicate a.length 0, 0, 0, rfl, Nat.zero_le _, ⟨(fun x hx => nomatch hx), by simp [tight], by decide, by simp [bv]⟩, hv, ?_, by simp, ?_, ?_⟩ ?_
 ·rintro k s hk ⟨rest, out, q, ρ, rfl, _, wr, hρ, hq, hlo, hdo, hvo⟩
  rcases Nat.lt_or_ge k T with hlt | hge
  ·refine .inl (step_of hlt ?_)
   obtain ⟨i, hi⟩ : ∃ i, T - k = i + 1 := ⟨T - k - 1, by omega⟩
   have hi2 : T - (k + 1) = i := by omega
   have hii : (T : Int) - 1 - (k : Int) = (i : Int) := by omega
   have e0 : decide ((T : Int) - 1 - (k : Int) ≥ 0) = true := by simp; omega
   have hdiv : IntKind.i64.wrap ((i : Int).tdiv 32) = ((i / 32 : Nat) : Int) := by
    rcases tdiv_nat i with h | h
    ·exact h
    ·omega
   have hka : i / 32 < a.length := by omega
   have hko : i / 32 < out.length := by omega
   have hj : i % 32 < 32 := Nat.mod_lt _ (by decide)
   have hneg : ¬ (((i % 32 : Nat) : Int) < 0) := by omega
   have hnext : IntKind.i64.wrap ((i : Int) - 1) = (T : Int) - 1 - ((k + 1 : Nat) : Int) := by rw [wrap64 (by omega) (by omega)]; omega
   have hrl : rest.length ≤ b.length := wr.le hb (by omega)
   obtain ⟨r1, a1, a2⟩ := wr.add wr (by omega)
   have hr1l : r1.length ≤ b.length + 1 := by
    obtain ⟨r', p1, _, _, _, p5⟩ := f_added rest rest wr.dig wr.dig wr.len wr.len
    rw [a1] at p1
    injection p1 with p1
    subst p1
    omega
   have hbit : bitsOf .and .u32 ((a[i / 32] : Int).fdiv (2 ^ min (Int.toNat ((i % 32 : Nat) : Int)) IntKind.u32.bits)) 1 = ((u / 2 ^ i % 2 : Nat) : Int) := by
    rw [← dg_get hka, ha.dgn, bit_get (Nat.mod_lt _ (by decide)) hj, bit_of hj, Nat.div_add_mod]
   have hu : u / 2 ^ i = 2 * (u / 2 ^ (i + 1)) + u / 2 ^ i % 2 := bit_step
   rw [hi] at hq hvo
   simp only [e0, cond_true, hii]
   rw [a1]
   simp only [Option.bind_some]
   rw [hdiv, tmod_nat, idx_nat hka]
   simp only [Option.bind_some]
   rw [if_neg hneg, hbit]
   obtain ⟨c, hc⟩ : ∃ c, u / 2 ^ i % 2 = c := ⟨_, rfl⟩
   have hc2 : c < 2 := by omega
   rw [hc] at hu ⊢
   obtain ⟨r2, b1, b2⟩ : ∃ r2, ((bif ((c : Int) == 1) then (F_beam_added r1 ([1] : List Int)).bind fun r27 => some (r27, ()) else some (r1, ()) : Option (List Int × Unit))) = some (r2, ()) ∧ Wd r2 (2 * ρ + c) := by
    rcases Nat.lt_or_ge c 1 with h | h
    ·have h0 : c = 0 := by omega
     subst h0
     refine ⟨r1, rfl, ?_⟩
     rw [show 2 * ρ + 0 = ρ + ρ from by omega]; exact a2
    ·have h0 : c = 1 := by omega
     subst h0
     obtain ⟨t, t1, t2⟩ := a2.add wd_one (by simp; omega)
     refine ⟨t, ?_, ?_⟩
     ·rw [t1]; rfl
     ·rw [show 2 * ρ + 1 = ρ + ρ + 1 from by omega]; exact t2
   rw [b1]
   simp only [Option.bind_some]
   obtain ⟨z, z1, z2, z3⟩ := b2.cmp hb
   rw [z1]
   simp only [Option.bind_some]
   rcases Int.lt_or_le z 0 with hz | hz
   ·have hlt2 := z2.1 hz
    have e1 : decide (z ≥ 0) = false := by simp; omega
    rw [e1, cond_false, hnext]
    refine ⟨_, rfl, _, rfl, r2, out, 2 * q, 2 * ρ + c, rfl, hlt, b2, hlt2, ?_, hlo, hdo, ?_⟩
    ·rw [hi2, hu, ← hq]; grind
    ·rw [hvo, hi2, Nat.pow_succ]; congr 1; grind
   ·have hge2 : v ≤ 2 * ρ + c := by
     rcases Nat.lt_or_ge (2 * ρ + c) v with h | h
     ·have := z2.2 h; omega
     ·exact h
    have e1 : decide (z ≥ 0) = true := by simp; omega
    obtain ⟨t, t1, t2, _⟩ := b2.sub hb hge2
    obtain ⟨m, m1, m2⟩ := room_of (q := q) (k := i / 32) (j := i % 32) hj
    have hout : dg out (i / 32) = ((2 ^ (i % 32 + 1) * m : Nat) : Int) := by
     have hp : 32 * (i / 32) + i % 32 + 1 = i + 1 := by omega
     rw [hp] at m1
     rw [dg_val hdo, hvo, ← m1]
     rw [Int.natCast_emod, Int.natCast_ediv, Int.natCast_pow]; rfl
    rw [e1, cond_true, t1]
    simp only [Option.bind_some]
    rw [idx_nat hko]
    simp only [Option.bind_some, Int.toNat_natCast]
    rw [List.getElem?_eq_getElem hko]
    simp only [Option.bind_some]
    rw [if_neg hneg, hnext, ← dg_get hko, hout]
    have hbs := bit_set hj m2
    simp only [Int.toNat_natCast] at hbs
    rw [hbs]
    refine ⟨_, rfl, _, rfl, t, _, 2 * q + 1, 2 * ρ + c - v, rfl, hlt, t2, by omega, ?_, by simp [hlo], dig_set hdo (Int.natCast_nonneg _) (Int.ofNat_lt.2 m2), ?_⟩
    ·have : (2 * q + 1) * v = 2 * (q * v) + v := by grind
     rw [hi2, hu, ← hq, this]; omega
    ·have hpw : (4294967296 : Int) ^ (i / 32) * ((2 ^ (i % 32) : Nat) : Int) = ((2 ^ i : Nat) : Int) := by
      have e4 : ((4294967296 : Int) : Int) = ((4294967296 : Nat) : Int) := rfl
      have e5 : (4294967296 : Nat) ^ (i / 32) = 2 ^ (32 * (i / 32)) := by
       rw [Nat.pow_mul]
      rw [e4, ← Int.natCast_pow, ← Int.natCast_mul, e5, ← Nat.pow_add, Nat.div_add_mod]
     rw [bv_set _ _ _ _ hko, hvo, hout, Int.natCast_add]
     have e6 : (((2 ^ (i % 32 + 1) * m : Nat) : Int) + ((2 ^ (i % 32) : Nat) : Int)) - ((2 ^ (i % 32 + 1) * m : Nat) : Int) = ((2 ^ (i % 32) : Nat) : Int) := by omega
     first | rw [hpw] | (rw [e6, hpw])
     rw [hi2, ← Int.natCast_add]
     congr 1
     rw [Nat.pow_succ]; grind
  ·have hk' : k = T := by omega
   subst hk'
   have e0 : decide ((k : Int) - 1 - (k : Int) ≥ 0) = false := by simp; omega
   refine .inr ⟨(out, ()), by simp only [e0, cond_false], ?_, hdo, hlo⟩
   show bv (4294967296 : Int) out = _
   rw [hvo]
   rw [Nat.sub_self, Nat.pow_zero, Nat.div_one] at hq
   rw [Nat.sub_self, Nat.pow_zero, Nat.one_mul]
   congr 1
   rw [← hq, Nat.mul_comm, Nat.mul_add_div hv, Nat.div_eq_of_lt hρ, Nat.add_zero]
 ·have := ha.lt
  rw [hT] at this
  rw [Nat.sub_zero, Nat.div_eq_of_lt this]; omega
 ·intro z hz
  have := List.eq_of_mem_replicate hz
  omega
 ·rw [bv_zeros]; simp
 ·rintro ⟨r, x⟩ ⟨q1, q2, q3⟩
  simp only at q1 q2 q3 ⊢
  obtain ⟨t, t1, t2, t3, t4, t5⟩ := f_trimmed r q2 (by omega)
  rw [t1]
  exact ⟨t, rfl, ⟨t3, t4, by omega, by rw [t2, q1]⟩, by omega⟩
end Go.Proofs.YtcaopooflemnlaaGreat

/- Exact numbers of the program: lowest, whole, over, plus, less, times, by as rational numbers. -/
namespace Go.Proofs.YtcaopooflemnlaaGreat
set_option linter.unusedVariables false
set_option linter.unusedSimpArgs false

theorem q_mul (q : Rat) : q * ((q.den : Int) : Rat) = (q.num : Rat) := by
 have h := Rat.mkRat_self q
 rw [Rat.mkRat_eq_div] at h
 have hd : ((q.den : Nat) : Rat) ≠ 0 := by
  intro e
  have : (q.den : Int) = 0 := by
   apply Rat.intCast_inj.1
   simpa using e
  have := q.den_nz
  omega
 have e : (((q.den : Nat) : Int) : Rat) = ((q.den : Nat) : Rat) := rfl
 rw [e]
 grind
theorem low_of {q : Rat} {v w : Int} (hw : w ≠ 0) (h : q * (w : Rat) = (v : Rat)) : ∃ t : Int, t ≠ 0 ∧ v = q.num * t ∧ w = q.den * t := by
 have h1 := q_mul q
 have h2 : q.num * w = v * q.den := by
  apply Rat.intCast_inj.1
  rw [Rat.intCast_mul, Rat.intCast_mul]
  grind
 have hd : (q.den : Int) ∣ w := by
  have h3 : (q.den : Int) ∣ q.num * w := ⟨v, by rw [h2, Int.mul_comm]⟩
  have h4 : q.den ∣ q.num.natAbs * w.natAbs := by
   have := Int.natAbs_dvd_natAbs.2 h3
   rwa [Int.natAbs_natCast, Int.natAbs_mul] at this
  have h5 : Nat.Coprime q.den q.num.natAbs := Nat.Coprime.symm q.reduced
  have h6 := h5.dvd_of_dvd_mul_left h4
  exact Int.ofNat_dvd_left.2 h6
 obtain ⟨t, rfl⟩ := hd
 have hd0 : (q.den : Int) ≠ 0 := by have := q.den_nz; omega
 refine ⟨t, ?_, ?_, rfl⟩
 ·rintro rfl; simp at hw
 ·have : v * q.den = (q.num * t) * q.den := by rw [← h2]; grind
  exact (Int.mul_eq_mul_right_iff hd0).1 this
theorem low_gcd {q : Rat} {v w : Int} (hw : w ≠ 0) (h : q * (w : Rat) = (v : Rat)) : v.natAbs / Nat.gcd v.natAbs w.natAbs = q.num.natAbs ∧ w.natAbs / Nat.gcd v.natAbs w.natAbs = q.den ∧ (0 < w → (v < 0 ↔ q.num < 0)) ∧ (w < 0 → (0 < v ↔ q.num < 0)) ∧ (v = 0 ↔ q = 0) := by
 obtain ⟨t, t0, rfl, rfl⟩ := low_of hw h
 have hd0 : (0 : Int) < q.den := by have := q.den_nz; omega
 have hg : Nat.gcd (q.num * t).natAbs ((q.den : Int) * t).natAbs = t.natAbs := by
  rw [Int.natAbs_mul, Int.natAbs_mul, Int.natAbs_natCast, Nat.gcd_mul_right, show Nat.gcd q.num.natAbs q.den = 1 from q.reduced, Nat.one_mul]
 have ht : 0 < t.natAbs := by omega
 refine ⟨?_, ?_, ?_, ?_, ?_⟩
 ·rw [hg, Int.natAbs_mul, Nat.mul_div_cancel _ ht]
 ·rw [hg, Int.natAbs_mul, Nat.mul_div_cancel _ ht, Int.natAbs_natCast]
 ·intro hp
  have : 0 < t := Int.pos_of_mul_pos_right hp hd0 |> fun x => x
  constructor
  ·intro hv
   rcases Int.lt_or_le q.num 0 with h0 | h0
   ·exact h0
   ·have := Int.mul_nonneg h0 (Int.le_of_lt this); omega
  ·intro hv
   exact Int.mul_neg_of_neg_of_pos hv this
 ·intro hp
  have htn : t < 0 := by
   rcases Int.lt_or_le t 0 with h0 | h0
   ·exact h0
   ·have := Int.mul_nonneg (Int.le_of_lt hd0) h0; omega
  constructor
  ·intro hv
   rcases Int.lt_or_le q.num 0 with h0 | h0
   ·exact h0
   ·have := Int.mul_nonneg h0 (show 0 ≤ -t by omega)
    rw [Int.mul_neg] at this; omega
  ·intro hv
   exact Int.mul_pos_of_neg_of_neg hv htn
 ·rw [← Rat.num_eq_zero]
  constructor
  ·intro hv
   rcases Int.mul_eq_zero.1 hv with e | e
   ·exact e
   ·exact absurd e t0
  ·intro e; rw [e, Int.zero_mul]
theorem Num.wd {a : Tnumber} {v : Int} (h : Num a v) : Wd a.words v.natAbs := by
 refine ⟨h.dig, h.tight, by have := h.len; omega, ?_⟩
 have h1 := (bv_range (by decide) h.dig).1
 have h2 := h.val
 split at h2 <;> omega
theorem Num.neg_iff {a : Tnumber} {v : Int} (h : Num a v) (hv : v ≠ 0) : a.neg = true ↔ v < 0 := by
 have h1 := (bv_range (by decide) h.dig).1
 have h2 := h.val
 cases hn : a.neg <;> simp [hn] at h2 ⊢ <;> omega
structure Xq (x : Texact) (q : Rat) (c : Nat) : Prop where
 n : Num x.n q.num
 d : Num x.d q.den
 ln : x.n.words.length ≤ c
 ld : x.d.words.length ≤ c
theorem Xq.mono {x : Texact} {q : Rat} {c e : Nat} (h : Xq x q c) (hc : c ≤ e) : Xq x q e := ⟨h.n, h.d, Nat.le_trans h.ln hc, Nat.le_trans h.ld hc⟩
theorem Xq.cast {x : Texact} {q r : Rat} {c : Nat} (h : Xq x q c) (e : q = r) : Xq x r c := e ▸ h
theorem f_whole (n : Int) (h1 : -9223372036854775808 ≤ n) (h2 : n ≤ 9223372036854775807) : ∃ r, F_beam_whole n = some r ∧ Xq r (n : Rat) 2 := by
 obtain ⟨a, a1, a2, a3⟩ := f_integer n h1 h2
 obtain ⟨b, b1, b2, b3⟩ := f_integer 1 (by omega) (by omega)
 unfold F_beam_whole
 rw [a1, b1]
 exact ⟨_, rfl, a2, b2, a3, b3⟩
theorem num_of {neg : Bool} {l : List Int} {u : Nat} {z : Int} (h : Wd l u) (hl : l.length ≤ 8000000) (hz : z.natAbs = u) (hn : z ≠ 0 → (neg = true ↔ z < 0)) : Num ⟨neg, l⟩ z := by
 refine ⟨h.dig, h.tight, hl, ?_⟩
 show z = if neg = true then - bv (4294967296 : Int) l else bv (4294967296 : Int) l
 rw [h.val]
 rcases Decidable.em (z = 0) with e | e
 ·subst e
  have : u = 0 := by omega
  subst this
  simp
 ·have := hn e
  cases neg
  ·simp at this ⊢; omega
  ·simp at this ⊢; omega
theorem f_lowest {n d : Tnumber} {v w : Int} {q : Rat} {c : Nat} (hn : Num n v) (hd : Num d w) (hw : w ≠ 0) (hq : q * (w : Rat) = (v : Rat)) (hln : n.words.length ≤ c) (hld : d.words.length ≤ c) (hc : 2 ≤ c) : ∃ r, F_beam_lowest n d = some r ∧ Xq r q c := by
 unfold F_beam_lowest
 obtain ⟨s, s1, s2, s3⟩ := f_sign hn
 obtain ⟨e1, e2, e3, e4, e5⟩ := low_gcd hw hq
 rw [s1]
 simp only [Option.bind_some]
 rcases Decidable.em (v = 0) with hv | hv
 ·obtain ⟨r, r1, r2⟩ := f_whole 0 (by omega) (by omega)
  rw [s2.2 hv, r1]
  refine ⟨r, rfl, ?_⟩
  have := e5.1 hv
  subst this
  exact r2.mono hc
 ·have hs0 : (s == 0) = false := by
   rw [beq_eq_false_iff_ne]; exact fun e => hv (s2.1 e)
  rw [hs0, cond_false]
  obtain ⟨n', d', p, pn, pd, nn⟩ : ∃ n' d' : Tnumber, ((bif d.neg then (F_beam_number__opposite n).bind fun r9 => (F_beam_number__opposite d).bind fun r10 => some (r9, r10, ()) else some (n, d, ())) : Option (Tnumber × Tnumber × Unit)) = some (n', d', ()) ∧ n'.words = n.words ∧ d'.words = d.words ∧ (n'.neg = true ↔ q.num < 0) := by
   have hdn := hd.neg_iff hw
   have hnn := hn.neg_iff hv
   cases hdg : d.neg with
   | false =>
    refine ⟨n, d, rfl, rfl, rfl, ?_⟩
    rw [hdg] at hdn
    rw [hnn]
    exact e3 (by simp at hdn; omega)
   | true =>
    rw [hdg] at hdn
    obtain ⟨x, x1, x2, x3⟩ := f_opposite hn
    obtain ⟨y, y1, y2, y3⟩ := f_opposite hd
    rw [x1, y1]
    refine ⟨x, y, rfl, x3, y3, ?_⟩
    rw [x2.neg_iff (by omega), ← e4 (hdn.1 rfl)]
    omega
  have hw2 := hd.wd
  have hn2 := hn.wd
  rw [p]
  simp only [Option.bind_some]
  rw [pn, pd]
  obtain ⟨g, g1, g2⟩ := f_common hn2 hw2 (by omega) (by omega) hn.len hd.len
  have hgp : 0 < Nat.gcd v.natAbs w.natAbs := Nat.gcd_pos_of_pos_left _ (by omega)
  have hgl : g.length ≤ 8000000 := Nat.le_trans (g2.le hn2 (Nat.gcd_le_left _ (by omega))) hn.len
  obtain ⟨x, x1, x2, x3⟩ := f_divided hn2 g2 hgp hn.len hgl
  obtain ⟨y, y1, y2, y3⟩ := f_divided hw2 g2 hgp hd.len hgl
  rw [g1]
  simp only [Option.bind_some]
  rw [x1, y1]
  refine ⟨_, rfl, ?_, ?_, ?_, ?_⟩
  ·rw [e1] at x2
   exact num_of x2 (Nat.le_trans x3 hn.len) rfl fun _ => nn
  ·rw [e2] at y2
   refine num_of y2 (Nat.le_trans y3 hd.len) (by omega) fun _ => ?_
   simp
  ·exact Nat.le_trans x3 hln
  ·exact Nat.le_trans y3 hld
theorem f_eplus {x y : Texact} {q r : Rat} {c e : Nat} (hx : Xq x q c) (hy : Xq y r e) (hc : 2 ≤ c + e) (hm : c + e + 1 ≤ 8000000) : ∃ z, F_beam_exact__plus x y = some z ∧ Xq z (q + r) (c + e + 1) := by
 unfold F_beam_exact__plus
 have l1 := hx.ln
 have l2 := hx.ld
 have l3 := hy.ln
 have l4 := hy.ld
 obtain ⟨a, a1, a2, a3⟩ := f_times hx.n hy.d (by omega)
 obtain ⟨b, b1, b2, b3⟩ := f_times hy.n hx.d (by omega)
 obtain ⟨s, s1, s2, s3⟩ := f_nplus a2 b2 (by omega)
 obtain ⟨d, d1, d2, d3⟩ := f_times hx.d hy.d (by omega)
 have hw : (q.den : Int) * (r.den : Int) ≠ 0 := by
  have h1 := q.den_nz
  have h2 := r.den_nz
  intro e
  rcases Int.mul_eq_zero.1 e with e | e <;> omega
 obtain ⟨z, z1, z2⟩ := f_lowest (q := q + r) (c := c + e + 1) s2 d2 hw (by
  have h1 := q_mul q
  have h2 := q_mul r
  simp only [Rat.intCast_mul, Rat.intCast_add]
  grind) (by omega) (by omega) (by omega)
 rw [a1, b1]
 simp only [Option.bind_some]
 rw [s1, d1]
 simp only [Option.bind_some]
 rw [z1]
 exact ⟨z, rfl, z2⟩
theorem f_eless {x y : Texact} {q r : Rat} {c e : Nat} (hx : Xq x q c) (hy : Xq y r e) (hc : 2 ≤ c + e) (hm : c + e + 1 ≤ 8000000) : ∃ z, F_beam_exact__less x y = some z ∧ Xq z (q - r) (c + e + 1) := by
 unfold F_beam_exact__less
 obtain ⟨a, a1, a2, a3⟩ := f_opposite hy.n
 rw [a1]
 simp only [Option.bind_some]
 obtain ⟨z, z1, z2⟩ := f_eplus (y := ⟨a, y.d⟩) (r := -r) hx ⟨a2, hy.d, by rw [a3]; exact hy.ln, hy.ld⟩ hc hm
 rw [z1]
 exact ⟨z, rfl, z2.cast (by rw [Rat.sub_eq_add_neg])⟩
theorem f_etimes {x y : Texact} {q r : Rat} {c e : Nat} (hx : Xq x q c) (hy : Xq y r e) (hc : 2 ≤ c + e) (hm : c + e ≤ 8000000) : ∃ z, F_beam_exact__times x y = some z ∧ Xq z (q * r) (c + e) := by
 unfold F_beam_exact__times
 have l1 := hx.ln
 have l2 := hx.ld
 have l3 := hy.ln
 have l4 := hy.ld
 obtain ⟨a, a1, a2, a3⟩ := f_times hx.n hy.n (by omega)
 obtain ⟨d, d1, d2, d3⟩ := f_times hx.d hy.d (by omega)
 have hw : (q.den : Int) * (r.den : Int) ≠ 0 := by
  have h1 := q.den_nz
  have h2 := r.den_nz
  intro e
  rcases Int.mul_eq_zero.1 e with e | e <;> omega
 obtain ⟨z, z1, z2⟩ := f_lowest (q := q * r) (c := c + e) a2 d2 hw (by
  have h1 := q_mul q
  have h2 := q_mul r
  simp only [Rat.intCast_mul]
  grind) (by omega) (by omega) (by omega)
 rw [a1, d1]
 simp only [Option.bind_some]
 rw [z1]
 exact ⟨z, rfl, z2⟩
theorem f_eby {x y : Texact} {q r : Rat} {c e : Nat} (hx : Xq x q c) (hy : Xq y r e) (hr : r ≠ 0) (hc : 2 ≤ c + e) (hm : c + e ≤ 8000000) : ∃ z, F_beam_exact__by x y = some z ∧ Xq z (q / r) (c + e) := by
 unfold F_beam_exact__by
 have l1 := hx.ln
 have l2 := hx.ld
 have l3 := hy.ln
 have l4 := hy.ld
 obtain ⟨a, a1, a2, a3⟩ := f_times hx.n hy.d (by omega)
 obtain ⟨d, d1, d2, d3⟩ := f_times hx.d hy.n (by omega)
 have hw : (q.den : Int) * r.num ≠ 0 := by
  have h1 := q.den_nz
  intro e
  rcases Int.mul_eq_zero.1 e with e | e
  ·omega
  ·exact hr (Rat.num_eq_zero.1 e)
 obtain ⟨z, z1, z2⟩ := f_lowest (q := q / r) (c := c + e) a2 d2 hw (by
  have h1 := q_mul q
  have h2 := q_mul r
  simp only [Rat.intCast_mul]
  grind) (by omega) (by omega) (by omega)
 rw [a1, d1]
 simp only [Option.bind_some]
 rw [z1]
 exact ⟨z, rfl, z2⟩
theorem int_ne {n : Int} (h : n ≠ 0) : (n : Rat) ≠ 0 := by
 intro e
 exact h (Rat.intCast_inj.1 (show (n : Rat) = ((0 : Int) : Rat) from e))
def prodZ : List Int → Int
 | [] => 1
 | x :: l => x * prodZ l
theorem prodZ_append : ∀ (a b : List Int), prodZ (a ++ b) = prodZ a * prodZ b
 | [], b => by simp [prodZ]
 | x :: a, b => by simp only [List.cons_append, prodZ, prodZ_append a b, Int.mul_assoc]
theorem f_eproduct (d : Int) (l : List Int) (h3 : -9223372036854775808 ≤ d) (h4 : d ≤ 9223372036854775807) (hd : d ≠ 0) (hl : ∀ x ∈ l, -9223372036854775808 ≤ x ∧ x ≤ 9223372036854775807) (hll : l.length ≤ 1000) :
  ∃ r, F_beam_product d l = some r ∧ Xq r ((prodZ l : Rat) / (d : Rat)) (2 * l.length + 2) := by
 unfold F_beam_product
 obtain ⟨o, o1, o2, o3⟩ := f_integer 1 (by omega) (by omega)
 rw [o1]
 simp only [Option.bind_some]
 refine iter_bind (Q := fun r : Tnumber × Unit => Num r.1 (prodZ l) ∧ r.1.words.length ≤ 2 * l.length + 2) (fun k s => ∃ t, s = ((k : Int), t, ()) ∧ k ≤ l.length ∧ Num t (prodZ (l.take k)) ∧ t.words.length ≤ 2 * k + 2) l.length (by unfold big; omega) ?_ ⟨o, rfl, Nat.zero_le _, o2, by omega⟩ ?_
 ·rintro k s hk ⟨t, rfl, _, ht, htl⟩
  rcases Nat.lt_or_ge k l.length with hlt | hge
  ·have hx := hl l[k] (List.getElem_mem _)
   obtain ⟨a, a1, a2, a3⟩ := f_integer l[k] hx.1 hx.2
   obtain ⟨p, p1, p2, p3⟩ := f_times ht a2 (by omega)
   have e0 : decide ((k : Int) < ((l.length : Nat) : Int)) = true := by simp; omega
   refine .inl ⟨_, ?_, hlt, p, rfl, hlt, ?_, by omega⟩
   ·simp only [e0, cond_true]
    rw [idx_nat hlt]
    simp only [Option.bind_some]
    rw [a1]
    simp only [Option.bind_some]
    rw [p1, wrap64 (by omega) (by omega)]
    rfl
   ·rw [List.take_succ_eq_append_getElem hlt, prodZ_append]
    simpa [prodZ] using p2
  ·have hk' : k = l.length := by omega
   subst hk'
   have e0 : decide (((l.length : Nat) : Int) < ((l.length : Nat) : Int)) = false := by simp
   rw [List.take_length] at ht
   exact .inr ⟨(t, ()), by simp only [e0, cond_false], ht, htl⟩
 ·rintro ⟨t, u⟩ ⟨t1, t2⟩
  simp only at t1 t2 ⊢
  obtain ⟨b, b1, b2, b3⟩ := f_integer d h3 h4
  obtain ⟨z, z1, z2⟩ := f_lowest (q := (prodZ l : Rat) / (d : Rat)) (c := 2 * l.length + 2) t1 b2 hd (by have := int_ne hd; grind) t2 (by omega) (by omega)
  rw [b1]
  simp only [Option.bind_some]
  rw [z1]
  exact ⟨z, rfl, z2⟩
end Go.Proofs.YtcaopooflemnlaaGreat

/- Exact numbers of the program: fraction, fractions. -/
namespace Go.Proofs.YtcaopooflemnlaaGreat
set_option linter.unusedVariables false
set_option linter.unusedSimpArgs false

theorem or64 (m h : Nat) (hm : m < 4294967296) (hh : h < 4294967296) : bitsOf .or .u64 (m : Int) ((h * 4294967296 : Nat) : Int) = ((m + h * 4294967296 : Nat) : Int) := by
 unfold bitsOf
 rw [wrap_u]
 have e0 : ((2 ^ 64 : Nat) : Int) = 18446744073709551616 := by decide
 have h1 : (BitVec.ofInt IntKind.u64.bits (m : Int) ||| BitVec.ofInt IntKind.u64.bits ((h * 4294967296 : Nat) : Int)).toNat = m ||| h * 4294967296 := by
  show (BitVec.ofInt 64 (m : Int) ||| BitVec.ofInt 64 ((h * 4294967296 : Nat) : Int)).toNat = _
  rw [BitVec.toNat_or, BitVec.toNat_ofInt, BitVec.toNat_ofInt]
  have e1 : ((m : Int) % ((2 ^ 64 : Nat) : Int)).toNat = m := by
   rw [e0, Int.emod_eq_of_lt (by omega) (by omega)]; exact Int.toNat_natCast _
  have e2 : (((h * 4294967296 : Nat) : Int) % ((2 ^ 64 : Nat) : Int)).toNat = h * 4294967296 := by
   rw [e0, Int.emod_eq_of_lt (by omega) (by omega)]; exact Int.toNat_natCast _
  rw [e1, e2]
 have h2 : m ||| h * 4294967296 = m + h * 4294967296 := by
  have := Nat.two_pow_add_eq_or_of_lt (i := 32) (b := m) (by omega) h
  rw [Nat.or_comm, Nat.mul_comm h, Nat.add_comm m]
  exact this.symm
 show ((BitVec.ofInt IntKind.u64.bits (m : Int) ||| BitVec.ofInt IntKind.u64.bits ((h * 4294967296 : Nat) : Int)).toNat : Int) % 18446744073709551616 = _
 rw [h1, h2]
 omega
theorem or_word {l : List Int} {k : Nat} (hd : dig (4294967296 : Int) l) (hk : k < 2) : bitsOf .or .u64 (bv (4294967296 : Int) (l.take k)) (IntKind.u64.wrap ((IntKind.u64.wrap (dg l k)) * 2 ^ min (Int.toNat (IntKind.i64.wrap (32 * (k : Int)))) IntKind.u64.bits)) = bv (4294967296 : Int) (l.take (k + 1)) := by
 have hr := dg_range (by decide) hd k
 have h0 := dg_range (by decide) hd 0
 rw [bv_take_succ]
 obtain ⟨x, hx⟩ : ∃ x, dg l k = x := ⟨_, rfl⟩
 rw [hx] at hr ⊢
 have w1 : IntKind.u64.wrap x = x := by rw [wrap_u]; omega
 rw [w1]
 obtain ⟨n, rfl⟩ := Int.eq_ofNat_of_zero_le hr.1
 rcases Nat.lt_or_ge k 1 with h | h
 ·have : k = 0 := by omega
  subst this
  have e1 : (2 : Int) ^ min (Int.toNat (IntKind.i64.wrap (32 * ((0 : Nat) : Int)))) IntKind.u64.bits = 1 := by decide
  rw [e1, Int.mul_one, w1]
  have := or64 n 0 (by omega) (by omega)
  simp only [List.take_zero, bv, Int.pow_zero, Int.one_mul, Int.zero_add]
  simp only [Nat.zero_mul, Nat.add_zero] at this
  refine Eq.trans ?_ this
  show IntKind.u64.wrap (((BitVec.ofInt IntKind.u64.bits 0) ||| (BitVec.ofInt IntKind.u64.bits (n : Int))).toNat : Int) = IntKind.u64.wrap (((BitVec.ofInt IntKind.u64.bits (n : Int)) ||| (BitVec.ofInt IntKind.u64.bits ((0 : Nat) : Int))).toNat : Int)
  rw [BitVec.or_comm]
  rfl
 ·have : k = 1 := by omega
  subst this
  have e1 : (2 : Int) ^ min (Int.toNat (IntKind.i64.wrap (32 * ((1 : Nat) : Int)))) IntKind.u64.bits = 4294967296 := by decide
  have e2 : bv (4294967296 : Int) (l.take 1) = dg l 0 := by rw [show (1 : Nat) = 0 + 1 from rfl, bv_take_succ]; simp [bv]
  rw [e1, e2]
  obtain ⟨m, hm⟩ := Int.eq_ofNat_of_zero_le h0.1
  rw [hm] at h0 ⊢
  have e3 : IntKind.u64.wrap ((n : Int) * 4294967296) = ((n * 4294967296 : Nat) : Int) := by rw [wrap_u]; omega
  rw [e3, or64 m n (by omega) (by omega)]
  simp only [Int.pow_one]
  omega
theorem big_words {l : List Int} {u : Nat} (h : Wd l u) (hl : 2 < l.length) : 18446744073709551616 ≤ u := by
 have h1 := bv_lt_len (B := (4294967296 : Int)) (a := [4294967295, 4294967295]) (by decide) (by intro x hx; simp at hx; subst hx; omega) h.dig h.tight (by simp; omega)
 rw [h.val] at h1
 simp [bv] at h1
 omega
set_option maxHeartbeats 1000000 in
theorem f_fraction {x : Texact} {q : Rat} {c : Nat} (h : Xq x q c) : F_beam_exact__fraction x = some (outQ q) := by
 suffices hs : ∃ r, F_beam_exact__fraction x = some r ∧ r = outQ q by
  obtain ⟨r, h1, rfl⟩ := hs
  exact h1
 have hn := h.n.wd
 have hd := h.d.wd
 have hnn := h.n.neg_iff
 obtain ⟨⟨neg, wn⟩, ⟨dneg, wd⟩⟩ := x
 simp only at hn hd hnn
 unfold F_beam_exact__fraction
 dsimp only
 rcases Nat.lt_or_ge 2 wn.length with hl | hl
 ·have := big_words hn hl
  rw [decide_eq_true (by omega)]
  refine ⟨_, rfl, ?_⟩
  rw [fr_big]
  unfold fitQ; omega
 ·rw [decide_eq_false (by omega), cond_false]
  refine iter_bind (Q := fun r : TAr199 × Unit => r.1 = ⟨(q.num.natAbs : Int), 0⟩) (fun k s => k ≤ wn.length ∧ s = ((k : Int), ⟨bv (4294967296 : Int) (wn.take k), 0⟩, ())) wn.length (by unfold big; omega) ?_ ⟨Nat.zero_le _, by simp [bv]⟩ ?_
  ·rintro k s hk ⟨_, rfl⟩
   rcases Nat.lt_or_ge k wn.length with hlt | hge
   ·have e0 : decide ((k : Int) < ((wn.length : Nat) : Int)) = true := decide_eq_true (by omega)
    have e1 : ¬ (IntKind.i64.wrap (32 * (k : Int)) < 0) := by rw [wrap64 (by omega) (by omega)]; omega
    refine .inl ⟨_, ?_, hlt, hlt, rfl⟩
    simp only [e0, cond_true]
    rw [idx_nat hlt, ← dg_get hlt]
    simp only [Option.bind_some]
    rw [if_neg e1, or_word hn.dig (by omega), wrap64 (n := (k : Int) + 1) (by omega) (by omega)]
    rfl
   ·have hk' : k = wn.length := by omega
    subst hk'
    have e0 : decide (((wn.length : Nat) : Int) < ((wn.length : Nat) : Int)) = false := by simp
    refine .inr ⟨(⟨bv (4294967296 : Int) wn, 0⟩, ()), by simp only [e0, cond_false, List.take_length], ?_⟩
    rw [hn.val]
  ·rintro ⟨y, u⟩ hy
   simp only at hy ⊢
   subst hy
   dsimp only
   by_cases f1 : (q.num.natAbs : Int) > 1152921504606846976
   ·rw [decide_eq_true f1]
    refine ⟨_, rfl, ?_⟩
    rw [fr_big]
    unfold fitQ; omega
   ·rw [decide_eq_false f1, cond_false]
    rcases Nat.lt_or_ge 2 wd.length with hl2 | hl2
    ·have := big_words hd hl2
     rw [decide_eq_true (by omega)]
     refine ⟨_, rfl, ?_⟩
     rw [fr_big]
     unfold fitQ; omega
    ·rw [decide_eq_false (by omega), cond_false]
     refine iter_bind (Q := fun r : TAr199 × Unit => r.1 = ⟨(q.num.natAbs : Int), (q.den : Int)⟩) (fun k s => k ≤ wd.length ∧ s = ((k : Int), ⟨(q.num.natAbs : Int), bv (4294967296 : Int) (wd.take k)⟩, ())) wd.length (by unfold big; omega) ?_ ⟨Nat.zero_le _, by simp [bv]⟩ ?_
     ·rintro k s hk ⟨_, rfl⟩
      rcases Nat.lt_or_ge k wd.length with hlt | hge
      ·have e0 : decide ((k : Int) < ((wd.length : Nat) : Int)) = true := decide_eq_true (by omega)
       have e1 : ¬ (IntKind.i64.wrap (32 * (k : Int)) < 0) := by rw [wrap64 (by omega) (by omega)]; omega
       refine .inl ⟨_, ?_, hlt, hlt, rfl⟩
       simp only [e0, cond_true]
       rw [idx_nat hlt, ← dg_get hlt]
       simp only [Option.bind_some]
       rw [if_neg e1, or_word hd.dig (by omega), wrap64 (n := (k : Int) + 1) (by omega) (by omega)]
       rfl
      ·have hk' : k = wd.length := by omega
       subst hk'
       have e0 : decide (((wd.length : Nat) : Int) < ((wd.length : Nat) : Int)) = false := by simp
       refine .inr ⟨(⟨(q.num.natAbs : Int), bv (4294967296 : Int) wd⟩, ()), by simp only [e0, cond_false, List.take_length], ?_⟩
       rw [hd.val]; rfl
     ·rintro ⟨y, u⟩ hy
      simp only at hy ⊢
      subst hy
      dsimp only
      by_cases f2 : (q.den : Int) > 1152921504606846976
      ·rw [decide_eq_true f2]
       refine ⟨_, rfl, ?_⟩
       rw [fr_big]
       unfold fitQ; omega
      ·rw [decide_eq_false f2, cond_false, fr_fit (by unfold fitQ; omega)]
       rw [wrap64 (n := (q.num.natAbs : Int)) (by omega) (by omega), wrap64 (n := (q.den : Int)) (by omega) (by omega), wrap64 (n := 0 - (q.num.natAbs : Int)) (by omega) (by omega)]
       unfold frQ
       cases neg with
       | true =>
        refine ⟨_, rfl, ?_⟩
        rcases Decidable.em (q.num = 0) with h0 | h0
        ·rw [h0]; rfl
        ·have := (hnn h0).1 rfl
         dsimp only
         rw [show (0 : Int) - (q.num.natAbs : Int) = q.num from by omega]
       | false =>
        refine ⟨_, rfl, ?_⟩
        have : ¬ q.num < 0 := fun hneg => by
         have := (hnn (by omega)).2 hneg
         cases this
        dsimp only
        rw [show ((q.num.natAbs : Nat) : Int) = q.num from by omega]
theorem f_fractions {l : List Texact} {qs : List Rat} {c : Nat} (hl : l.length ≤ 1000000) (hq : l.length = qs.length) (hR : ∀ (i : Nat) (h : i < l.length) (h2 : i < qs.length), Xq l[i] qs[i] c) : F_beam_fractions l = some (outL qs) := by
 unfold F_beam_fractions
 exact iter_told (T := F_beam_exact__fraction) (R := fun a q => Xq a q c) (fun a q h => f_fraction h) hl hq hR
end Go.Proofs.YtcaopooflemnlaaGreat

/- The program's beams as rational numbers: overhang, side, lever, beyond. -/
namespace Go.Proofs.YtcaopooflemnlaaGreat
set_option linter.unusedVariables false
set_option linter.unusedSimpArgs false

theorem loop_sum {α τ γ : Type} {F : Int × τ × Unit → Option ((Int × τ × Unit) ⊕ (τ × Unit))} {K : τ × Unit → Option γ} {P : γ → Prop} {w : List α} (R : τ → Rat → Nat → Prop) (f : α → Rat) (e : Nat) (hw : w.length ≤ 1000000) {t0 : τ} {q0 : Rat} {c0 : Nat} (h0 : R t0 q0 c0)
  (hin : ∀ (k : Nat) (h : k < w.length) (t : τ) (q : Rat), R t q (c0 + e * k) → ∃ t', F ((k : Int), t, ()) = some (.inl (((k + 1 : Nat) : Int), t', ())) ∧ R t' (q + f w[k]) (c0 + e * k + e))
  (hout : ∀ t, F ((w.length : Int), t, ()) = some (.inr (t, ())))
  (hK : ∀ t, R t (q0 + sumQ f w) (c0 + e * w.length) → ∃ y, K (t, ()) = some y ∧ P y) : ∃ y, (iterF F big (0, t0, ())).bind K = some y ∧ P y := by
 refine iter_bind (Q := fun s : τ × Unit => R s.1 (q0 + sumQ f w) (c0 + e * w.length)) (fun k s => k ≤ w.length ∧ ∃ t, s = ((k : Int), t, ()) ∧ R t (q0 + sumQ f (w.take k)) (c0 + e * k)) w.length (by unfold big; omega) ?_ ⟨Nat.zero_le _, t0, rfl, ?_⟩ ?_
 ·rintro k s hk ⟨_, t, rfl, ht⟩
  rcases Nat.lt_or_ge k w.length with hlt | hge
  ·obtain ⟨t', h1, h2⟩ := hin k hlt t _ ht
   refine .inl ⟨_, h1, hlt, hlt, t', rfl, ?_⟩
   have e1 : q0 + sumQ f (w.take (k + 1)) = q0 + sumQ f (w.take k) + f w[k] := by rw [sumQ_take f hlt]; grind
   rw [e1, Nat.mul_succ, ← Nat.add_assoc]
   exact h2
  ·have hk' : k = w.length := by omega
   subst hk'
   rw [List.take_length] at ht
   exact .inr ⟨(t, ()), hout t, ht⟩
 ·simp only [List.take_zero, sumQ, Nat.mul_zero, Nat.add_zero]
  have : q0 + 0 = q0 := by grind
  rw [this]; exact h0
 ·rintro ⟨t, u⟩ h
  exact hK t h
def lds (w : List TLoad) : List Ld := w.map fun x => (x.at_, x.weight)
def LoadOk (L : Int) (x : TLoad) : Prop := 0 ≤ x.at_ ∧ x.at_ ≤ L ∧ 0 ≤ x.weight ∧ x.weight ≤ 67108864
structure BeamIn (b : TBeam) : Prop where
 l0 : 1 ≤ b.length
 l1 : b.length ≤ 1048576
 e0 : 0 ≤ b.even
 e1 : b.even ≤ 1048576
 ld : ∀ x ∈ b.loads, LoadOk b.length x
 ln : b.loads.length ≤ 40
theorem Xq.skip {x : Texact} {q : Rat} {c e : Nat} (h : Xq x q c) : Xq x (q + 0) (c + e) := (h.mono (Nat.le_add_right _ _)).cast (by grind)
theorem prod2 (a b : Int) : (prodZ [a, b] : Rat) = (a : Rat) * b := by simp only [prodZ, Int.mul_one]; rw [Rat.intCast_mul]
theorem prod3 (a b c : Int) : (prodZ [a, b, c] : Rat) = (a : Rat) * b * c := by simp only [prodZ, Int.mul_one]; rw [Rat.intCast_mul, Rat.intCast_mul, Rat.mul_assoc]
theorem prod4 (a b c d : Int) : (prodZ [a, b, c, d] : Rat) = (a : Rat) * b * c * d := by simp only [prodZ, Int.mul_one]; rw [Rat.intCast_mul, Rat.intCast_mul, Rat.intCast_mul]; grind
theorem div_one' (q : Rat) : q / ((1 : Int) : Rat) = q := by
 have : ((1 : Int) : Rat) = 1 := rfl
 rw [this]; grind
theorem f_over2 {b : TBeam} (hb : BeamIn b) {a : Int} (ha : b.supports.head? = some a) (h0 : 0 ≤ a) (h1 : a ≤ b.length) : ∃ r, F_beam_overhang b = some r ∧ Xq r (0 - overQ b.even (lds b.loads) a) 300 := by
 unfold F_beam_overhang
 have hl := hb.l1
 have he0 := hb.e0
 have he1 := hb.e1
 have hln := hb.ln
 have hx : idx b.supports 0 = some a := by
  cases hs : b.supports with
  | nil => rw [hs] at ha; simp at ha
  | cons x t => rw [hs] at ha; simp at ha; subst ha; rfl
 obtain ⟨p, p1, p2⟩ := f_eproduct 2000 [b.even, a, a] (by omega) (by omega) (by omega) (by intro x hx; simp at hx; omega) (by simp)
 rw [hx]
 simp only [Option.bind_some]
 rw [p1]
 simp only [Option.bind_some]
 refine loop_sum (w := b.loads) (fun t q c => Xq t q c) (fun x => if x.at_ < a then (x.weight : Rat) * (a - x.at_) else 0) 7 (by omega) p2 ?_ ?_ ?_
 ·intro k h t q ht
  have hx := hb.ld _ (List.getElem_mem h)
  obtain ⟨x0, x1, x2, x3⟩ := hx
  have e0 : decide ((k : Int) < ((b.loads.length : Nat) : Int)) = true := decide_eq_true (by omega)
  simp only [e0, cond_true]
  rw [idx_nat h]
  simp only [Option.bind_some]
  generalize b.loads[k] = x at *
  by_cases hc : x.at_ < a
  ·rw [decide_eq_true hc, if_pos hc, cond_true, wrap64 (n := a - x.at_) (by omega) (by omega)]
   obtain ⟨z, z1, z2⟩ := f_eproduct 1 [x.weight, a - x.at_] (by omega) (by omega) (by omega) (by intro y hy; simp at hy; omega) (by simp)
   obtain ⟨s, s1, s2⟩ := f_eplus ht z2 (by omega) (by simp only [List.length_cons, List.length_nil]; omega)
   rw [z1]
   simp only [Option.bind_some]
   rw [s1]
   simp only [Option.bind_some]
   rw [wrap64 (n := (k : Int) + 1) (by omega) (by omega)]
   refine ⟨s, rfl, (s2.mono (by simp only [List.length_cons, List.length_nil]; omega)).cast ?_⟩
   rw [div_one', prod2, Rat.intCast_sub]
  ·rw [decide_eq_false hc, if_neg hc, cond_false]
   simp only [Option.bind_some]
   rw [wrap64 (n := (k : Int) + 1) (by omega) (by omega)]
   exact ⟨t, rfl, ht.skip⟩
 ·intro t
  have e0 : decide (((b.loads.length : Nat) : Int) < ((b.loads.length : Nat) : Int)) = false := by simp
  simp only [e0, cond_false]
 ·intro t ht
  obtain ⟨z, z1, z2⟩ := f_whole 0 (by omega) (by omega)
  obtain ⟨s, s1, s2⟩ := f_eless z2 ht (by omega) (by simp only [List.length_cons, List.length_nil]; omega)
  simp only
  rw [z1]
  simp only [Option.bind_some]
  rw [s1]
  refine ⟨s, rfl, (s2.mono (by simp only [List.length_cons, List.length_nil]; omega)).cast ?_⟩
  unfold overQ lds
  rw [sumQ_map, prod3]
  rfl
theorem f_side {b : TBeam} (hb : BeamIn b) {fr to : Int} (left : Bool) (h0 : 0 ≤ fr) (h1 : fr < to) (h2 : to ≤ b.length) : ∃ r, F_beam_side b fr to left = some r ∧ Xq r (sideQ b.even (lds b.loads) fr to left) 400 := by
 unfold F_beam_side
 have hl := hb.l1
 have he0 := hb.e0
 have he1 := hb.e1
 have hln := hb.ln
 have hll : IntKind.i64.wrap (to - fr) = to - fr := wrap64 (by omega) (by omega)
 obtain ⟨p, p1, p2⟩ := f_eproduct 4000 [b.even, to - fr, to - fr, to - fr] (by omega) (by omega) (by omega) (by intro x hx; simp at hx; omega) (by simp)
 rw [hll, p1]
 simp only [Option.bind_some]
 refine loop_sum (w := b.loads) (fun t q c => Xq t q c) (fun x => if x.at_ ≤ fr ∨ to ≤ x.at_ then 0 else
  (x.weight : Rat) * ((if left then x.at_ - fr else to - x.at_ : Int) : Rat) * (((to - fr) * (to - fr) - (if left then x.at_ - fr else to - x.at_) * (if left then x.at_ - fr else to - x.at_) : Int) : Rat) / ((to - fr : Int) : Rat)) 9 (by omega) p2 ?_ ?_ ?_
 ·intro k h t q ht
  have hx := hb.ld _ (List.getElem_mem h)
  obtain ⟨x0, x1, x2, x3⟩ := hx
  have e0 : decide ((k : Int) < ((b.loads.length : Nat) : Int)) = true := decide_eq_true (by omega)
  simp only [e0, cond_true]
  rw [idx_nat h]
  simp only [Option.bind_some]
  generalize b.loads[k] = x at *
  by_cases hc : x.at_ ≤ fr ∨ to ≤ x.at_
  ·have ht1 : (((bif (decide (x.at_ ≤ fr)) then some (true, ()) else some ((decide (x.at_ ≥ to)), ())) : Option (Bool × Unit))) = some (true, ()) := by
    rcases Int.lt_or_le fr x.at_ with h3 | h3
    ·rw [decide_eq_false (by omega), cond_false, decide_eq_true (by omega)]
    ·rw [decide_eq_true h3]; rfl
   rw [ht1, if_pos hc]
   simp only [Option.bind_some, cond_true]
   rw [wrap64 (n := (k : Int) + 1) (by omega) (by omega)]
   exact ⟨t, rfl, ht.skip⟩
  ·have ht1 : (((bif (decide (x.at_ ≤ fr)) then some (true, ()) else some ((decide (x.at_ ≥ to)), ())) : Option (Bool × Unit))) = some (false, ()) := by
    rw [decide_eq_false (by omega), cond_false, decide_eq_false (by omega)]
   rw [ht1, if_neg hc]
   simp only [Option.bind_some, cond_false]
   obtain ⟨a, ha⟩ : ∃ a, (if left then x.at_ - fr else to - x.at_ : Int) = a := ⟨_, rfl⟩
   have hab : 0 < a ∧ a < to - fr := by rw [← ha]; split <;> omega
   have hy : (((bif (!left) then some ((IntKind.i64.wrap (to - x.at_)), ()) else some ((IntKind.i64.wrap (x.at_ - fr)), ())) : Option (Int × Unit))) = some (a, ()) := by
    rw [← ha, wrap64 (n := to - x.at_) (by omega) (by omega), wrap64 (n := x.at_ - fr) (by omega) (by omega)]
    cases left <;> rfl
   rw [hy, ha]
   simp only [Option.bind_some]
   have hsq1 : (to - fr) * (to - fr) ≤ 1048576 * 1048576 := Int.mul_le_mul (by omega) (by omega) (by omega) (by omega)
   have hsq2 : a * a ≤ (to - fr) * (to - fr) := Int.mul_le_mul (by omega) (by omega) (by omega) (by omega)
   have hsq0 : 0 ≤ a * a := Int.mul_nonneg (by omega) (by omega)
   rw [wrap64 (n := (to - fr) * (to - fr)) (by omega) (by omega), wrap64 (n := a * a) (by omega) (by omega), wrap64 (n := (to - fr) * (to - fr) - a * a) (by omega) (by omega)]
   obtain ⟨z, z1, z2⟩ := f_eproduct (to - fr) [x.weight, a, (to - fr) * (to - fr) - a * a] (by omega) (by omega) (by omega) (by intro y hy; simp at hy; omega) (by simp)
   obtain ⟨s, s1, s2⟩ := f_eplus ht z2 (by omega) (by simp only [List.length_cons, List.length_nil]; omega)
   rw [z1]
   simp only [Option.bind_some]
   rw [s1]
   simp only [Option.bind_some]
   rw [wrap64 (n := (k : Int) + 1) (by omega) (by omega)]
   refine ⟨s, rfl, (s2.mono (by simp only [List.length_cons, List.length_nil]; omega)).cast ?_⟩
   rw [prod3]
 ·intro t
  have e0 : decide (((b.loads.length : Nat) : Int) < ((b.loads.length : Nat) : Int)) = false := by simp
  simp only [e0, cond_false]
 ·intro t ht
  refine ⟨t, rfl, (ht.mono (by simp only [List.length_cons, List.length_nil]; omega)).cast ?_⟩
  unfold sideQ lds
  rw [sumQ_map, prod4]
  rfl
theorem f_lever {b : TBeam} (hb : BeamIn b) {fr to : Int} (left : Bool) (h0 : 0 ≤ fr) (h1 : fr < to) (h2 : to ≤ b.length) : ∃ r, F_beam_lever b fr to left = some r ∧ Xq r (leverQ b.even (lds b.loads) fr to left) 300 := by
 unfold F_beam_lever
 have hl := hb.l1
 have he0 := hb.e0
 have he1 := hb.e1
 have hln := hb.ln
 have hll : IntKind.i64.wrap (to - fr) = to - fr := wrap64 (by omega) (by omega)
 obtain ⟨p, p1, p2⟩ := f_eproduct 2000 [b.even, to - fr] (by omega) (by omega) (by omega) (by intro x hx; simp at hx; omega) (by simp)
 rw [hll, p1]
 simp only [Option.bind_some]
 refine loop_sum (w := b.loads) (fun t q c => Xq t q c) (fun x => if x.at_ ≤ fr ∨ to ≤ x.at_ then 0 else (x.weight : Rat) * ((if left then to - x.at_ else x.at_ - fr : Int) : Rat) / ((to - fr : Int) : Rat)) 7 (by omega) p2 ?_ ?_ ?_
 ·intro k h t q ht
  have hx := hb.ld _ (List.getElem_mem h)
  obtain ⟨x0, x1, x2, x3⟩ := hx
  have e0 : decide ((k : Int) < ((b.loads.length : Nat) : Int)) = true := decide_eq_true (by omega)
  simp only [e0, cond_true]
  rw [idx_nat h]
  simp only [Option.bind_some]
  generalize b.loads[k] = x at *
  by_cases hc : x.at_ ≤ fr ∨ to ≤ x.at_
  ·have ht1 : (((bif (decide (x.at_ ≤ fr)) then some (true, ()) else some ((decide (x.at_ ≥ to)), ())) : Option (Bool × Unit))) = some (true, ()) := by
    rcases Int.lt_or_le fr x.at_ with h3 | h3
    ·rw [decide_eq_false (by omega), cond_false, decide_eq_true (by omega)]
    ·rw [decide_eq_true h3]; rfl
   rw [ht1, if_pos hc]
   simp only [Option.bind_some, cond_true]
   rw [wrap64 (n := (k : Int) + 1) (by omega) (by omega)]
   exact ⟨t, rfl, ht.skip⟩
  ·have ht1 : (((bif (decide (x.at_ ≤ fr)) then some (true, ()) else some ((decide (x.at_ ≥ to)), ())) : Option (Bool × Unit))) = some (false, ()) := by
    rw [decide_eq_false (by omega), cond_false, decide_eq_false (by omega)]
   rw [ht1, if_neg hc]
   simp only [Option.bind_some, cond_false]
   obtain ⟨a, ha⟩ : ∃ a, (if left then to - x.at_ else x.at_ - fr : Int) = a := ⟨_, rfl⟩
   have hab : 0 < a ∧ a < to - fr := by rw [← ha]; split <;> omega
   have hy : (((bif (!left) then some ((IntKind.i64.wrap (x.at_ - fr)), ()) else some ((IntKind.i64.wrap (to - x.at_)), ())) : Option (Int × Unit))) = some (a, ()) := by
    rw [← ha, wrap64 (n := to - x.at_) (by omega) (by omega), wrap64 (n := x.at_ - fr) (by omega) (by omega)]
    cases left <;> rfl
   rw [hy, ha]
   simp only [Option.bind_some]
   obtain ⟨z, z1, z2⟩ := f_eproduct (to - fr) [x.weight, a] (by omega) (by omega) (by omega) (by intro y hy; simp at hy; omega) (by simp)
   obtain ⟨s, s1, s2⟩ := f_eplus ht z2 (by omega) (by simp only [List.length_cons, List.length_nil]; omega)
   rw [z1]
   simp only [Option.bind_some]
   rw [s1]
   simp only [Option.bind_some]
   rw [wrap64 (n := (k : Int) + 1) (by omega) (by omega)]
   refine ⟨s, rfl, (s2.mono (by simp only [List.length_cons, List.length_nil]; omega)).cast ?_⟩
   rw [prod2]
 ·intro t
  have e0 : decide (((b.loads.length : Nat) : Int) < ((b.loads.length : Nat) : Int)) = false := by simp
  simp only [e0, cond_false]
 ·intro t ht
  refine ⟨t, rfl, (ht.mono (by simp only [List.length_cons, List.length_nil]; omega)).cast ?_⟩
  unfold leverQ lds
  rw [sumQ_map, prod2]
  rfl
theorem f_beyond {b : TBeam} (hb : BeamIn b) {a : Int} (h0 : 0 ≤ a) (h1 : a ≤ b.length) : ∃ r, F_beam_beyond b a = some r ∧ Xq r (beyondQ b.even (lds b.loads) a) 200 := by
 unfold F_beam_beyond
 have hl := hb.l1
 have he0 := hb.e0
 have he1 := hb.e1
 have hln := hb.ln
 obtain ⟨p, p1, p2⟩ := f_eproduct 1000 [b.even, a] (by omega) (by omega) (by omega) (by intro x hx; simp at hx; omega) (by simp)
 rw [p1]
 simp only [Option.bind_some]
 refine loop_sum (w := b.loads) (fun t q c => Xq t q c) (fun x => if x.at_ < a then (x.weight : Rat) else 0) 3 (by omega) p2 ?_ ?_ ?_
 ·intro k h t q ht
  have hx := hb.ld _ (List.getElem_mem h)
  obtain ⟨x0, x1, x2, x3⟩ := hx
  have e0 : decide ((k : Int) < ((b.loads.length : Nat) : Int)) = true := decide_eq_true (by omega)
  simp only [e0, cond_true]
  rw [idx_nat h]
  simp only [Option.bind_some]
  generalize b.loads[k] = x at *
  by_cases hc : x.at_ < a
  ·rw [decide_eq_true hc, if_pos hc, cond_true]
   obtain ⟨z, z1, z2⟩ := f_whole x.weight (by omega) (by omega)
   obtain ⟨s, s1, s2⟩ := f_eplus ht z2 (by omega) (by simp only [List.length_cons, List.length_nil]; omega)
   rw [z1]
   simp only [Option.bind_some]
   rw [s1]
   simp only [Option.bind_some]
   rw [wrap64 (n := (k : Int) + 1) (by omega) (by omega)]
   exact ⟨s, rfl, s2.mono (by omega)⟩
  ·rw [decide_eq_false hc, if_neg hc, cond_false]
   simp only [Option.bind_some]
   rw [wrap64 (n := (k : Int) + 1) (by omega) (by omega)]
   exact ⟨t, rfl, ht.skip⟩
 ·intro t
  have e0 : decide (((b.loads.length : Nat) : Int) < ((b.loads.length : Nat) : Int)) = false := by simp
  simp only [e0, cond_false]
 ·intro t ht
  refine ⟨t, rfl, (ht.mono (by simp only [List.length_cons, List.length_nil]; omega)).cast ?_⟩
  unfold beyondQ lds
  rw [sumQ_map, prod2]
  rfl
end Go.Proofs.YtcaopooflemnlaaGreat

/- The program's beams as rational numbers: turned, moments. -/
namespace Go.Proofs.YtcaopooflemnlaaGreat
set_option linter.unusedVariables false
set_option linter.unusedSimpArgs false

def turnB (b : TBeam) : TBeam := ⟨b.name, b.length, b.supports.reverse.map (fun s => b.length - s), b.loads.map (fun x => ⟨b.length - x.at_, x.weight⟩), b.even⟩
theorem ordS_snd {α : Type} (l : List α) : (ordS true l).map (fun x => x.2) = l.reverse := by
 unfold ordS
 rw [List.map_reverse, List.map_map]
 congr 1
 have : ((fun x : Nat × α => x.2) ∘ fun p : α × Nat => (p.2, p.1)) = Prod.fst := rfl
 rw [this]
 exact List.zipIdx_map_fst 0 l
theorem fold_turn (L : Int) (hL0 : 0 ≤ L) (hL : L ≤ 1048576) : ∀ (l : List (Nat × Int)) (s : TBeam), (∀ x ∈ l, 0 ≤ x.2 ∧ x.2 ≤ L) → s.supports.length + l.length ≤ 1000000 →
  foldR (σ := TBeam × Unit) (τ := Nat × Int) (fun s1 x2 => (if s1.1.supports.length + ([(IntKind.i64.wrap (L - x2.2))] : List Int).length ≤ 2147483648 then some ((TBeam.mk s1.1.name s1.1.length (s1.1.supports ++ ([(IntKind.i64.wrap (L - x2.2))] : List Int)) s1.1.loads s1.1.even), ()) else none)) l (s, ()) = some (⟨s.name, s.length, s.supports ++ (l.map fun x => x.2).map (fun x => L - x), s.loads, s.even⟩, ())
 | [], s, _, _ => by simp [foldR]
 | x :: l, s, h, hl => by
  have hx := h x List.mem_cons_self
  unfold foldR
  rw [if_pos (by simp at hl ⊢; omega), wrap64 (by omega) (by omega)]
  simp only [Option.bind_some]
  rw [fold_turn L hL0 hL l _ (fun y hy => h y (List.mem_cons_of_mem _ hy)) (by simp at hl ⊢; omega)]
  simp
structure SupOk (b : TBeam) : Prop where
 n1 : 1 ≤ b.supports.length
 n10 : b.supports.length ≤ 10
 rg : ∀ x ∈ b.supports, 0 ≤ x ∧ x ≤ b.length
 inc : ∀ i, i + 1 < b.supports.length → b.supports.getD i 0 < b.supports.getD (i + 1) 0
theorem f_turned {b : TBeam} (hb : BeamIn b) (hs : SupOk b) : F_beam_turned b = some (turnB b) := by
 have hl0 := hb.l0
 have hl1 := hb.l1
 have hln := hb.ln
 have hn := hs.n10
 suffices h : ∃ r, F_beam_turned b = some r ∧ r = turnB b by
  obtain ⟨r, h1, rfl⟩ := h
  exact h1
 unfold F_beam_turned
 rw [if_pos (by omega), fold_turn b.length (by omega) hl1 _ _ (by
  intro x hx
  have h1 : x.2 ∈ b.supports := by
   have h2 : x.2 ∈ (ordS true b.supports).map (fun x => x.2) := List.mem_map_of_mem hx
   rw [ordS_snd] at h2
   exact List.mem_reverse.1 h2
  exact hs.rg _ h1) (by simp [ordS]; omega), ordS_snd]
 simp only [Option.bind_some, List.nil_append]
 refine iter_bind (Q := fun s : TBeam × Unit => s.1 = turnB b) (fun k s => k ≤ b.loads.length ∧ s = ((k : Int), ⟨b.name, b.length, b.supports.reverse.map (fun s => b.length - s), (b.loads.take k).map (fun x => ⟨b.length - x.at_, x.weight⟩), b.even⟩, ())) b.loads.length (by unfold big; omega) ?_ ⟨Nat.zero_le _, rfl⟩ ?_
 ·rintro k s hk ⟨_, rfl⟩
  rcases Nat.lt_or_ge k b.loads.length with hlt | hge
  ·have e0 : decide ((k : Int) < ((b.loads.length : Nat) : Int)) = true := decide_eq_true (by omega)
   obtain ⟨x0, x1, x2, x3⟩ := hb.ld _ (List.getElem_mem hlt)
   refine .inl ⟨_, ?_, hlt, hlt, rfl⟩
   simp only [e0, cond_true]
   rw [idx_nat hlt]
   simp only [Option.bind_some]
   rw [if_pos (by simp; omega), wrap64 (n := b.length - b.loads[k].at_) (by omega) (by omega), wrap64 (n := (k : Int) + 1) (by omega) (by omega), List.take_succ_eq_append_getElem hlt, List.map_append]
   rfl
  ·have e0 : decide ((k : Int) < ((b.loads.length : Nat) : Int)) = false := decide_eq_false (by omega)
   refine .inr ⟨((⟨b.name, b.length, b.supports.reverse.map (fun s => b.length - s), (b.loads.take k).map (fun x => ⟨b.length - x.at_, x.weight⟩), b.even⟩ : TBeam), ()), by simp only [e0, cond_false], ?_⟩
   show (⟨b.name, b.length, b.supports.reverse.map (fun s => b.length - s), (b.loads.take k).map (fun x => ⟨b.length - x.at_, x.weight⟩), b.even⟩ : TBeam) = turnB b
   rw [List.take_of_length_le hge]
   rfl
 ·rintro ⟨t, u⟩ h
  exact ⟨t, rfl, h⟩
theorem turn_in {b : TBeam} (hb : BeamIn b) : BeamIn (turnB b) := by
 refine ⟨hb.l0, hb.l1, hb.e0, hb.e1, ?_, by show (b.loads.map _).length ≤ 40; rw [List.length_map]; exact hb.ln⟩
 intro x hx
 obtain ⟨y, hy, rfl⟩ := List.mem_map.1 hx
 obtain ⟨x0, x1, x2, x3⟩ := hb.ld y hy
 exact ⟨by show 0 ≤ b.length - y.at_; omega, by show b.length - y.at_ ≤ b.length; omega, x2, x3⟩
theorem turn_lds (b : TBeam) : lds (turnB b).loads = turnW b.length (lds b.loads) := by
 unfold lds turnW turnB
 rw [List.map_map, List.map_map]
 rfl
def sp (b : TBeam) (i : Nat) : Int := b.supports.getD i 0
def gp (b : TBeam) (i : Nat) : Rat := ((sp b (i + 1) - sp b i : Int) : Rat)
def Rp (b : TBeam) (i : Nat) : Rat := 0 - sideQ b.even (lds b.loads) (sp b (i - 1)) (sp b i) true - sideQ b.even (lds b.loads) (sp b i) (sp b (i + 1)) false
def fstQ (b : TBeam) : Rat := 0 - overQ b.even (lds b.loads) (sp b 0)
def lstQ (b : TBeam) : Rat := 0 - overQ b.even (turnW b.length (lds b.loads)) (b.length - sp b (b.supports.length - 1))
def momB (b : TBeam) (i : Nat) : Rat := mom (gp b) (Rp b) (fstQ b) (lstQ b) b.supports.length i
theorem sp_get {b : TBeam} {i : Nat} (h : i < b.supports.length) : b.supports[i]? = some (sp b i) := by
 unfold sp
 rw [List.getD_eq_getElem?_getD, List.getElem?_eq_getElem h]; rfl
theorem idx_q {α : Type} {l : List α} {k : Nat} {x : α} (h : l[k]? = some x) : idx l (k : Int) = some x := by
 unfold idx
 rw [if_pos (by omega), Int.toNat_natCast, h]
theorem sp_idx {b : TBeam} {i : Nat} (h : i < b.supports.length) : idx b.supports (i : Int) = some (sp b i) := idx_q (sp_get h)
theorem sp_rg {b : TBeam} (hs : SupOk b) {i : Nat} (h : i < b.supports.length) : 0 ≤ sp b i ∧ sp b i ≤ b.length := by
 have := sp_get h
 exact hs.rg _ (List.mem_of_getElem? this)
theorem gp_pos {b : TBeam} (hs : SupOk b) : ∀ i, i + 1 < b.supports.length → 0 < gp b i := by
 intro i h
 have := hs.inc i h
 unfold gp
 exact Rat.intCast_lt_intCast.2 (show (0 : Int) < sp b (i + 1) - sp b i by unfold sp; omega)
theorem f_bfirst {b : TBeam} (hb : BeamIn b) (hs : SupOk b) : ∃ r, F_beam_overhang b = some r ∧ Xq r (fstQ b) 300 := by
 have h := sp_rg hs (i := 0) (by have := hs.n1; omega)
 refine f_over2 hb ?_ h.1 h.2
 rw [List.head?_eq_getElem?]
 exact sp_get (by have := hs.n1; omega)
theorem f_last {b : TBeam} (hb : BeamIn b) (hs : SupOk b) : ∃ r, F_beam_overhang (turnB b) = some r ∧ Xq r (lstQ b) 300 := by
 have hn := hs.n1
 have h := sp_rg hs (i := b.supports.length - 1) (by omega)
 have hl : (turnB b).length = b.length := rfl
 obtain ⟨r, r1, r2⟩ := f_over2 (turn_in hb) (a := b.length - sp b (b.supports.length - 1)) (by
  show (b.supports.reverse.map (fun s => b.length - s)).head? = _
  rw [List.head?_map, List.head?_reverse, List.getLast?_eq_getElem?, sp_get (by omega)]
  rfl) (by omega) (by rw [hl]; omega)
 exact ⟨r, r1, r2.cast (by rw [turn_lds]; rfl)⟩
end Go.Proofs.YtcaopooflemnlaaGreat

/- The program's moments as rational numbers. -/
namespace Go.Proofs.YtcaopooflemnlaaGreat
set_option linter.unusedVariables false
set_option linter.unusedSimpArgs false

def rtB (b : TBeam) (i : Nat) : Rat := Rp b i - gp b (i - 1) * (pq (gp b) (Rp b) (fstQ b) (i - 1)).1
def mdB (b : TBeam) (i : Nat) : Rat := midQ (gp b) (Rp b) (fstQ b) (i - 1)
theorem pq_one (b : TBeam) (i : Nat) : (pq (gp b) (Rp b) (fstQ b) (i + 1)).1 = rtB b (i + 1) / mdB b (i + 1) ∧ (pq (gp b) (Rp b) (fstQ b) (i + 1)).2 = gp b (i + 1) / mdB b (i + 1) := ⟨rfl, rfl⟩
theorem md_pos {b : TBeam} (hs : SupOk b) {i : Nat} (h0 : 1 ≤ i) (h : i + 1 < b.supports.length) : 0 < mdB b i := by
 unfold mdB
 exact mid_pos (n := b.supports.length - 1) (fun j hj => gp_pos hs j (by omega)) (by omega)
theorem get_set {α : Type} {l : List α} {i j : Nat} {v : α} (hi : i < l.length) : (l.set i v)[j]? = if i = j then some v else l[j]? := by
 rw [List.getElem?_set]
 by_cases h : i = j
 ·subst h; rw [if_pos rfl, if_pos rfl, if_pos hi]
 ·rw [if_neg h, if_neg h]
theorem f_bgap {b : TBeam} (hb : BeamIn b) (hs : SupOk b) {i : Nat} (h : i + 1 < b.supports.length) : ∃ r, F_beam_whole (IntKind.i64.wrap (sp b (i + 1) - sp b i)) = some r ∧ Xq r (gp b i) 2 := by
 have h1 := sp_rg hs (i := i) (by omega)
 have h2 := sp_rg hs (i := i + 1) (by omega)
 have hl := hb.l1
 rw [wrap64 (by omega) (by omega)]
 exact f_whole _ (by omega) (by omega)
theorem idx_w {α : Type} {l : List α} {k : Nat} {z : Int} {x : α} (e : z = (k : Int)) (h : l[k]? = some x) : idx l z = some x := by subst e; exact idx_q h
theorem at_w {α : Type} {l : List α} {k : Nat} {z : Int} {x : α} (e : z = (k : Int)) (h : l[k]? = some x) : l[Int.toNat z]? = some x := by subst e; rw [Int.toNat_natCast]; exact h
def FwB (b : TBeam) (k : Nat) (D T : List Texact) : Prop := D.length = b.supports.length ∧ T.length = b.supports.length ∧ (∀ j, 1 ≤ j → j ≤ k → ∃ v, D[j]? = some v ∧ Xq v (mdB b j) (7 * j + 2)) ∧ ∀ j, 1 ≤ j → j ≤ k → ∃ v, T[j]? = some v ∧ Xq v (rtB b j) (1000 * (j + 1))
theorem fw_set {b : TBeam} {k : Nat} {D T : List Texact} (h : FwB b k D T) (hk : k + 1 < b.supports.length) {d t d0 t0 : Texact} (hd : Xq d (mdB b (k + 1)) (7 * (k + 1) + 2)) (ht : Xq t (rtB b (k + 1)) (1000 * (k + 1 + 1))) : FwB b (k + 1) ((D.set (k + 1) d0).set (k + 1) d) ((T.set (k + 1) t0).set (k + 1) t) := by
 obtain ⟨h1, h2, h3, h4⟩ := h
 refine ⟨by simp [h1], by simp [h2], fun j a c => ?_, fun j a c => ?_⟩
 ·rw [List.set_set, get_set (by omega)]
  rcases Decidable.em (k + 1 = j) with e | e
  ·subst e; rw [if_pos rfl]; exact ⟨d, rfl, hd⟩
  ·rw [if_neg e]; exact h3 j a (by omega)
 ·rw [List.set_set, get_set (by omega)]
  rcases Decidable.em (k + 1 = j) with e | e
  ·subst e; rw [if_pos rfl]; exact ⟨t, rfl, ht⟩
  ·rw [if_neg e]; exact h4 j a (by omega)
theorem fw_set1 {b : TBeam} {k : Nat} {D T : List Texact} (h : FwB b k D T) (hk : k + 1 < b.supports.length) {d t t0 : Texact} (hd : Xq d (mdB b (k + 1)) (7 * (k + 1) + 2)) (ht : Xq t (rtB b (k + 1)) (1000 * (k + 1 + 1))) : FwB b (k + 1) (D.set (k + 1) d) ((T.set (k + 1) t0).set (k + 1) t) := by
 have := fw_set h hk (d0 := d) (t0 := t0) hd ht
 rwa [List.set_set] at this
def BwB (b : TBeam) (m : Nat) (O : List Texact) : Prop := O.length = b.supports.length ∧ (∃ v, O[0]? = some v ∧ Xq v (momB b 0) 300) ∧ ∀ i, m < i → i < b.supports.length → ∃ v, O[i]? = some v ∧ Xq v (momB b i) (400 + (b.supports.length - 1 - i) * 10100)
set_option maxHeartbeats 2000000 in
theorem f_moments {b : TBeam} (hb : BeamIn b) (hs : SupOk b) : Gs (F_beam_moments b) fun r => (r.2 = true ↔ (b.supports.length = 1 → fstQ b = lstQ b)) ∧ (r.2 = true → r.1.length = b.supports.length ∧ ∀ i, i < b.supports.length → ∃ x, r.1[i]? = some x ∧ Xq x (momB b i) 82000) := by
 unfold F_beam_moments
 obtain ⟨x, x1, x2⟩ := f_bfirst hb hs
 obtain ⟨y, y1, y2⟩ := f_last hb hs
 have hl := hb.l1
 have hn1 := hs.n1
 have hn10 := hs.n10
 refine go x1 (go (f_turned hb hs) (go y1 ?_))
 rcases Decidable.em (b.supports.length = 1) with h1 | h1
 ·obtain ⟨z, z1, z2⟩ := f_eless x2 y2 (by omega) (by omega)
  obtain ⟨s, s1, s2, s3⟩ := f_sign z2.n
  refine gt (by rw [beq_iff_eq]; omega) (goo z1 (goo s1 (gs (gend ?_))))
  have hd : fstQ b - lstQ b = 0 ↔ fstQ b = lstQ b := by constructor <;> intro h <;> grind
  have ht : (s == 0) = true ↔ fstQ b = lstQ b := by rw [beq_iff_eq, s2, Rat.num_eq_zero, hd]
  refine ⟨?_, ?_⟩
  ·show (s == 0) = true ↔ _
   rw [ht]
   exact ⟨fun h _ => h, fun h => h h1⟩
  ·intro h
   have h := ht.1 h
   refine ⟨by show 1 = _; omega, fun i hi => ?_⟩
   have : i = 0 := by omega
   subst this
   refine ⟨x, rfl, (x2.mono (by omega)).cast ?_⟩
   rw [h]
   unfold momB
   rw [show (0 : Nat) = b.supports.length - 1 from by omega, mom_last]
 refine gf (by rw [beq_eq_false_iff_ne]; omega) (gif ⟨by omega, by omega⟩ ?_)
 obtain ⟨Z, hZ⟩ : ∃ Z, List.replicate (Int.toNat ((b.supports.length : Nat) : Int)) (⟨⟨false, []⟩, ⟨false, []⟩⟩ : Texact) = Z := ⟨_, rfl⟩
 have hZl : Z.length = b.supports.length := by rw [← hZ, List.length_replicate, Int.toNat_natCast]
 rw [hZ]
 have hw1 : IntKind.i64.wrap (((b.supports.length : Nat) : Int) - 1) = ((b.supports.length - 1 : Nat) : Int) := by rw [wrap64 (by omega) (by omega)]; omega
 have hw2 : IntKind.i64.wrap (((b.supports.length : Nat) : Int) - 2) = ((b.supports.length - 2 : Nat) : Int) := by rw [wrap64 (by omega) (by omega)]; omega
 have g1 : Z[0]? = some Z[0] := List.getElem?_eq_getElem _
 obtain ⟨q, g2⟩ : ∃ q, (Z.set 0 x)[b.supports.length - 1]? = some q := ⟨_, List.getElem?_eq_getElem (by simp; omega)⟩
 have ht0 : Int.toNat 0 = 0 := rfl
 rw [ht0]
 refine goo (idx_w (k := 0) rfl g1) (goo g1 (goo (idx_w hw1 g2) (goo (at_w hw1 g2) (gs ?_))))
 refine gbif ⟨by omega, by omega⟩ (gbif ⟨by omega, by omega⟩ (gs ?_))
 refine gloop (fun s : List Texact × List Texact × Unit => FwB b (b.supports.length - 2) s.1 s.2.1)
  (fun k s => ∃ D T, s = (((k + 1 : Nat) : Int), D, T, ()) ∧ k + 1 ≤ b.supports.length - 1 ∧ FwB b k D T)
  (b.supports.length - 2) (by unfold big; omega) ⟨Z, Z, rfl, by omega, hZl, hZl, fun j h2 h3 => by omega, fun j h2 h3 => by omega⟩ ?_ ?_
 ·rintro k s hk ⟨D, T, rfl, hk1, hF⟩
  rcases Nat.lt_or_ge (k + 1) (b.supports.length - 1) with hlt | hge
  ·obtain ⟨hDl, hTl, hD, hT⟩ := id hF
   have w1 : IntKind.i64.wrap (((k + 1 : Nat) : Int) - 1) = (k : Int) := by rw [wrap64 (by omega) (by omega)]; omega
   have w2 : IntKind.i64.wrap (((k + 1 : Nat) : Int) + 1) = ((k + 2 : Nat) : Int) := by rw [wrap64 (by omega) (by omega)]; omega
   have r0 := sp_rg hs (i := k) (by omega)
   have r1 := sp_rg hs (i := k + 1) (by omega)
   have r2 := sp_rg hs (i := k + 2) (by omega)
   have c0 : sp b k < sp b (k + 1) := hs.inc k (by omega)
   have c1 : sp b (k + 1) < sp b (k + 2) := hs.inc (k + 1) (by omega)
   have p0 := sp_get (b := b) (i := k) (by omega)
   have p1 := sp_get (b := b) (i := k + 1) (by omega)
   have p2 := sp_get (b := b) (i := k + 2) (by omega)
   have w3 : IntKind.i64.wrap (2 * IntKind.i64.wrap (IntKind.i64.wrap (sp b (k + 1) - sp b k) + IntKind.i64.wrap (sp b (k + 2) - sp b (k + 1)))) = 2 * ((sp b (k + 1) - sp b k) + (sp b (k + 2) - sp b (k + 1))) := by
    rw [wrap64 (n := sp b (k + 1) - sp b k) (by omega) (by omega), wrap64 (n := sp b (k + 2) - sp b (k + 1)) (by omega) (by omega), wrap64 (n := (sp b (k + 1) - sp b k) + (sp b (k + 2) - sp b (k + 1))) (by omega) (by omega), wrap64 (by omega) (by omega)]
   obtain ⟨dg0, d1, d2⟩ := f_whole (IntKind.i64.wrap (2 * IntKind.i64.wrap (IntKind.i64.wrap (sp b (k + 1) - sp b k) + IntKind.i64.wrap (sp b (k + 2) - sp b (k + 1))))) (by rw [w3]; omega) (by rw [w3]; omega)
   have d3 : Xq dg0 (2 * (gp b k + gp b (k + 1))) 2 := d2.cast (by rw [w3]; unfold gp; simp only [Rat.intCast_mul, Rat.intCast_add]; rfl)
   obtain ⟨z0, zz1, zz2⟩ := f_whole 0 (by omega) (by omega)
   obtain ⟨sa, sa1, sa2⟩ := f_side hb (fr := sp b k) (to := sp b (k + 1)) true r0.1 c0 r1.2
   obtain ⟨sb, sb1, sb2⟩ := f_side hb (fr := sp b (k + 1)) (to := sp b (k + 2)) false r1.1 c1 r2.2
   obtain ⟨u1, u11, u12⟩ := f_eless zz2 sa2 (by omega) (by omega)
   obtain ⟨u2, u21, u22⟩ := f_eless u12 sb2 (by omega) (by omega)
   have u3 : Xq u2 (Rp b (k + 1)) 804 := u22.cast rfl
   obtain ⟨qd, qd1⟩ : ∃ q, D[k + 1]? = some q := ⟨_, List.getElem?_eq_getElem (by omega)⟩
   obtain ⟨qt, qt1⟩ : ∃ q, T[k + 1]? = some q := ⟨_, List.getElem?_eq_getElem (by omega)⟩
   refine gt (decide_eq_true (by show ((k + 1 : Nat) : Int) < IntKind.i64.wrap _; rw [hw1]; omega)) ?_
   refine goo (idx_w rfl p1) (goo (idx_w w1 p0) (goo (idx_w w2 p2) (goo (idx_w rfl p1) (goo d1 ?_))))
   refine goo (idx_w rfl qd1) (goo (at_w rfl qd1) (goo (idx_w w1 p0) (goo (idx_w rfl p1) (goo (idx_w rfl p1) (goo (idx_w w2 p2) (goo zz1 (goo sa1 (goo u11 (goo sb1 (goo u21 (goo (idx_w rfl qt1) (goo (at_w rfl qt1) ?_))))))))))))
   obtain ⟨gk, gk1, gk2⟩ := f_bgap hb hs (i := k) (by omega)
   have sD : ∀ v, (D.set (k + 1) v)[k + 1]? = some v := fun v => by rw [get_set (by omega), if_pos rfl]
   have sT : ∀ v, (T.set (k + 1) v)[k + 1]? = some v := fun v => by rw [get_set (by omega), if_pos rfl]
   rcases Nat.eq_zero_or_pos k with hk0 | hk0
   ·subst hk0
    obtain ⟨t1, t11, t12⟩ := f_etimes x2 gk2 (by omega) (by omega)
    obtain ⟨t2, t21, t22⟩ := f_eless u3 t12 (by omega) (by omega)
    refine gbt rfl (goo (idx_w rfl (sT _)) (goo (at_w rfl (sT _)) (goo gk1 (goo t11 (goo t21 (goo (idx_w rfl (sT _)) (goo (at_w rfl (sT _)) (gs (gend ?_)))))))))
    refine ⟨by omega, D.set (0 + 1) dg0, (T.set (0 + 1) u2).set (0 + 1) t2, by simp only [w2, Int.toNat_natCast], by omega, fw_set1 hF (by omega) ((d3.mono (by omega)).cast ?_) ((t22.mono (by omega)).cast ?_)⟩
    ·show _ = 2 * (gp b 0 + gp b (0 + 1)) - gp b 0 * (0 : Rat)
     grind
    ·show _ = Rp b (0 + 1) - gp b 0 * fstQ b
     grind
   ·obtain ⟨dp, dp1, dp2⟩ := hD k hk0 (Nat.le_refl _)
    obtain ⟨tp, tp1, tp2⟩ := hT k hk0 (Nat.le_refl _)
    have hmp := md_pos hs hk0 (show k + 1 < b.supports.length by omega)
    have sDk : ∀ v, (D.set (k + 1) v)[k]? = some dp := fun v => by rw [get_set (by omega), if_neg (by omega)]; exact dp1
    have sTk : ∀ v, (T.set (k + 1) v)[k]? = some tp := fun v => by rw [get_set (by omega), if_neg (by omega)]; exact tp1
    obtain ⟨f, f1, f2⟩ := f_eby gk2 dp2 (by grind) (by omega) (by omega)
    obtain ⟨fk, fk1, fk2⟩ := f_etimes f2 gk2 (by omega) (by omega)
    obtain ⟨dn, dn1, dn2⟩ := f_eless d3 fk2 (by omega) (by omega)
    obtain ⟨ft, ft1, ft2⟩ := f_etimes f2 tp2 (by omega) (by omega)
    obtain ⟨tn, tn1, tn2⟩ := f_eless u3 ft2 (by omega) (by omega)
    refine gbf (by show (((k + 1 : Nat) : Int) == 1) = false; rw [beq_eq_false_iff_ne]; omega) (goo (idx_w w1 (sDk _)) (goo (at_w w1 (sDk _)) (goo gk1 (goo f1 (goo (idx_w rfl (sD _)) (goo (at_w rfl (sD _)) (goo gk1 (goo fk1 (goo dn1 ?_)))))))))
    refine goo (idx_w rfl (sD _)) (goo (at_w rfl (sD _)) (goo (idx_w rfl (sT _)) (goo (at_w rfl (sT _)) (goo (idx_w w1 (sTk _)) (goo (at_w w1 (sTk _)) (goo ft1 (goo tn1 (goo (idx_w rfl (sT _)) (goo (at_w rfl (sT _)) (gs (gend ?_)))))))))))
    obtain ⟨i, rfl⟩ : ∃ i, k = i + 1 := ⟨k - 1, by omega⟩
    have hpq := pq_one b i
    refine ⟨by omega, (D.set (i + 1 + 1) dg0).set (i + 1 + 1) dn, (T.set (i + 1 + 1) u2).set (i + 1 + 1) tn, by simp only [w2, Int.toNat_natCast], by omega, fw_set hF (by omega) ((dn2.mono (by omega)).cast ?_) ((tn2.mono (by omega)).cast ?_)⟩
    ·show _ = 2 * (gp b (i + 1) + gp b (i + 1 + 1)) - gp b (i + 1) * (pq (gp b) (Rp b) (fstQ b) (i + 1)).2
     rw [hpq.2]
     grind
    ·show _ = Rp b (i + 1 + 1) - gp b (i + 1) * (pq (gp b) (Rp b) (fstQ b) (i + 1)).1
     rw [hpq.1]
     grind
  ·refine gf (decide_eq_false (by show ¬ ((k + 1 : Nat) : Int) < IntKind.i64.wrap _; rw [hw1]; omega)) (gend ?_)
   have : k = b.supports.length - 2 := by omega
   subst this
   exact hF
 ·rintro ⟨D, T, u⟩ hF
  obtain ⟨hDl, hTl, hD, hT⟩ := hF
  refine gloop (fun s : List Texact × Unit => BwB b 0 s.1)
   (fun k s => ∃ (O : List Texact) (m : Nat), s = ((m : Int), O, ()) ∧ m + k = b.supports.length - 2 ∧ BwB b m O)
   (b.supports.length - 2) (by unfold big; omega) ⟨_, b.supports.length - 2, by rw [hw2], by omega, by simp [hZl], ⟨x, ?_, x2.cast ?_⟩, ?_⟩ ?_ ?_
  ·rw [hw1, Int.toNat_natCast, get_set (by simp; omega), if_neg (by omega), get_set (by omega), if_pos rfl]
  ·unfold momB
   rw [mom_first _ _ _ _ (by omega)]
  ·intro i hi hi2
   have : i = b.supports.length - 1 := by omega
   refine ⟨y, by rw [hw1, Int.toNat_natCast, get_set (by simp; omega), if_pos this.symm], (y2.mono (by omega)).cast ?_⟩
   rw [this]
   unfold momB
   rw [mom_last]
  ·rintro k s hk ⟨O, m, rfl, hm, hO⟩
   rcases Nat.eq_zero_or_pos m with hm0 | hm0
   ·subst hm0
    exact gf (decide_eq_false (by show ¬ ((0 : Nat) : Int) > 0; omega)) (gend hO)
   ·obtain ⟨hOl, hO0, hO⟩ := hO
    have w2 : IntKind.i64.wrap ((m : Int) + 1) = ((m + 1 : Nat) : Int) := by rw [wrap64 (by omega) (by omega)]; omega
    have w1 : IntKind.i64.wrap ((m : Int) - 1) = ((m - 1 : Nat) : Int) := by rw [wrap64 (by omega) (by omega)]; omega
    obtain ⟨t, t1, t2⟩ := hT m hm0 (by omega)
    obtain ⟨d, d1, d2⟩ := hD m hm0 (by omega)
    obtain ⟨o, o1, o2⟩ := hO (m + 1) (by omega) (by omega)
    obtain ⟨gk, gk1, gk2⟩ := f_bgap hb hs (i := m) (by omega)
    have hmp := md_pos hs hm0 (show m + 1 < b.supports.length by omega)
    have hm9 : m ≤ 8 := by omega
    obtain ⟨c, hc⟩ : ∃ c, (b.supports.length - 1 - (m + 1)) * 10100 = c := ⟨_, rfl⟩
    have hc2 : (b.supports.length - 1 - m) * 10100 = c + 10100 := by
     rw [← hc, show b.supports.length - 1 - m = b.supports.length - 1 - (m + 1) + 1 from by omega, Nat.add_mul]
    have hc3 : c ≤ 8 * 10100 := by rw [← hc]; exact Nat.mul_le_mul_right _ (by omega)
    rw [hc] at o2
    obtain ⟨og, og1, og2⟩ := f_etimes o2 gk2 (by omega) (by omega)
    obtain ⟨l1, l11, l12⟩ := f_eless t2 og2 (by omega) (by omega)
    obtain ⟨z, z1, z2⟩ := f_eby l12 d2 (by grind) (by omega) (by omega)
    have p0 := sp_get (b := b) (i := m) (by omega)
    have p1 := sp_get (b := b) (i := m + 1) (by omega)
    obtain ⟨qo, qo1⟩ : ∃ q, O[m]? = some q := ⟨_, List.getElem?_eq_getElem (by omega)⟩
    refine gt (decide_eq_true (by show (0 : Int) < (m : Int); omega)) ?_
    refine go (idx_w w2 p1) (go (idx_w rfl p0) (go (idx_w rfl t1) (go (at_w rfl t1) (go (idx_w w2 o1) (go (at_w w2 o1) (go (idx_w rfl d1) (go (at_w rfl d1) (go gk1 (go og1 (go l11 (go z1 (go (idx_w rfl qo1) (go (at_w rfl qo1) (gend ?_))))))))))))))
    refine ⟨by omega, O.set m z, m - 1, by simp only [w1, Int.toNat_natCast], by omega, by simp [hOl], ?_, ?_⟩
    ·rw [get_set (by omega), if_neg (by omega)]
     exact hO0
    ·intro i hi hi2
     rw [get_set (by omega)]
     rcases Decidable.em (m = i) with h | h
     ·subst h
      rw [if_pos rfl]
      refine ⟨z, rfl, (z2.mono (by omega)).cast ?_⟩
      obtain ⟨j, rfl⟩ : ∃ j, m = j + 1 := ⟨m - 1, by omega⟩
      have hpq := pq_one b j
      unfold momB
      rw [mom_step _ _ _ _ (i := j + 1) (by omega), hpq.1, hpq.2]
      grind
     ·rw [if_neg h]
      exact hO i (by omega) hi2
  ·rintro ⟨O, u⟩ ⟨h2, h3, h4⟩
   refine gend ⟨⟨fun _ h => absurd h h1, fun _ => rfl⟩, fun _ => ⟨h2, fun i hi => ?_⟩⟩
   rcases Nat.eq_zero_or_pos i with h0 | h0
   ·subst h0
    obtain ⟨v, v1, v2⟩ := h3
    exact ⟨v, v1, v2.mono (by omega)⟩
   ·obtain ⟨v, v1, v2⟩ := h4 i h0 hi
    refine ⟨v, v1, v2.mono ?_⟩
    have : (b.supports.length - 1 - i) * 10100 ≤ 8 * 10100 := Nat.mul_le_mul_right _ (by omega)
    omega
end Go.Proofs.YtcaopooflemnlaaGreat

/- The program's reactions as rational numbers. -/
namespace Go.Proofs.YtcaopooflemnlaaGreat
set_option linter.unusedVariables false
set_option linter.unusedSimpArgs false

theorem loop_sumG {α τ : Type} {F : Int × τ × Unit → Option ((Int × τ × Unit) ⊕ (τ × Unit))} {w : List α} (R : τ → Rat → Nat → Prop) (f : α → Rat) (e : Nat) (hw : w.length ≤ 1000000) {t0 : τ} {q0 : Rat} {c0 : Nat} (h0 : R t0 q0 c0)
  (hin : ∀ (k : Nat) (h : k < w.length) (t : τ) (q : Rat), R t q (c0 + e * k) → Gs (F ((k : Int), t, ())) fun y => ∃ t', y = .inl (((k + 1 : Nat) : Int), t', ()) ∧ R t' (q + f w[k]) (c0 + e * k + e))
  (hout : ∀ t, F ((w.length : Int), t, ()) = some (.inr (t, ()))) : Gs (iterF F big (0, t0, ())) fun r => R r.1 (q0 + sumQ f w) (c0 + e * w.length) := by
 obtain ⟨r, h1, h2⟩ := loop_sum (F := F) (K := some) (P := fun r => R r.1 (q0 + sumQ f w) (c0 + e * w.length)) R f e hw h0 (fun k h t q ht => by
  obtain ⟨y, h1, t', rfl, h2⟩ := hin k h t q ht
  exact ⟨t', h1, h2⟩) hout fun t ht => ⟨(t, ()), rfl, ht⟩
 refine ⟨r, ?_, h2⟩
 revert h1
 cases iterF F big (0, t0, ()) with
 | none => intro h1; cases h1
 | some a => intro h1; exact h1
def reactB (b : TBeam) (i : Nat) : Rat := reactQ b.even b.length (lds b.loads) (sp b) b.supports.length (momB b) i
def Rk (n i : Nat) (O t : List Texact) (q : Rat) (c : Nat) : Prop := t.length = n ∧ (∀ j, j < i → t[j]? = O[j]?) ∧ ∃ v, t[i]? = some v ∧ Xq v q c
theorem Rk.set {n i : Nat} {O t : List Texact} {q r : Rat} {c e : Nat} {z : Texact} (h : Rk n i O t q c) (hi : i < n) (hz : Xq z r e) : Rk n i O (t.set i z) r e := by
 obtain ⟨h1, h2, h3⟩ := h
 refine ⟨by simp [h1], fun j hj => ?_, z, by rw [get_set (by omega), if_pos rfl], hz⟩
 rw [get_set (by omega), if_neg (by omega)]
 exact h2 j hj
theorem Rk.mono {n i : Nat} {O t : List Texact} {q : Rat} {c e : Nat} (h : Rk n i O t q c) (hc : c ≤ e) : Rk n i O t q e := by
 obtain ⟨h1, h2, v, h3, h4⟩ := h
 exact ⟨h1, h2, v, h3, h4.mono hc⟩
theorem Rk.cast {n i : Nat} {O t : List Texact} {q r : Rat} {c : Nat} (h : Rk n i O t q c) (e : q = r) : Rk n i O t r c := e ▸ h
set_option maxHeartbeats 2000000 in
theorem f_reactions {b : TBeam} (hb : BeamIn b) (hs : SupOk b) {m : List Texact} (hm : ∀ i, i < b.supports.length → ∃ x, m[i]? = some x ∧ Xq x (momB b i) 82000) :
  Gs (F_beam_reactions b m) fun r => r.length = b.supports.length ∧ ∀ i, i < b.supports.length → ∃ x, r[i]? = some x ∧ Xq x (reactB b i) 330000 := by
 unfold F_beam_reactions
 have hl := hb.l1
 have hn1 := hs.n1
 have hn10 := hs.n10
 have hln := hb.ln
 have hw1 : IntKind.i64.wrap (((b.supports.length : Nat) : Int) - 1) = ((b.supports.length - 1 : Nat) : Int) := by rw [wrap64 (by omega) (by omega)]; omega
 refine gif ⟨by omega, by omega⟩ ?_
 refine gloop (fun s : List Texact × Unit => s.1.length = b.supports.length ∧ ∀ i, i < b.supports.length → ∃ x, s.1[i]? = some x ∧ Xq x (reactB b i) 330000)
  (fun i s => ∃ O, s = ((i : Int), O, ()) ∧ O.length = b.supports.length ∧ ∀ j, j < i → ∃ x, O[j]? = some x ∧ Xq x (reactB b j) 330000)
  b.supports.length (by unfold big; omega) ⟨_, rfl, by simp, fun j hj => absurd hj (Nat.not_lt_zero j)⟩ ?_ ?_
 ·rintro i s hi ⟨O, rfl, hOl, hO⟩
  rcases Nat.lt_or_ge i b.supports.length with hlt | hge
  ·refine gt (decide_eq_true (by show (i : Int) < ((b.supports.length : Nat) : Int); omega)) ?_
   have pi := sp_get hlt
   have ri := sp_rg hs hlt
   obtain ⟨z0, zz1, zz2⟩ := f_whole 0 (by omega) (by omega)
   obtain ⟨qo, qo1⟩ : ∃ q, O[i]? = some q := ⟨_, List.getElem?_eq_getElem (by omega)⟩
   obtain ⟨mi, mi1, mi2⟩ := hm i hlt
   have start : Rk b.supports.length i O (O.set i z0) (0 : Rat) 2 := by
    refine ⟨by simp [hOl], fun j hj => ?_, z0, by rw [get_set (by omega), if_pos rfl], zz2⟩
    rw [get_set (by omega), if_neg (by omega)]
   have ht0 : Int.toNat ((i : Nat) : Int) = i := Int.toNat_natCast i
   simp only [ht0]
   refine goo (idx_w rfl pi) (goo zz1 (goo (idx_w rfl qo1) (goo qo1 ?_)))
   refine gcalll (loop_sumG (w := b.loads) (Rk b.supports.length i O) (fun x => if x.at_ = sp b i then (x.weight : Rat) else 0) 3 (by omega) start ?_ ?_) ?_
   ·rintro k hk t q ⟨t1, t2, v, v1, v2⟩
    obtain ⟨x0, x1, x2, x3⟩ := hb.ld _ (List.getElem_mem hk)
    have hx := idx_nat hk
    have w1 : IntKind.i64.wrap ((k : Int) + 1) = ((k + 1 : Nat) : Int) := by rw [wrap64 (by omega) (by omega)]; omega
    refine gt (decide_eq_true (by show (k : Int) < ((b.loads.length : Nat) : Int); omega)) (goo hx ?_)
    generalize b.loads[k] = x at *
    rcases Decidable.em (x.at_ = sp b i) with h | h
    ·obtain ⟨a, a1, a2⟩ := f_whole x.weight (by omega) (by omega)
     obtain ⟨p, p1, p2⟩ := f_eplus v2 a2 (by omega) (by omega)
     refine gbt (by rw [beq_iff_eq]; exact h) (goo (idx_q v1) (goo v1 (goo a1 (goo p1 (goo (idx_q v1) (goo v1 (gs (gend ⟨t.set i p, by simp only [w1], ?_⟩))))))))
     rw [if_pos h]
     exact Rk.set ⟨t1, t2, v, v1, v2⟩ hlt (p2.mono (by omega))
    ·refine gbf (by rw [beq_eq_false_iff_ne]; exact h) (gs (gend ⟨t, by simp only [w1], ?_⟩))
     rw [if_neg h]
     exact ⟨t1, t2, v, v1, v2.skip⟩
   ·intro t
    have e0 : decide (((b.loads.length : Nat) : Int) < ((b.loads.length : Nat) : Int)) = false := by simp
    simp only [e0, cond_false]
   rintro ⟨t, u⟩ ht
   have ht : Rk b.supports.length i O t (atQ (lds b.loads) (sp b i)) 122 := (ht.mono (by omega)).cast (by unfold atQ lds; rw [sumQ_map]; grind)
   refine gcalll (Q := fun r : List Texact × Unit => Rk b.supports.length i O r.1 (atQ (lds b.loads) (sp b i) + (if 0 < i then leverQ b.even (lds b.loads) (sp b (i - 1)) (sp b i) false + (momB b (i - 1) - momB b i) / ((sp b i - sp b (i - 1) : Int) : Rat) else 0)) 164427) ?_ ?_
   ·obtain ⟨t1, t2, v, v1, v2⟩ := id ht
    rcases Nat.eq_zero_or_pos i with h0 | h0
    ·subst h0
     refine gf (decide_eq_false (by omega)) (gend ?_)
     rw [if_neg (by omega)]
     exact (ht.mono (by omega)).cast (by grind)
    ·obtain ⟨j, rfl⟩ : ∃ j, i = j + 1 := ⟨i - 1, by omega⟩
     have w1 : IntKind.i64.wrap (((j + 1 : Nat) : Int) - 1) = (j : Int) := by rw [wrap64 (by omega) (by omega)]; omega
     have pj := sp_get (b := b) (i := j) (by omega)
     have rj := sp_rg hs (i := j) (by omega)
     have hc : sp b j < sp b (j + 1) := hs.inc j (by omega)
     obtain ⟨mj, mj1, mj2⟩ := hm j (by omega)
     obtain ⟨l, l1, l2⟩ := f_lever hb (fr := sp b j) (to := sp b (j + 1)) false rj.1 hc ri.2
     obtain ⟨a, a1, a2⟩ := f_eplus v2 l2 (by omega) (by omega)
     obtain ⟨d, d1, d2⟩ := f_eless mj2 mi2 (by omega) (by omega)
     obtain ⟨g, g1, g2⟩ := f_bgap hb hs (i := j) (by omega)
     obtain ⟨e, e1, e2⟩ := f_eby d2 g2 (by have := gp_pos hs j (by omega); grind) (by omega) (by omega)
     obtain ⟨f, f1, f2⟩ := f_eplus a2 e2 (by omega) (by omega)
     refine gt (decide_eq_true (by omega)) (go (idx_w w1 pj) (go (idx_q v1) (go v1 (go (idx_w w1 mj1) (go (idx_q mi1) (go l1 (go a1 (go d1 (go g1 (go e1 (go f1 (go (idx_q v1) (go v1 (gend ?_))))))))))))))
     refine Rk.set ht hlt ((f2.mono (by omega)).cast ?_)
     rw [if_pos (by omega)]
     show _ = atQ (lds b.loads) (sp b (j + 1)) + (leverQ b.even (lds b.loads) (sp b j) (sp b (j + 1)) false + (momB b j - momB b (j + 1)) / gp b j)
     grind
   rintro ⟨t', u'⟩ ht'
   clear ht
   obtain ⟨qa, hqa⟩ : ∃ qa, atQ (lds b.loads) (sp b i) + (if 0 < i then leverQ b.even (lds b.loads) (sp b (i - 1)) (sp b i) false + (momB b (i - 1) - momB b i) / ((sp b i - sp b (i - 1) : Int) : Rat) else 0) = qa := ⟨_, rfl⟩
   rw [hqa] at ht'
   have w2 : IntKind.i64.wrap ((i : Int) + 1) = ((i + 1 : Nat) : Int) := by rw [wrap64 (by omega) (by omega)]; omega
   refine gcalll (Q := fun r : List Texact × Unit => Rk b.supports.length i O r.1 (qa + (if i + 1 < b.supports.length then leverQ b.even (lds b.loads) (sp b i) (sp b (i + 1)) true + (momB b (i + 1) - momB b i) / ((sp b (i + 1) - sp b i : Int) : Rat) else 0)) 328732) ?_ ?_
   ·obtain ⟨t1, t2, v, v1, v2⟩ := id ht'
    rcases Nat.lt_or_ge (i + 1) b.supports.length with h0 | h0
    ·have pj := sp_get (b := b) (i := i + 1) (by omega)
     have rj := sp_rg hs (i := i + 1) (by omega)
     have hc : sp b i < sp b (i + 1) := hs.inc i (by omega)
     obtain ⟨mj, mj1, mj2⟩ := hm (i + 1) (by omega)
     obtain ⟨l, l1, l2⟩ := f_lever hb (fr := sp b i) (to := sp b (i + 1)) true ri.1 hc rj.2
     obtain ⟨a, a1, a2⟩ := f_eplus v2 l2 (by omega) (by omega)
     obtain ⟨d, d1, d2⟩ := f_eless mj2 mi2 (by omega) (by omega)
     obtain ⟨g, g1, g2⟩ := f_bgap hb hs (i := i) (by omega)
     obtain ⟨e, e1, e2⟩ := f_eby d2 g2 (by have := gp_pos hs i (by omega); grind) (by omega) (by omega)
     obtain ⟨f, f1, f2⟩ := f_eplus a2 e2 (by omega) (by omega)
     refine gt (decide_eq_true (by show IntKind.i64.wrap ((i : Int) + 1) < ((b.supports.length : Nat) : Int); rw [w2]; omega)) (go (idx_w w2 pj) (go (idx_q v1) (go v1 (go (idx_w w2 mj1) (go (idx_q mi1) (go l1 (go a1 (go d1 (go g1 (go e1 (go f1 (go (idx_q v1) (go v1 (gend ?_))))))))))))))
     refine Rk.set ht' hlt ((f2.mono (by omega)).cast ?_)
     rw [if_pos (by omega)]
     show _ = qa + (leverQ b.even (lds b.loads) (sp b i) (sp b (i + 1)) true + (momB b (i + 1) - momB b i) / gp b i)
     grind
    ·refine gf (decide_eq_false (by show ¬ IntKind.i64.wrap ((i : Int) + 1) < ((b.supports.length : Nat) : Int); rw [w2]; omega)) (gend ?_)
     rw [if_neg (by omega)]
     exact (ht'.mono (by omega)).cast (by grind)
   rintro ⟨ta, ua⟩ hta
   clear ht'
   obtain ⟨qb, hqb⟩ : ∃ qb, qa + (if i + 1 < b.supports.length then leverQ b.even (lds b.loads) (sp b i) (sp b (i + 1)) true + (momB b (i + 1) - momB b i) / ((sp b (i + 1) - sp b i : Int) : Rat) else 0) = qb := ⟨_, rfl⟩
   rw [hqb] at hta
   refine gcalll (Q := fun r : List Texact × Unit => Rk b.supports.length i O r.1 (qb + (if i = 0 then beyondQ b.even (lds b.loads) (sp b i) else 0)) 328940) ?_ ?_
   ·obtain ⟨t1, t2, v, v1, v2⟩ := id hta
    rcases Decidable.em (i = 0) with h0 | h0
    ·obtain ⟨l, l1, l2⟩ := f_beyond hb (a := sp b i) ri.1 ri.2
     obtain ⟨a, a1, a2⟩ := f_eplus v2 l2 (by omega) (by omega)
     refine gt (by rw [beq_iff_eq]; omega) (go (idx_q v1) (go v1 (go l1 (go a1 (go (idx_q v1) (go v1 (gend ?_)))))))
     rw [if_pos h0]
     exact Rk.set hta hlt (a2.mono (by omega))
    ·refine gf (by rw [beq_eq_false_iff_ne]; omega) (gend ?_)
     rw [if_neg h0]
     exact (hta.mono (by omega)).cast (by grind)
   rintro ⟨tb, ub⟩ htb
   clear hta
   obtain ⟨qc, hqc⟩ : ∃ qc, qb + (if i = 0 then beyondQ b.even (lds b.loads) (sp b i) else 0) = qc := ⟨_, rfl⟩
   rw [hqc] at htb
   refine gcall (Q := fun r : List Texact × Unit => Rk b.supports.length i O r.1 (qc + (if i + 1 = b.supports.length then beyondQ b.even (turnW b.length (lds b.loads)) (b.length - sp b i) else 0)) 330000) ?_ ?_
   ·obtain ⟨t1, t2, v, v1, v2⟩ := id htb
    rcases Decidable.em (i + 1 = b.supports.length) with h0 | h0
    ·have hbl : IntKind.i64.wrap (b.length - sp b i) = b.length - sp b i := wrap64 (by omega) (by omega)
     obtain ⟨l, l1, l2⟩ := f_beyond (turn_in hb) (a := b.length - sp b i) (by omega) (by show b.length - sp b i ≤ b.length; omega)
     rw [turn_lds] at l2
     obtain ⟨a, a1, a2⟩ := f_eplus v2 l2 (by omega) (by omega)
     refine gt (by rw [hw1, beq_iff_eq]; omega) (go (idx_q v1) (go v1 (go (f_turned hb hs) (go (by rw [hbl]; exact l1) (go a1 (go (idx_q v1) (go v1 (gend ?_))))))))
     rw [if_pos h0]
     exact Rk.set htb hlt (a2.mono (by omega))
    ·refine gf (by rw [hw1, beq_eq_false_iff_ne]; omega) (gend ?_)
     rw [if_neg h0]
     exact (htb.mono (by omega)).cast (by grind)
   rintro ⟨tc, uc⟩ ⟨c1, c2, v, v1, v2⟩
   refine gend ⟨hlt, tc, by simp only [w2], c1, fun j hj => ?_⟩
   rcases Decidable.em (j = i) with h | h
   ·subst h
    refine ⟨v, v1, v2.cast ?_⟩
    unfold reactB reactQ
    rw [← hqc, ← hqb, ← hqa]
   ·rw [c2 j (by omega)]
    exact hO j (by omega)
  ·have : i = b.supports.length := by omega
   subst this
   exact gf (decide_eq_false (by show ¬ ((b.supports.length : Nat) : Int) < ((b.supports.length : Nat) : Int); omega)) (gend ⟨hOl, hO⟩)
 ·rintro ⟨O, u⟩ h
  exact gend h
end Go.Proofs.YtcaopooflemnlaaGreat

/- Valid beams. -/
namespace Go.Proofs.YtcaopooflemnlaaGreat
set_option linter.unusedVariables false
set_option linter.unusedSimpArgs false

def badH1 (b : TBeam) : Bool := !nameB b.name || (decide (b.length < 1) || (decide (b.length > 1048576) || (decide (b.even < 0) || decide (b.even > 1048576))))
def badH2 (b : TBeam) : Bool := decide (((b.supports.length : Nat) : Int) < 1) || (decide (((b.supports.length : Nat) : Int) > 10) || decide (((b.loads.length : Nat) : Int) > 40))
def badS (b : TBeam) (i : Nat) : Bool := decide (sp b i < 0) || (decide (sp b i > b.length) || (decide (0 < i) && decide (sp b i ≤ sp b (i - 1))))
def badL (b : TBeam) (x : TLoad) : Bool := decide (x.at_ < 0) || (decide (x.at_ > b.length) || (decide (x.weight < 0) || decide (x.weight > 67108864)))
def validBm (b : TBeam) : Bool := !badH1 b && (!badH2 b && ((List.range b.supports.length).all (fun i => !badS b i) && b.loads.all (fun x => !badL b x)))
theorem bif_or (c d : Bool) : ((bif c then some (true, ()) else some (d, ())) : Option (Bool × Unit)) = some (c || d, ()) := by cases c <;> rfl
theorem all_of {n : Nat} {p : Nat → Bool} (h : ∀ j, j < n → p j = true) : (List.range n).all p = true := by
 rw [List.all_eq_true]
 intro j hj
 exact h j (List.mem_range.1 hj)
theorem all_not {n : Nat} {p : Nat → Bool} {k : Nat} (hk : k < n) (h : p k = false) : (List.range n).all p = false := by
 rw [List.all_eq_false]
 exact ⟨k, List.mem_range.2 hk, by rw [h]; simp⟩
theorem f_badload (b : TBeam) (x : TLoad) : F_beam_Valid_1 x b = some (badL b x) := by
 unfold F_beam_Valid_1 badL
 simp only [bif_or, Option.bind_some]
theorem bad_sup {b : TBeam} {k : Nat} (hk : k < b.supports.length) (hn : b.supports.length ≤ 1000000) (x : Int) (hx : x = sp b k) :
  ((bif (decide (x < 0)) then some (true, ()) else (bif (decide (x > b.length)) then some (true, ()) else (bif (decide ((k : Int) > 0)) then (idx b.supports (IntKind.i64.wrap ((k : Int) - 1))).bind fun x10 => some ((decide (x ≤ x10)), ()) else some (false, ()))) : Option (Bool × Unit))) = some (badS b k, ()) := by
 subst hx
 have h : ((bif (decide ((k : Int) > 0)) then (idx b.supports (IntKind.i64.wrap ((k : Int) - 1))).bind fun x10 => some ((decide (sp b k ≤ x10)), ()) else some (false, ())) : Option (Bool × Unit)) = some (decide (0 < k) && decide (sp b k ≤ sp b (k - 1)), ()) := by
  rcases Nat.eq_zero_or_pos k with h | h
  ·subst h; rfl
  ·rw [decide_eq_true (show (k : Int) > 0 by omega), decide_eq_true h, wrap64 (by omega) (by omega), show (k : Int) - 1 = ((k - 1 : Nat) : Int) from by omega, sp_idx (by omega)]
   rfl
 rw [h, bif_or, bif_or]
 rfl
theorem f_bvalid {b : TBeam} (hname : b.name.size ≤ 1000000) (hn : b.supports.length ≤ 1000000) (hl : b.loads.length ≤ 1000000) : F_beam_Valid b = some (validBm b) := by
 apply gs_eq
 unfold F_beam_Valid
 rw [f_name _ (by omega)]
 simp only [Option.bind_some, bif_or]
 have hh : (!nameB b.name || (decide (b.length < 1) || (decide (b.length > 1048576) || (decide (b.even < 0) || (decide (b.even > 1048576) || (decide (((b.supports.length : Nat) : Int) < 1) || (decide (((b.supports.length : Nat) : Int) > 10) || decide (((b.loads.length : Nat) : Int) > 40)))))))) = (badH1 b || badH2 b) := by
  unfold badH1 badH2
  simp only [Bool.or_assoc]
 rw [hh]
 cases h1 : (badH1 b || badH2 b) with
 | true =>
  refine gt rfl (gend ?_)
  unfold validBm
  rw [Bool.or_eq_true] at h1
  rcases h1 with h | h <;> simp [h]
 | false =>
  rw [Bool.or_eq_false_iff] at h1
  refine gf rfl ?_
  refine gloop (fun r : (Bool × Unit) ⊕ Unit => match r with
    | .inl y => y.1 = false ∧ (List.range b.supports.length).all (fun i => !badS b i) = false
    | .inr _ => (List.range b.supports.length).all (fun i => !badS b i) = true)
   (fun k s => s = ((k : Int), ()) ∧ ∀ j, j < k → (!badS b j) = true) b.supports.length (by unfold big; omega) ⟨rfl, fun j hj => absurd hj (Nat.not_lt_zero j)⟩ ?_ ?_
  ·rintro k s hk ⟨rfl, hj⟩
   rcases Nat.lt_or_ge k b.supports.length with hlt | hge
   ·refine gt (decide_eq_true (by show (k : Int) < ((b.supports.length : Nat) : Int); omega)) (go (sp_idx hlt) (go (bad_sup hlt hn _ rfl) ?_))
    cases hb : badS b k with
    | true => exact gt rfl (gend ⟨rfl, all_not hlt (by rw [hb]; rfl)⟩)
    | false =>
     refine gf rfl (gend ⟨hlt, by show (IntKind.i64.wrap ((k : Int) + 1), ()) = (((k + 1 : Nat) : Int), ()); rw [wrap64 (by omega) (by omega)]; rfl, fun j hj2 => ?_⟩)
     rcases Decidable.em (j = k) with h | h
     ·subst h; rw [hb]; rfl
     ·exact hj j (by omega)
   ·have : k = b.supports.length := by omega
    subst this
    exact gf (decide_eq_false (by show ¬ ((b.supports.length : Nat) : Int) < ((b.supports.length : Nat) : Int); omega)) (gend (all_of hj))
  ·rintro (y | y) hr
   ·obtain ⟨h2, h3⟩ := hr
    refine gend ?_
    unfold validBm
    rw [h3, h2]
    simp
   ·simp only at hr ⊢
    refine go (f_slices_ContainsFunc_api_Load b.loads (by omega) (fun z16 => F_beam_Valid_1 z16 b) (fun x => badL b x) (fun x _ => f_badload b x)) (gend ?_)
    unfold validBm
    rw [hr, h1.1, h1.2]
    simp only [Bool.not_false, Bool.true_and]
    rw [Bool.eq_iff_iff]
    simp
theorem valid_in {b : TBeam} (h : validBm b = true) : BeamIn b ∧ SupOk b := by
 unfold validBm at h
 rw [Bool.and_eq_true, Bool.and_eq_true, Bool.and_eq_true] at h
 obtain ⟨h1, h2, h3, h4⟩ := h
 unfold badH1 at h1
 unfold badH2 at h2
 simp only [Bool.not_eq_true', Bool.or_eq_false_iff, decide_eq_false_iff_not] at h1 h2
 obtain ⟨_, a1, a2, a3, a4⟩ := h1
 obtain ⟨b1, b2, b3⟩ := h2
 rw [List.all_eq_true] at h3 h4
 have hS : ∀ i, i < b.supports.length → 0 ≤ sp b i ∧ sp b i ≤ b.length ∧ (0 < i → sp b (i - 1) < sp b i) := by
  intro i hi
  have := h3 i (List.mem_range.2 hi)
  unfold badS at this
  simp only [Bool.not_eq_true', Bool.or_eq_false_iff, Bool.and_eq_false_iff, decide_eq_false_iff_not] at this
  omega
 refine ⟨⟨by omega, by omega, by omega, by omega, ?_, by omega⟩, ⟨by omega, by omega, ?_, ?_⟩⟩
 ·intro x hx
  have := h4 x hx
  unfold badL at this
  simp only [Bool.not_eq_true', Bool.or_eq_false_iff, decide_eq_false_iff_not] at this
  unfold LoadOk
  omega
 ·intro x hx
  obtain ⟨i, hi, rfl⟩ := List.getElem_of_mem hx
  have := hS i hi
  have e : sp b i = b.supports[i] := by unfold sp; rw [List.getD_eq_getElem?_getD, List.getElem?_eq_getElem hi]; rfl
  omega
 ·intro i hi
  have := (hS (i + 1) hi).2.2 (by omega)
  simpa [sp] using this
end Go.Proofs.YtcaopooflemnlaaGreat

/- The reference's numbers of many digits (base 2^24): trim, larger, digit, plus, minus. -/
namespace Go.Proofs.YtcaopooflemnlaaGreat
set_option linter.unusedVariables false
set_option linter.unusedSimpArgs false

theorem tight_snoc {d : List Int} {x : Int} (h : x ≠ 0) : tight (d ++ [x]) := by
 unfold tight; simpa using h
theorem dg_out {l : List Int} {k : Nat} (h : l.length ≤ k) : dg l k = 0 := by simp [dg, h]
theorem tight_take {l : List Int} {m : Nat} (h : m < l.length) (hx : dg l m ≠ 0) : tight (l.take (m + 1)) := by
 rw [take_snoc h]
 rw [dg_get h] at hx
 exact tight_snoc hx
theorem g_trim {neg : Bool} {l : List Int} (hd : dig (16777216 : Int) l) (hl : l.length ≤ 16500000) : ∃ r : TBig, F_ref08_trim ⟨neg, l⟩ = some r ∧ (bv (16777216 : Int) r.d = bv (16777216 : Int) l ∧ dig (16777216 : Int) r.d ∧ tight r.d ∧ r.d.length ≤ l.length ∧ (r.neg = true ↔ neg = true ∧ bv (16777216 : Int) l ≠ 0)) := by
 unfold F_ref08_trim
 refine iter_bind (Q := fun r : Int × Unit => ∃ m : Nat, r = ((m : Int), ()) ∧ m ≤ l.length ∧ bv (16777216 : Int) (l.take m) = bv (16777216 : Int) l ∧ tight (l.take m))
  (fun k s => ∃ m : Nat, s = ((m : Int), ()) ∧ m + k = l.length ∧ bv (16777216 : Int) (l.take m) = bv (16777216 : Int) l) l.length (by unfold big; omega) ?_ ⟨l.length, rfl, rfl, by rw [List.take_length]⟩ ?_
 ·rintro k s hk ⟨m, rfl, hm, hv⟩
  cases m with
  | zero =>
   have e0 : decide (((0 : Nat) : Int) > 0) = false := by decide
   refine .inr ⟨_, ?_, 0, rfl, Nat.zero_le _, hv, by simp [tight]⟩
   simp only [e0, cond_false, Option.bind_some]
  | succ m =>
   have e0 : decide (((m + 1 : Nat) : Int) > 0) = true := by simp
   have e1 : IntKind.i64.wrap (((m + 1 : Nat) : Int) - 1) = (m : Int) := by rw [wrap64 (by omega) (by omega)]; omega
   have hlt : m < l.length := by omega
   simp only [e0, cond_true, e1]
   rw [idx_nat hlt, ← dg_get hlt]
   simp only [Option.bind_some]
   rcases Decidable.em (dg l m = 0) with h | h
   ·have e2 : (dg l m == 0) = true := by rw [h]; rfl
    rw [e2, cond_true]
    refine .inl ⟨_, rfl, by omega, m, rfl, by omega, ?_⟩
    rw [bv_take_succ, h] at hv
    simpa using hv
   ·have e2 : (dg l m == 0) = false := by simpa using h
    rw [e2, cond_false]
    exact .inr ⟨_, rfl, m + 1, rfl, by omega, hv, tight_take hlt h⟩
 ·rintro _ ⟨m, rfl, hm, hv, ht⟩
  simp only [Int.toNat_natCast]
  rw [if_pos ⟨by omega, by omega, by omega⟩]
  have hd2 := dig_take hd m
  have hz := bv_zero (by decide) hd2 ht
  rw [hv] at hz
  have hd0 : List.drop (Int.toNat 0) (l.take m) = l.take m := rfl
  rw [hd0]
  rcases Decidable.em (m = 0) with h | h
  ·have e2 : ((m : Int) == 0) = true := by simp [h]
   rw [e2, cond_true]
   refine ⟨_, rfl, hv, hd2, ht, by simp; omega, ?_⟩
   have : bv (16777216 : Int) l = 0 := hz.2 (by rw [h]; rfl)
   simp [this]
  ·have e2 : ((m : Int) == 0) = false := by simp; omega
   rw [e2, cond_false]
   refine ⟨_, rfl, hv, hd2, ht, by simp; omega, ?_⟩
   have : bv (16777216 : Int) l ≠ 0 := fun e => by
    have hl2 : (l.take m).length = m := by simp; omega
    rw [hz.1 e] at hl2
    simp at hl2
    omega
   simp [this]
theorem g_digit (l : List Int) (k : Nat) : F_ref08_digit l (k : Int) = some (dg l k) := by
 unfold F_ref08_digit
 rcases Nat.lt_or_ge k l.length with h | h
 ·have e0 : decide ((k : Int) < ((l.length : Nat) : Int)) = true := by simp; omega
  rw [e0, cond_true, idx_nat h, dg_get h]; rfl
 ·have e0 : decide ((k : Int) < ((l.length : Nat) : Int)) = false := by simp; omega
  rw [e0, cond_false]
  have : dg l k = 0 := by simp [dg, h]
  rw [this]
theorem bv_take_all {l : List Int} {k : Nat} (h : l.length ≤ k) : bv (16777216 : Int) (l.take k) = bv (16777216 : Int) l := by rw [List.take_of_length_le h]
theorem h_plus (a b : List Int) (ha : dig (16777216 : Int) a) (hb : dig (16777216 : Int) b) (hta : tight a) (htb : tight b) (hla : a.length ≤ 16500000) (hlb : b.length ≤ 16500000) :
  ∃ r, F_ref08_plus a b = some r ∧ (bv (16777216 : Int) r = bv (16777216 : Int) a + bv (16777216 : Int) b ∧ dig (16777216 : Int) r ∧ tight r ∧ r.length ≤ max a.length b.length + 1) := by
 unfold F_ref08_plus
 obtain ⟨m, hm⟩ : ∃ m, max a.length b.length = m := ⟨_, rfl⟩
 rw [hm]
 refine iter_bind (Q := fun r : List Int × Unit => bv (16777216 : Int) r.1 = bv (16777216 : Int) a + bv (16777216 : Int) b ∧ dig (16777216 : Int) r.1 ∧ tight r.1 ∧ r.1.length ≤ m + 1)
  (fun k s => ∃ c out, s = (c, (k : Int), out, ()) ∧ out.length = k ∧ dig (16777216 : Int) out ∧ 0 ≤ c ∧ c ≤ 1 ∧ bv (16777216 : Int) out + (16777216 : Int) ^ k * c = bv (16777216 : Int) (a.take k) + bv (16777216 : Int) (b.take k) ∧ (m < k → c = 0) ∧ (m ≤ k → c = 0 → tight out)) (m + 1) (by unfold big; omega) ?_ ⟨0, [], rfl, rfl, (fun x hx => nomatch hx), by omega, by omega, by simp [bv], fun _ => rfl, fun _ _ => by simp [tight]⟩ ?_
 ·rintro k s hk ⟨c, out, rfl, hlo, hdo, hc0, hc1, hv, hcm, htm⟩
  simp only
  obtain ⟨t, ht1, ht2⟩ : ∃ t : Bool, ((bif (decide ((k : Int) < ((a.length : Nat) : Int))) then some (true, ()) else (bif (decide ((k : Int) < ((b.length : Nat) : Int))) then some (true, ()) else some ((decide (c > 0)), ()))) : Option (Bool × Unit)) = some (t, ()) ∧ (t = true ↔ k < m ∨ 0 < c) := by
   rcases Nat.lt_or_ge k a.length with h | h
   ·have e0 : decide ((k : Int) < ((a.length : Nat) : Int)) = true := by simp; omega
    rw [e0]; exact ⟨true, rfl, by simp; omega⟩
   ·have e0 : decide ((k : Int) < ((a.length : Nat) : Int)) = false := by simp; omega
    rw [e0, cond_false]
    rcases Nat.lt_or_ge k b.length with h2 | h2
    ·have e0 : decide ((k : Int) < ((b.length : Nat) : Int)) = true := by simp; omega
     rw [e0]; exact ⟨true, rfl, by simp; omega⟩
    ·have e0 : decide ((k : Int) < ((b.length : Nat) : Int)) = false := by simp; omega
     rw [e0, cond_false]
     exact ⟨_, rfl, by simp; omega⟩
  rw [ht1]
  simp only [Option.bind_some]
  rcases Bool.eq_false_or_eq_true t with h | h
  ·have hor := ht2.1 h
   subst h
   have hkm : k < m + 1 := by
    rcases hor with h | h
    ·omega
    ·rcases Nat.lt_or_ge m k with h2 | h2
     ·have := hcm h2; omega
     ·omega
   simp only [cond_true]
   rw [g_digit, g_digit]
   simp only [Option.bind_some]
   have hx := dg_range (by decide) ha k
   have hy := dg_range (by decide) hb k
   have h1 := bv_take_succ (16777216 : Int) a k
   have h2 := bv_take_succ (16777216 : Int) b k
   obtain ⟨x, hxe⟩ : ∃ x, dg a k = x := ⟨_, rfl⟩
   obtain ⟨y, hye⟩ : ∃ y, dg b k = y := ⟨_, rfl⟩
   rw [hxe] at hx h1 ⊢
   rw [hye] at hy h2 ⊢
   have w1 : IntKind.i64.wrap (IntKind.i64.wrap (x + y) + c) = x + y + c := by rw [wrap64 (n := x + y) (by omega) (by omega), wrap64 (by omega) (by omega)]
   rw [w1, if_pos (by simp; omega), Int.tmod_eq_emod_of_nonneg (by omega), Int.tdiv_eq_ediv_of_nonneg (by omega), wrap64 (n := (x + y + c) / 16777216) (by omega) (by omega), wrap64 (n := (k : Int) + 1) (by omega) (by omega)]
   refine .inl ⟨_, rfl, hkm, _, _, rfl, by simp [hlo], dig_snoc hdo (by omega) (by omega), by omega, by omega, ?_, ?_, ?_⟩
   ·rw [bv_append, hlo, h1, h2]
    simp only [bv, Int.mul_zero, Int.add_zero]
    have h3 : (16777216 : Int) ^ (k + 1) = (16777216 : Int) ^ k * (16777216 : Int) := Int.pow_succ _ _
    have h4 := Int.emod_add_mul_ediv (x + y + c) (16777216 : Int)
    rw [h3]
    generalize (x + y + c) % (16777216 : Int) = q at h4 ⊢
    generalize (x + y + c) / (16777216 : Int) = t at h4 ⊢
    generalize bv (16777216 : Int) (a.take k) = A at *
    generalize bv (16777216 : Int) (b.take k) = D at *
    grind
   ·intro hlt
    have hk2 : m = k := by omega
    have : x = 0 := by rw [← hxe]; exact dg_out (by omega)
    have : y = 0 := by rw [← hye]; exact dg_out (by omega)
    omega
   ·intro hle hz
    rcases Nat.lt_or_ge k m with h | h
    ·-- the last digit of the longer one
     have hk2 : m = k + 1 := by omega
     have hone : x ≠ 0 ∨ y ≠ 0 := by
      rcases Nat.lt_or_ge k a.length with h3 | h3
      ·left
       intro e
       have : a = a.take k ++ [a[k]] := by rw [← take_snoc h3, List.take_of_length_le (by omega)]
       apply hta
       rw [this, ← dg_get h3, hxe, e]; simp
      ·right
       intro e
       have h4 : k < b.length := by omega
       have : b = b.take k ++ [b[k]] := by rw [← take_snoc h4, List.take_of_length_le (by omega)]
       apply htb
       rw [this, ← dg_get h4, hye, e]; simp
     exact tight_snoc (by omega)
    ·have : x = 0 := by rw [← hxe]; exact dg_out (by omega)
     have : y = 0 := by rw [← hye]; exact dg_out (by omega)
     exact tight_snoc (by omega)
  ·have hor : ¬(k < m ∨ 0 < c) := by rw [← ht2, h]; simp
   subst h
   have hc : c = 0 := by omega
   refine .inr ⟨(out, ()), by simp only [cond_false], ?_, hdo, htm (by omega) hc, by show out.length ≤ _; omega⟩
   rw [hc, bv_take_all (by omega), bv_take_all (by omega)] at hv
   show bv (16777216 : Int) out = _
   rw [← hv]; simp
 ·rintro ⟨r, u⟩ ⟨q1, q2, q3, q4⟩
  exact ⟨r, rfl, q1, q2, q3, q4⟩
theorem h_minus (a b : List Int) (ha : dig (16777216 : Int) a) (hb : dig (16777216 : Int) b) (hla : a.length ≤ 16500000) (hle : b.length ≤ a.length) (hv0 : bv (16777216 : Int) b ≤ bv (16777216 : Int) a) :
  ∃ r, F_ref08_minus a b = some r ∧ (bv (16777216 : Int) r = bv (16777216 : Int) a - bv (16777216 : Int) b ∧ dig (16777216 : Int) r ∧ r.length = a.length) := by
 unfold F_ref08_minus
 refine iter_bind (Q := fun r : List Int × Unit => bv (16777216 : Int) r.1 = bv (16777216 : Int) a - bv (16777216 : Int) b ∧ dig (16777216 : Int) r.1 ∧ r.1.length = a.length)
  (fun k s => ∃ c out, s = (c, (k : Int), out, ()) ∧ k ≤ a.length ∧ out.length = k ∧ dig (16777216 : Int) out ∧ 0 ≤ c ∧ c ≤ 1 ∧ bv (16777216 : Int) out - (16777216 : Int) ^ k * c = bv (16777216 : Int) (a.take k) - bv (16777216 : Int) (b.take k)) a.length (by unfold big; omega) ?_ ⟨0, [], rfl, Nat.zero_le _, rfl, (fun x hx => nomatch hx), by omega, by omega, by simp [bv]⟩ ?_
 ·rintro k s hk ⟨c, out, rfl, _, hlo, hdo, hc0, hc1, hv⟩
  rcases Nat.lt_or_ge k a.length with hlt | hge
  ·have e0 : decide ((k : Int) < ((a.length : Nat) : Int)) = true := by simp; omega
   simp only [e0, cond_true]
   rw [idx_nat hlt, ← dg_get hlt, g_digit]
   simp only [Option.bind_some]
   have hx := dg_range (by decide) ha k
   have hy := dg_range (by decide) hb k
   have h1 := bv_take_succ (16777216 : Int) a k
   have h2 := bv_take_succ (16777216 : Int) b k
   obtain ⟨x, hxe⟩ : ∃ x, dg a k = x := ⟨_, rfl⟩
   obtain ⟨y, hye⟩ : ∃ y, dg b k = y := ⟨_, rfl⟩
   rw [hxe] at hx h1 ⊢
   rw [hye] at hy h2 ⊢
   have w1 : IntKind.i64.wrap (IntKind.i64.wrap (x - y) - c) = x - y - c := by rw [wrap64 (n := x - y) (by omega) (by omega), wrap64 (by omega) (by omega)]
   rw [w1]
   refine .inl (step_of hlt ?_)
   have hp : ∃ c' z, ((bif (decide (x - y - c < 0)) then some (1, (IntKind.i64.wrap (x - y - c + 16777216)), ()) else some (0, (x - y - c), ()) : Option (Int × Int × Unit))) = some (c', z, ()) ∧ 0 ≤ c' ∧ c' ≤ 1 ∧ 0 ≤ z ∧ z < 16777216 ∧ z - 16777216 * c' = x - y - c := by
    rcases Int.lt_or_le (x - y - c) 0 with h | h
    ·have e : decide (x - y - c < 0) = true := by simpa using h
     rw [e]
     exact ⟨1, x - y - c + 16777216, by rw [wrap64 (by omega) (by omega)]; rfl, by omega, by omega, by omega, by omega, by omega⟩
    ·have e : decide (x - y - c < 0) = false := by simpa using h
     rw [e]
     exact ⟨0, x - y - c, rfl, by omega, by omega, by omega, by omega, by omega⟩
   obtain ⟨c', z, p1, p2, p3, p4, p5, p6⟩ := hp
   rw [p1]
   simp only [Option.bind_some]
   rw [if_pos (by simp; omega), wrap64 (n := (k : Int) + 1) (by omega) (by omega)]
   refine ⟨_, rfl, _, rfl, c', _, rfl, hlt, by simp [hlo], dig_snoc hdo p4 p5, p2, p3, ?_⟩
   rw [bv_append, hlo, h1, h2]
   simp only [bv, Int.mul_zero, Int.add_zero]
   have h3 : (16777216 : Int) ^ (k + 1) = (16777216 : Int) ^ k * (16777216 : Int) := Int.pow_succ _ _
   rw [h3]
   generalize bv (16777216 : Int) (a.take k) = A at *
   generalize bv (16777216 : Int) (b.take k) = D at *
   grind
  ·have hk' : k = a.length := by omega
   subst hk'
   have e0 : decide (((a.length : Nat) : Int) < ((a.length : Nat) : Int)) = false := by simp
   refine .inr ⟨(out, ()), by simp only [e0, cond_false], ?_, hdo, hlo⟩
   rw [List.take_length, bv_take_all hle] at hv
   have hr := bv_range (by decide) hdo
   rw [hlo] at hr
   show bv (16777216 : Int) out = _
   have hc : c = 0 := by
    rcases Int.lt_or_le c 1 with h | h
    ·omega
    ·have : c = 1 := by omega
     rw [this, Int.mul_one] at hv
     omega
   rw [hc, Int.mul_zero, Int.sub_zero] at hv
   exact hv
 ·rintro ⟨r, u⟩ ⟨q1, q2, q3⟩
  exact ⟨r, rfl, q1, q2, q3⟩
end Go.Proofs.YtcaopooflemnlaaGreat

/- The reference's numbers of many digits: Int, Neg, Product, Sum, half, even. -/
namespace Go.Proofs.YtcaopooflemnlaaGreat
set_option linter.unusedVariables false
set_option linter.unusedSimpArgs false

structure Wg (l : List Int) (v : Nat) : Prop where
 dig : dig (16777216 : Int) l
 tight : tight l
 len : l.length ≤ 16000000
 val : bv (16777216 : Int) l = v
structure Nb (a : TBig) (v : Int) : Prop where
 w : Wg a.d v.natAbs
 neg : a.neg = true ↔ v < 0
 len : a.d.length ≤ 8000000
theorem Wg.zero {l : List Int} {v : Nat} (h : Wg l v) : l = [] ↔ v = 0 := by
 rw [← bv_zero (by decide) h.dig h.tight, h.val]; omega
theorem Wg.lt {l : List Int} {v : Nat} (h : Wg l v) : v < 2 ^ (24 * l.length) := by
 have h1 := (bv_range (by decide) h.dig).2
 rw [h.val] at h1
 have e : (16777216 : Int) ^ l.length = ((2 ^ (24 * l.length) : Nat) : Int) := by
  rw [Nat.pow_mul, Int.natCast_pow]; rfl
 rw [e] at h1
 exact_mod_cast h1
theorem Wg.le {a b : List Int} {u v : Nat} (ha : Wg a u) (hb : Wg b v) (h : u ≤ v) : a.length ≤ b.length := by
 rcases Nat.lt_or_ge b.length a.length with hl | hl
 ·have := bv_lt_len (by decide) hb.dig ha.dig ha.tight hl
  rw [ha.val, hb.val] at this
  omega
 ·exact hl
theorem Wg.add {a b : List Int} {u v : Nat} (ha : Wg a u) (hb : Wg b v) (hl : max a.length b.length + 1 ≤ 16000000) : ∃ r, F_ref08_plus a b = some r ∧ Wg r (u + v) ∧ r.length ≤ max a.length b.length + 1 := by
 obtain ⟨r, r1, r2, r3, r4, r5⟩ := h_plus a b ha.dig hb.dig ha.tight hb.tight (by have := ha.len; omega) (by have := hb.len; omega)
 exact ⟨r, r1, ⟨r3, r4, by omega, by rw [r2, ha.val, hb.val]; omega⟩, r5⟩
theorem Wg.sub {a b : List Int} {u v : Nat} (neg : Bool) (ha : Wg a u) (hb : Wg b v) (h : v ≤ u) : ∃ r t, F_ref08_minus a b = some r ∧ F_ref08_trim ⟨neg, r⟩ = some t ∧ Wg t.d (u - v) ∧ t.d.length ≤ a.length ∧ (t.neg = true ↔ neg = true ∧ u - v ≠ 0) := by
 obtain ⟨r, r1, r2, r3, r4⟩ := h_minus a b ha.dig hb.dig (by have := ha.len; omega) (hb.le ha h) (by rw [ha.val, hb.val]; omega)
 obtain ⟨t, t1, t2, t3, t4, t5, t6⟩ := g_trim (neg := neg) r3 (by rw [r4]; have := ha.len; omega)
 have hv : bv (16777216 : Int) r = ((u - v : Nat) : Int) := by rw [r2, ha.val, hb.val]; omega
 refine ⟨r, t, r1, t1, ⟨t3, t4, by have := ha.len; omega, by rw [t2, hv]⟩, by omega, ?_⟩
 rw [t6, hv]
 exact and_congr_right fun _ => by omega
end Go.Proofs.YtcaopooflemnlaaGreat

/- The reference's numbers of many digits: Gcd. -/
namespace Go.Proofs.YtcaopooflemnlaaGreat
set_option linter.unusedVariables false
set_option linter.unusedSimpArgs false

theorem Wg.ne {l : List Int} {v : Nat} (h : Wg l v) (hv : 0 < v) : 0 < l.length := by
 apply List.length_pos_iff.2
 intro e
 have := h.zero.1 e
 omega
end Go.Proofs.YtcaopooflemnlaaGreat

/- The reference's exact numbers: Quotient, Lower; Plus, Less, Times, Over, Sign, Cmp as rational numbers. -/
namespace Go.Proofs.YtcaopooflemnlaaGreat
set_option linter.unusedVariables false
set_option linter.unusedSimpArgs false

structure Gq (x : TExact) (q : Rat) (c : Nat) : Prop where
 ex : ∃ v w : Int, Nb x.n v ∧ Nb x.d w ∧ 0 < w ∧ q * (w : Rat) = (v : Rat)
 ln : x.n.d.length ≤ c
 ld : x.d.d.length ≤ c
theorem Gq.mono {x : TExact} {q : Rat} {c e : Nat} (h : Gq x q c) (hc : c ≤ e) : Gq x q e := ⟨h.ex, Nat.le_trans h.ln hc, Nat.le_trans h.ld hc⟩
theorem Gq.cast {x : TExact} {q r : Rat} {c : Nat} (h : Gq x q c) (e : q = r) : Gq x r c := e ▸ h
end Go.Proofs.YtcaopooflemnlaaGreat

/- The reference's beams as rational numbers: Turned, Left, Right, far. -/
namespace Go.Proofs.YtcaopooflemnlaaGreat
set_option linter.unusedVariables false
set_option linter.unusedSimpArgs false

theorem Gq.skip {x : TExact} {q : Rat} {c e : Nat} (h : Gq x q c) : Gq x (q + 0) (c + e) := (h.mono (Nat.le_add_right _ _)).cast (by grind)
end Go.Proofs.YtcaopooflemnlaaGreat

/- What the program and the reference tell of a beam's moments and reactions. -/
namespace Go.Proofs.YtcaopooflemnlaaGreat
set_option linter.unusedVariables false
set_option linter.unusedSimpArgs false

def tilt (b : TBeam) : Prop := b.supports.length = 1 ∧ fstQ b ≠ lstQ b
def reaL (b : TBeam) : List Rat := (List.range b.supports.length).map (reactB b)
structure SmallB (b : TBeam) : Prop where
 name : b.name.size ≤ 1000000
 sup : b.supports.length ≤ 1000000
 ld : b.loads.length ≤ 1000000
theorem list_of {α : Type} {R : α → Rat → Prop} {l : List α} {n : Nat} (f : Nat → Rat) (hl : l.length = n) (h : ∀ i, i < n → ∃ x, l[i]? = some x ∧ R x (f i)) : ∀ (i : Nat) (h1 : i < l.length) (h2 : i < ((List.range n).map f).length), R l[i] ((List.range n).map f)[i] := by
 intro i h1 h2
 obtain ⟨x, x1, x2⟩ := h i (by omega)
 rw [List.getElem?_eq_getElem h1] at x1
 injection x1 with x1
 rw [x1]
 simpa using x2
theorem f_given_ok {b : TBeam} (hw : SmallB b) (h : validBm b = true) (ht : ¬ tilt b) : Gs (F_beam_given b) fun r => r.2 = 0 ∧ r.1.length = b.supports.length ∧ ∀ i, i < b.supports.length → ∃ x, r.1[i]? = some x ∧ Xq x (momB b i) 82000 := by
 obtain ⟨hb, hs⟩ := valid_in h
 unfold F_beam_given
 refine go (f_bvalid hw.name hw.sup hw.ld) (gf (by rw [h]; rfl) (gcall (f_moments hb hs) fun r hr => ?_))
 have h2 : r.2 = true := hr.1.2 fun h1 => Classical.byContradiction fun h3 => ht ⟨h1, h3⟩
 refine gf (by rw [h2]; rfl) (gend ⟨rfl, hr.2 h2⟩)
theorem f_Reactions {b : TBeam} (hw : SmallB b) (h : validBm b = true) (ht : ¬ tilt b) : F_beam_Reactions b = some (outL (reaL b)) := by
 apply gs_eq
 obtain ⟨hb, hs⟩ := valid_in h
 have hn : b.supports.length ≤ 10 := hs.n10
 unfold F_beam_Reactions
 refine gcall (f_given_ok hw h ht) fun r hr => ?_
 obtain ⟨h1, h2, h3⟩ := hr
 refine gf (by rw [h1]; rfl) (gcall (f_reactions hb hs h3) fun t ht => ?_)
 refine go (f_fractions (qs := reaL b) (c := 330000) (by omega) (by rw [ht.1]; unfold reaL; simp) ?_) (gend rfl)
 exact list_of (R := fun x q => Xq x q 330000) (reactB b) ht.1 ht.2
end Go.Proofs.YtcaopooflemnlaaGreat

/- All weight is borne; the moments of a beam that doesn't tilt. -/
namespace Go.Proofs.YtcaopooflemnlaaGreat
set_option linter.unusedVariables false
set_option linter.unusedSimpArgs false

def wgtQ (b : TBeam) : Rat := (b.even : Rat) * b.length / 1000 + sumQ (fun x : Ld => (x.2 : Rat)) (lds b.loads)
def leQ (w : List Ld) (a : Int) : Rat := sumQ (fun x => if x.1 ≤ a then (x.2 : Rat) else 0) w
theorem le_split (w : List Ld) (a : Int) : leQ w a = atQ w a + sumQ (fun x => if x.1 < a then (x.2 : Rat) else 0) w := by
 unfold leQ atQ
 rw [← sumQ_add]
 apply sumQ_congr
 intro x _
 rcases Int.lt_trichotomy x.1 a with h | h | h
 ·rw [if_pos (by omega), if_neg (by omega), if_pos h]; grind
 ·rw [if_pos (by omega), if_pos h, if_neg (by omega)]; grind
 ·rw [if_neg (by omega), if_neg (by omega), if_neg (by omega)]; grind
theorem le_next (w : List Ld) {a c : Int} (h : a < c) : leQ w c = leQ w a + sumQ (fun x => if x.1 ≤ a ∨ c ≤ x.1 then 0 else (x.2 : Rat)) w + atQ w c := by
 unfold leQ atQ
 rw [← sumQ_add, ← sumQ_add]
 apply sumQ_congr
 intro x _
 rcases Int.lt_or_le a x.1 with h1 | h1
 ·rcases Int.lt_trichotomy x.1 c with h2 | h2 | h2
  ·rw [if_pos (by omega), if_neg (by omega), if_neg (by omega), if_neg (by omega)]; grind
  ·rw [if_pos (by omega), if_neg (by omega), if_pos (by omega), if_pos h2]; grind
  ·rw [if_neg (by omega), if_neg (by omega), if_pos (by omega), if_neg (by omega)]; grind
 ·rw [if_pos (by omega), if_pos h1, if_pos (.inl h1), if_neg (by omega)]; grind
theorem le_end {L : Int} {w : List Ld} (s : Int) : leQ w s + sumQ (fun x => if x.1 < L - s then (x.2 : Rat) else 0) (turnW L w) = sumQ (fun x => (x.2 : Rat)) w := by
 unfold leQ turnW
 rw [sumQ_map, ← sumQ_add]
 apply sumQ_congr
 intro x _
 simp only
 by_cases h : x.1 ≤ s
 ·rw [if_pos h, if_neg (by omega)]; grind
 ·rw [if_neg h, if_pos (by omega)]; grind
theorem sumQ_range (f : Nat → Rat) : ∀ (n : Nat), sumQ f (List.range n) = sumN f n
 | 0 => rfl
 | n + 1 => by rw [List.range_succ, sumQ_append, sumQ_range f n]; simp only [sumQ, sumN]; grind
def Fk (b : TBeam) (k : Nat) : Rat := sumN (reactB b) k
def Tk (b : TBeam) (k : Nat) : Rat := sumN (fun i => reactB b i * (sp b i : Rat)) k
theorem cast_sub' (a c : Int) : ((a - c : Int) : Rat) = (a : Rat) - (c : Rat) := Rat.intCast_sub a c
theorem gp_ne {b : TBeam} (hs : SupOk b) {i : Nat} (h : i + 1 < b.supports.length) : gp b i ≠ 0 := by
 have := gp_pos hs i h
 grind
theorem equil {b : TBeam} (hb : BeamIn b) (hs : SupOk b) (ht : ¬ tilt b) : ∀ (k : Nat), k < b.supports.length →
  (Fk b (k + 1) = if k + 1 < b.supports.length then (b.even : Rat) * (sp b k : Rat) / 1000 + leQ (lds b.loads) (sp b k) + (leverQ b.even (lds b.loads) (sp b k) (sp b (k + 1)) true + (momB b (k + 1) - momB b k) / gp b k) else wgtQ b) ∧
  Fk b (k + 1) * (sp b k : Rat) - Tk b (k + 1) = momB b k + overQ b.even (lds b.loads) (sp b k) := by
 intro k
 have hfin : ∀ k, k + 1 = b.supports.length → (b.even : Rat) * (sp b k : Rat) / 1000 + leQ (lds b.loads) (sp b k) + beyondQ b.even (turnW b.length (lds b.loads)) (b.length - sp b k) = wgtQ b := by
  intro k hk
  have h1 := le_end (L := b.length) (w := lds b.loads) (sp b k)
  unfold beyondQ wgtQ
  rw [cast_sub']
  grind
 induction k with
 | zero =>
  intro h0
  have hr : reactB b 0 = atQ (lds b.loads) (sp b 0) + 0 + (if 0 + 1 < b.supports.length then leverQ b.even (lds b.loads) (sp b 0) (sp b (0 + 1)) true + (momB b (0 + 1) - momB b 0) / gp b 0 else 0) + beyondQ b.even (lds b.loads) (sp b 0) + (if 0 + 1 = b.supports.length then beyondQ b.even (turnW b.length (lds b.loads)) (b.length - sp b 0) else 0) := by
   unfold reactB reactQ
   rw [if_neg (by omega), if_pos rfl]
   rfl
  have hF : Fk b (0 + 1) = reactB b 0 := by unfold Fk; simp only [sumN]; grind
  have hT : Tk b (0 + 1) = reactB b 0 * (sp b 0 : Rat) := by unfold Tk; simp only [sumN]; grind
  have hl := le_split (lds b.loads) (sp b 0)
  have hM : momB b 0 = fstQ b := by
   unfold momB
   by_cases h1 : b.supports.length = 1
   ·have := Classical.byContradiction fun h3 => ht ⟨h1, h3⟩
    rw [show (0 : Nat) = b.supports.length - 1 from by omega, mom_last]
    exact this.symm
   ·rw [mom_first _ _ _ _ (by omega)]
  constructor
  ·rw [hF, hr]
   by_cases h1 : 0 + 1 < b.supports.length
   ·rw [if_pos h1, if_pos h1, if_neg (by omega)]
    unfold beyondQ
    grind
   ·have h2 : 0 + 1 = b.supports.length := by omega
    have h3 := hfin 0 h2
    rw [if_neg h1, if_neg h1, if_pos h2, ← h3, hl]
    unfold beyondQ
    grind
  ·rw [hF, hT, hM]
   unfold fstQ
   grind
 | succ k ih =>
  intro h0
  obtain ⟨h1, h2⟩ := ih (by omega)
  rw [if_pos (by omega)] at h1
  have hlt : sp b k < sp b (k + 1) := hs.inc k (by omega)
  have hr : reactB b (k + 1) = atQ (lds b.loads) (sp b (k + 1)) + (leverQ b.even (lds b.loads) (sp b k) (sp b (k + 1)) false + (momB b k - momB b (k + 1)) / gp b k) + (if k + 1 + 1 < b.supports.length then leverQ b.even (lds b.loads) (sp b (k + 1)) (sp b (k + 1 + 1)) true + (momB b (k + 1 + 1) - momB b (k + 1)) / gp b (k + 1) else 0) + 0 + (if k + 1 + 1 = b.supports.length then beyondQ b.even (turnW b.length (lds b.loads)) (b.length - sp b (k + 1)) else 0) := by
   unfold reactB reactQ
   rw [if_pos (show 0 < k + 1 by omega), if_neg (show ¬ k + 1 = 0 by omega)]
   rfl
  have hF : Fk b (k + 1 + 1) = Fk b (k + 1) + reactB b (k + 1) := rfl
  have hT : Tk b (k + 1 + 1) = Tk b (k + 1) + reactB b (k + 1) * (sp b (k + 1) : Rat) := rfl
  have hbo := lever_both (E := b.even) (w := lds b.loads) hlt
  have hln := le_next (lds b.loads) hlt
  have hov := over_next (E := b.even) (w := lds b.loads) hlt
  have hg := gp_ne hs (i := k) (by omega)
  have hgd : ((sp b (k + 1) - sp b k : Int) : Rat) = gp b k := rfl
  have hgs : gp b k = (sp b (k + 1) : Rat) - (sp b k : Rat) := cast_sub' _ _
  rw [hgd] at hbo hov
  have hcut : (b.even : Rat) * (sp b (k + 1) : Rat) / 1000 + leQ (lds b.loads) (sp b (k + 1)) = Fk b (k + 1) + (atQ (lds b.loads) (sp b (k + 1)) + (leverQ b.even (lds b.loads) (sp b k) (sp b (k + 1)) false + (momB b k - momB b (k + 1)) / gp b k)) := by
   rw [h1, hln]
   have e : (momB b (k + 1) - momB b k) / gp b k + (momB b k - momB b (k + 1)) / gp b k = 0 := by grind
   grind
  constructor
  ·rw [hF, hr]
   by_cases h3 : k + 1 + 1 < b.supports.length
   ·rw [if_pos h3, if_pos h3, if_neg (by omega)]
    grind
   ·have h4 : k + 1 + 1 = b.supports.length := by omega
    have h5 := hfin (k + 1) h4
    rw [if_neg h3, if_neg h3, if_pos h4, ← h5]
    grind
  ·rw [hF, hT]
   have e1 : gp b k * ((momB b (k + 1) - momB b k) / gp b k) = momB b (k + 1) - momB b k := by grind
   have e2 : (Fk b (k + 1) + reactB b (k + 1)) * (sp b (k + 1) : Rat) - (Tk b (k + 1) + reactB b (k + 1) * (sp b (k + 1) : Rat)) = (Fk b (k + 1) * (sp b k : Rat) - Tk b (k + 1)) + gp b k * Fk b (k + 1) := by
    rw [hgs]; grind
   rw [e2, h2, hov]
   have e3 : leQ (lds b.loads) (sp b k) = sumQ (fun x : Ld => if x.1 ≤ sp b k then (x.2 : Rat) else 0) (lds b.loads) := rfl
   rw [← e3]
   have e4 : gp b k * Fk b (k + 1) = gp b k * ((b.even : Rat) * (sp b k : Rat) / 1000 + leQ (lds b.loads) (sp b k)) + gp b k * leverQ b.even (lds b.loads) (sp b k) (sp b (k + 1)) true + gp b k * ((momB b (k + 1) - momB b k) / gp b k) := by
    rw [h1]; grind
   rw [e4, e1]
   grind
theorem all_weight {b : TBeam} (hb : BeamIn b) (hs : SupOk b) (ht : ¬ tilt b) : Fk b b.supports.length = wgtQ b := by
 have hn := hs.n1
 have h := (equil hb hs ht (b.supports.length - 1) (by omega)).1
 rw [if_neg (by omega), show b.supports.length - 1 + 1 = b.supports.length from by omega] at h
 exact h
end Go.Proofs.YtcaopooflemnlaaGreat

/- The beam of a valid set; the set seen from the other side. -/
namespace Go.Proofs.YtcaopooflemnlaaGreat
set_option linter.unusedVariables false
set_option linter.unusedSimpArgs false

def setBeam (s : TSet) : TBeam := ⟨s.name, s.length, s.lines, s.items.map (fun x => ⟨x.at_ + x.width / 2, x.weight⟩), s.pipe⟩
theorem set_sp {s : TSet} {i : Nat} (h : i < s.lines.length) : sp (setBeam s) i = s.lines[i] := by
 show s.lines.getD i 0 = _
 rw [List.getD_eq_getElem?_getD, List.getElem?_eq_getElem h]; rfl
theorem set_valid {s : TSet} (hg : Good s) : validBm (setBeam s) = true ∧ ¬ tilt (setBeam s) := by
 have a1 := hg.n0; have a2 := hg.n1; have a3 := hg.p0; have a4 := hg.p1; have a5 := hg.ln0; have a6 := hg.ln1; have a7 := hg.ni
 constructor
 ·unfold validBm
  rw [Bool.and_eq_true, Bool.and_eq_true, Bool.and_eq_true]
  refine ⟨?_, ?_, ?_, ?_⟩
  ·unfold badH1
   simp only [Bool.not_eq_true', Bool.or_eq_false_iff, decide_eq_false_iff_not, Bool.not_eq_false']
   refine ⟨hg.name, ?_, ?_, ?_, ?_⟩
   ·show ¬ s.length < 1; omega
   ·show ¬ s.length > 1048576; omega
   ·show ¬ s.pipe < 0; omega
   ·show ¬ s.pipe > 1048576; omega
  ·unfold badH2
   simp only [Bool.not_eq_true', Bool.or_eq_false_iff, decide_eq_false_iff_not]
   refine ⟨?_, ?_, ?_⟩
   ·show ¬ ((s.lines.length : Nat) : Int) < 1; omega
   ·show ¬ ((s.lines.length : Nat) : Int) > 10; omega
   ·show ¬ (((s.items.map _).length : Nat) : Int) > 40; rw [List.length_map]; omega
  ·apply all_of
   intro j hj
   have hj2 : j < s.lines.length := hj
   have h := hg.lat j hj2
   rw [lineAt_eq _ _ _ hj2, Bool.and_eq_true, between_iff, Bool.or_eq_true, decide_eq_true_iff, decide_eq_true_iff] at h
   have e1 := set_sp hj2
   have e2 := set_sp (s := s) (i := j - 1) (by omega)
   unfold badS
   simp only [Bool.not_eq_true', Bool.or_eq_false_iff, Bool.and_eq_false_iff, decide_eq_false_iff_not]
   rw [e1, e2]
   show ¬ s.lines[j] < 0 ∧ ¬ s.lines[j] > s.length ∧ _
   omega
  ·rw [List.all_eq_true]
   intro x hx
   obtain ⟨y, hy, rfl⟩ := List.mem_map.1 hx
   have h := hg.items y hy
   have b1 := h.p0; have b2 := h.w1; have b3 := h.pw; have b4 := h.m0; have b5 := h.m1
   unfold badL
   simp only [Bool.not_eq_true', Bool.or_eq_false_iff, decide_eq_false_iff_not]
   show ¬ y.at_ + y.width / 2 < 0 ∧ ¬ y.at_ + y.width / 2 > s.length ∧ ¬ y.weight < 0 ∧ ¬ y.weight > 67108864
   omega
 ·rintro ⟨h, _⟩
  have : s.lines.length = 1 := h
  omega
theorem set_small {s : TSet} (hn : s.name.size ≤ 1000000) (hg : Good s) : SmallB (setBeam s) := by
 have a6 := hg.ln1; have a7 := hg.ni
 exact ⟨hn, by show s.lines.length ≤ _; omega, by show (s.items.map _).length ≤ _; rw [List.length_map]; omega⟩
theorem sum_weights (s : TSet) : sumQ (fun x : Ld => (x.2 : Rat)) (lds (setBeam s).loads) = ((sumTo (·.weight) s.items s.items.length : Int) : Rat) := by
 unfold lds setBeam sumTo
 rw [List.take_length]
 simp only [List.map_map]
 rw [sumQ_map]
 have : ∀ l : List TItem, sumQ (fun x : TItem => ((((fun x : TLoad => (x.at_, x.weight)) ∘ fun x : TItem => (⟨x.at_ + x.width / 2, x.weight⟩ : TLoad)) x).2 : Rat)) l = (((l.map (·.weight)).sum : Int) : Rat) := by
  intro l
  induction l with
  | nil => rfl
  | cons x l ih =>
   simp only [sumQ, List.map_cons, List.sum_cons, Rat.intCast_add]
   rw [ih]
   rfl
 exact this s.items
theorem set_weight {s : TSet} (hg : Good s) : wgtQ (setBeam s) = ((weightI s : Int) : Rat) := by
 unfold wgtQ weightI pipeI
 rw [sum_weights, Rat.intCast_add, Rat.intCast_mul]
 congr 1
 show (s.pipe : Rat) * (s.length : Rat) / 1000 = _
 have h := hg.nm
 obtain ⟨k, hk⟩ : ∃ k, s.length = 1000 * k := ⟨s.length / 1000, by omega⟩
 have h2 : s.length / 1000 = k := by omega
 rw [h2, hk, Rat.intCast_mul]
 have : ((1000 : Int) : Rat) = 1000 := rfl
 rw [this]
 grind
end Go.Proofs.YtcaopooflemnlaaGreat

/- The loads of the lines, by batten and by the reference of layer 21. -/
namespace Go.Proofs.YtcaopooflemnlaaGreat
set_option linter.unusedVariables false
set_option linter.unusedSimpArgs false

theorem mid_of {L : Int} {x : TItem} (h : GoodItem L x) (hL : L ≤ 1048576) : IntKind.i64.wrap (x.at_ + IntKind.i64.wrap (x.width.tdiv 2)) = x.at_ + x.width / 2 := by
 have b1 := h.p0; have b2 := h.w1; have b3 := h.pw
 rw [Int.tdiv_eq_ediv_of_nonneg (by omega), wrap64 (n := x.width / 2) (by omega) (by omega), wrap64 (by omega) (by omega)]
theorem t_beamOf {s : TSet} (hg : Good s) : F_batten_beamOf s = some (setBeam s) := by
 have a6 := hg.ln1; have a7 := hg.ni; have a2 := hg.n1
 apply gs_eq
 unfold F_batten_beamOf
 refine go (f_clone_int _ (by omega)) ?_
 refine gloop (fun r : TBeam × Unit => r.1 = setBeam s) (fun k t => k ≤ s.items.length ∧ t = ((k : Int), ⟨s.name, s.length, s.lines, (s.items.take k).map (fun x => ⟨x.at_ + x.width / 2, x.weight⟩), s.pipe⟩, ())) s.items.length (by unfold big; omega) ⟨Nat.zero_le _, rfl⟩ ?_ ?_
 ·rintro k t hk ⟨_, rfl⟩
  rcases Nat.lt_or_ge k s.items.length with hlt | hge
  ·have hm := mid_of (hg.items _ (List.getElem_mem hlt)) a2
   have hmid : F_batten_middle s.items[k] = some (s.items[k].at_ + s.items[k].width / 2) := by unfold F_batten_middle; rw [hm]
   refine gt (decide_eq_true (by show (k : Int) < ((s.items.length : Nat) : Int); omega)) (go (idx_at hlt) (go hmid (gif (by simp; omega) (gend ⟨hlt, hlt, ?_⟩))))
   rw [List.take_succ_eq_append_getElem hlt, List.map_append]
   show (IntKind.i64.wrap ((k : Int) + 1), _, ()) = _
   rw [wrap64 (by omega) (by omega)]
   rfl
  ·refine gf (decide_eq_false (by show ¬ (k : Int) < ((s.items.length : Nat) : Int); omega)) (gend ?_)
   show (⟨s.name, s.length, s.lines, (s.items.take k).map (fun x => ⟨x.at_ + x.width / 2, x.weight⟩), s.pipe⟩ : TBeam) = setBeam s
   rw [List.take_of_length_le hge]; rfl
 ·rintro ⟨t, u⟩ h
  exact gend h
structure Sm (s : TSet) : Prop where
 fits : Fits s
 name : s.name.size ≤ 1000000
theorem sm_of {s : TSet} {m : Int} (h : smallB s m = true) : Sm s := by
 refine ⟨small_fits h, ?_⟩
 simp only [smallB, smallH, Bool.and_eq_true, decide_eq_true_eq, List.all_eq_true] at h
 omega
def linesT (s : TSet) : List TFrac × Int := if validB s = true then outL (reaL (setBeam s)) else ([], 1)
theorem t_lines {s : TSet} (h : Sm s) : F_batten_Lines s = some (linesT s) := by
 apply gs_eq
 unfold F_batten_Lines linesT
 refine go (f_valid s h.fits) ?_
 cases hv : validB s with
 | false => exact gt rfl (gend rfl)
 | true =>
  have hg := Good.of hv
  obtain ⟨h1, h2⟩ := set_valid hg
  exact gf rfl (go (t_beamOf hg) (go (f_Reactions (set_small h.name hg) h1 h2) (gend rfl)))
theorem lq_len {s : TSet} : (reaL (setBeam s)).length = s.lines.length := by unfold reaL setBeam; simp
theorem t_weight {s : TSet} (h : Sm s) : F_batten_Weight s = some (if validB s = true then (weightI s, 0) else (0, 1)) := by
 apply gs_eq
 unfold F_batten_Weight
 refine go (f_valid s h.fits) ?_
 cases hv : validB s with
 | false => exact gt rfl (gend rfl)
 | true => exact gf rfl (go (f_weight s (Good.of hv)) (gend rfl))
end Go.Proofs.YtcaopooflemnlaaGreat

/- Lists compared; small beams. -/
namespace Go.Proofs.YtcaopooflemnlaaGreat
set_option linter.unusedVariables false
set_option linter.unusedSimpArgs false

theorem f_eqFr {a b : List TFrac} (ha : a.length ≤ 1000000) : Gs (F_slices_Equal_api_Frac a b) fun v => v = true ↔ a = b := by
 unfold F_slices_Equal_api_Frac
 by_cases hl : a.length = b.length
 ·refine gf (by rw [hl]; simp) ?_
  refine gloop (fun r : (Bool × Unit) ⊕ Unit => (∃ y, r = .inl y ∧ y.1 = false ∧ a ≠ b) ∨ (r = .inr () ∧ a = b)) (fun k s => k ≤ a.length ∧ s = ((k : Int), ()) ∧ a.take k = b.take k) a.length (by unfold big; omega) ⟨by omega, rfl, by simp⟩ ?_ ?_
  ·rintro k s hk ⟨_, rfl, hab⟩
   rcases Nat.lt_or_ge k a.length with hlt | hge
   ·refine gt (decide_eq_true (by show (k : Int) < ((a.length : Nat) : Int); omega)) (go (idx_nat hlt) (go (idx_nat (l := b) (k := k) (by omega)) ?_))
    by_cases hc : a[k] = b[k]'(by omega)
    ·refine gf (by rw [(fr_eq _ _).2 hc]; rfl) (gend ⟨hlt, hlt, ?_, ?_⟩)
     ·show (IntKind.i64.wrap ((k : Int) + 1), ()) = _
      rw [wrap64 (by omega) (by omega)]; rfl
     ·rw [List.take_succ_eq_append_getElem hlt, List.take_succ_eq_append_getElem (show k < b.length by omega), hab, hc]
    ·refine gt ?_ (gend (.inl ⟨_, rfl, rfl, fun e => hc (by subst e; rfl)⟩))
     cases hv : ((a[k].num == (b[k]'(by omega)).num) && (a[k].den == (b[k]'(by omega)).den)) with
     | false => rfl
     | true => exact absurd ((fr_eq _ _).1 hv) hc
   ·refine gf (decide_eq_false (by show ¬ (k : Int) < ((a.length : Nat) : Int); omega)) (gend (.inr ⟨rfl, ?_⟩))
    rw [List.take_of_length_le hge, List.take_of_length_le (by omega)] at hab
    exact hab
  ·rintro r (⟨y, rfl, h1, h2⟩ | ⟨rfl, h2⟩)
   ·refine gend ?_
    rw [h1]; simp [h2]
   ·refine gend ?_
    simp [h2]
 ·refine gt (by rw [bne_iff_ne]; omega) (gend ?_)
  constructor
  ·intro h; cases h
  ·intro h; exact absurd (by rw [h]) hl
theorem f_same (a : List TFrac) (ha : a.length ≤ 1000000) : F_slices_Equal_api_Frac a a = some true := by
 obtain ⟨v, h1, h2⟩ := f_eqFr (a := a) (b := a) ha
 rw [h1, h2.2 rfl]
end Go.Proofs.YtcaopooflemnlaaGreat

/- Law 22: LiftlineLoads, LiftlineWeighs, LiftlineTravels, LiftlineTurned. -/
namespace Go.Proofs.YtcaopooflemnlaaGreat
set_option linter.unusedVariables false
set_option linter.unusedSimpArgs false

theorem frq_int (n : Int) : (⟨n, 1⟩ : TFrac) = frQ (n : Rat) := (fr_int n).symm
theorem sumT_eq : ∀ (l : List Rat), sumT l = sumQ (fun x => x) l
 | [] => rfl
 | x :: l => by simp only [sumT, sumQ, sumT_eq l]
theorem head_weight {s : TSet} (hv : validB s = true) {q : Rat} (hs : sumO (reaL (setBeam s)) 0 = some q) : q = ((weightI s : Int) : Rat) := by
 have hg := Good.of hv
 obtain ⟨h1, h2⟩ := set_valid hg
 obtain ⟨hb, hsu⟩ := valid_in h1
 have e := sumO_eq _ _ _ hs
 have hw := all_weight hb hsu h2
 rw [e, sumT_eq, ← set_weight hg, ← hw]
 unfold Fk reaL
 rw [sumQ_map, sumQ_range]
 grind
end Go.Proofs.YtcaopooflemnlaaGreat

/- A set without a line: valid; its loads; what both sides make of it. -/
namespace Go.Proofs.YtcaopooflemnlaaGreat
set_option linter.unusedVariables false
set_option linter.unusedSimpArgs false

def cutS (s : TSet) (k : Nat) : TSet := { s with lines := s.lines.take k ++ s.lines.drop (k + 1) }
theorem cut_len {α : Type} {l : List α} {k : Nat} (hk : k < l.length) : (l.take k ++ l.drop (k + 1)).length = l.length - 1 := by simp; omega
theorem cut_get {α : Type} {l : List α} {k : Nat} (hk : k < l.length) {i : Nat} (hi : i < (l.take k ++ l.drop (k + 1)).length) : (l.take k ++ l.drop (k + 1))[i] = if h : i < k then l[i] else l[i + 1]'(by rw [cut_len hk] at hi; omega) := by
 have hl := cut_len hk
 have ht : (l.take k).length = k := by simp; omega
 split
 ·rename_i h
  rw [List.getElem_append_left (by omega), List.getElem_take]
 ·rename_i h
  rw [List.getElem_append_right (by omega), List.getElem_drop]
  congr 1
  omega
theorem cut_valid {s : TSet} (hv : validB s = true) (h3 : 3 ≤ s.lines.length) {k : Nat} (hk : k < s.lines.length) : validB (cutS s k) = true := by
 unfold validB at hv ⊢
 rw [Bool.and_eq_true, Bool.and_eq_true, Bool.and_eq_true, Bool.and_eq_true] at hv ⊢
 obtain ⟨h1, h2, h4, h5, h6⟩ := hv
 refine ⟨h1, ?_, h4, h5, h6⟩
 rw [linesB_iff] at h2 ⊢
 obtain ⟨l1, l2, l3⟩ := h2
 have hL : (cutS s k).length = s.length := rfl
 have hln : (cutS s k).lines = s.lines.take k ++ s.lines.drop (k + 1) := rfl
 have hlen : (cutS s k).lines.length = s.lines.length - 1 := cut_len hk
 have hget : ∀ (i : Nat) (hi : i < (cutS s k).lines.length), (cutS s k).lines[i] = if h : i < k then s.lines[i] else s.lines[i + 1]'(by omega) := fun i hi => cut_get hk hi
 refine ⟨by omega, by omega, fun i hi => ?_⟩
 rw [hL, hget i hi]
 have up : ∀ (a b : Nat) (hb : b < s.lines.length) (hab : a < b), s.lines[a]'(by omega) < s.lines[b] := by
  intro a b hb hab
  obtain ⟨d, rfl⟩ : ∃ d, b = a + d + 1 := ⟨b - a - 1, by omega⟩
  induction d with
  | zero =>
   rcases (l3 (a + 0 + 1) hb).2.2 with h | h
   ·omega
   ·exact h
  | succ d ih =>
   have := ih (by omega) (by omega)
   rcases (l3 (a + (d + 1) + 1) hb).2.2 with h | h
   ·omega
   ·have e : s.lines[a + (d + 1) + 1 - 1]'(by omega) = s.lines[a + d + 1]'(by omega) := by congr 1
    rw [e] at h
    omega
 by_cases hik : i < k
 ·rw [dif_pos hik]
  obtain ⟨r1, r2, r3⟩ := l3 i (by omega)
  refine ⟨r1, r2, ?_⟩
  rcases Nat.eq_zero_or_pos i with h0 | h0
  ·exact .inl h0
  ·right
   rw [hget (i - 1) (by omega), dif_pos (by omega)]
   exact up (i - 1) i (by omega) (by omega)
 ·rw [dif_neg hik]
  obtain ⟨r1, r2, r3⟩ := l3 (i + 1) (by omega)
  refine ⟨r1, r2, ?_⟩
  rcases Nat.eq_zero_or_pos i with h0 | h0
  ·exact .inl h0
  ·right
   rw [hget (i - 1) (by omega)]
   split
   ·exact up (i - 1) (i + 1) (by omega) (by omega)
   ·exact up (i - 1 + 1) (i + 1) (by omega) (by omega)
theorem cut_sm {s : TSet} (h : Sm s) (k : Nat) : Sm (cutS s k) := by
 obtain ⟨⟨f1, f2, f3, f4, f5, f6⟩, n⟩ := h
 exact ⟨⟨f1, by show (s.lines.take k ++ s.lines.drop (k + 1)).length ≤ _; simp; omega, f3, f4, f5, f6⟩, n⟩
def Qc (s : TSet) (k : Nat) : List Rat := reaL (setBeam (cutS s k))
theorem Qc_len {s : TSet} {k : Nat} (hk : k < s.lines.length) : (Qc s k).length = s.lines.length - 1 := by
 unfold Qc
 rw [lq_len]
 exact cut_len hk
theorem w_cut {s : TSet} (h : Sm s) (h10 : s.lines.length ≤ 10) {k : Nat} (hk : k < s.lines.length) : F_failure_cut s (k : Int) = some (cutS s k) := by
 have w1 : IntKind.i64.wrap ((k : Int) + 1) = ((k + 1 : Nat) : Int) := by rw [wrap64 (by omega) (by omega)]; omega
 apply gs_eq
 unfold F_failure_cut
 refine go (f_clone_int _ h.fits.lines) (gif (by rw [w1]; omega) (go (f_clone_item _ h.fits.items) (go (f_clone_brick _ h.fits.bricks) (gend ?_))))
 rw [w1, Int.toNat_natCast, Int.toNat_natCast]
 rfl
theorem w_less {s : TSet} (h : Sm s) (h10 : s.lines.length ≤ 10) {k : Nat} (hk : k < s.lines.length) : F_ref24_Less s (k : Int) = some (cutS s k) := by
 have w1 : IntKind.i64.wrap ((k : Int) + 1) = ((k + 1 : Nat) : Int) := by rw [wrap64 (by omega) (by omega)]; omega
 apply gs_eq
 unfold F_ref24_Less
 refine go (f_rcopy s h.fits) (gbif (by omega) (gbif (by simp; omega) (gbif (by rw [w1]; omega) (gbif (by simp; omega) (gs (gend ?_))))))
 show TSet.mk _ _ _ _ _ _ _ _ _ _ _ _ _ = _
 rw [w1, Int.toNat_natCast, Int.toNat_natCast, Int.toNat_natCast]
 unfold cutS
 congr 1
 simp
theorem w_given (s : TSet) (h : Sm s) (h10 : s.lines.length ≤ 15) (line : Int) : F_failure_given s line = some (if validB s = true then (if line < 0 ∨ (s.lines.length : Int) ≤ line then 2 else if s.lines.length = 2 then 14 else 0) else 1) := by
 apply gs_eq
 unfold F_failure_given
 refine go (f_valid s h.fits) ?_
 cases hv : validB s with
 | false => exact gt rfl (gend rfl)
 | true =>
  refine gf rfl ?_
  simp only [if_true]
  by_cases h1 : line < 0
  ·exact gbt (decide_eq_true h1) (gs (gt rfl (gend (by rw [if_pos (.inl h1)]))))
  ·refine gbf (decide_eq_false h1) (gs ?_)
   by_cases h2 : (s.lines.length : Int) ≤ line
   ·exact gt (decide_eq_true h2) (gend (by rw [if_pos (.inr h2)]))
   ·refine gf (decide_eq_false h2) ?_
    rw [if_neg (by omega)]
    by_cases h3 : s.lines.length = 2
    ·rw [if_pos h3]; exact gt (by simp [h3]) (gend rfl)
    ·rw [if_neg h3]; exact gf (by simp; omega) (gend rfl)
theorem w_rgiven (s : TSet) (h : Sm s) (line : Int) : F_ref24_Given s line = some (if validB s = true then (if line < 0 ∨ (s.lines.length : Int) ≤ line then 2 else 0) else 1) := by
 apply gs_eq
 unfold F_ref24_Given
 refine go (f_rvalid s h.fits) ?_
 cases hv : validB s with
 | false => exact gt rfl (gend rfl)
 | true =>
  refine gf rfl ?_
  simp only [if_true]
  by_cases h1 : line < 0
  ·exact gbt (decide_eq_true h1) (gs (gt rfl (gend (by rw [if_pos (.inl h1)]))))
  ·refine gbf (decide_eq_false h1) (gs ?_)
   by_cases h2 : (s.lines.length : Int) ≤ line
   ·exact gt (decide_eq_true h2) (gend (by rw [if_pos (.inr h2)]))
   ·exact gf (decide_eq_false h2) (gend (by rw [if_neg (by omega)]))
def fitAll (l : List Rat) : Prop := ∀ q ∈ l, fitQ q
theorem w_lines {s : TSet} (h : Sm s) (hv : validB s = true) (h3 : 3 ≤ s.lines.length) {k : Nat} (hk : k < s.lines.length) : F_batten_Lines (cutS s k) = some (outL (Qc s k)) := by
 rw [t_lines (cut_sm h k)]
 unfold linesT
 rw [if_pos (cut_valid hv h3 hk)]
 rfl
end Go.Proofs.YtcaopooflemnlaaGreat

/- The worst loads: by the program and by the reference. -/
namespace Go.Proofs.YtcaopooflemnlaaGreat
set_option linter.unusedVariables false
set_option linter.unusedSimpArgs false

theorem cmp_pos (a b : Rat) : decide ((if a < b then (-1 : Int) else if b < a then 1 else 0) > 0) = decide (b < a) := by
 apply decide_eq_decide.2
 by_cases h1 : a < b
 ·rw [if_pos h1]
  exact ⟨fun h => absurd h (by decide), fun h => by grind⟩
 ·rw [if_neg h1]
  by_cases h2 : b < a
  ·rw [if_pos h2]; exact ⟨fun _ => h2, fun _ => by decide⟩
  ·rw [if_neg h2]; exact ⟨fun h => absurd h (by decide), fun h => absurd h h2⟩
end Go.Proofs.YtcaopooflemnlaaGreat

/- The worst loads by the reference; FailureWorst. -/
namespace Go.Proofs.YtcaopooflemnlaaGreat
set_option linter.unusedVariables false
set_option linter.unusedSimpArgs false

theorem awake24 : F_law24_awake = some true := by kernel_rfl
theorem w_long {s : TSet} : Gs (F_law24_long s) fun v => v = false → Sm s ∧ s.lines.length ≤ 15 ∧ s.items.length ≤ 45 ∧ (validB s = true → s.lines.length ≤ 5) := by
 have hfin : smallB s 8 = true → Sm s := sm_of
 unfold F_law24_long
 have hi : smallB s 8 = true → s.items.length ≤ 45 := fun hm => by
  simp only [smallB, smallH, Bool.and_eq_true, decide_eq_true_eq, List.all_eq_true] at hm
  omega
 by_cases h1 : ((s.lines.length : Nat) : Int) > 5
 ·refine gbt (decide_eq_true h1) ?_
  by_cases h2 : ((s.lines.length : Nat) : Int) ≤ 10
  ·exact gbt (decide_eq_true h2) (gs (gend fun e => by cases e))
  ·refine gbf (decide_eq_false h2) ?_
   by_cases h3 : ((s.lines.length : Nat) : Int) > 15
   ·exact gbt (decide_eq_true h3) (gs (gend fun e => by cases e))
   ·refine gbf (decide_eq_false h3) (goo (f_small s 8) (gs (gend fun e => ?_)))
    have hm : smallB s 8 = true := by simpa using e
    exact ⟨hfin hm, by omega, hi hm, fun hv => by have := (Good.of hv).ln1; omega⟩
 ·refine gbf (decide_eq_false h1) ?_
  refine gbf (decide_eq_false (by omega)) (goo (f_small s 8) (gs (gend fun e => ?_)))
  have hm : smallB s 8 = true := by simpa using e
  exact ⟨hfin hm, by omega, hi hm, fun _ => by omega⟩
end Go.Proofs.YtcaopooflemnlaaGreat

/- The loads after a shock: by the program and by the reference; FailureWithout. -/
namespace Go.Proofs.YtcaopooflemnlaaGreat
set_option linter.unusedVariables false
set_option linter.unusedSimpArgs false

theorem w_without {s : TSet} (h : Sm s) (h15 : s.lines.length ≤ 15) (line : Int) : ∃ r : TSet × Int, F_failure_Without s line = some r ∧ F_ref24_Without s line = some r ∧ Fits r.1 ∧
  (validB s = true → s.lines.length ≠ 2 → ∀ k : Nat, k < s.lines.length → line = (k : Int) → r = (cutS s k, 0)) := by
 have hz : Fits (TSet.mk (⟨#[]⟩ : ByteArray) 0 0 0 0 ([] : List Int) 0 0 0 0 0 ([] : List TItem) ([] : List TBrick)) := ⟨by decide, by simp, by simp, by simp, by simp, by simp⟩
 have hg1 := w_given s h h15 line
 have hg2 := w_rgiven s h line
 cases hv : validB s with
 | false =>
  rw [hv] at hg1 hg2
  refine ⟨(_, 1), gs_eq ?_, gs_eq ?_, hz, fun e => by cases e⟩
  ·unfold F_failure_Without
   exact go hg1 (gt rfl (gend rfl))
  ·unfold F_ref24_Without
   exact go hg2 (gt rfl (gend rfl))
 | true =>
  have hg := Good.of hv
  have n2 := hg.ln0; have n10 := hg.ln1
  rw [hv] at hg1 hg2
  simp only [if_true] at hg1 hg2
  by_cases hr : line < 0 ∨ (s.lines.length : Int) ≤ line
  ·rw [if_pos hr] at hg1 hg2
   refine ⟨(_, 2), gs_eq ?_, gs_eq ?_, hz, fun _ _ k hk e => by omega⟩
   ·unfold F_failure_Without
    exact go hg1 (gt rfl (gend rfl))
   ·unfold F_ref24_Without
    exact go hg2 (gt rfl (gend rfl))
  ·rw [if_neg hr] at hg1 hg2
   by_cases h2 : s.lines.length = 2
   ·rw [if_pos h2] at hg1
    refine ⟨(_, 14), gs_eq ?_, gs_eq ?_, hz, fun _ e => absurd h2 e⟩
    ·unfold F_failure_Without
     exact go hg1 (gt rfl (gend rfl))
    ·unfold F_ref24_Without
     exact go hg2 (gf rfl (gt (by simp [h2]) (gend rfl)))
   ·rw [if_neg h2] at hg1
    obtain ⟨k, rfl⟩ : ∃ k : Nat, line = (k : Int) := ⟨line.toNat, by omega⟩
    have hk : k < s.lines.length := by omega
    refine ⟨(cutS s k, 0), gs_eq ?_, gs_eq ?_, (cut_sm h k).fits, fun _ _ k' _ e => by
     have : k = k' := by omega
     rw [this]⟩
    ·unfold F_failure_Without
     exact go hg1 (gf rfl (go (w_cut h n10 hk) (gend rfl)))
    ·unfold F_ref24_Without
     exact go hg2 (gf rfl (gf (by simp; omega) (go (w_less h n10 hk) (gend rfl))))
def timesF (q : Rat) (l : List Rat) : List Rat := l.map (· * q)
open Classical in
noncomputable def shockL (l : List Rat) (q : Rat) : List TFrac × Int := if fitAll l ∧ fitAll (timesF q l) then ((timesF q l).map frQ, 0) else ([], 5)
theorem shockL_big {l : List Rat} {q : Rat} (h : ¬ (fitAll l ∧ fitAll (timesF q l))) : shockL l q = ([], 5) := if_neg h
theorem shockL_ok {l : List Rat} {q : Rat} (h : fitAll l ∧ fitAll (timesF q l)) : shockL l q = ((timesF q l).map frQ, 0) := if_pos h
theorem fac_ways (f : TFrac) (w : RW f) : (RV f ∧ f = frQ (qOf f) ∧ fitQ (qOf f)) ∨ ¬ RV f := by
 by_cases h : RV f
 ·exact .inl ⟨h, (fr_of h).symm, fr_fit_of h⟩
 ·exact .inr h
theorem fr_one : (⟨1, 1⟩ : TFrac) = frQ (1 : Rat) := (fr_int 1).symm
theorem fr_hun : (⟨100, 1⟩ : TFrac) = frQ (100 : Rat) := (fr_int 100).symm
theorem fit_one : fitQ (1 : Rat) := t_fitint (n := 1) (by decide)
theorem fit_hun : fitQ (100 : Rat) := t_fitint (n := 100) (by decide)
theorem cmp_neg (a b : Rat) : decide ((if a < b then (-1 : Int) else if b < a then 1 else 0) < 0) = decide (a < b) := by
 apply decide_eq_decide.2
 by_cases h1 : a < b
 ·rw [if_pos h1]; exact ⟨fun _ => h1, fun _ => by decide⟩
 ·rw [if_neg h1]
  by_cases h2 : b < a
  ·rw [if_pos h2]; exact ⟨fun h => absurd h (by decide), fun h => absurd h h1⟩
  ·rw [if_neg h2]; exact ⟨fun h => absurd h (by decide), fun h => absurd h h1⟩
theorem w_mulP {l : List Rat} {q : Rat} (hl : l.length ≤ 1000) (hf : fitAll l) (hq : fitQ q) {γ : Type} {K : ((List TFrac × Int × List TFrac × Unit) ⊕ (List TFrac × Unit)) → Option γ} {P : γ → Prop} (hin : ∀ y : List TFrac × Int × List TFrac × Unit, ((y.1, y.2.1) : List TFrac × Int) = shockL l q → Gs (K (.inl y)) P) (hir : ∀ y : List TFrac × Unit, ((y.1, 0) : List TFrac × Int) = shockL l q → Gs (K (.inr y)) P) :
  Gs ((iterF (σ := Int × List TFrac × Unit) (ρ := (List TFrac × Int × List TFrac × Unit) ⊕ (List TFrac × Unit)) (fun s21 => (bif (decide (s21.1 < ((((l.map frQ).length : Nat)) : Int))) then (idx s21.2.1 s21.1).bind fun _x22 => (s21.2.1[(Int.toNat s21.1)]?).bind fun x23 => (F_ratio_Mul x23 (frQ q)).bind fun r24 => (idx s21.2.1 s21.1).bind fun _x25 => (s21.2.1[(Int.toNat s21.1)]?).bind fun x26 => (bif (r24.2 != 0) then some (.inr (.inl (([] : List TFrac), r24.2, (s21.2.1.set (Int.toNat s21.1) r24.1), ()))) else some (.inl ((IntKind.i64.wrap (s21.1 + 1)), (s21.2.1.set (Int.toNat s21.1) r24.1), ()))) else some (.inr (.inr ((s21.2.1, ())))))) big (0, l.map frQ, ())).bind K) P := by
 refine gloop (fun r : (List TFrac × Int × List TFrac × Unit) ⊕ (List TFrac × Unit) => match r with
   | .inl y => ((y.1, y.2.1) : List TFrac × Int) = shockL l q
   | .inr y => ((y.1, 0) : List TFrac × Int) = shockL l q)
  (fun k t => k ≤ l.length ∧ t = ((k : Int), (l.take k).map (fun x => frQ (x * q)) ++ (l.drop k).map frQ, ()) ∧ ∀ x ∈ l.take k, fitQ (x * q)) l.length (by unfold big; omega) ⟨Nat.zero_le _, rfl, fun x hx => by simp at hx⟩ ?_ ?_
 ·rintro k t hk ⟨_, rfl, hall⟩
  rcases Nat.lt_or_ge k l.length with hlt | hge
  ·have hlk : ((l.take k).map (fun x => frQ (x * q))).length = k := by simp; omega
   have hd : l.drop k = l[k] :: l.drop (k + 1) := List.drop_eq_getElem_cons hlt
   have g1 : ((l.take k).map (fun x => frQ (x * q)) ++ (l.drop k).map frQ)[k]? = some (frQ l[k]) := by
    rw [List.getElem?_append_right (by omega), hlk, Nat.sub_self, hd]; rfl
   have hmul := t_mul (hf _ (List.getElem_mem hlt)) hq
   have w1 : IntKind.i64.wrap ((k : Int) + 1) = ((k + 1 : Nat) : Int) := by rw [wrap64 (by omega) (by omega)]; omega
   refine gt (decide_eq_true (by show (k : Int) < (((((l.map frQ).length : Nat))) : Int); rw [List.length_map]; omega)) (go (idx_q g1) (go (at_w rfl g1) (go hmul (go (idx_q g1) (go (at_w rfl g1) ?_)))))
   by_cases hfit : fitQ (l[k] * q)
   ·rw [fr_fit hfit]
    refine gf rfl (gend ⟨hlt, hlt, ?_, fun x hx => ?_⟩)
    ·show (IntKind.i64.wrap ((k : Int) + 1), ((l.take k).map (fun x => frQ (x * q)) ++ (l.drop k).map frQ).set (Int.toNat (k : Int)) (frQ (l[k] * q)), ()) = _
     rw [w1, Int.toNat_natCast, hd, List.map_cons, List.set_append_right _ _ (by omega), hlk, Nat.sub_self, List.set_cons_zero, List.take_succ_eq_append_getElem hlt, List.map_append, List.append_assoc]
     rfl
    ·rw [List.take_succ_eq_append_getElem hlt] at hx
     rcases List.mem_append.1 hx with hx | hx
     ·exact hall x hx
     ·simp at hx; subst hx; exact hfit
   ·rw [fr_big hfit]
    refine gt rfl (gend ?_)
    show (([], 5) : List TFrac × Int) = _
    rw [shockL_big fun e => hfit (e.2 _ (List.mem_map.2 ⟨l[k], List.getElem_mem hlt, rfl⟩))]
  ·refine gf (decide_eq_false (by show ¬ (k : Int) < (((((l.map frQ).length : Nat))) : Int); rw [List.length_map]; omega)) (gend ?_)
   rw [List.take_of_length_le hge] at hall
   show (((l.take k).map (fun x => frQ (x * q)) ++ (l.drop k).map frQ, 0) : List TFrac × Int) = _
   rw [List.take_of_length_le hge, List.drop_of_length_le hge, shockL_ok ⟨hf, fun y hy => by
    obtain ⟨x, hx, rfl⟩ := List.mem_map.1 hy
    exact hall x hx⟩]
   unfold timesF
   simp
 ·rintro (y | y) hy
  ·exact hin y hy
  ·exact hir y hy
noncomputable def shockT (s : TSet) (line : Int) (q : Rat) : List TFrac × Int := if line < 0 ∨ (s.lines.length : Int) ≤ line ∨ q < 1 ∨ 100 < q then ([], 2) else if s.lines.length = 2 then ([], 14) else shockL (Qc s line.toNat) q
theorem w_shock {s : TSet} (h : Sm s) (h15 : s.lines.length ≤ 15) (hv : validB s = true) (line : Int) {q : Rat} (hq : fitQ q) : F_failure_Shock s line (frQ q) = some (shockT s line q) := by
 have hg := Good.of hv
 have n2 := hg.ln0; have n10 := hg.ln1
 have hgv := w_given s h h15 line
 rw [if_pos hv] at hgv
 apply gs_eq
 unfold F_failure_Shock shockT
 have hc1 := t_cmp hq fit_one
 have hc2 := t_cmp hq fit_hun
 rw [← fr_one] at hc1
 rw [← fr_hun] at hc2
 refine goo (f_valid s h.fits) ?_
 rw [hv]
 refine gbf rfl (goo (rv_true (fr_rv hq).1) (gs (gf rfl (go hc1 (go hc2 ?_)))))
 by_cases l1 : line < 0
 ·exact gbt (decide_eq_true l1) (gs (gt rfl (gend (by rw [if_pos (.inl l1)]))))
 refine gbf (decide_eq_false l1) ?_
 by_cases l2 : (s.lines.length : Int) ≤ line
 ·exact gbt (decide_eq_true l2) (gs (gt rfl (gend (by rw [if_pos (.inr (.inl l2))]))))
 refine gbf (decide_eq_false l2) ?_
 by_cases l3 : q < 1
 ·exact gbt (by rw [cmp_neg]; exact decide_eq_true l3) (gs (gt rfl (gend (by rw [if_pos (.inr (.inr (.inl l3)))]))))
 refine gbf (by rw [cmp_neg]; exact decide_eq_false l3) (gs ?_)
 by_cases l4 : 100 < q
 ·exact gt (by rw [cmp_pos]; exact decide_eq_true l4) (gend (by rw [if_pos (.inr (.inr (.inr l4)))]))
 refine gf (by rw [cmp_pos]; exact decide_eq_false l4) ?_
 rw [if_neg (by rintro (e | e | e | e) <;> contradiction)]
 rw [if_neg (by omega)] at hgv
 by_cases h2 : s.lines.length = 2
 ·rw [if_pos h2] at hgv ⊢
  exact go hgv (gt rfl (gend rfl))
 ·rw [if_neg h2] at hgv ⊢
  obtain ⟨k, rfl⟩ : ∃ k : Nat, line = (k : Int) := ⟨line.toNat, by omega⟩
  have hk : k < s.lines.length := by omega
  rw [Int.toNat_natCast]
  have hL := w_lines h hv (by omega) hk
  have hql := Qc_len hk
  refine go hgv (gf rfl (go (w_cut h n10 hk) (go hL ?_)))
  by_cases hf : fitAll (Qc s k)
  ·rw [outL_fit hf]
   exact gf rfl (w_mulP (by omega) hf hq (fun y hy => gend hy) (fun y hy => gend hy))
  ·rw [outL_big hf]
   exact gt rfl (gend (by rw [shockL_big fun e => hf e.1]))
theorem w_i64 {n : Int} (h : (Lit.int .i64 n).wf = true) : -9223372036854775808 ≤ n ∧ n ≤ 9223372036854775807 := by
 have h2 : IntKind.min .i64 ≤ n ∧ n ≤ IntKind.max .i64 := by simpa [Lit.wf] using h
 exact h2
theorem w_rw {a : TFrac} (h : W_Frac a) : RW a := by
 obtain ⟨h1, h2⟩ := h
 unfold W_int1 at h1 h2
 have i1 := w_i64 h1
 have i2 := w_i64 h2
 exact ⟨i2.1, i2.2, i1.1, i1.2⟩
end Go.Proofs.YtcaopooflemnlaaGreat

/- FailureSums: the other lines bear the whole set. -/
namespace Go.Proofs.YtcaopooflemnlaaGreat
set_option linter.unusedVariables false
set_option linter.unusedSimpArgs false

theorem gnif {γ : Type} {c : Prop} [Decidable c] {X Y : Option γ} {P : γ → Prop} (h : ¬ c) (g : Gs Y P) : Gs (if c then X else Y) P := by rw [if_neg h]; exact g
theorem w_right (s : TSet) : Gs (F_law24_right s) fun v => v = true → Sm s ∧ validB s = true ∧ s.lines.length ≤ 5 := by
 unfold F_law24_right
 refine gcalll w_long fun v hv => ?_
 cases v with
 | true => exact gbf rfl (gs (gend fun e => by cases e))
 | false =>
  obtain ⟨h, h15, _, h5⟩ := hv rfl
  refine gbt rfl (goo (f_rvalid s h.fits) (gs (gend fun e => ⟨h, e, h5 e⟩)))
theorem times_one (l : List Rat) : timesF 1 l = l := by
 unfold timesF
 have : (fun x : Rat => x * 1) = id := by funext x; exact Rat.mul_one x
 rw [this, List.map_id]
theorem shock_one {s : TSet} {k : Nat} (hk : k < s.lines.length) (h2 : s.lines.length ≠ 2) : (fitAll (Qc s k) → shockT s (k : Int) 1 = ((Qc s k).map frQ, 0)) ∧ (¬ fitAll (Qc s k) → shockT s (k : Int) 1 = ([], 5)) := by
 have hc : ¬ ((k : Int) < 0 ∨ (s.lines.length : Int) ≤ (k : Int) ∨ (1 : Rat) < 1 ∨ (100 : Rat) < 1) := by
  rintro (e | e | e | e)
  ·omega
  ·omega
  ·exact absurd e (by decide)
  ·exact absurd e (by decide)
 unfold shockT
 rw [if_neg hc, if_neg h2, Int.toNat_natCast]
 constructor
 ·intro hf
  rw [shockL_ok (by rw [times_one]; exact ⟨hf, hf⟩), times_one]
 ·intro hf
  exact shockL_big fun e => hf e.1
theorem main_FailureSums (x0 : TSet) (x1 : Int) (x2 : TFrac) (w0 : W_Set x0) (w1 : W_u8 x1) (w2 : W_Frac x2) : F_law24_FailureSums x0 x1 x2 = some true := by
 apply gs_eq
 unfold F_law24_FailureSums
 refine go awake24 (gf rfl (gcalll (w_right x0) fun v hv => ?_))
 cases v with
 | false => exact gbt rfl (gs (gt rfl (gend rfl)))
 | true =>
  obtain ⟨h, hvd, h5⟩ := hv rfl
  have hg := Good.of hvd
  have n2 := hg.ln0; have n10 := hg.ln1
  refine gbf rfl (gs ?_)
  by_cases h2 : x0.lines.length = 2
  ·exact gt (by simp [h2]) (gend rfl)
  refine gf (by simp; omega) (gnif (by omega) ?_)
  have hx : 0 ≤ x1 ∧ x1 ≤ 255 := by
   unfold W_u8 at w1
   have h3 : IntKind.min .u8 ≤ x1 ∧ x1 ≤ IntKind.max .u8 := by simpa [Lit.wf] using w1
   exact h3
  have hi : (IntKind.i64.wrap x1).tmod ((x0.lines.length : Nat) : Int) = (((x1 % x0.lines.length).toNat : Nat) : Int) := by
   rw [wrap64 (by omega) (by omega), Int.tmod_eq_emod_of_nonneg hx.1]
   have := Int.emod_nonneg x1 (show ((x0.lines.length : Nat) : Int) ≠ 0 by omega)
   omega
  have hk : (x1 % x0.lines.length).toNat < x0.lines.length := by
   have h1 := Int.emod_nonneg x1 (show ((x0.lines.length : Nat) : Int) ≠ 0 by omega)
   have h2 := Int.emod_lt_of_pos x1 (show (0 : Int) < ((x0.lines.length : Nat) : Int) by omega)
   omega
  rw [hi]
  generalize (x1 % x0.lines.length).toNat = k at hk ⊢
  obtain ⟨s1, s2'⟩ := shock_one hk h2
  have hsh := w_shock h (by omega) hvd (k : Int) fit_one
  rw [← fr_one] at hsh
  have hwt := t_weight h
  rw [if_pos hvd] at hwt
  refine go rfl (go hsh (go hwt ?_))
  by_cases hf : fitAll (Qc x0 k)
  ·rw [s1 hf]
   have hql := Qc_len hk
   have hsum := t_sum (l := Qc x0 k) (by omega) hf
   refine gbf rfl (gs (gf rfl (go hsum ?_)))
   have hlen : (((((Qc x0 k).map frQ).length : Nat) : Int) != IntKind.i64.wrap (((x0.lines.length : Nat) : Int) - 1)) = false := by
    rw [List.length_map, hql, wrap64 (by omega) (by omega)]
    simp; omega
   have h13 : Gs ((bif (((((Qc x0 k).map frQ).length : Nat) : Int) != IntKind.i64.wrap (((x0.lines.length : Nat) : Int) - 1)) then some (true, ()) else (bif ((sumH (Qc x0 k)).2 != 5) then (bif ((sumH (Qc x0 k)).2 != 0) then some (true, ()) else (F_law24_of (weightI x0)).bind fun r12 => some ((!(((sumH (Qc x0 k)).1.num == r12.num) && ((sumH (Qc x0 k)).1.den == r12.den))), ())) else some (false, ()))) : Option (Bool × Unit)) fun y => y = (false, ()) := by
    refine gf hlen ?_
    unfold sumH
    cases hs : sumO (Qc x0 k) 0 with
    | none => exact gf rfl (gend rfl)
    | some q =>
     have hq := head_weight (cut_valid hvd (by omega) hk) hs
     have hq : q = ((weightI x0 : Int) : Rat) := hq
     refine gt rfl (gf rfl (go rfl (gend ?_)))
     subst hq
     show ((!(((frQ ((weightI x0 : Int) : Rat)).num == weightI x0) && ((frQ ((weightI x0 : Int) : Rat)).den == 1))), ()) = (false, ())
     rw [← frq_int]
     simp
   refine gcall h13 ?_
   rintro y rfl
   have hL := w_lines h hvd (by omega) hk
   rw [outL_fit hf] at hL
   obtain ⟨r, q1, _, _, q4⟩ := w_without h (by omega) (k : Int)
   have hr := q4 hvd h2 k hk rfl
   subst hr
   refine gf rfl (go q1 (go hL ?_))
   refine gbf rfl (gbf rfl (goo (f_same _ (by rw [List.length_map]; omega)) (gbf rfl (goo (f_valid (cutS x0 k) (cut_sm h k).fits) (gs (gf ?_ ?_))))))
   ·show (!validB (cutS x0 k)) = false
    rw [cut_valid hvd (by omega) hk]; rfl
   have hw := w_rw w2
   rcases fac_ways x2 hw with ⟨hrv, e, hfit⟩ | hn
   ·have hsf := w_shock h (by omega) hvd (k : Int) hfit
    rw [← e] at hsf
    refine go hsf ?_
    unfold shockT
    split
    ·exact gt rfl (gend rfl)
    ·rw [Int.toNat_natCast]
     by_cases hm : fitAll (Qc x0 k) ∧ fitAll (timesF (qOf x2) (Qc x0 k))
     ·rw [shockL_ok hm]
      have hl2 : ((timesF (qOf x2) (Qc x0 k)).map frQ).length = (Qc x0 k).length := by unfold timesF; simp
      refine gf rfl (gf ?_ ?_)
      ·show (((((timesF (qOf x2) (Qc x0 k)).map frQ).length : Nat) : Int) != ((((Qc x0 k).map frQ).length : Nat) : Int)) = false
       rw [hl2, List.length_map]; simp
      refine gloop (fun r : (Bool × Unit) ⊕ Unit => r = .inr ()) (fun j t => j ≤ (Qc x0 k).length ∧ t = ((j : Int), ())) (Qc x0 k).length (by unfold big; omega) ⟨Nat.zero_le _, rfl⟩ ?_ ?_
      ·rintro j t hj ⟨_, rfl⟩
       rcases Nat.lt_or_ge j (Qc x0 k).length with hlt | hge
       ·have g1 : ((Qc x0 k).map frQ)[j]? = some (frQ (Qc x0 k)[j]) := by rw [List.getElem?_map, List.getElem?_eq_getElem hlt]; rfl
        have g2 : ((timesF (qOf x2) (Qc x0 k)).map frQ)[j]? = some (frQ ((Qc x0 k)[j] * qOf x2)) := by
         unfold timesF
         rw [List.map_map, List.getElem?_map, List.getElem?_eq_getElem hlt]; rfl
        have hmul := t_mul (hf _ (List.getElem_mem hlt)) hfit
        have hpf : fitQ ((Qc x0 k)[j] * qOf x2) := hm.2 _ (List.mem_map.2 ⟨_, List.getElem_mem hlt, rfl⟩)
        rw [fr_fit hpf, ← e] at hmul
        refine gt (decide_eq_true (by show (j : Int) < ((((timesF (qOf x2) (Qc x0 k)).map frQ).length : Nat) : Int); rw [hl2]; omega)) (go (idx_q g1) (go (at_w rfl g1) (go hmul (gbf rfl (goo (idx_q g2) (goo (at_w rfl g2) (gs (gf (by simp) (gend ⟨hlt, hlt, ?_⟩)))))))))
        show (IntKind.i64.wrap ((j : Int) + 1), ()) = _
        rw [wrap64 (by omega) (by omega)]; rfl
       ·exact gf (decide_eq_false (by show ¬ (j : Int) < ((((timesF (qOf x2) (Qc x0 k)).map frQ).length : Nat) : Int); rw [hl2]; omega)) (gend rfl)
      ·rintro r rfl
       exact gend rfl
     ·rw [shockL_big hm]
      exact gt rfl (gend rfl)
   ·have hbad : F_failure_Shock x0 (k : Int) x2 = some ([], 1) := by
     apply gs_eq
     unfold F_failure_Shock
     refine goo (f_valid x0 h.fits) ?_
     rw [hvd]
     exact gbf rfl (goo (rv_false hw hn) (gs (gt rfl (gend rfl))))
    exact go hbad (gt rfl (gend rfl))
  ·rw [s2' hf]
   exact gbt rfl (gs (gt rfl (gbt rfl (gs (gend rfl)))))
end Go.Proofs.YtcaopooflemnlaaGreat
