/- Joined by merge.py: PlG2, PlG3, PlG4, PlG5, PlH1, PlJ1, PlJ1c, PlK3, PlQ8a, PlR8, PlR9, PlR10, PlK1, PlQ8, PlQ8b, PlQ10, PlK0, PlJ0, PlK7. -/
import Derived.Test.YtbamoboldhabjaaM07
/- The reference's numbers of many digits: Int, Neg, Product, Sum, half, even. -/
namespace Go.Proofs.Ytbamoboldhabjaa
set_option linter.unusedVariables false
set_option linter.unusedSimpArgs false

theorem r_size {n : Int} (h : -9223372036854775808 ≤ n) (h2 : n ≤ 9223372036854775807) : F_ref02_Size n = some (n.natAbs : Int) := by
  unfold F_ref02_Size
  rw [wrap_u, wrap_u]
  by_cases hn : n < 0
  · rw [decide_eq_true hn, cond_true]; congr 1; omega
  · rw [decide_eq_false hn, cond_false]; congr 1; omega
/-- Digits of the reference: their value is a natural number. -/
structure Wg (l : List Int) (v : Nat) : Prop where
  dig : dig (16777216 : Int) l
  tight : tight l
  len : l.length ≤ 16000000
  val : bv (16777216 : Int) l = v
/-- An integer of the reference. -/
structure Nb (a : TBig) (v : Int) : Prop where
  w : Wg a.d v.natAbs
  neg : a.neg = true ↔ v < 0
  len : a.d.length ≤ 8000000
theorem Wg.zero {l : List Int} {v : Nat} (h : Wg l v) : l = [] ↔ v = 0 := by
  rw [← bv_zero (by decide) h.dig h.tight, h.val]; omega
theorem Wg.lt {l : List Int} {v : Nat} (h : Wg l v) : v < 2 ^ (24 * l.length) := by
  have h1 := (bv_range (by decide) h.dig).2
  rw [h.val] at h1
  have e : (16777216 : Int) ^ l.length = ((2 ^ (24 * l.length) : Nat) : Int) := by
    rw [Nat.pow_mul, Int.natCast_pow]; rfl
  rw [e] at h1
  exact_mod_cast h1
theorem Wg.le {a b : List Int} {u v : Nat} (ha : Wg a u) (hb : Wg b v) (h : u ≤ v) : a.length ≤ b.length := by
  rcases Nat.lt_or_ge b.length a.length with hl | hl
  · have := bv_lt_len (by decide) hb.dig ha.dig ha.tight hl
    rw [ha.val, hb.val] at this
    omega
  · exact hl
theorem Wg.add {a b : List Int} {u v : Nat} (ha : Wg a u) (hb : Wg b v) (hl : max a.length b.length + 1 ≤ 16000000) : ∃ r, F_ref08_plus a b = some r ∧ Wg r (u + v) ∧ r.length ≤ max a.length b.length + 1 := by
  obtain ⟨r, r1, r2, r3, r4, r5⟩ := h_plus a b ha.dig hb.dig ha.tight hb.tight (by have := ha.len; omega) (by have := hb.len; omega)
  exact ⟨r, r1, ⟨r3, r4, by omega, by rw [r2, ha.val, hb.val]; omega⟩, r5⟩
theorem Wg.larger {a b : List Int} {u v : Nat} (ha : Wg a u) (hb : Wg b v) : F_ref08_larger a b = some (decide (v < u)) := by
  rw [g_larger a b ha.dig hb.dig ha.tight hb.tight (by have := ha.len; omega) (by have := hb.len; omega), ha.val, hb.val]
  congr 1; apply decide_eq_decide.mpr; omega
/-- minus, and trim after it. -/
theorem Wg.sub {a b : List Int} {u v : Nat} (neg : Bool) (ha : Wg a u) (hb : Wg b v) (h : v ≤ u) : ∃ r t, F_ref08_minus a b = some r ∧ F_ref08_trim ⟨neg, r⟩ = some t ∧ Wg t.d (u - v) ∧ t.d.length ≤ a.length ∧ (t.neg = true ↔ neg = true ∧ u - v ≠ 0) := by
  obtain ⟨r, r1, r2, r3, r4⟩ := h_minus a b ha.dig hb.dig (by have := ha.len; omega) (hb.le ha h) (by rw [ha.val, hb.val]; omega)
  obtain ⟨t, t1, t2, t3, t4, t5, t6⟩ := g_trim (neg := neg) r3 (by rw [r4]; have := ha.len; omega)
  have hv : bv (16777216 : Int) r = ((u - v : Nat) : Int) := by rw [r2, ha.val, hb.val]; omega
  refine ⟨r, t, r1, t1, ⟨t3, t4, by have := ha.len; omega, by rw [t2, hv]⟩, by omega, ?_⟩
  rw [t6, hv]
  exact and_congr_right fun _ => by omega
theorem g_int (n : Int) (h1 : -9223372036854775808 ≤ n) (h2 : n ≤ 9223372036854775807) : ∃ r, F_ref08_Int n = some r ∧ Nb r n ∧ r.d.length ≤ 3 := by
  unfold F_ref08_Int
  rw [r_size h1 h2]
  simp only [Option.bind_some]
  refine iter_bind (Q := fun r : TBig × Unit => Nb r.1 n ∧ r.1.d.length ≤ 3)
    (fun k s => ∃ (m : Nat) (out : List Int), s = ((m : Int), ⟨decide (n < 0), out⟩, ()) ∧ out.length = k ∧ dig (16777216 : Int) out ∧ bv (16777216 : Int) out + (16777216 : Int) ^ k * m = n.natAbs ∧ (m = 0 → tight out)) 3 (by unfold big; omega) ?_ ⟨n.natAbs, [], rfl, rfl, (fun x hx => nomatch hx), by simp [bv], fun _ => by simp [tight]⟩ ?_
  · rintro k s hk ⟨m, out, rfl, hlo, hdo, hv, ht⟩
    have hr := (bv_range (by decide) hdo).1
    have hp : 0 < (16777216 : Int) ^ k := Int.pow_pos (by decide)
    have hmb : (m : Int) ≤ n.natAbs := by
      have := Int.mul_le_mul_of_nonneg_right (show 1 ≤ (16777216 : Int) ^ k from hp) (show 0 ≤ (m : Int) by omega)
      omega
    rcases Nat.eq_zero_or_pos m with h | h
    · subst h
      have e0 : decide (((0 : Nat) : Int) > 0) = false := by decide
      refine .inr ⟨(⟨decide (n < 0), out⟩, ()), by simp only [e0, cond_false], ⟨⟨hdo, ht rfl, by show out.length ≤ _; omega, ?_⟩, by simp, by show out.length ≤ _; omega⟩, by show out.length ≤ _; omega⟩
      show bv (16777216 : Int) out = _
      rw [← hv]; simp
    · have e0 : decide ((m : Int) > 0) = true := by simp; omega
      have hk3 : k < 3 := by
        rcases Nat.lt_or_ge k 3 with h3 | h3
        · exact h3
        · have : k = 3 := by omega
          subst this
          omega
      have w1 : IntKind.u64.wrap ((m : Int).tdiv 16777216) = ((m / 16777216 : Nat) : Int) := by
        rw [Int.tdiv_eq_ediv_of_nonneg (by omega), wrap_u]; omega
      have w2 : IntKind.i64.wrap ((m : Int).tmod 16777216) = ((m % 16777216 : Nat) : Int) := by
        rw [Int.tmod_eq_emod_of_nonneg (by omega), wrap64 (by omega) (by omega)]; omega
      refine .inl ⟨_, ?_, hk3, m / 16777216, out ++ [((m % 16777216 : Nat) : Int)], rfl, by simp [hlo], dig_snoc hdo (by omega) (by omega), ?_, fun hz => tight_snoc (by omega)⟩
      · simp only [e0, cond_true]
        rw [w1, w2, if_pos (by simp; omega)]
      · rw [bv_append, hlo, ← hv]
        simp only [bv, Int.mul_zero, Int.add_zero]
        have h3 : (16777216 : Int) ^ (k + 1) = (16777216 : Int) ^ k * (16777216 : Int) := Int.pow_succ _ _
        have h4 : (m : Int) = ((m % 16777216 : Nat) : Int) + 16777216 * ((m / 16777216 : Nat) : Int) := by omega
        rw [h3]
        generalize ((m % 16777216 : Nat) : Int) = q at h4 ⊢
        generalize ((m / 16777216 : Nat) : Int) = t at h4 ⊢
        rw [h4]
        grind
  · rintro ⟨r, u⟩ ⟨q1, q2⟩
    exact ⟨r, rfl, q1, q2⟩
theorem g_neg {a : TBig} {v : Int} (h : Nb a v) : ∃ r, F_ref08_Neg a = some r ∧ Nb r (-v) ∧ r.d = a.d := by
  unfold F_ref08_Neg
  have hz := h.w.zero
  have hw : Wg a.d (-v).natAbs := by rw [Int.natAbs_neg]; exact h.w
  cases hn : a.neg with
  | false =>
    have h2 := h.neg
    rw [hn] at h2
    refine ⟨_, rfl, ⟨hw, ?_, h.len⟩, rfl⟩
    show decide (((a.d.length : Nat) : Int) > 0) = true ↔ -v < 0
    rw [decide_eq_true_iff]
    have : 0 < a.d.length ↔ a.d ≠ [] := List.length_pos_iff
    rw [ne_eq, hz] at this
    simp at h2
    omega
  | true =>
    have h2 := h.neg
    rw [hn] at h2
    refine ⟨_, rfl, ⟨hw, ?_, h.len⟩, rfl⟩
    simp at h2 ⊢; omega
set_option maxHeartbeats 1000000 in
theorem g_product {a b : TBig} {v w : Int} (ha : Nb a v) (hb : Nb b w) (hl : a.d.length + b.d.length + 1 ≤ 8000000) : ∃ r, F_ref08_Product a b = some r ∧ Nb r (v * w) ∧ r.d.length ≤ a.d.length + b.d.length + 1 := by
  unfold F_ref08_Product
  have hw : IntKind.i64.wrap ((IntKind.i64.wrap (((a.d.length : Nat) : Int) + ((b.d.length : Nat) : Int))) + 1) = ((a.d.length + b.d.length + 1 : Nat) : Int) := by rw [wrap64 (n := ((a.d.length : Nat) : Int) + ((b.d.length : Nat) : Int)) (by omega) (by omega), wrap64 (by omega) (by omega)]; omega
  rw [hw, if_pos ⟨by omega, by omega⟩]
  simp only [Int.toNat_natCast]
  have hda := ha.w.dig
  have hdb := hb.w.dig
  obtain ⟨x, hx⟩ : ∃ x, a.d = x := ⟨_, rfl⟩
  obtain ⟨y, hy⟩ : ∃ y, b.d = y := ⟨_, rfl⟩
  rw [hx] at hda hl ⊢
  rw [hy] at hdb hl ⊢
  refine iter_bind (Q := fun r : List Int × Unit => bv (16777216 : Int) r.1 = bv (16777216 : Int) x * bv (16777216 : Int) y ∧ dig (16777216 : Int) r.1 ∧ r.1.length = x.length + y.length + 1)
    (fun i s => ∃ out, s = ((i : Int), out, ()) ∧ i ≤ x.length ∧ out.length = x.length + y.length + 1 ∧ dig (16777216 : Int) out ∧ bv (16777216 : Int) out = bv (16777216 : Int) (x.take i) * bv (16777216 : Int) y ∧ ∀ q, i + y.length ≤ q → dg out q = 0)
    x.length (by unfold big; omega) ?_ ⟨List.replicate (x.length + y.length + 1) 0, rfl, Nat.zero_le _, by simp, ?_, ?_, ?_⟩ ?_
  · rintro i s hi ⟨out, rfl, _, hlen, hdo, hv, hz⟩
    rcases Nat.lt_or_ge i x.length with hlt | hge
    · refine .inl (step_of hlt ?_)
      have e0 : decide ((i : Int) < ((x.length : Nat) : Int)) = true := by simp; omega
      simp only [e0, cond_true]
      have hxi := dg_range (by decide) hda i
      obtain ⟨p, hp⟩ : ∃ p, dg x i = p := ⟨_, rfl⟩
      rw [hp] at hxi
      refine iter_bind (Q := fun r : List Int × Unit => r.1.length = x.length + y.length + 1 ∧ dig (16777216 : Int) r.1 ∧ bv (16777216 : Int) r.1 = bv (16777216 : Int) out + p * bv (16777216 : Int) y * (16777216 : Int) ^ i ∧ ∀ q, i + 1 + y.length ≤ q → dg r.1 q = 0)
        (fun k s => ∃ c o2, s = (c, (k : Int), o2, ()) ∧ k ≤ y.length + 1 ∧ o2.length = x.length + y.length + 1 ∧ dig (16777216 : Int) o2 ∧ 0 ≤ c ∧ c < (16777216 : Int) ∧ bv (16777216 : Int) o2 + (16777216 : Int) ^ (i + k) * c = bv (16777216 : Int) out + p * bv (16777216 : Int) (y.take k) * (16777216 : Int) ^ i ∧ (y.length < k → c = 0) ∧ ∀ q, i + k ≤ q → dg o2 q = dg out q)
        (y.length + 1) (by unfold big; omega) ?_ ⟨0, out, rfl, Nat.zero_le _, hlen, hdo, by omega, by omega, by simp [bv], fun _ => rfl, fun _ _ => rfl⟩ ?_
      · rintro k s hk ⟨c, o2, rfl, _, hl2, hd2, hc0, hc1, hv2, hcz, hz2⟩
        simp only
        obtain ⟨t, ht1, ht2⟩ : ∃ t : Bool, ((bif (decide ((k : Int) < ((y.length : Nat) : Int))) then some (true, ()) else some ((decide (c > 0)), ())) : Option (Bool × Unit)) = some (t, ()) ∧ (t = true ↔ k < y.length ∨ 0 < c) := by
          rcases Nat.lt_or_ge k y.length with h | h
          · have e0 : decide ((k : Int) < ((y.length : Nat) : Int)) = true := by simp; omega
            rw [e0]; exact ⟨true, rfl, by simp; omega⟩
          · have e0 : decide ((k : Int) < ((y.length : Nat) : Int)) = false := by simp; omega
            rw [e0, cond_false]
            exact ⟨_, rfl, by simp; omega⟩
        rw [ht1]
        simp only [Option.bind_some]
        rcases Bool.eq_false_or_eq_true t with ht | ht
        · have hor := ht2.1 ht
          subst ht
          have hkl : k < y.length + 1 := by
            rcases hor with h | h
            · omega
            · rcases Nat.lt_or_ge y.length k with h2 | h2
              · have := hcz h2; omega
              · omega
          have hyk := dg_range (by decide) hdb k
          have hok := dg_range (by decide) hd2 (i + k)
          have hik : i + k < o2.length := by omega
          have e2 : IntKind.i64.wrap ((i : Int) + (k : Int)) = ((i + k : Nat) : Int) := by rw [wrap64 (by omega) (by omega)]; omega
          simp only [cond_true]
          rw [e2, idx_nat hik]
          simp only [Option.bind_some, Int.toNat_natCast]
          rw [List.getElem?_eq_getElem hik, ← dg_get hik]
          simp only [Option.bind_some]
          rw [idx_nat hlt, ← dg_get hlt, hp, g_digit]
          simp only [Option.bind_some]
          have htk := bv_take_succ (16777216 : Int) y k
          obtain ⟨g, hg⟩ : ∃ g, dg y k = g := ⟨_, rfl⟩
          obtain ⟨z, hzz⟩ : ∃ z, dg o2 (i + k) = z := ⟨_, rfl⟩
          rw [hg] at hyk htk ⊢
          rw [hzz] at hok ⊢
          have hpg0 : 0 ≤ p * g := Int.mul_nonneg hxi.1 hyk.1
          have hpg1 : p * g ≤ 16777215 * 16777215 := Int.mul_le_mul (by omega) (by omega) hyk.1 (by omega)
          obtain ⟨pg, hpg⟩ : ∃ pg, p * g = pg := ⟨_, rfl⟩
          rw [hpg] at hpg0 hpg1 ⊢
          have w1 : IntKind.i64.wrap (IntKind.i64.wrap (z + IntKind.i64.wrap pg) + c) = c + (pg + z) := by
            rw [wrap64 (n := pg) (by omega) (by omega), wrap64 (n := z + pg) (by omega) (by omega), wrap64 (by omega) (by omega)]; omega
          rw [w1, Int.tmod_eq_emod_of_nonneg (by omega), Int.tdiv_eq_ediv_of_nonneg (by omega), wrap64 (n := (c + (pg + z)) / 16777216) (by omega) (by omega), wrap64 (n := (k : Int) + 1) (by omega) (by omega)]
          refine .inl ⟨_, rfl, hkl, _, _, rfl, hkl, by simp [hl2], dig_set hd2 (by omega) (by omega), by omega, by omega, ?_, ?_, ?_⟩
          · rw [bv_set _ _ _ _ hik, htk, hzz]
            have he := Int.emod_add_mul_ediv (c + (pg + z)) (16777216 : Int)
            generalize (c + (pg + z)) % (16777216 : Int) = q at he ⊢
            generalize (c + (pg + z)) / (16777216 : Int) = t at he ⊢
            have h1 : (16777216 : Int) ^ (i + (k + 1)) = (16777216 : Int) ^ (i + k) * (16777216 : Int) := by rw [← Nat.add_assoc]; exact Int.pow_succ _ _
            have h2 : (16777216 : Int) ^ (i + k) = (16777216 : Int) ^ i * (16777216 : Int) ^ k := Int.pow_add _ _ _
            rw [h1]
            have h3 : p * (bv (16777216 : Int) (y.take k) + (16777216 : Int) ^ k * g) * (16777216 : Int) ^ i = p * bv (16777216 : Int) (y.take k) * (16777216 : Int) ^ i + (16777216 : Int) ^ (i + k) * pg := by rw [h2, ← hpg]; grind
            rw [h3]
            grind
          · intro hlt2
            have hky : k = y.length := by omega
            have hg0 : g = 0 := by rw [← hg]; exact dg_out (by omega)
            have hz0 : z = 0 := by rw [← hzz, hz2 _ (Nat.le_refl _)]; exact hz _ (by omega)
            have : pg = 0 := by rw [← hpg, hg0]; simp
            omega
          · intro q hq
            rw [dg_set (by omega)]
            exact hz2 q (by omega)
        · have hor : ¬(k < y.length ∨ 0 < c) := by rw [← ht2, ht]; simp
          subst ht
          have hc : c = 0 := by omega
          refine .inr ⟨(o2, ()), by simp only [cond_false], hl2, hd2, ?_, fun q hq => (hz2 q (by omega)).trans (hz q (by omega))⟩
          rw [hc, bv_take_all (by omega)] at hv2
          show bv (16777216 : Int) o2 = _
          rw [← hv2]; simp
      · rintro ⟨o2, u⟩ ⟨q1, q2, q3, q4⟩
        simp only at q1 q2 q3 q4 ⊢
        rw [wrap64 (n := (i : Int) + 1) (by omega) (by omega)]
        refine ⟨_, rfl, _, rfl, _, rfl, hlt, q1, q2, ?_, q4⟩
        rw [bv_take_succ, hp, q3, hv]
        grind
    · have hi' : i = x.length := by omega
      subst hi'
      have e0 : decide (((x.length : Nat) : Int) < ((x.length : Nat) : Int)) = false := by simp
      refine .inr ⟨(out, ()), by simp only [e0, cond_false], ?_, hdo, hlen⟩
      rw [List.take_length] at hv
      exact hv
  · intro z hz
    have := List.eq_of_mem_replicate hz
    omega
  · rw [bv_zeros]; simp [bv]
  · intro q _
    unfold dg
    simp only [List.getD_eq_getElem?_getD, List.getElem?_replicate]
    split <;> rfl
  · rintro ⟨r, u⟩ ⟨q1, q2, q3⟩
    simp only at q1 q2 q3 ⊢
    obtain ⟨t, t1, t2, t3, t4, t5, t6⟩ := g_trim (neg := !(a.neg == b.neg)) q2 (by omega)
    rw [t1]
    have va := ha.w.val
    have vb := hb.w.val
    rw [hx] at va
    rw [hy] at vb
    have hv : bv (16777216 : Int) r = (((v * w).natAbs : Nat) : Int) := by rw [q1, va, vb, Int.natAbs_mul]; simp
    refine ⟨_, rfl, ⟨⟨t3, t4, by omega, by rw [t2, hv]⟩, ?_, by omega⟩, by omega⟩
    rw [t6, hv]
    have na := ha.neg
    have nb := hb.neg
    have hsg : v * w < 0 ↔ (v < 0 ∧ 0 < w) ∨ (0 < v ∧ w < 0) := by
      constructor
      · intro h
        rcases Int.lt_trichotomy v 0 with h1 | h1 | h1
        · rcases Int.lt_or_le 0 w with h2 | h2
          · exact .inl ⟨h1, h2⟩
          · have := Int.mul_nonneg_of_nonpos_of_nonpos (Int.le_of_lt h1) h2
            omega
        · subst h1; simp at h
        · rcases Int.lt_or_le w 0 with h2 | h2
          · exact .inr ⟨h1, h2⟩
          · have := Int.mul_nonneg (Int.le_of_lt h1) h2
            omega
      · rintro (⟨h1, h2⟩ | ⟨h1, h2⟩)
        · exact Int.mul_neg_of_neg_of_pos h1 h2
        · exact Int.mul_neg_of_pos_of_neg h1 h2
    have hnz : (((v * w).natAbs : Nat) : Int) ≠ 0 ↔ v ≠ 0 ∧ w ≠ 0 := by
      rw [show ((((v * w).natAbs : Nat) : Int) ≠ 0 ↔ v * w ≠ 0) from by omega]
      simp [Int.mul_eq_zero]
    rw [hsg, hnz]
    cases hna : a.neg <;> cases hnb : b.neg <;> rw [hna] at na <;> rw [hnb] at nb <;> simp at na nb ⊢ <;> omega
theorem g_sum {a b : TBig} {v w : Int} (ha : Nb a v) (hb : Nb b w) (hl : max a.d.length b.d.length + 1 ≤ 8000000) : ∃ r, F_ref08_Sum a b = some r ∧ Nb r (v + w) ∧ r.d.length ≤ max a.d.length b.d.length + 1 := by
  unfold F_ref08_Sum
  have na := ha.neg
  have nb := hb.neg
  rcases Decidable.em (a.neg = b.neg) with he | hne
  · have e0 : (a.neg == b.neg) = true := by simpa using he
    rw [e0, cond_true]
    obtain ⟨r, r1, r2, r3⟩ := ha.w.add hb.w (by omega)
    rw [r1]
    have hs : (v < 0 ↔ w < 0) := by rw [← na, ← nb, he]
    refine ⟨_, rfl, ⟨?_, ?_, by show r.length ≤ _; omega⟩, r3⟩
    · rw [show (v + w).natAbs = v.natAbs + w.natAbs from by omega]; exact r2
    · show a.neg = true ↔ _
      rw [na]; omega
  · have e0 : (a.neg == b.neg) = false := by simpa using hne
    rw [e0, cond_false, hb.w.larger ha.w]
    simp only [Option.bind_some]
    have hs : ¬(v < 0 ↔ w < 0) := by
      rw [← na, ← nb]
      cases ha2 : a.neg <;> cases hb2 : b.neg <;> simp [ha2, hb2] at hne ⊢
    rcases Nat.lt_or_ge v.natAbs w.natAbs with h | h
    · rw [decide_eq_true h]
      simp only [cond_true, Option.bind_some]
      obtain ⟨r, t, r1, t1, t2, t3, t4⟩ := hb.w.sub b.neg ha.w (Nat.le_of_lt h)
      rw [r1]
      simp only [Option.bind_some]
      rw [t1]
      refine ⟨t, rfl, ⟨?_, ?_, by omega⟩, by omega⟩
      · rw [show (v + w).natAbs = w.natAbs - v.natAbs from by omega]; exact t2
      · rw [t4, nb]; omega
    · rw [decide_eq_false (by omega)]
      simp only [cond_false, Option.bind_some]
      obtain ⟨r, t, r1, t1, t2, t3, t4⟩ := ha.w.sub a.neg hb.w h
      rw [r1]
      simp only [Option.bind_some]
      rw [t1]
      refine ⟨t, rfl, ⟨?_, ?_, by omega⟩, by omega⟩
      · rw [show (v + w).natAbs = v.natAbs - w.natAbs from by omega]; exact t2
      · rw [t4, na]; omega
end Go.Proofs.Ytbamoboldhabjaa

/- The reference's numbers of many digits: Gcd. -/
namespace Go.Proofs.Ytbamoboldhabjaa
set_option linter.unusedVariables false
set_option linter.unusedSimpArgs false

theorem Wg.ne {l : List Int} {v : Nat} (h : Wg l v) (hv : 0 < v) : 0 < l.length := by
  apply List.length_pos_iff.2
  intro e
  have := h.zero.1 e
  omega
end Go.Proofs.Ytbamoboldhabjaa

/- The reference's exact numbers: Quotient, Lower; Plus, Less, Times, Over, Sign, Cmp as rational numbers. -/
namespace Go.Proofs.Ytbamoboldhabjaa
set_option linter.unusedVariables false
set_option linter.unusedSimpArgs false

/-- An exact number of the reference, with at most c digits. -/
structure Gq (x : TExact) (q : Rat) (c : Nat) : Prop where
  ex : ∃ v w : Int, Nb x.n v ∧ Nb x.d w ∧ 0 < w ∧ q * (w : Rat) = (v : Rat)
  ln : x.n.d.length ≤ c
  ld : x.d.d.length ≤ c
theorem Gq.mono {x : TExact} {q : Rat} {c e : Nat} (h : Gq x q c) (hc : c ≤ e) : Gq x q e := ⟨h.ex, Nat.le_trans h.ln hc, Nat.le_trans h.ld hc⟩
theorem Gq.cast {x : TExact} {q r : Rat} {c : Nat} (h : Gq x q c) (e : q = r) : Gq x r c := e ▸ h
theorem g_plusq {x y : TExact} {q r : Rat} {c e : Nat} (hx : Gq x q c) (hy : Gq y r e) (hm : c + e + 2 ≤ 8000000) : ∃ z, F_ref08_Plus x y = some z ∧ Gq z (q + r) (c + e + 2) := by
  unfold F_ref08_Plus
  have l1 := hx.ln
  have l2 := hx.ld
  have l3 := hy.ln
  have l4 := hy.ld
  obtain ⟨v1, w1, n1, d1, p1, h1⟩ := hx.ex
  obtain ⟨v2, w2, n2, d2, p2, h2⟩ := hy.ex
  obtain ⟨a, a1, a2, a3⟩ := g_product n1 d2 (by omega)
  obtain ⟨b, b1, b2, b3⟩ := g_product n2 d1 (by omega)
  obtain ⟨s, s1, s2, s3⟩ := g_sum a2 b2 (by omega)
  obtain ⟨d, d1', d2', d3'⟩ := g_product d1 d2 (by omega)
  rw [a1, b1]
  simp only [Option.bind_some]
  rw [s1, d1']
  refine ⟨_, rfl, ⟨_, _, s2, d2', Int.mul_pos p1 p2, ?_⟩, by show s.d.length ≤ _; omega, by show d.d.length ≤ _; omega⟩
  simp only [Rat.intCast_mul, Rat.intCast_add]
  grind
theorem g_lessq {x y : TExact} {q r : Rat} {c e : Nat} (hx : Gq x q c) (hy : Gq y r e) (hm : c + e + 2 ≤ 8000000) : ∃ z, F_ref08_Less x y = some z ∧ Gq z (q - r) (c + e + 2) := by
  unfold F_ref08_Less
  obtain ⟨v2, w2, n2, d2, p2, h2⟩ := hy.ex
  obtain ⟨a, a1, a2, a3⟩ := g_neg n2
  rw [a1]
  simp only [Option.bind_some]
  obtain ⟨z, z1, z2⟩ := g_plusq (y := ⟨a, y.d⟩) (r := -r) hx ⟨⟨_, _, a2, d2, p2, by simp only [Rat.intCast_neg]; grind⟩, by rw [a3]; exact hy.ln, hy.ld⟩ hm
  rw [z1]
  exact ⟨z, rfl, z2.cast (by rw [Rat.sub_eq_add_neg])⟩
theorem g_sign {x : TExact} {q : Rat} {c : Nat} (hx : Gq x q c) : ∃ s, F_ref08_Sign x = some s ∧ (s = 0 ↔ q = 0) := by
  unfold F_ref08_Sign
  obtain ⟨v, w, n, d, p, h⟩ := hx.ex
  have hz : q = 0 ↔ v = 0 := by
    have hw := int_ne (show w ≠ 0 by omega)
    constructor
    · intro e
      subst e
      rw [Rat.zero_mul] at h
      exact Rat.intCast_inj.1 h.symm
    · intro e
      subst e
      rcases Rat.mul_eq_zero.1 h with e | e
      · exact e
      · exact absurd e hw
  rw [hz]
  have hn := n.neg
  have h0 := n.w.zero
  cases hb : x.n.neg with
  | true =>
    rw [hb] at hn
    exact ⟨_, rfl, by simp at hn ⊢; omega⟩
  | false =>
    rw [hb] at hn
    simp at hn
    cases hd : x.n.d with
    | nil => exact ⟨0, rfl, by have := h0.1 hd; omega⟩
    | cons a l =>
      refine ⟨1, ?_, ?_⟩
      · have e0 : ((((a :: l).length : Nat) : Int) == 0) = false := by simp; omega
        simp only [cond_false]
        rw [e0]; rfl
      · have : ¬ v.natAbs = 0 := fun e => by
          have := h0.2 e
          rw [hd] at this
          cases this
        omega
theorem g_cmpq {x y : TExact} {q r : Rat} {c e : Nat} (hx : Gq x q c) (hy : Gq y r e) (hm : c + e + 2 ≤ 8000000) : ∃ s, F_ref08_Cmp x y = some s ∧ (s = 0 ↔ q = r) := by
  unfold F_ref08_Cmp
  obtain ⟨z, z1, z2⟩ := g_lessq hx hy hm
  obtain ⟨s, s1, s2⟩ := g_sign z2
  rw [z1]
  simp only [Option.bind_some]
  rw [s1]
  exact ⟨s, rfl, by rw [s2]; constructor <;> intro h <;> grind⟩
end Go.Proofs.Ytbamoboldhabjaa

/- The reference's exact numbers: Fraction, Told, part, Of. -/
namespace Go.Proofs.Ytbamoboldhabjaa
set_option linter.unusedVariables false
set_option linter.unusedSimpArgs false

theorem g_part (d : Int) (l : List Int) (h4 : d ≤ 9223372036854775807) (hd : 0 < d) (hl : ∀ x ∈ l, -9223372036854775808 ≤ x ∧ x ≤ 9223372036854775807) (hll : l.length ≤ 1000) :
    ∃ r, F_ref20_part l d = some r ∧ Gq r ((prodZ l : Rat) / (d : Rat)) (4 * l.length + 3) := by
  unfold F_ref20_part
  obtain ⟨o, o1, o2, o3⟩ := g_int 1 (by omega) (by omega)
  rw [o1]
  simp only [Option.bind_some]
  refine iter_bind (Q := fun r : TBig × Unit => Nb r.1 (prodZ l) ∧ r.1.d.length ≤ 4 * l.length + 3) (fun k s => ∃ t, s = ((k : Int), t, ()) ∧ k ≤ l.length ∧ Nb t (prodZ (l.take k)) ∧ t.d.length ≤ 4 * k + 3) l.length (by unfold big; omega) ?_ ⟨o, rfl, Nat.zero_le _, o2, by omega⟩ ?_
  · rintro k s hk ⟨t, rfl, _, ht, htl⟩
    rcases Nat.lt_or_ge k l.length with hlt | hge
    · have hx := hl l[k] (List.getElem_mem _)
      obtain ⟨a, a1, a2, a3⟩ := g_int l[k] hx.1 hx.2
      obtain ⟨p, p1, p2, p3⟩ := g_product ht a2 (by omega)
      have e0 : decide ((k : Int) < ((l.length : Nat) : Int)) = true := decide_eq_true (by omega)
      refine .inl ⟨_, ?_, hlt, p, rfl, hlt, ?_, by omega⟩
      · simp only [e0, cond_true]
        rw [idx_nat hlt]
        simp only [Option.bind_some]
        rw [a1]
        simp only [Option.bind_some]
        rw [p1, wrap64 (by omega) (by omega)]
        rfl
      · rw [List.take_succ_eq_append_getElem hlt, prodZ_append]
        simpa [prodZ] using p2
    · have hk' : k = l.length := by omega
      subst hk'
      have e0 : decide (((l.length : Nat) : Int) < ((l.length : Nat) : Int)) = false := by simp
      rw [List.take_length] at ht
      exact .inr ⟨(t, ()), by simp only [e0, cond_false], ht, htl⟩
  · rintro ⟨t, u⟩ ⟨t1, t2⟩
    simp only at t1 t2 ⊢
    obtain ⟨b, b1, b2, b3⟩ := g_int d (by omega) h4
    rw [b1]
    exact ⟨_, rfl, ⟨_, _, t1, b2, hd, by have := int_ne (show d ≠ 0 by omega); grind⟩, t2, by show b.d.length ≤ _; omega⟩
end Go.Proofs.Ytbamoboldhabjaa

/- The reference's beams as rational numbers: Turned, Left, Right, far. -/
namespace Go.Proofs.Ytbamoboldhabjaa
set_option linter.unusedVariables false
set_option linter.unusedSimpArgs false

theorem Gq.skip {x : TExact} {q : Rat} {c e : Nat} (h : Gq x q c) : Gq x (q + 0) (c + e) := (h.mono (Nat.le_add_right _ _)).cast (by grind)
theorem h_turned {b : TBeam} (hb : BeamIn b) (hs : SupOk b) : F_ref20_Turned b = some (turnB b) := by
  have hl0 := hb.l0
  have hl1 := hb.l1
  have hln := hb.ln
  have hn := hs.n10
  have hn1 := hs.n1
  apply gs_eq
  unfold F_ref20_Turned
  refine gloop (fun s : TBeam × Unit => s.1 = ⟨b.name, b.length, b.supports.reverse.map (fun s => b.length - s), [], b.even⟩)
    (fun k s => ∃ m : Nat, m + k = b.supports.length ∧ s = ((m : Int) - 1, ⟨b.name, b.length, (b.supports.drop m).reverse.map (fun s => b.length - s), [], b.even⟩, ())) b.supports.length (by unfold big; omega)
    ⟨b.supports.length, rfl, by rw [wrap64 (by omega) (by omega), List.drop_length]; rfl⟩ ?_ ?_
  · rintro k s hk ⟨m, hm, rfl⟩
    cases m with
    | zero =>
      exact gf (decide_eq_false (by show ¬ (((0 : Nat) : Int) - 1 ≥ 0); omega)) (gend (by show (⟨_, _, _, _, _⟩ : TBeam) = _; rw [List.drop_zero]))
    | succ m =>
      have e2 : (((m + 1 : Nat) : Int) - 1) = (m : Int) := by omega
      have hlt : m < b.supports.length := by omega
      have pm := sp_get hlt
      have rm := sp_rg hs hlt
      refine gt (decide_eq_true (by show (((m + 1 : Nat) : Int) - 1 ≥ 0); omega)) (go (idx_w e2 pm) (gif (by simp; omega) (gend ⟨by omega, m, by omega, ?_⟩)))
      have hdr : b.supports.drop m = sp b m :: b.supports.drop (m + 1) := by
        rw [List.drop_eq_getElem_cons hlt]
        congr 1
        unfold sp; rw [List.getD_eq_getElem?_getD, List.getElem?_eq_getElem hlt]; rfl
      rw [hdr, List.reverse_cons, List.map_append]
      show (IntKind.i64.wrap (((m + 1 : Nat) : Int) - 1 - 1), (⟨b.name, b.length, (b.supports.drop (m + 1)).reverse.map (fun s => b.length - s) ++ [IntKind.i64.wrap (b.length - sp b m)], [], b.even⟩ : TBeam), ()) = _
      rw [e2, wrap64 (n := (m : Int) - 1) (by omega) (by omega), wrap64 (n := b.length - sp b m) (by omega) (by omega)]
      rfl
  · rintro ⟨t, u⟩ ht
    simp only at ht
    subst ht
    refine gloop (fun s : TBeam × Unit => s.1 = turnB b) (fun k s => k ≤ b.loads.length ∧ s = ((k : Int), ⟨b.name, b.length, b.supports.reverse.map (fun s => b.length - s), (b.loads.take k).map (fun x => ⟨b.length - x.at_, x.weight⟩), b.even⟩, ())) b.loads.length (by unfold big; omega) ⟨Nat.zero_le _, rfl⟩ ?_ ?_
    · rintro k s hk ⟨_, rfl⟩
      rcases Nat.lt_or_ge k b.loads.length with hlt | hge
      · obtain ⟨x0, x1, x2, x3⟩ := hb.ld _ (List.getElem_mem hlt)
        have pk := idx_nat hlt
        refine gt (decide_eq_true (by show (k : Int) < ((b.loads.length : Nat) : Int); omega)) (go pk (go pk (gif (by simp; omega) (gend ⟨hlt, hlt, ?_⟩))))
        rw [List.take_succ_eq_append_getElem hlt, List.map_append]
        show (IntKind.i64.wrap ((k : Int) + 1), (⟨b.name, b.length, _, (b.loads.take k).map (fun x => ⟨b.length - x.at_, x.weight⟩) ++ [⟨IntKind.i64.wrap (b.length - b.loads[k].at_), b.loads[k].weight⟩], b.even⟩ : TBeam), ()) = _
        rw [wrap64 (n := b.length - b.loads[k].at_) (by omega) (by omega), wrap64 (n := (k : Int) + 1) (by omega) (by omega)]
        rfl
      · refine gf (decide_eq_false (by show ¬ (k : Int) < ((b.loads.length : Nat) : Int); omega)) (gend ?_)
        show (⟨b.name, b.length, b.supports.reverse.map (fun s => b.length - s), (b.loads.take k).map (fun x => ⟨b.length - x.at_, x.weight⟩), b.even⟩ : TBeam) = turnB b
        rw [List.take_of_length_le hge]
        rfl
    · rintro ⟨t, u⟩ h
      exact gend h
theorem gfe {γ : Type} {c : Bool} {X Y : γ} (h : c = false) : (bif c then X else Y) = Y := by subst h; rfl
theorem h_left {b : TBeam} (hb : BeamIn b) {a : Int} (h0 : 0 ≤ a) (h1 : a ≤ b.length) : Gs (F_ref20_Left b a) fun r => Gq r (overQ b.even (lds b.loads) a) 600 := by
  unfold F_ref20_Left
  have hl := hb.l1
  have he0 := hb.e0
  have he1 := hb.e1
  have hln := hb.ln
  obtain ⟨p, p1, p2⟩ := g_part 2000 [b.even, a, a] (by omega) (by omega) (by intro x hx; simp at hx; omega) (by simp)
  refine go p1 ?_
  refine gcall (loop_sumG (w := b.loads) (fun t q c => Gq t q c) (fun x => if x.at_ < a then (x.weight : Rat) * (a - x.at_) else 0) 13 (by omega) p2 ?_ (fun t => gfe (decide_eq_false (by show ¬ (((b.loads.length : Nat) : Int) < ((b.loads.length : Nat) : Int)); omega)))) ?_
  · intro k h t q ht
    obtain ⟨x0, x1, x2, x3⟩ := hb.ld _ (List.getElem_mem h)
    have w1 : IntKind.i64.wrap ((k : Int) + 1) = ((k + 1 : Nat) : Int) := by rw [wrap64 (by omega) (by omega)]; omega
    have hx := idx_nat h
    refine gt (decide_eq_true (by show (k : Int) < ((b.loads.length : Nat) : Int); omega)) (goo hx ?_)
    generalize b.loads[k] = x at *
    by_cases hc : x.at_ < a
    · have hw : IntKind.i64.wrap (a - x.at_) = a - x.at_ := wrap64 (by omega) (by omega)
      obtain ⟨z, z1, z2⟩ := g_part 1 [x.weight, a - x.at_] (by omega) (by omega) (by intro y hy; simp at hy; omega) (by simp)
      obtain ⟨s, s1, s2⟩ := g_plusq ht z2 (by simp only [List.length_cons, List.length_nil]; omega)
      refine gbt (decide_eq_true hc) (goo hx (goo hx (goo (by rw [hw]; exact z1) (goo s1 (gs (gend ⟨s, by simp only [w1], (s2.mono (by simp only [List.length_cons, List.length_nil]; omega)).cast ?_⟩))))))
      rw [div_one', prod2, Rat.intCast_sub, if_pos hc]
    · refine gbf (decide_eq_false hc) (gs (gend ⟨t, by simp only [w1], ?_⟩))
      rw [if_neg hc]
      exact ht.skip
  · rintro ⟨t, u⟩ ht
    refine gend ((ht.mono (by simp only [List.length_cons, List.length_nil]; omega)).cast ?_)
    unfold overQ lds
    rw [sumQ_map, prod3]
    rfl
theorem h_right {b : TBeam} (hb : BeamIn b) (hs : SupOk b) {a : Int} (h0 : 0 ≤ a) (h1 : a ≤ b.length) : Gs (F_ref20_Right b a) fun r => Gq r (overQ b.even (turnW b.length (lds b.loads)) (b.length - a)) 600 := by
  unfold F_ref20_Right
  have hl := hb.l1
  have hw : IntKind.i64.wrap (b.length - a) = b.length - a := wrap64 (by omega) (by omega)
  refine go (h_turned hb hs) (gcall (by rw [hw]; exact h_left (turn_in hb) (by omega) (by show b.length - a ≤ b.length; omega)) fun r hr => gend ?_)
  rw [turn_lds] at hr
  exact hr
end Go.Proofs.Ytbamoboldhabjaa

/- What the program and the reference tell of a beam's moments and reactions. -/
namespace Go.Proofs.Ytbamoboldhabjaa
set_option linter.unusedVariables false
set_option linter.unusedSimpArgs false

/-- The beam tilts. -/
def tilt (b : TBeam) : Prop := b.supports.length = 1 ∧ fstQ b ≠ lstQ b
def momL (b : TBeam) : List Rat := (List.range b.supports.length).map (momB b)
def reaL (b : TBeam) : List Rat := (List.range b.supports.length).map (reactB b)
/-- What is small enough for the walks. -/
structure SmallB (b : TBeam) : Prop where
  name : b.name.size ≤ 1000000
  sup : b.supports.length ≤ 1000000
  ld : b.loads.length ≤ 1000000
theorem list_of {α : Type} {R : α → Rat → Prop} {l : List α} {n : Nat} (f : Nat → Rat) (hl : l.length = n) (h : ∀ i, i < n → ∃ x, l[i]? = some x ∧ R x (f i)) : ∀ (i : Nat) (h1 : i < l.length) (h2 : i < ((List.range n).map f).length), R l[i] ((List.range n).map f)[i] := by
  intro i h1 h2
  obtain ⟨x, x1, x2⟩ := h i (by omega)
  rw [List.getElem?_eq_getElem h1] at x1
  injection x1 with x1
  rw [x1]
  simpa using x2
theorem f_given_ok {b : TBeam} (hw : SmallB b) (h : validBm b = true) (ht : ¬ tilt b) : Gs (F_beam_given b) fun r => r.2 = 0 ∧ r.1.length = b.supports.length ∧ ∀ i, i < b.supports.length → ∃ x, r.1[i]? = some x ∧ Xq x (momB b i) 82000 := by
  obtain ⟨hb, hs⟩ := valid_in h
  unfold F_beam_given
  refine go (f_bvalid hw.name hw.sup hw.ld) (gf (by rw [h]; rfl) (gcall (f_moments hb hs) fun r hr => ?_))
  have h2 : r.2 = true := hr.1.2 fun h1 => Classical.byContradiction fun h3 => ht ⟨h1, h3⟩
  refine gf (by rw [h2]; rfl) (gend ⟨rfl, hr.2 h2⟩)
theorem f_Moments {b : TBeam} (hw : SmallB b) (h : validBm b = true) (ht : ¬ tilt b) : F_beam_Moments b = some (outL (momL b)) := by
  apply gs_eq
  have hn : b.supports.length ≤ 10 := (valid_in h).2.n10
  unfold F_beam_Moments
  refine gcall (f_given_ok hw h ht) fun r hr => ?_
  obtain ⟨h1, h2, h3⟩ := hr
  refine gf (by rw [h1]; rfl) (go (f_fractions (qs := momL b) (c := 82000) (by omega) (by rw [h2]; unfold momL; simp) ?_) (gend rfl))
  exact list_of (R := fun x q => Xq x q 82000) (momB b) h2 h3
theorem f_Reactions {b : TBeam} (hw : SmallB b) (h : validBm b = true) (ht : ¬ tilt b) : F_beam_Reactions b = some (outL (reaL b)) := by
  apply gs_eq
  obtain ⟨hb, hs⟩ := valid_in h
  have hn : b.supports.length ≤ 10 := hs.n10
  unfold F_beam_Reactions
  refine gcall (f_given_ok hw h ht) fun r hr => ?_
  obtain ⟨h1, h2, h3⟩ := hr
  refine gf (by rw [h1]; rfl) (gcall (f_reactions hb hs h3) fun t ht => ?_)
  refine go (f_fractions (qs := reaL b) (c := 330000) (by omega) (by rw [ht.1]; unfold reaL; simp) ?_) (gend rfl)
  exact list_of (R := fun x q => Xq x q 330000) (reactB b) ht.1 ht.2
theorem h_tilts {b : TBeam} (hb : BeamIn b) (hs : SupOk b) : Gs (F_ref20_Tilts b) fun r => r = true ↔ tilt b := by
  unfold F_ref20_Tilts tilt
  have hn := hs.n1
  rcases Decidable.em (b.supports.length = 1) with h | h
  · have q0 := sp_get (b := b) (i := 0) (by omega)
    have r0 := sp_rg hs (i := 0) (by omega)
    refine gbt (by rw [beq_iff_eq]; omega) (goo (idx_q (k := 0) q0) (goo (idx_q (k := 0) q0) (gcalll (h_left hb r0.1 r0.2) fun x hx => gcalll (h_right hb hs r0.1 r0.2) fun y hy => ?_)))
    obtain ⟨s, s1, s2⟩ := g_cmpq hx hy (by omega)
    refine goo s1 (gs (gend ?_))
    show (s != 0) = true ↔ _
    rw [bne_iff_ne, ne_eq, s2]
    have e : b.supports.length - 1 = 0 := by omega
    unfold fstQ lstQ
    rw [e]
    constructor
    · intro h2; exact ⟨h, fun h3 => h2 (by grind)⟩
    · intro h2 h3; exact h2.2 (by rw [h3])
  · refine gbf (by rw [beq_eq_false_iff_ne]; omega) (gs (gend ?_))
    show false = true ↔ _
    simp [h]
theorem h_given {b : TBeam} (hw : SmallB b) : Gs (F_ref20_Given b) fun r => (validBm b = false ∧ r = 1) ∨ (validBm b = true ∧ tilt b ∧ r = 22) ∨ (validBm b = true ∧ ¬ tilt b ∧ r = 0) := by
  unfold F_ref20_Given
  refine go (f_rvalid20 hw.name hw.sup hw.ld) ?_
  cases h : validBm b with
  | false => exact gt rfl (gend (.inl ⟨rfl, rfl⟩))
  | true =>
    obtain ⟨hb, hs⟩ := valid_in h
    refine gf rfl (gcall (h_tilts hb hs) fun r hr => ?_)
    cases hr2 : r with
    | true => exact gt rfl (gend (.inr (.inl ⟨rfl, hr.1 hr2, rfl⟩)))
    | false => exact gf rfl (gend (.inr (.inr ⟨rfl, (fun ht => absurd (hr.2 ht) (by rw [hr2]; simp)), rfl⟩)))
end Go.Proofs.Ytbamoboldhabjaa

/- Lists compared; small beams. -/
namespace Go.Proofs.Ytbamoboldhabjaa
set_option linter.unusedVariables false
set_option linter.unusedSimpArgs false

theorem f_eqFr {a b : List TFrac} (ha : a.length ≤ 1000000) : Gs (F_slices_Equal_api_Frac a b) fun v => v = true ↔ a = b := by
  unfold F_slices_Equal_api_Frac
  by_cases hl : a.length = b.length
  · refine gf (by rw [hl]; simp) ?_
    refine gloop (fun r : (Bool × Unit) ⊕ Unit => (∃ y, r = .inl y ∧ y.1 = false ∧ a ≠ b) ∨ (r = .inr () ∧ a = b)) (fun k s => k ≤ a.length ∧ s = ((k : Int), ()) ∧ a.take k = b.take k) a.length (by unfold big; omega) ⟨by omega, rfl, by simp⟩ ?_ ?_
    · rintro k s hk ⟨_, rfl, hab⟩
      rcases Nat.lt_or_ge k a.length with hlt | hge
      · refine gt (decide_eq_true (by show (k : Int) < ((a.length : Nat) : Int); omega)) (go (idx_nat hlt) (go (idx_nat (l := b) (k := k) (by omega)) ?_))
        by_cases hc : a[k] = b[k]'(by omega)
        · refine gf (by rw [(fr_eq _ _).2 hc]; rfl) (gend ⟨hlt, hlt, ?_, ?_⟩)
          · show (IntKind.i64.wrap ((k : Int) + 1), ()) = _
            rw [wrap64 (by omega) (by omega)]; rfl
          · rw [List.take_succ_eq_append_getElem hlt, List.take_succ_eq_append_getElem (show k < b.length by omega), hab, hc]
        · refine gt ?_ (gend (.inl ⟨_, rfl, rfl, fun e => hc (by subst e; rfl)⟩))
          cases hv : ((a[k].num == (b[k]'(by omega)).num) && (a[k].den == (b[k]'(by omega)).den)) with
          | false => rfl
          | true => exact absurd ((fr_eq _ _).1 hv) hc
      · refine gf (decide_eq_false (by show ¬ (k : Int) < ((a.length : Nat) : Int); omega)) (gend (.inr ⟨rfl, ?_⟩))
        rw [List.take_of_length_le hge, List.take_of_length_le (by omega)] at hab
        exact hab
    · rintro r (⟨y, rfl, h1, h2⟩ | ⟨rfl, h2⟩)
      · refine gend ?_
        rw [h1]; simp [h2]
      · refine gend ?_
        simp [h2]
  · refine gt (by rw [bne_iff_ne]; omega) (gend ?_)
    constructor
    · intro h; cases h
    · intro h; exact absurd (by rw [h]) hl
theorem f_same (a : List TFrac) (ha : a.length ≤ 1000000) : F_slices_Equal_api_Frac a a = some true := by
  obtain ⟨v, h1, h2⟩ := f_eqFr (a := a) (b := a) ha
  rw [h1, h2.2 rfl]
def longBm (b : TBeam) : Bool := (decide (((b.supports.length : Nat) : Int) > 5) && decide (((b.supports.length : Nat) : Int) ≤ 10)) || (decide (((b.supports.length : Nat) : Int) > 15) || ((decide (((b.loads.length : Nat) : Int) > 8) && decide (((b.loads.length : Nat) : Int) ≤ 40)) || (decide (((b.loads.length : Nat) : Int) > 45) || decide (((b.name.size : Nat) : Int) > 60))))
theorem f_long (b : TBeam) : F_law20_long b = some (longBm b) := by
  unfold F_law20_long longBm
  cases decide (((b.supports.length : Nat) : Int) > 5) <;> cases decide (((b.supports.length : Nat) : Int) ≤ 10) <;> cases decide (((b.supports.length : Nat) : Int) > 15) <;> cases decide (((b.loads.length : Nat) : Int) > 8) <;> cases decide (((b.loads.length : Nat) : Int) ≤ 40) <;> cases decide (((b.loads.length : Nat) : Int) > 45) <;> rfl
theorem long_small {b : TBeam} (h : longBm b = false) : SmallB b ∧ b.supports.length ≤ 15 ∧ b.loads.length ≤ 45 := by
  unfold longBm at h
  simp only [Bool.or_eq_false_iff, Bool.and_eq_false_iff, decide_eq_false_iff_not] at h
  exact ⟨⟨by omega, by omega, by omega⟩, by omega, by omega⟩
theorem outL_len {l : List Rat} : (outL l).1.length ≤ l.length := by
  unfold outL
  split <;> simp
theorem momL_len {b : TBeam} (hs : SupOk b) : (momL b).length ≤ 10 := by unfold momL; simp; exact hs.n10
theorem reaL_len {b : TBeam} (hs : SupOk b) : (reaL b).length ≤ 10 := by unfold reaL; simp; exact hs.n10
end Go.Proofs.Ytbamoboldhabjaa

/- Shear and Bending of the program and of the reference. -/
namespace Go.Proofs.Ytbamoboldhabjaa
set_option linter.unusedVariables false
set_option linter.unusedSimpArgs false

def bendQ (b : TBeam) (a : Int) : Rat := 0 - overQ b.even (lds b.loads) a + sumQ (fun i => if sp b i < a then reactB b i * ((a - sp b i : Int) : Rat) else 0) (List.range b.supports.length)
theorem sumQ_neg {α : Type} (f : α → Rat) : ∀ (l : List α), sumQ (fun x => 0 - f x) l = 0 - sumQ f l
  | [] => by simp only [sumQ]; grind
  | x :: l => by simp only [sumQ, sumQ_neg f l]; grind
theorem f_placed {b : TBeam} {a : Int} (hw : SmallB b) (h : validBm b = true) (h0 : 0 ≤ a) (h1 : a ≤ b.length) (ht : ¬ tilt b) : Gs (F_beam_placed b a) fun r => r.2 = 0 ∧ r.1.length = b.supports.length ∧ ∀ i, i < b.supports.length → ∃ x, r.1[i]? = some x ∧ Xq x (reactB b i) 330000 := by
  obtain ⟨hb, hs⟩ := valid_in h
  unfold F_beam_placed
  refine go (f_bvalid hw.name hw.sup hw.ld) (gf (by rw [h]; rfl) ?_)
  rw [bif_or]
  refine gs (gf ?_ (gcall (f_given_ok hw h ht) fun r hr => ?_))
  · show (decide (a < 0) || decide (a > b.length)) = false
    rw [Bool.or_eq_false_iff, decide_eq_false_iff_not, decide_eq_false_iff_not]
    omega
  obtain ⟨g1, g2, g3⟩ := hr
  exact gf (by rw [g1]; rfl) (gcall (f_reactions hb hs g3) fun t ht => gend ⟨rfl, ht⟩)
theorem f_Bending {b : TBeam} {a : Int} (hw : SmallB b) (h : validBm b = true) (h0 : 0 ≤ a) (h1 : a ≤ b.length) (ht : ¬ tilt b) : F_beam_Bending b a = some (outQ (bendQ b a)) := by
  obtain ⟨hb, hs⟩ := valid_in h
  have hlb := hb.l1
  have he0 := hb.e0
  have he1 := hb.e1
  have hln := hb.ln
  have hn := hs.n10
  apply gs_eq
  unfold F_beam_Bending
  refine gcall (f_placed hw h h0 h1 ht) fun r hr => ?_
  obtain ⟨r1, r2, r3⟩ := hr
  obtain ⟨z, z1, z2⟩ := f_whole 0 (by omega) (by omega)
  obtain ⟨p, p1, p2⟩ := f_eproduct 2000 [b.even, a, a] (by omega) (by omega) (by omega) (by intro x hx; simp at hx; omega) (by simp)
  obtain ⟨q, q1, q2⟩ := f_eless z2 p2 (by omega) (by simp only [List.length_cons, List.length_nil]; omega)
  refine gf (by rw [r1]; rfl) (goo z1 (goo p1 (goo q1 (gs ?_))))
  refine gcall (loop_sumG (w := List.range b.supports.length) (fun t q c => Xq t q c) (fun i => if sp b i < a then reactB b i * ((a - sp b i : Int) : Rat) else 0) 330003 (by simp; omega) q2 ?_ (fun t => gfe (decide_eq_false (by show ¬ ((((List.range b.supports.length).length : Nat) : Int) < ((b.supports.length : Nat) : Int)); rw [List.length_range]; omega)))) ?_
  · intro k hk t q ht
    have hk2 : k < b.supports.length := by simpa using hk
    have hkk : (List.range b.supports.length)[k] = k := by simp
    rw [hkk]
    have hc : k ≤ 9 := by omega
    have rk := sp_rg hs hk2
    have w1 : IntKind.i64.wrap ((k : Int) + 1) = ((k + 1 : Nat) : Int) := by rw [wrap64 (by omega) (by omega)]; omega
    have w2 : IntKind.i64.wrap (a - sp b k) = a - sp b k := wrap64 (by omega) (by omega)
    refine gt (decide_eq_true (by show (k : Int) < ((b.supports.length : Nat) : Int); omega)) (goo (sp_idx hk2) ?_)
    by_cases hle : sp b k < a
    · obtain ⟨v, v1, v2⟩ := r3 k hk2
      obtain ⟨y, y1, y2⟩ := f_whole (a - sp b k) (by omega) (by omega)
      obtain ⟨m, m1, m2⟩ := f_etimes v2 y2 (by omega) (by omega)
      obtain ⟨e, e1, e2⟩ := f_eplus ht m2 (by omega) (by simp only [List.length_cons, List.length_nil]; omega)
      refine gbt (decide_eq_true hle) (goo (idx_q v1) (goo (by rw [w2]; exact y1) (goo m1 (goo e1 (gs (gend ⟨e, by simp only [w1], ?_⟩))))))
      rw [if_pos hle]
      exact e2.mono (by omega)
    · refine gbf (decide_eq_false hle) (gs (gend ⟨t, by simp only [w1], ?_⟩))
      rw [if_neg hle]
      exact ht.skip
  rintro ⟨t, u⟩ ht2
  have ht2 : Xq t (0 - (b.even : Rat) * a * a / 2000 + sumQ (fun i => if sp b i < a then reactB b i * ((a - sp b i : Int) : Rat) else 0) (List.range b.supports.length)) 3300200 := (ht2.mono (by simp only [List.length_cons, List.length_nil, List.length_range]; omega)).cast (by rw [prod3]; rfl)
  refine gcall (loop_sumG (w := b.loads) (fun t q c => Xq t q c) (fun x => 0 - (if x.at_ < a then (x.weight : Rat) * (a - x.at_) else 0)) 7 (by omega) ht2 ?_ (fun t => gfe (decide_eq_false (by show ¬ (((b.loads.length : Nat) : Int) < ((b.loads.length : Nat) : Int)); omega)))) ?_
  · intro k hk t q ht
    obtain ⟨x0, x1, x2, x3⟩ := hb.ld _ (List.getElem_mem hk)
    have w1 : IntKind.i64.wrap ((k : Int) + 1) = ((k + 1 : Nat) : Int) := by rw [wrap64 (by omega) (by omega)]; omega
    refine gt (decide_eq_true (by show (k : Int) < ((b.loads.length : Nat) : Int); omega)) (goo (idx_nat hk) ?_)
    by_cases hle : b.loads[k].at_ < a
    · have w2 : IntKind.i64.wrap (a - b.loads[k].at_) = a - b.loads[k].at_ := wrap64 (by omega) (by omega)
      obtain ⟨v, v1, v2⟩ := f_eproduct 1 [b.loads[k].weight, a - b.loads[k].at_] (by omega) (by omega) (by omega) (by intro y hy; simp at hy; omega) (by simp)
      obtain ⟨e, e1, e2⟩ := f_eless ht v2 (by omega) (by simp only [List.length_cons, List.length_nil]; omega)
      refine gbt (decide_eq_true hle) (goo (by rw [w2]; exact v1) (goo e1 (gs (gend ⟨e, by simp only [w1], (e2.mono (by simp only [List.length_cons, List.length_nil]; omega)).cast ?_⟩))))
      rw [if_pos hle, div_one', prod2, Rat.intCast_sub]; grind
    · refine gbf (decide_eq_false hle) (gs (gend ⟨t, by simp only [w1], ht.skip.cast ?_⟩))
      rw [if_neg hle]; grind
  rintro ⟨t', u'⟩ ht3
  rw [sumQ_neg] at ht3
  have ht3 : Xq t' (bendQ b a) _ := ht3.cast (by unfold bendQ overQ lds; rw [sumQ_map]; grind)
  exact go (f_fraction ht3) (gend rfl)
end Go.Proofs.Ytbamoboldhabjaa

/- All weight is borne; the moments of a beam that doesn't tilt. -/
namespace Go.Proofs.Ytbamoboldhabjaa
set_option linter.unusedVariables false
set_option linter.unusedSimpArgs false

def wgtQ (b : TBeam) : Rat := (b.even : Rat) * b.length / 1000 + sumQ (fun x : Ld => (x.2 : Rat)) (lds b.loads)
def leQ (w : List Ld) (a : Int) : Rat := sumQ (fun x => if x.1 ≤ a then (x.2 : Rat) else 0) w
theorem le_split (w : List Ld) (a : Int) : leQ w a = atQ w a + sumQ (fun x => if x.1 < a then (x.2 : Rat) else 0) w := by
  unfold leQ atQ
  rw [← sumQ_add]
  apply sumQ_congr
  intro x _
  rcases Int.lt_trichotomy x.1 a with h | h | h
  · rw [if_pos (by omega), if_neg (by omega), if_pos h]; grind
  · rw [if_pos (by omega), if_pos h, if_neg (by omega)]; grind
  · rw [if_neg (by omega), if_neg (by omega), if_neg (by omega)]; grind
theorem le_next (w : List Ld) {a c : Int} (h : a < c) : leQ w c = leQ w a + sumQ (fun x => if x.1 ≤ a ∨ c ≤ x.1 then 0 else (x.2 : Rat)) w + atQ w c := by
  unfold leQ atQ
  rw [← sumQ_add, ← sumQ_add]
  apply sumQ_congr
  intro x _
  rcases Int.lt_or_le a x.1 with h1 | h1
  · rcases Int.lt_trichotomy x.1 c with h2 | h2 | h2
    · rw [if_pos (by omega), if_neg (by omega), if_neg (by omega), if_neg (by omega)]; grind
    · rw [if_pos (by omega), if_neg (by omega), if_pos (by omega), if_pos h2]; grind
    · rw [if_neg (by omega), if_neg (by omega), if_pos (by omega), if_neg (by omega)]; grind
  · rw [if_pos (by omega), if_pos h1, if_pos (.inl h1), if_neg (by omega)]; grind
theorem le_end {L : Int} {w : List Ld} (s : Int) : leQ w s + sumQ (fun x => if x.1 < L - s then (x.2 : Rat) else 0) (turnW L w) = sumQ (fun x => (x.2 : Rat)) w := by
  unfold leQ turnW
  rw [sumQ_map, ← sumQ_add]
  apply sumQ_congr
  intro x _
  simp only
  by_cases h : x.1 ≤ s
  · rw [if_pos h, if_neg (by omega)]; grind
  · rw [if_neg h, if_pos (by omega)]; grind
theorem sumN_congr {f g : Nat → Rat} : ∀ (n : Nat), (∀ i, i < n → f i = g i) → sumN f n = sumN g n
  | 0, _ => rfl
  | n + 1, h => by simp only [sumN]; rw [sumN_congr n fun i hi => h i (by omega), h n (by omega)]
theorem sumQ_range (f : Nat → Rat) : ∀ (n : Nat), sumQ f (List.range n) = sumN f n
  | 0 => rfl
  | n + 1 => by rw [List.range_succ, sumQ_append, sumQ_range f n]; simp only [sumQ, sumN]; grind
theorem sumN_arm (r s : Nat → Rat) (a : Rat) : ∀ (n : Nat), sumN (fun i => r i * (a - s i)) n = sumN r n * a - sumN (fun i => r i * s i) n
  | 0 => by simp only [sumN]; grind
  | n + 1 => by simp only [sumN]; rw [sumN_arm r s a n]; grind
/-- What all supports to the left bear, and their moments. -/
def Fk (b : TBeam) (k : Nat) : Rat := sumN (reactB b) k
def Tk (b : TBeam) (k : Nat) : Rat := sumN (fun i => reactB b i * (sp b i : Rat)) k
theorem cast_sub' (a c : Int) : ((a - c : Int) : Rat) = (a : Rat) - (c : Rat) := Rat.intCast_sub a c
theorem gp_ne {b : TBeam} (hs : SupOk b) {i : Nat} (h : i + 1 < b.supports.length) : gp b i ≠ 0 := by
  have := gp_pos hs i h
  grind
theorem equil {b : TBeam} (hb : BeamIn b) (hs : SupOk b) (ht : ¬ tilt b) : ∀ (k : Nat), k < b.supports.length →
    (Fk b (k + 1) = if k + 1 < b.supports.length then (b.even : Rat) * (sp b k : Rat) / 1000 + leQ (lds b.loads) (sp b k) + (leverQ b.even (lds b.loads) (sp b k) (sp b (k + 1)) true + (momB b (k + 1) - momB b k) / gp b k) else wgtQ b) ∧
    Fk b (k + 1) * (sp b k : Rat) - Tk b (k + 1) = momB b k + overQ b.even (lds b.loads) (sp b k) := by
  intro k
  have hfin : ∀ k, k + 1 = b.supports.length → (b.even : Rat) * (sp b k : Rat) / 1000 + leQ (lds b.loads) (sp b k) + beyondQ b.even (turnW b.length (lds b.loads)) (b.length - sp b k) = wgtQ b := by
    intro k hk
    have h1 := le_end (L := b.length) (w := lds b.loads) (sp b k)
    unfold beyondQ wgtQ
    rw [cast_sub']
    grind
  induction k with
  | zero =>
    intro h0
    have hr : reactB b 0 = atQ (lds b.loads) (sp b 0) + 0 + (if 0 + 1 < b.supports.length then leverQ b.even (lds b.loads) (sp b 0) (sp b (0 + 1)) true + (momB b (0 + 1) - momB b 0) / gp b 0 else 0) + beyondQ b.even (lds b.loads) (sp b 0) + (if 0 + 1 = b.supports.length then beyondQ b.even (turnW b.length (lds b.loads)) (b.length - sp b 0) else 0) := by
      unfold reactB reactQ
      rw [if_neg (by omega), if_pos rfl]
      rfl
    have hF : Fk b (0 + 1) = reactB b 0 := by unfold Fk; simp only [sumN]; grind
    have hT : Tk b (0 + 1) = reactB b 0 * (sp b 0 : Rat) := by unfold Tk; simp only [sumN]; grind
    have hl := le_split (lds b.loads) (sp b 0)
    have hM : momB b 0 = fstQ b := by
      unfold momB
      by_cases h1 : b.supports.length = 1
      · have := Classical.byContradiction fun h3 => ht ⟨h1, h3⟩
        rw [show (0 : Nat) = b.supports.length - 1 from by omega, mom_last]
        exact this.symm
      · rw [mom_first _ _ _ _ (by omega)]
    constructor
    · rw [hF, hr]
      by_cases h1 : 0 + 1 < b.supports.length
      · rw [if_pos h1, if_pos h1, if_neg (by omega)]
        unfold beyondQ
        grind
      · have h2 : 0 + 1 = b.supports.length := by omega
        have h3 := hfin 0 h2
        rw [if_neg h1, if_neg h1, if_pos h2, ← h3, hl]
        unfold beyondQ
        grind
    · rw [hF, hT, hM]
      unfold fstQ
      grind
  | succ k ih =>
    intro h0
    obtain ⟨h1, h2⟩ := ih (by omega)
    rw [if_pos (by omega)] at h1
    have hlt : sp b k < sp b (k + 1) := hs.inc k (by omega)
    have hr : reactB b (k + 1) = atQ (lds b.loads) (sp b (k + 1)) + (leverQ b.even (lds b.loads) (sp b k) (sp b (k + 1)) false + (momB b k - momB b (k + 1)) / gp b k) + (if k + 1 + 1 < b.supports.length then leverQ b.even (lds b.loads) (sp b (k + 1)) (sp b (k + 1 + 1)) true + (momB b (k + 1 + 1) - momB b (k + 1)) / gp b (k + 1) else 0) + 0 + (if k + 1 + 1 = b.supports.length then beyondQ b.even (turnW b.length (lds b.loads)) (b.length - sp b (k + 1)) else 0) := by
      unfold reactB reactQ
      rw [if_pos (show 0 < k + 1 by omega), if_neg (show ¬ k + 1 = 0 by omega)]
      rfl
    have hF : Fk b (k + 1 + 1) = Fk b (k + 1) + reactB b (k + 1) := rfl
    have hT : Tk b (k + 1 + 1) = Tk b (k + 1) + reactB b (k + 1) * (sp b (k + 1) : Rat) := rfl
    have hbo := lever_both (E := b.even) (w := lds b.loads) hlt
    have hln := le_next (lds b.loads) hlt
    have hov := over_next (E := b.even) (w := lds b.loads) hlt
    have hg := gp_ne hs (i := k) (by omega)
    have hgd : ((sp b (k + 1) - sp b k : Int) : Rat) = gp b k := rfl
    have hgs : gp b k = (sp b (k + 1) : Rat) - (sp b k : Rat) := cast_sub' _ _
    rw [hgd] at hbo hov
    have hcut : (b.even : Rat) * (sp b (k + 1) : Rat) / 1000 + leQ (lds b.loads) (sp b (k + 1)) = Fk b (k + 1) + (atQ (lds b.loads) (sp b (k + 1)) + (leverQ b.even (lds b.loads) (sp b k) (sp b (k + 1)) false + (momB b k - momB b (k + 1)) / gp b k)) := by
      rw [h1, hln]
      have e : (momB b (k + 1) - momB b k) / gp b k + (momB b k - momB b (k + 1)) / gp b k = 0 := by grind
      grind
    constructor
    · rw [hF, hr]
      by_cases h3 : k + 1 + 1 < b.supports.length
      · rw [if_pos h3, if_pos h3, if_neg (by omega)]
        grind
      · have h4 : k + 1 + 1 = b.supports.length := by omega
        have h5 := hfin (k + 1) h4
        rw [if_neg h3, if_neg h3, if_pos h4, ← h5]
        grind
    · rw [hF, hT]
      have e1 : gp b k * ((momB b (k + 1) - momB b k) / gp b k) = momB b (k + 1) - momB b k := by grind
      have e2 : (Fk b (k + 1) + reactB b (k + 1)) * (sp b (k + 1) : Rat) - (Tk b (k + 1) + reactB b (k + 1) * (sp b (k + 1) : Rat)) = (Fk b (k + 1) * (sp b k : Rat) - Tk b (k + 1)) + gp b k * Fk b (k + 1) := by
        rw [hgs]; grind
      rw [e2, h2, hov]
      have e3 : leQ (lds b.loads) (sp b k) = sumQ (fun x : Ld => if x.1 ≤ sp b k then (x.2 : Rat) else 0) (lds b.loads) := rfl
      rw [← e3]
      have e4 : gp b k * Fk b (k + 1) = gp b k * ((b.even : Rat) * (sp b k : Rat) / 1000 + leQ (lds b.loads) (sp b k)) + gp b k * leverQ b.even (lds b.loads) (sp b k) (sp b (k + 1)) true + gp b k * ((momB b (k + 1) - momB b k) / gp b k) := by
        rw [h1]; grind
      rw [e4, e1]
      grind
theorem all_weight {b : TBeam} (hb : BeamIn b) (hs : SupOk b) (ht : ¬ tilt b) : Fk b b.supports.length = wgtQ b := by
  have hn := hs.n1
  have h := (equil hb hs ht (b.supports.length - 1) (by omega)).1
  rw [if_neg (by omega), show b.supports.length - 1 + 1 = b.supports.length from by omega] at h
  exact h
theorem mom_end {b : TBeam} (hs : SupOk b) : momB b (b.supports.length - 1) = lstQ b := by
  unfold momB; rw [mom_last]
theorem sp_mono {b : TBeam} (hs : SupOk b) {i : Nat} : ∀ {j : Nat}, i ≤ j → j < b.supports.length → sp b i ≤ sp b j := by
  intro j
  induction j with
  | zero => intro h _; rw [show i = 0 from by omega]; omega
  | succ j ih =>
    intro h hj
    rcases Nat.lt_or_ge i (j + 1) with h1 | h1
    · have := ih (by omega) (by omega)
      have : sp b j < sp b (j + 1) := hs.inc j hj
      omega
    · rw [show i = j + 1 from by omega]; omega
theorem mom_start {b : TBeam} (hs : SupOk b) (ht : ¬ tilt b) : momB b 0 = fstQ b := by
  have hn := hs.n1
  unfold momB
  by_cases h1 : b.supports.length = 1
  · have := Classical.byContradiction fun h3 => ht ⟨h1, h3⟩
    rw [show (0 : Nat) = b.supports.length - 1 from by omega, mom_last]
    exact this.symm
  · rw [mom_first _ _ _ _ (by omega)]
theorem mom_eqs {b : TBeam} (hs : SupOk b) {i : Nat} (h : i + 2 < b.supports.length) : gp b i * momB b i + 2 * (gp b i + gp b (i + 1)) * momB b (i + 1) + gp b (i + 1) * momB b (i + 2) = Rp b (i + 1) :=
  mom_three (fun j hj => gp_pos hs j hj) h
theorem sp_lt {b : TBeam} (hs : SupOk b) {i j : Nat} (h : i < j) (hj : j < b.supports.length) : sp b i < sp b j := by
  have h1 := sp_mono hs (i := i) (j := j - 1) (by omega) (by omega)
  have h2 : sp b (j - 1) < sp b j := by
    obtain ⟨k, rfl⟩ : ∃ k, j = k + 1 := ⟨j - 1, by omega⟩
    exact hs.inc k hj
  omega
end Go.Proofs.Ytbamoboldhabjaa

/- Exact numbers: Mul. -/
namespace Go.Proofs.Ytbamoboldhabjaa

theorem RV.w {a : TFrac} (h : RV a) : RW a := ⟨by have := h.d0; omega, by have := h.d1; omega, by have := h.n0; omega, by have := h.n1; omega⟩
end Go.Proofs.Ytbamoboldhabjaa

/- The reactions hold the beam; the bending at the supports is the moment there, and nothing is left at the ends. -/
namespace Go.Proofs.Ytbamoboldhabjaa
set_option linter.unusedVariables false
set_option linter.unusedSimpArgs false

theorem lds_le {b : TBeam} (hb : BeamIn b) : ∀ x ∈ lds b.loads, x.1 ≤ b.length := by
  intro x hx
  unfold lds at hx
  obtain ⟨y, hy, rfl⟩ := List.mem_map.1 hx
  exact (hb.ld y hy).2.1
theorem bend_last {b : TBeam} (hb : BeamIn b) (hs : SupOk b) (ht : ¬ tilt b) : Fk b b.supports.length * (b.length : Rat) - Tk b b.supports.length = overQ b.even (lds b.loads) b.length := by
  have hn := hs.n1
  have h := (equil hb hs ht (b.supports.length - 1) (by omega)).2
  rw [show b.supports.length - 1 + 1 = b.supports.length from by omega] at h
  have hm := mom_end hs
  have hw := all_weight hb hs ht
  have ho := over_end (E := b.even) (lds_le hb) (sp_rg hs (i := b.supports.length - 1) (by omega)).2
  have hmm : momB b (b.supports.length - 1) = 0 - overQ b.even (turnW b.length (lds b.loads)) (b.length - sp b (b.supports.length - 1)) := hm
  have hwq : wgtQ b = (b.even : Rat) * b.length / 1000 + sumQ (fun x : Ld => (x.2 : Rat)) (lds b.loads) := rfl
  rw [← hwq] at ho
  rw [ho, cast_sub']
  rw [hmm] at h
  rw [hw] at h ⊢
  grind
end Go.Proofs.Ytbamoboldhabjaa

/- The turned beam has the same moments and reactions. -/
namespace Go.Proofs.Ytbamoboldhabjaa
set_option linter.unusedVariables false
set_option linter.unusedSimpArgs false

theorem turn_len (b : TBeam) : (turnB b).supports.length = b.supports.length := by unfold turnB; simp
theorem turn_sp {b : TBeam} {j : Nat} (hj : j < b.supports.length) : sp (turnB b) j = b.length - sp b (b.supports.length - 1 - j) := by
  have h1 : b.supports.length - 1 - j < b.supports.length := by omega
  unfold sp turnB
  simp only [List.getD_eq_getElem?_getD, List.getElem?_map]
  rw [List.getElem?_reverse hj, List.getElem?_eq_getElem h1]
  rfl
theorem turnW_twice (L : Int) (w : List Ld) : turnW L (turnW L w) = w := by
  unfold turnW
  rw [List.map_map]
  conv => rhs; rw [← List.map_id w]
  apply List.map_congr_left
  intro x _
  show (L - (L - x.1), x.2) = x
  rw [show L - (L - x.1) = x.1 from by omega]
theorem at_turn (L : Int) (w : List Ld) (a : Int) : atQ (turnW L w) (L - a) = atQ w a := by
  unfold atQ turnW
  rw [sumQ_map]
  apply sumQ_congr
  intro x _
  show (if L - x.1 = L - a then (x.2 : Rat) else 0) = _
  by_cases h : x.1 = a
  · rw [if_pos h, if_pos (by omega)]
  · rw [if_neg h, if_neg (by omega)]
theorem side_turn (E L : Int) (w : List Ld) (a c : Int) (left : Bool) : sideQ E (turnW L w) (L - c) (L - a) left = sideQ E w a c (!left) := by
  unfold sideQ turnW
  rw [sumQ_map, show L - a - (L - c) = c - a from by omega]
  congr 1
  apply sumQ_congr
  intro x _
  simp only
  by_cases h : x.1 ≤ a ∨ c ≤ x.1
  · rw [if_pos h, if_pos (by omega)]
  · rw [if_neg h, if_neg (by omega)]
    cases left
    · simp only [Bool.false_eq_true, if_false, Bool.not_false, if_true]
      rw [show L - a - (L - x.1) = x.1 - a from by omega]
    · simp only [Bool.not_true, Bool.false_eq_true, if_false, if_true]
      rw [show L - x.1 - (L - c) = c - x.1 from by omega]
theorem lever_turn (E L : Int) (w : List Ld) (a c : Int) (left : Bool) : leverQ E (turnW L w) (L - c) (L - a) left = leverQ E w a c (!left) := by
  unfold leverQ turnW
  rw [sumQ_map, show L - a - (L - c) = c - a from by omega]
  congr 1
  apply sumQ_congr
  intro x _
  simp only
  by_cases h : x.1 ≤ a ∨ c ≤ x.1
  · rw [if_pos h, if_pos (by omega)]
  · rw [if_neg h, if_neg (by omega)]
    cases left
    · simp only [Bool.false_eq_true, if_false, Bool.not_false, if_true]
      rw [show L - x.1 - (L - c) = c - x.1 from by omega]
    · simp only [Bool.not_true, Bool.false_eq_true, if_false, if_true]
      rw [show L - a - (L - x.1) = x.1 - a from by omega]
theorem turn_gp {b : TBeam} {j : Nat} (hj : j + 1 < b.supports.length) : gp (turnB b) j = gp b (b.supports.length - 2 - j) := by
  unfold gp
  rw [turn_sp (show j < b.supports.length by omega), turn_sp (show j + 1 < b.supports.length from hj)]
  congr 1
  rw [show b.supports.length - 1 - j = b.supports.length - 2 - j + 1 from by omega, show b.supports.length - 1 - (j + 1) = b.supports.length - 2 - j from by omega]
  omega
theorem turn_fst {b : TBeam} (hn : 1 ≤ b.supports.length) : fstQ (turnB b) = lstQ b ∧ lstQ (turnB b) = fstQ b := by
  constructor
  · unfold fstQ lstQ
    rw [turn_lds, turn_sp (by omega)]
    rfl
  · unfold fstQ lstQ
    rw [turn_lds, turn_len, turn_sp (by omega), show b.supports.length - 1 - (b.supports.length - 1) = 0 from by omega]
    show 0 - overQ b.even (turnW b.length (turnW b.length (lds b.loads))) (b.length - (b.length - sp b 0)) = _
    rw [turnW_twice, show b.length - (b.length - sp b 0) = sp b 0 from by omega]
theorem turn_sup {b : TBeam} (hs : SupOk b) : SupOk (turnB b) := by
  refine ⟨by rw [turn_len]; exact hs.n1, by rw [turn_len]; exact hs.n10, ?_, ?_⟩
  · intro x hx
    unfold turnB at hx
    obtain ⟨y, hy, rfl⟩ := List.mem_map.1 hx
    have := hs.rg y (List.mem_reverse.1 hy)
    show 0 ≤ b.length - y ∧ b.length - y ≤ b.length
    omega
  · intro i hi
    rw [turn_len] at hi
    show sp (turnB b) i < sp (turnB b) (i + 1)
    rw [turn_sp (by omega), turn_sp hi]
    have := sp_lt hs (i := b.supports.length - 1 - (i + 1)) (j := b.supports.length - 1 - i) (by omega) (by omega)
    omega
theorem turn_Rp {b : TBeam} {i : Nat} (hi : i + 2 < b.supports.length) : Rp (turnB b) (i + 1) = Rp b (b.supports.length - 2 - i) := by
  obtain ⟨k, hk⟩ : ∃ k, b.supports.length = k + i + 3 := ⟨b.supports.length - i - 3, by omega⟩
  unfold Rp
  rw [turn_lds, Nat.add_sub_cancel, turn_sp (by omega), turn_sp (by omega), turn_sp (by omega)]
  rw [show b.supports.length - 1 - i = k + 2 from by omega, show b.supports.length - 1 - (i + 1) = k + 1 from by omega, show b.supports.length - 1 - (i + 1 + 1) = k from by omega, show b.supports.length - 2 - i = k + 1 from by omega]
  show 0 - sideQ b.even (turnW b.length (lds b.loads)) (b.length - sp b (k + 2)) (b.length - sp b (k + 1)) true - sideQ b.even (turnW b.length (lds b.loads)) (b.length - sp b (k + 1)) (b.length - sp b k) false = _
  rw [side_turn, side_turn]
  show _ = 0 - sideQ b.even (lds b.loads) (sp b k) (sp b (k + 1)) true - sideQ b.even (lds b.loads) (sp b (k + 1)) (sp b (k + 2)) false
  simp only [Bool.not_true, Bool.not_false]
  grind
theorem turn_mom {b : TBeam} (hs : SupOk b) (ht : ¬ tilt b) {j : Nat} (hj : j < b.supports.length) : momB (turnB b) j = momB b (b.supports.length - 1 - j) := by
  have hn := hs.n1
  obtain ⟨h1, h2⟩ := turn_fst hn
  symm
  unfold momB
  rw [turn_len]
  refine mom_unique (n := b.supports.length) (g := gp (turnB b)) (R := Rp (turnB b)) (first := fstQ (turnB b)) (last := lstQ (turnB b)) (fun k hk => gp_pos (turn_sup hs) k (by rw [turn_len]; exact hk)) (fun j => momB b (b.supports.length - 1 - j)) ?_ ?_ ?_ hj
  · rw [h1]; exact mom_end hs
  · rw [h2]
    show momB b (b.supports.length - 1 - (b.supports.length - 1)) = _
    rw [Nat.sub_self]; exact mom_start hs ht
  · intro i hi
    rw [turn_Rp hi, turn_gp (by omega), turn_gp (by omega)]
    obtain ⟨k, hk⟩ : ∃ k, b.supports.length = k + i + 3 := ⟨b.supports.length - i - 3, by omega⟩
    have h3 := mom_eqs hs (i := k) (by omega)
    show gp b (b.supports.length - 2 - i) * momB b (b.supports.length - 1 - i) + 2 * (gp b (b.supports.length - 2 - i) + gp b (b.supports.length - 2 - (i + 1))) * momB b (b.supports.length - 1 - (i + 1)) + gp b (b.supports.length - 2 - (i + 1)) * momB b (b.supports.length - 1 - (i + 2)) = _
    rw [show b.supports.length - 1 - i = k + 2 from by omega, show b.supports.length - 1 - (i + 1) = k + 1 from by omega, show b.supports.length - 1 - (i + 2) = k from by omega, show b.supports.length - 2 - i = k + 1 from by omega, show b.supports.length - 2 - (i + 1) = k from by omega, ← h3]
    grind
theorem turn_rea {b : TBeam} (hs : SupOk b) (ht : ¬ tilt b) {j : Nat} (hj : j < b.supports.length) : reactB (turnB b) j = reactB b (b.supports.length - 1 - j) := by
  have hn := hs.n1
  obtain ⟨m, hm⟩ : ∃ m, b.supports.length = m + j + 1 := ⟨b.supports.length - j - 1, by omega⟩
  have hmj : b.supports.length - 1 - j = m := by omega
  have e : reactB (turnB b) j = atQ (turnW b.length (lds b.loads)) (sp (turnB b) j) + (if 0 < j then leverQ b.even (turnW b.length (lds b.loads)) (sp (turnB b) (j - 1)) (sp (turnB b) j) false + (momB (turnB b) (j - 1) - momB (turnB b) j) / ((sp (turnB b) j - sp (turnB b) (j - 1) : Int) : Rat) else 0)
    + (if j + 1 < b.supports.length then leverQ b.even (turnW b.length (lds b.loads)) (sp (turnB b) j) (sp (turnB b) (j + 1)) true + (momB (turnB b) (j + 1) - momB (turnB b) j) / ((sp (turnB b) (j + 1) - sp (turnB b) j : Int) : Rat) else 0)
    + (if j = 0 then beyondQ b.even (turnW b.length (lds b.loads)) (sp (turnB b) j) else 0) + (if j + 1 = b.supports.length then beyondQ b.even (turnW b.length (turnW b.length (lds b.loads))) (b.length - sp (turnB b) j) else 0) := by
    unfold reactB reactQ
    rw [turn_lds, turn_len]
    rfl
  rw [e, hmj, turnW_twice]
  have hA : (if 0 < j then leverQ b.even (turnW b.length (lds b.loads)) (sp (turnB b) (j - 1)) (sp (turnB b) j) false + (momB (turnB b) (j - 1) - momB (turnB b) j) / ((sp (turnB b) j - sp (turnB b) (j - 1) : Int) : Rat) else 0) = (if m + 1 < b.supports.length then leverQ b.even (lds b.loads) (sp b m) (sp b (m + 1)) true + (momB b (m + 1) - momB b m) / ((sp b (m + 1) - sp b m : Int) : Rat) else 0) := by
    by_cases h : 0 < j
    · rw [if_pos h, if_pos (by omega), turn_sp (by omega), turn_sp hj, turn_mom hs ht hj, turn_mom hs ht (by omega), hmj, show b.supports.length - 1 - (j - 1) = m + 1 from by omega, lever_turn]
      rw [show b.length - sp b m - (b.length - sp b (m + 1)) = sp b (m + 1) - sp b m from by omega]
      rfl
    · rw [if_neg h, if_neg (by omega)]
  have hB : (if j + 1 < b.supports.length then leverQ b.even (turnW b.length (lds b.loads)) (sp (turnB b) j) (sp (turnB b) (j + 1)) true + (momB (turnB b) (j + 1) - momB (turnB b) j) / ((sp (turnB b) (j + 1) - sp (turnB b) j : Int) : Rat) else 0) = (if 0 < m then leverQ b.even (lds b.loads) (sp b (m - 1)) (sp b m) false + (momB b (m - 1) - momB b m) / ((sp b m - sp b (m - 1) : Int) : Rat) else 0) := by
    by_cases h : j + 1 < b.supports.length
    · rw [if_pos h, if_pos (by omega), turn_sp hj, turn_sp h, turn_mom hs ht hj, turn_mom hs ht h, hmj, show b.supports.length - 1 - (j + 1) = m - 1 from by omega, lever_turn]
      rw [show b.length - sp b (m - 1) - (b.length - sp b m) = sp b m - sp b (m - 1) from by omega]
      rfl
    · rw [if_neg h, if_neg (by omega)]
  have hC : (if j = 0 then beyondQ b.even (turnW b.length (lds b.loads)) (sp (turnB b) j) else 0) = (if m + 1 = b.supports.length then beyondQ b.even (turnW b.length (lds b.loads)) (b.length - sp b m) else 0) := by
    by_cases h : j = 0
    · rw [if_pos h, if_pos (by omega), turn_sp hj, hmj]
    · rw [if_neg h, if_neg (by omega)]
  have hD : (if j + 1 = b.supports.length then beyondQ b.even (lds b.loads) (b.length - sp (turnB b) j) else 0) = (if m = 0 then beyondQ b.even (lds b.loads) (sp b m) else 0) := by
    by_cases h : m = 0
    · rw [if_pos h, if_pos (by omega), turn_sp hj, hmj, show b.length - (b.length - sp b m) = sp b m from by omega]
    · rw [if_neg h, if_neg (by omega)]
  rw [hA, hB, hC, hD, turn_sp hj, hmj, at_turn]
  unfold reactB reactQ
  grind
theorem turn_twice (b : TBeam) : turnB (turnB b) = b := by
  obtain ⟨nm, L, s, w, e⟩ := b
  unfold turnB
  simp only
  have h1 : (List.map (fun s => L - s) (List.map (fun s => L - s) s.reverse).reverse) = s := by
    rw [← List.map_reverse, List.reverse_reverse, List.map_map]
    conv => rhs; rw [← List.map_id s]
    apply List.map_congr_left
    intro x _
    show L - (L - x) = x
    omega
  have h2 : (List.map (fun x : TLoad => (⟨L - x.at_, x.weight⟩ : TLoad)) (List.map (fun x : TLoad => (⟨L - x.at_, x.weight⟩ : TLoad)) w)) = w := by
    rw [List.map_map]
    conv => rhs; rw [← List.map_id w]
    apply List.map_congr_left
    intro x _
    show (⟨L - (L - x.at_), x.weight⟩ : TLoad) = x
    rw [show L - (L - x.at_) = x.at_ from by omega]
  rw [h1, h2]
theorem turn_tilt {b : TBeam} (hs : SupOk b) (ht : ¬ tilt b) : ¬ tilt (turnB b) := by
  obtain ⟨h1, h2⟩ := turn_fst hs.n1
  rintro ⟨h3, h4⟩
  rw [turn_len] at h3
  rw [h1, h2] at h4
  exact ht ⟨h3, fun e => h4 e.symm⟩
theorem turn_valid {b : TBeam} (hv : validBm b = true) : validBm (turnB b) = true := by
  obtain ⟨hb, hs⟩ := valid_in hv
  have hst := turn_sup hs
  have hbt := turn_in hb
  unfold validBm at hv ⊢
  rw [Bool.and_eq_true, Bool.and_eq_true, Bool.and_eq_true] at hv ⊢
  obtain ⟨h1, h2, h3, h4⟩ := hv
  refine ⟨h1, ?_, ?_, ?_⟩
  · have : badH2 (turnB b) = badH2 b := by
      unfold badH2
      rw [turn_len]
      show (_ || (_ || decide ((((b.loads.map _).length : Nat) : Int) > 40))) = _
      rw [List.length_map]
    rw [this]; exact h2
  · apply all_of
    intro j hj
    have r1 := sp_rg hst hj
    have r2 : 0 < j → sp (turnB b) (j - 1) < sp (turnB b) j := fun h => sp_lt hst (by omega) hj
    unfold badS
    simp only [Bool.not_eq_true', Bool.or_eq_false_iff, Bool.and_eq_false_iff, decide_eq_false_iff_not]
    omega
  · rw [List.all_eq_true]
    intro x hx
    have := hbt.ld x hx
    unfold LoadOk at this
    unfold badL
    simp only [Bool.not_eq_true', Bool.or_eq_false_iff, decide_eq_false_iff_not]
    omega
theorem range_rev {f g : Nat → Rat} {n : Nat} (h : ∀ j, j < n → f j = g (n - 1 - j)) : (List.range n).map f = ((List.range n).map g).reverse := by
  apply List.ext_getElem
  · simp
  · intro i h1 h2
    simp at h1
    rw [List.getElem_reverse]
    simp
    exact h i h1
theorem outL_rev (l : List Rat) : outL l.reverse = ((outL l).1.reverse, (outL l).2) := by
  unfold outL
  have : l.reverse.all (fun q => decide (fitQ q)) = l.all (fun q => decide (fitQ q)) := by
    rw [Bool.eq_iff_iff, List.all_eq_true, List.all_eq_true]
    constructor <;> intro h q hq <;> exact h q (by simpa using hq)
  rw [this]
  split
  · simp
  · rfl
theorem turn_reaL {b : TBeam} (hs : SupOk b) (ht : ¬ tilt b) : reaL (turnB b) = (reaL b).reverse := by
  unfold reaL
  rw [turn_len]
  exact range_rev fun j hj => turn_rea hs ht hj
theorem turn_momL {b : TBeam} (hs : SupOk b) (ht : ¬ tilt b) : momL (turnB b) = (momL b).reverse := by
  unfold momL
  rw [turn_len]
  exact range_rev fun j hj => turn_mom hs ht hj
end Go.Proofs.Ytbamoboldhabjaa

/- The turned beam has the same moments, reactions and bending. -/
namespace Go.Proofs.Ytbamoboldhabjaa
set_option linter.unusedVariables false
set_option linter.unusedSimpArgs false

theorem sumN_shift (f : Nat → Rat) : ∀ (n : Nat), sumN f (n + 1) = f 0 + sumN (fun i => f (i + 1)) n
  | 0 => by simp only [sumN]; grind
  | n + 1 => by
    have := sumN_shift f n
    simp only [sumN] at this ⊢
    grind
theorem sumN_rev : ∀ (n : Nat) (f : Nat → Rat), sumN (fun j => f (n - 1 - j)) n = sumN f n
  | 0, f => rfl
  | n + 1, f => by
    have h := sumN_rev n (fun i => f (i + 1))
    rw [sumN_shift f n, ← h]
    simp only [sumN]
    rw [show n + 1 - 1 - n = 0 from by omega, sumN_congr (g := fun j => f (n - 1 - j + 1)) n fun j hj => by rw [show n + 1 - 1 - j = n - 1 - j + 1 from by omega]]
    grind
theorem sumN_sub (f g : Nat → Rat) : ∀ (n : Nat), sumN (fun i => f i - g i) n = sumN f n - sumN g n
  | 0 => by simp only [sumN]; grind
  | n + 1 => by simp only [sumN]; rw [sumN_sub f g n]; grind
theorem turn_bend {b : TBeam} (hb : BeamIn b) (hs : SupOk b) (ht : ¬ tilt b) {x : Int} (h1 : x ≤ b.length) : bendQ (turnB b) (b.length - x) = bendQ b x := by
  have hO := over_end (E := b.even) (lds_le hb) h1
  have hL := bend_last hb hs ht
  have hW := all_weight hb hs ht
  have e : bendQ (turnB b) (b.length - x) = 0 - overQ b.even (turnW b.length (lds b.loads)) (b.length - x) + sumN (fun i => if x < sp b i then reactB b i * ((sp b i - x : Int) : Rat) else 0) b.supports.length := by
    unfold bendQ
    rw [turn_lds, turn_len, sumQ_range, ← sumN_rev b.supports.length (fun i => if x < sp b i then reactB b i * ((sp b i - x : Int) : Rat) else 0)]
    congr 1
    apply sumN_congr
    intro j hj
    rw [turn_sp hj, turn_rea hs ht hj]
    by_cases h : x < sp b (b.supports.length - 1 - j)
    · rw [if_pos h, if_pos (by omega), show b.length - x - (b.length - sp b (b.supports.length - 1 - j)) = sp b (b.supports.length - 1 - j) - x from by omega]
    · rw [if_neg h, if_neg (by omega)]
  have e2 : sumN (fun i => if sp b i < x then reactB b i * ((x - sp b i : Int) : Rat) else 0) b.supports.length - sumN (fun i => if x < sp b i then reactB b i * ((sp b i - x : Int) : Rat) else 0) b.supports.length = Fk b b.supports.length * (x : Rat) - Tk b b.supports.length := by
    rw [← sumN_sub]
    unfold Fk Tk
    rw [← sumN_arm]
    apply sumN_congr
    intro i _
    rcases Int.lt_trichotomy (sp b i) x with h | h | h
    · rw [if_pos h, if_neg (by omega), cast_sub']; grind
    · rw [if_neg (by omega), if_neg (by omega), h]; grind
    · rw [if_neg (by omega), if_pos h, cast_sub']; grind
  have hwq : wgtQ b = (b.even : Rat) * b.length / 1000 + sumQ (fun x : Ld => (x.2 : Rat)) (lds b.loads) := rfl
  rw [← hwq, cast_sub'] at hO
  rw [e]
  unfold bendQ
  rw [sumQ_range]
  rw [hW] at hL e2
  generalize sumN (fun i => if sp b i < x then reactB b i * ((x - sp b i : Int) : Rat) else 0) b.supports.length = P at *
  generalize sumN (fun i => if x < sp b i then reactB b i * ((sp b i - x : Int) : Rat) else 0) b.supports.length = Q at *
  generalize Tk b b.supports.length = T at *
  generalize overQ b.even (turnW b.length (lds b.loads)) (b.length - x) = O' at *
  generalize overQ b.even (lds b.loads) x = Ox at *
  generalize overQ b.even (lds b.loads) b.length = OL at *
  generalize wgtQ b = W at *
  have hT : T = W * (b.length : Rat) - OL := by grind
  subst hT
  grind
end Go.Proofs.Ytbamoboldhabjaa

/- What several sentences on beams use. -/
namespace Go.Proofs.Ytbamoboldhabjaa
set_option linter.unusedVariables false
set_option linter.unusedSimpArgs false

theorem f_sameB (a : TBeam) (hs : a.supports.length ≤ 1000000) (hl : a.loads.length ≤ 1000000) : F_ref20_Same a a = some true := by
  apply gs_eq
  unfold F_ref20_Same
  have h0 : ((bif (!(a.name.toList == a.name.toList)) then some (true, ()) else (bif (a.length != a.length) then some (true, ()) else (bif (a.even != a.even) then some (true, ()) else (bif (((a.supports.length : Nat) : Int) != ((a.supports.length : Nat) : Int)) then some (true, ()) else some ((((a.loads.length : Nat) : Int) != ((a.loads.length : Nat) : Int)), ()))))) : Option (Bool × Unit)) = some (false, ()) := by
    simp
  refine go h0 (gf rfl ?_)
  refine gloop (fun r : (Bool × Unit) ⊕ Unit => r = .inr ()) (fun k s => s = ((k : Int), ())) a.supports.length (by unfold big; omega) rfl ?_ ?_
  · rintro k s hk rfl
    rcases Nat.lt_or_ge k a.supports.length with hlt | hge
    · refine gt (decide_eq_true (by show (k : Int) < ((a.supports.length : Nat) : Int); omega)) (go (idx_nat hlt) (go (idx_nat hlt) (gf (by simp) (gend ⟨hlt, ?_⟩))))
      show (IntKind.i64.wrap ((k : Int) + 1), ()) = _
      rw [wrap64 (by omega) (by omega)]; rfl
    · exact gf (decide_eq_false (by show ¬ (k : Int) < ((a.supports.length : Nat) : Int); omega)) (gend rfl)
  · rintro r rfl
    refine gloop (fun r : (Bool × Unit) ⊕ Unit => r = .inr ()) (fun k s => s = ((k : Int), ())) a.loads.length (by unfold big; omega) rfl ?_ ?_
    · rintro k s hk rfl
      rcases Nat.lt_or_ge k a.loads.length with hlt | hge
      · refine gt (decide_eq_true (by show (k : Int) < ((a.loads.length : Nat) : Int); omega)) (go (idx_nat hlt) (go (idx_nat hlt) (gf (by simp) (gend ⟨hlt, ?_⟩))))
        show (IntKind.i64.wrap ((k : Int) + 1), ()) = _
        rw [wrap64 (by omega) (by omega)]; rfl
      · exact gf (decide_eq_false (by show ¬ (k : Int) < ((a.loads.length : Nat) : Int); omega)) (gend rfl)
    · rintro r rfl
      exact gend rfl
theorem f_TurnedOk {b : TBeam} (hw : SmallB b) (h : validBm b = true) : F_beam_Turned b = some (turnB b, 0) := by
  obtain ⟨hb, hs⟩ := valid_in h
  unfold F_beam_Turned
  rw [f_bvalid hw.name hw.sup hw.ld, h]
  simp only [Option.bind_some, Bool.not_true, cond_false]
  rw [f_turned hb hs]; rfl
theorem wfI {k : IntKind} {n : Int} (h : (Lit.int k n).wf = true) : k.min ≤ n ∧ n ≤ k.max := by
  simpa [Lit.wf] using h
theorem f_right (b : TBeam) : Gs (F_law20_right b) fun v => v = true ↔ longBm b = false ∧ validBm b = true ∧ ¬ tilt b := by
  unfold F_law20_right
  refine goo (f_long b) ?_
  cases hl : longBm b with
  | true => exact gbf rfl (gs (gend (by simp)))
  | false =>
    obtain ⟨hw, _, _⟩ := long_small hl
    refine gbt rfl (gcalll (h_given hw) fun r hr => gs (gend ?_))
    rcases hr with ⟨h1, h2⟩ | ⟨h1, h2, h3⟩ | ⟨h1, h2, h3⟩
    · subst h2
      show false = true ↔ _
      simp [h1]
    · subst h3
      show false = true ↔ _
      simp [h1, h2]
    · subst h3
      show true = true ↔ _
      simp [h1, h2]
theorem u32_of {n : Int} (h : (Lit.int .u32 n).wf = true) : 0 ≤ n ∧ n ≤ 4294967295 := wfI h
end Go.Proofs.Ytbamoboldhabjaa

/- awake. -/
namespace Go.Proofs.Ytbamoboldhabjaa
theorem awake20 : F_law20_awake = some true := by kernel_rfl
end Go.Proofs.Ytbamoboldhabjaa

/- BeamTurns. -/
namespace Go.Proofs.Ytbamoboldhabjaa
set_option linter.unusedVariables false
set_option linter.unusedSimpArgs false

theorem main_BeamTurns (x0 : TBeam) (x1 : Int) (w0 : W_Beam x0) (w1 : W_u32 x1) : F_law20_BeamTurns x0 x1 = some true := by
  apply gs_eq
  unfold F_law20_BeamTurns
  refine go awake20 (gf rfl (gcall (f_right x0) fun v hv0 => ?_))
  cases hvv : v with
  | false => exact gt rfl (gend rfl)
  | true =>
    obtain ⟨hl, hv, ht⟩ := hv0.1 hvv
    obtain ⟨hw, _, _⟩ := long_small hl
    obtain ⟨hb, hs⟩ := valid_in hv
    have hn := hs.n10
    have hlb := hb.l1
    have hl0 := hb.l0
    have hv2 := turn_valid hv
    have ht2 := turn_tilt hs ht
    have hw2 : SmallB (turnB x0) := ⟨hw.name, by rw [turn_len]; exact hw.sup, by show (x0.loads.map _).length ≤ _; rw [List.length_map]; exact hw.ld⟩
    have hT2 := f_TurnedOk hw2 hv2
    rw [turn_twice] at hT2
    have hR2 := f_Reactions hw2 hv2 ht2
    have hM2 := f_Moments hw2 hv2 ht2
    rw [turn_reaL hs ht, outL_rev] at hR2
    rw [turn_momL hs ht, outL_rev] at hM2
    have l1 := reaL_len hs
    have l2 := momL_len hs
    have l3 := outL_len (l := reaL x0)
    have l4 := outL_len (l := momL x0)
    refine gf rfl (go (f_TurnedOk hw hv) (go hT2 (gbf rfl (gbf rfl (goo (f_bvalid hw2.name hw2.sup hw2.ld) (gbf (by rw [hv2]; rfl) (goo (f_sameB _ hw.sup hw.ld) (gs (gf rfl ?_)))))))))
    refine go (f_Reactions hw hv ht) (go hR2 (go (f_Moments hw hv ht) (go hM2 (go (iter_revW _ (by simp; omega)) (go (iter_revW _ (by simp; omega)) ?_)))))
    simp only [List.reverse_reverse]
    refine gbf (by simp) (goo (f_same _ (by omega)) (gbf rfl (gbf (by simp) (goo (f_same _ (by omega)) (gs (gf rfl ?_))))))
    have hu := u32_of w1
    have hw3 : IntKind.i64.wrap (x0.length + 1) = x0.length + 1 := wrap64 (by omega) (by omega)
    obtain ⟨x, hx, hx0, hx1⟩ : ∃ x, (IntKind.i64.wrap x1).tmod (IntKind.i64.wrap (x0.length + 1)) = x ∧ 0 ≤ x ∧ x ≤ x0.length := by
      rw [hw3, wrap64 (by omega) (by omega), Int.tmod_eq_emod_of_nonneg (by omega)]
      have h1 := Int.emod_nonneg x1 (show x0.length + 1 ≠ 0 by omega)
      have h2 := Int.emod_lt_of_pos x1 (show 0 < x0.length + 1 by omega)
      exact ⟨_, rfl, h1, by omega⟩
    rw [if_neg (by rw [hw3]; omega), hx]
    have hw4 : IntKind.i64.wrap (x0.length - x) = x0.length - x := wrap64 (by omega) (by omega)
    have hB2 := f_Bending hw2 hv2 (a := x0.length - x) (by omega) (by show x0.length - x ≤ x0.length; omega) ht2
    rw [turn_bend hb hs ht hx1] at hB2
    exact go (f_Bending hw hv hx0 hx1 ht) (go (by rw [hw4]; exact hB2) (gbt (by simp) (gs (gend (by simp)))))
end Go.Proofs.Ytbamoboldhabjaa
