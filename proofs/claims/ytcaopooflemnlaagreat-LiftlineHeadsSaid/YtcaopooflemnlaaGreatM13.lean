/- Joined by merge.py: PlH4, PlJ1b, PlT2, PlT4, PlJ1c, PlT5, PlT6. -/
import Derived.Test.YtcaopooflemnlaaGreatM12
/- The reference's reactions: the walk. -/
namespace Go.Proofs.YtcaopooflemnlaaGreat
set_option linter.unusedVariables false
set_option linter.unusedSimpArgs false

theorem min_max {a c : Int} : minZ a c = min a c ∧ maxZ a c = max a c := by
 unfold minZ maxZ
 constructor <;> split <;> omega
set_option maxHeartbeats 4000000 in
theorem h_reactions {b : TBeam} (hb : BeamIn b) (hs : SupOk b) : Gs (F_ref20_Reactions b) fun r => r.length = b.supports.length ∧ ∀ i, i < b.supports.length → ∃ x, r[i]? = some x ∧ Gq x (reactB b i) 500000 := by
 unfold F_ref20_Reactions
 have hl := hb.l1
 have he0 := hb.e0
 have he1 := hb.e1
 have hn1 := hs.n1
 have hn10 := hs.n10
 have hln := hb.ln
 have hw1 : IntKind.i64.wrap (((b.supports.length : Nat) : Int) - 1) = ((b.supports.length - 1 : Nat) : Int) := by rw [wrap64 (by omega) (by omega)]; omega
 have q0 := sp_get (b := b) (i := 0) (by omega)
 have qn := sp_get (b := b) (i := b.supports.length - 1) (by omega)
 have r0 := sp_rg hs (i := 0) (by omega)
 have rn := sp_rg hs (i := b.supports.length - 1) (by omega)
 obtain ⟨z, z1, z2⟩ := g_zero
 refine gcall (h_moments hb hs) fun m hm => ?_
 obtain ⟨hml, hm⟩ := hm
 refine gloop (fun s : List TExact × Unit => s.1.length = b.supports.length ∧ ∀ i, i < b.supports.length → ∃ x, s.1[i]? = some x ∧ Gq x (reactB b i) 500000)
  (fun i s => ∃ O, s = ((i : Int), O, ()) ∧ O.length = i ∧ ∀ j, j < i → ∃ x, O[j]? = some x ∧ Gq x (reactB b j) 500000)
  b.supports.length (by unfold big; omega) ⟨[], rfl, rfl, fun j hj => absurd hj (Nat.not_lt_zero j)⟩ ?_ ?_
 ·rintro i s hi ⟨O, rfl, hOl, hO⟩
  rcases Nat.lt_or_ge i b.supports.length with hlt | hge
  ·have pi := sp_get hlt
   have ri := sp_rg hs hlt
   obtain ⟨mi, mi1, mi2⟩ := hm i hlt
   have wi : IntKind.i64.wrap ((i : Int) + 1) = ((i + 1 : Nat) : Int) := by rw [wrap64 (by omega) (by omega)]; omega
   refine gt (decide_eq_true (by show (i : Int) < ((b.supports.length : Nat) : Int); omega)) (go z1 ?_)
   refine gcall (loop_sumG (w := b.loads) (fun t q c => Gq t q c) (fun x : TLoad => if x.at_ = sp b i ∨ (i = 0 ∧ x.at_ < sp b 0) ∨ (i + 1 = b.supports.length ∧ sp b (b.supports.length - 1) < x.at_) then (x.weight : Rat) else 0) 9 (by omega) z2 ?_ (fun t => gfe (decide_eq_false (by show ¬ (((b.loads.length : Nat) : Int) < ((b.loads.length : Nat) : Int)); omega)))) ?_
   ·intro k h t q ht
    obtain ⟨x0, x1, x2, x3⟩ := hb.ld _ (List.getElem_mem h)
    have wk : IntKind.i64.wrap ((k : Int) + 1) = ((k + 1 : Nat) : Int) := by rw [wrap64 (by omega) (by omega)]; omega
    have hx := idx_nat h
    refine gt (decide_eq_true (by show (k : Int) < ((b.loads.length : Nat) : Int); omega)) (goo hx ?_)
    generalize b.loads[k] = x at *
    have hlast : ((bif ((i : Int) == IntKind.i64.wrap (((b.supports.length : Nat) : Int) - 1)) then (idx b.supports (IntKind.i64.wrap (((b.supports.length : Nat) : Int) - 1))).bind fun x440 => some ((decide (x.at_ > x440)), ()) else some (false, ())) : Option (Bool × Unit)) = some (decide (i + 1 = b.supports.length ∧ sp b (b.supports.length - 1) < x.at_), ()) := by
     rw [hw1, idx_q qn]
     by_cases h2 : i + 1 = b.supports.length
     ·have e : ((i : Int) == ((b.supports.length - 1 : Nat) : Int)) = true := by rw [beq_iff_eq]; omega
      rw [e, cond_true]
      simp only [Option.bind_some]
      congr 2
      apply decide_eq_decide.2
      constructor
      ·intro h3; exact ⟨h2, h3⟩
      ·intro h3; exact h3.2
     ·have e : ((i : Int) == ((b.supports.length - 1 : Nat) : Int)) = false := by rw [beq_eq_false_iff_ne]; omega
      rw [e, cond_false, decide_eq_false (fun h3 => h2 h3.1)]
    have hsel : ((idx b.supports (i : Int)).bind fun x438 => (bif (x.at_ == x438) then some (true, ()) else (bif ((i : Int) == 0) then (idx b.supports 0).bind fun x439 => (bif (decide (x.at_ < x439)) then some (true, ()) else (bif ((i : Int) == (IntKind.i64.wrap (((b.supports.length : Nat) : Int) - 1))) then (idx b.supports (IntKind.i64.wrap (((b.supports.length : Nat) : Int) - 1))).bind fun x440 => some ((decide (x.at_ > x440)), ()) else some (false, ()))) else (bif ((i : Int) == (IntKind.i64.wrap (((b.supports.length : Nat) : Int) - 1))) then (idx b.supports (IntKind.i64.wrap (((b.supports.length : Nat) : Int) - 1))).bind fun x441 => some ((decide (x.at_ > x441)), ()) else some (false, ()))) : Option (Bool × Unit))) = some (decide (x.at_ = sp b i ∨ (i = 0 ∧ x.at_ < sp b 0) ∨ (i + 1 = b.supports.length ∧ sp b (b.supports.length - 1) < x.at_)), ()) := by
     rw [idx_q pi]
     simp only [Option.bind_some]
     by_cases h1 : x.at_ = sp b i
     ·have e : (x.at_ == sp b i) = true := by rw [beq_iff_eq]; exact h1
      rw [e, cond_true, decide_eq_true (.inl h1)]
     ·have e : (x.at_ == sp b i) = false := by rw [beq_eq_false_iff_ne]; exact h1
      rw [e, cond_false]
      have hq : idx b.supports 0 = some (sp b 0) := idx_q (k := 0) q0
      by_cases h2 : i = 0
      ·have e2 : ((i : Int) == 0) = true := by rw [beq_iff_eq]; omega
       rw [e2, cond_true, hq]
       simp only [Option.bind_some]
       by_cases h3 : x.at_ < sp b 0
       ·rw [decide_eq_true h3, cond_true, decide_eq_true (.inr (.inl ⟨h2, h3⟩))]
       ·rw [decide_eq_false h3, cond_false, hlast]
        congr 2
        apply decide_eq_decide.2
        constructor
        ·intro h4; exact .inr (.inr h4)
        ·rintro (h4 | ⟨_, h4⟩ | h4)
         ·exact absurd h4 h1
         ·exact absurd h4 h3
         ·exact h4
      ·have e2 : ((i : Int) == 0) = false := by rw [beq_eq_false_iff_ne]; omega
       rw [e2, cond_false, hlast]
       congr 2
       apply decide_eq_decide.2
       constructor
       ·intro h4; exact .inr (.inr h4)
       ·rintro (h4 | ⟨h4, _⟩ | h4)
        ·exact absurd h4 h1
        ·exact absurd h4 h2
        ·exact h4
    refine goo hsel ?_
    by_cases hc : x.at_ = sp b i ∨ (i = 0 ∧ x.at_ < sp b 0) ∨ (i + 1 = b.supports.length ∧ sp b (b.supports.length - 1) < x.at_)
    ·obtain ⟨a, a1, a2⟩ := h_part1 (z := x.weight) ⟨by omega, by omega⟩
     obtain ⟨p, p1, p2⟩ := g_plusq ht a2 (by omega)
     refine gbt (decide_eq_true hc) (goo hx (goo a1 (goo p1 (gs (gend ⟨p, by simp only [wk], ?_⟩)))))
     rw [if_pos hc]
     exact p2.mono (by omega)
    ·refine gbf (decide_eq_false hc) (gs (gend ⟨t, by simp only [wk], ?_⟩))
     rw [if_neg hc]
     exact ht.skip
   rintro ⟨t, u⟩ ht
   have ht : Gq t (onQ b i) 367 := (ht.mono (by omega)).cast (by unfold onQ; grind)
   refine gcall (Q := fun r : TExact × Unit => Gq r.1 (onQ b i + (if i = 0 then (b.even : Rat) * (sp b 0 : Rat) / 1000 else 0)) 380) ?_ ?_
   ·by_cases h0 : i = 0
    ·obtain ⟨a, a1, a2⟩ := g_part 1000 [b.even, sp b 0] (by omega) (by omega) (by intro y hy; simp at hy; omega) (by simp)
     obtain ⟨p, p1, p2⟩ := g_plusq ht a2 (by simp only [List.length_cons, List.length_nil]; omega)
     refine gt (by rw [beq_iff_eq]; omega) (go (idx_q (k := 0) q0) (go a1 (go p1 (gend ((p2.mono (by simp only [List.length_cons, List.length_nil]; omega)).cast ?_)))))
     rw [if_pos h0, prod2]; rfl
    ·refine gf (by rw [beq_eq_false_iff_ne]; omega) (gend ((ht.mono (by omega)).cast ?_))
     rw [if_neg h0]; grind
   rintro ⟨ta, ua⟩ hta
   clear ht
   refine gcall (Q := fun r : TExact × Unit => Gq r.1 (onQ b i + (if i = 0 then (b.even : Rat) * (sp b 0 : Rat) / 1000 else 0) + (if i + 1 = b.supports.length then (b.even : Rat) * ((b.length - sp b (b.supports.length - 1) : Int) : Rat) / 1000 else 0)) 393) ?_ ?_
   ·by_cases h0 : i + 1 = b.supports.length
    ·have hbl : IntKind.i64.wrap (b.length - sp b (b.supports.length - 1)) = b.length - sp b (b.supports.length - 1) := wrap64 (by omega) (by omega)
     obtain ⟨a, a1, a2⟩ := g_part 1000 [b.even, b.length - sp b (b.supports.length - 1)] (by omega) (by omega) (by intro y hy; simp at hy; omega) (by simp)
     obtain ⟨p, p1, p2⟩ := g_plusq hta a2 (by simp only [List.length_cons, List.length_nil]; omega)
     refine gt (by rw [hw1, beq_iff_eq]; omega) (go (idx_w hw1 qn) (go (by rw [hbl]; exact a1) (go p1 (gend ((p2.mono (by simp only [List.length_cons, List.length_nil]; omega)).cast ?_)))))
     rw [if_pos h0, prod2]; rfl
    ·refine gf (by rw [hw1, beq_eq_false_iff_ne]; omega) (gend ((hta.mono (by omega)).cast ?_))
     rw [if_neg h0]; grind
   rintro ⟨tb, ub⟩ htb
   clear hta
   have hsum := react_sum hs hlt
   generalize onQ b i + (if i = 0 then (b.even : Rat) * (sp b 0 : Rat) / 1000 else 0) + (if i + 1 = b.supports.length then (b.even : Rat) * ((b.length - sp b (b.supports.length - 1) : Int) : Rat) / 1000 else 0) = qb at *
   refine gcall (loop_sumG (w := [0, 1]) (fun t q c => Gq t q c) (sideT b i) 248545 (by simp) htb ?_ (fun t => gfe (decide_eq_false (by show ¬ (((2 : Nat) : Int) < 2); omega)))) ?_
   ·intro k h t q ht
    have hk2 : k < 2 := by simpa using h
    have hwk : ([0, 1] : List Nat)[k] = k := by
     rcases Nat.lt_or_ge k 1 with h1 | h1
     ·obtain rfl : k = 0 := by omega
      rfl
     ·obtain rfl : k = 1 := by omega
      rfl
    rw [hwk]
    have wk : IntKind.i64.wrap ((k : Int) + 1) = ((k + 1 : Nat) : Int) := by rw [wrap64 (by omega) (by omega)]; omega
    refine gt (decide_eq_true (by show (k : Int) < 2; omega)) ?_
    by_cases hno : (k = 0 ∧ i = 0) ∨ (k = 1 ∧ i + 1 = b.supports.length)
    ·have hT : sideT b i k = 0 := by
      unfold sideT
      rcases hno with ⟨h1, h2⟩ | ⟨h1, h2⟩
      ·rw [if_pos h1, if_neg (by omega)]
      ·rw [if_neg (by omega), if_neg (by omega)]
     rw [hT]
     obtain ⟨v, hv, hv2⟩ : ∃ v, ((bif ((k : Int) == 1) then some ((IntKind.i64.wrap ((i : Int) + 1)), ()) else some ((IntKind.i64.wrap ((i : Int) - 1)), ())) : Option (Int × Unit)) = some (v, ()) ∧ (v < 0 ∨ v ≥ ((b.supports.length : Nat) : Int)) := by
      rcases hno with ⟨h1, h2⟩ | ⟨h1, h2⟩
      ·subst h1
       refine ⟨_, rfl, .inl ?_⟩
       rw [wrap64 (by omega) (by omega)]; omega
      ·subst h1
       refine ⟨_, rfl, .inr ?_⟩
       rw [wi]; omega
     have hv3 : ((bif (decide (v < 0)) then some (true, ()) else some ((decide (v ≥ ((b.supports.length : Nat) : Int))), ())) : Option (Bool × Unit)) = some (true, ()) := by
      rcases Int.lt_or_le v 0 with h1 | h1
      ·rw [decide_eq_true h1]; rfl
      ·rw [decide_eq_false (by omega), cond_false, decide_eq_true (by omega)]
     refine goo hv (goo hv3 (gbt rfl (gs (gend ⟨t, by simp only [wk], ht.skip⟩))))
    ·obtain ⟨kk, lo, hi, left, hkk, hv, hlo, hhi, hmm, hne, hT, hd⟩ : ∃ (kk : Nat) (lo hi : Int) (left : Bool), kk < b.supports.length ∧ ((bif ((k : Int) == 1) then some ((IntKind.i64.wrap ((i : Int) + 1)), ()) else some ((IntKind.i64.wrap ((i : Int) - 1)), ())) : Option (Int × Unit)) = some ((kk : Int), ()) ∧ 0 ≤ lo ∧ hi ≤ b.length ∧ (minZ (sp b i) (sp b kk) = lo ∧ maxZ (sp b i) (sp b kk) = hi) ∧ lo < hi ∧ sideT b i k = leverQ b.even (lds b.loads) lo hi left + (momB b kk - momB b i) / ((hi - lo : Int) : Rat) ∧ ∀ a : Int, lo < a → a < hi → (if a - sp b kk < 0 then 0 - (a - sp b kk) else a - sp b kk) = (if left then hi - a else a - lo) := by
      rcases Nat.lt_or_ge k 1 with h1 | h1
      ·obtain rfl : k = 0 := by omega
       have hi0 : 0 < i := by omega
       have hc : sp b (i - 1) < sp b i := by
        obtain ⟨j, rfl⟩ : ∃ j, i = j + 1 := ⟨i - 1, by omega⟩
        exact hs.inc j (by omega)
       have rj := sp_rg hs (i := i - 1) (by omega)
       refine ⟨i - 1, sp b (i - 1), sp b i, false, by omega, ?_, rj.1, ri.2, ?_, hc, ?_, ?_⟩
       ·show some (IntKind.i64.wrap ((i : Int) - 1), ()) = _
        rw [wrap64 (by omega) (by omega)]; congr 2; omega
       ·rw [min_max.1, min_max.2]; omega
       ·unfold sideT; rw [if_pos rfl, if_pos hi0]
       ·intro a h2 h3
        rw [if_neg (by omega)]; rfl
      ·obtain rfl : k = 1 := by omega
       have hi0 : i + 1 < b.supports.length := by omega
       have hc : sp b i < sp b (i + 1) := hs.inc i hi0
       have rj := sp_rg hs (i := i + 1) (by omega)
       refine ⟨i + 1, sp b i, sp b (i + 1), true, by omega, ?_, ri.1, rj.2, ?_, hc, ?_, ?_⟩
       ·show some (IntKind.i64.wrap ((i : Int) + 1), ()) = _
        rw [wi]
       ·rw [min_max.1, min_max.2]; omega
       ·unfold sideT; rw [if_neg (by omega), if_pos hi0]
       ·intro a h2 h3
        rw [if_pos (by omega)]
        simp only [if_true]; omega
     obtain ⟨hmin, hmax⟩ := hmm
     rw [hT]
     have pk := sp_get hkk
     have rk := sp_rg hs hkk
     have hlen : IntKind.i64.wrap (hi - lo) = hi - lo := wrap64 (by omega) (by omega)
     obtain ⟨mk, mk1, mk2⟩ := hm kk hkk
     have hv3 : ((bif (decide ((kk : Int) < 0)) then some (true, ()) else some ((decide ((kk : Int) ≥ ((b.supports.length : Nat) : Int))), ())) : Option (Bool × Unit)) = some (false, ()) := by
      rw [decide_eq_false (by omega), cond_false, decide_eq_false (by omega)]
     obtain ⟨a, a1, a2⟩ := g_part 2000 [b.even, hi - lo] (by omega) (by omega) (by intro y hy; simp at hy; omega) (by simp)
     obtain ⟨p, p1, p2⟩ := g_plusq ht a2 (by simp only [List.length_cons, List.length_nil]; omega)
     have a1' : F_ref20_part [b.even, IntKind.i64.wrap (maxZ (sp b i) (sp b kk) - minZ (sp b i) (sp b kk))] 2000 = some a := by rw [hmin, hmax, hlen]; exact a1
     refine goo hv (goo hv3 (gbf rfl (goo (idx_q pi) (goo (idx_q pk) (goo (idx_q pi) (goo (idx_q pk) (goo a1' (goo p1 ?_))))))))
     have p2 : Gq p (q + (b.even : Rat) * ((hi - lo : Int) : Rat) / 2000) (393 + 248545 * k + 13) := (p2.mono (by simp only [List.length_cons, List.length_nil]; omega)).cast (by rw [prod2]; rfl)
     refine gcalll (loop_sumG (w := b.loads) (fun t q c => Gq t q c) (fun x : TLoad => if x.at_ ≤ lo ∨ hi ≤ x.at_ then 0 else (x.weight : Rat) * ((if left then hi - x.at_ else x.at_ - lo : Int) : Rat) / ((hi - lo : Int) : Rat)) 13 (by omega) p2 ?_ (fun t => gfe (decide_eq_false (by show ¬ (((b.loads.length : Nat) : Int) < ((b.loads.length : Nat) : Int)); omega)))) ?_
     ·intro j hj t' q' ht'
      obtain ⟨x0, x1, x2, x3⟩ := hb.ld _ (List.getElem_mem hj)
      have wj : IntKind.i64.wrap ((j : Int) + 1) = ((j + 1 : Nat) : Int) := by rw [wrap64 (by omega) (by omega)]; omega
      have hx := idx_nat hj
      refine gt (decide_eq_true (by show (j : Int) < ((b.loads.length : Nat) : Int); omega)) (goo hx ?_)
      generalize b.loads[j] = x at *
      have hsel : ((bif (decide (x.at_ > minZ (sp b i) (sp b kk))) then some ((decide (x.at_ < maxZ (sp b i) (sp b kk))), ()) else some (false, ())) : Option (Bool × Unit)) = some (!decide (x.at_ ≤ lo ∨ hi ≤ x.at_), ()) := by
       rw [hmin, hmax]
       by_cases hc : x.at_ ≤ lo ∨ hi ≤ x.at_
       ·rw [decide_eq_true hc]
        by_cases h1 : x.at_ > lo
        ·rw [decide_eq_true h1, cond_true, decide_eq_false (by omega)]; rfl
        ·rw [decide_eq_false h1]; rfl
       ·rw [decide_eq_false hc, decide_eq_true (by omega), cond_true, decide_eq_true (by omega)]; rfl
      refine goo hsel ?_
      by_cases hc : x.at_ ≤ lo ∨ hi ≤ x.at_
      ·refine gbf (by rw [decide_eq_true hc]; rfl) (gs (gend ⟨t', by simp only [wj], ?_⟩))
       rw [if_pos hc]
       exact ht'.skip
      ·have hda := hd x.at_ (by omega) (by omega)
       obtain ⟨d, hde⟩ : ∃ d, (if left then hi - x.at_ else x.at_ - lo : Int) = d := ⟨_, rfl⟩
       have hdr : 0 < d ∧ d < hi - lo := by rw [← hde]; split <;> omega
       rw [hde] at hda
       have hsd : ((bif (decide ((IntKind.i64.wrap (x.at_ - sp b kk)) < 0)) then some ((IntKind.i64.wrap (0 - (IntKind.i64.wrap (x.at_ - sp b kk)))), ()) else some ((IntKind.i64.wrap (x.at_ - sp b kk)), ())) : Option (Int × Unit)) = some (d, ()) := by
        rw [wrap64 (n := x.at_ - sp b kk) (by omega) (by omega)]
        by_cases h1 : x.at_ - sp b kk < 0
        ·rw [if_pos h1] at hda
         rw [decide_eq_true h1, cond_true, wrap64 (by omega) (by omega), hda]
        ·rw [if_neg h1] at hda
         rw [decide_eq_false h1, cond_false, hda]
       obtain ⟨c, c1, c2⟩ := g_part (hi - lo) [x.weight, d] (by omega) (by omega) (by intro y hy; simp at hy; omega) (by simp)
       obtain ⟨e, e1, e2⟩ := g_plusq ht' c2 (by simp only [List.length_cons, List.length_nil]; omega)
       have c1' : F_ref20_part [x.weight, d] (IntKind.i64.wrap (maxZ (sp b i) (sp b kk) - minZ (sp b i) (sp b kk))) = some c := by rw [hmin, hmax, hlen]; exact c1
       refine gbt (by rw [decide_eq_false hc]; rfl) (goo (idx_q pk) (goo hsd (goo hx (goo c1' (goo e1 (gs (gend ⟨e, by simp only [wj], (e2.mono (by simp only [List.length_cons, List.length_nil]; omega)).cast ?_⟩)))))))
       rw [if_neg hc, hde, prod2]
     rintro ⟨t', u'⟩ ht'
     obtain ⟨d, d1, d2⟩ := g_lessq mk2 mi2 (by omega)
     obtain ⟨o, o1, o2⟩ := g_part (hi - lo) [1] (by omega) (by omega) (by intro y hy; simp at hy; omega) (by simp)
     obtain ⟨e, e1, e2⟩ := g_timesq d2 o2 (by simp only [List.length_cons, List.length_nil]; omega)
     obtain ⟨f, f1, f2⟩ := g_plusq ht' e2 (by simp only [List.length_cons, List.length_nil]; omega)
     have o1' : F_ref20_part [1] (IntKind.i64.wrap (maxZ (sp b i) (sp b kk) - minZ (sp b i) (sp b kk))) = some o := by rw [hmin, hmax, hlen]; exact o1
     refine goo (idx_q mk1) (goo (idx_q mi1) (goo d1 (goo o1' (goo e1 (goo f1 (gs (gend ⟨f, by simp only [wk], (f2.mono (by simp only [List.length_cons, List.length_nil]; omega)).cast ?_⟩)))))))
     rw [prod1]
     unfold leverQ lds
     rw [sumQ_map]
     have e1 : ((1 : Int) : Rat) = 1 := rfl
     rw [e1]
     grind
   rintro ⟨tc, uc⟩ htc
   have htc : Gq tc (reactB b i) 497483 := (htc.mono (by simp)).cast hsum
   obtain ⟨v, v1, v2⟩ := g_lowq htc (by omega) (by omega)
   refine go v1 (gif (by simp; omega) (gend ⟨hlt, O ++ [v], by simp only [wi], by simp [hOl], fun j hj => ?_⟩))
   rcases Decidable.em (j = i) with h | h
   ·subst h
    refine ⟨v, ?_, v2.mono (by omega)⟩
    rw [List.getElem?_append_right (by omega), hOl, Nat.sub_self]; rfl
   ·rw [List.getElem?_append_left (by omega)]
    exact hO j (by omega)
  ·have : i = b.supports.length := by omega
   refine gf (decide_eq_false (by show ¬ (i : Int) < ((b.supports.length : Nat) : Int); omega)) (gend ⟨by show O.length = _; omega, fun j hj => hO j (by omega)⟩)
 ·rintro ⟨O, u⟩ h
  exact gend h
end Go.Proofs.YtcaopooflemnlaaGreat

/- The reference's lists told. -/
namespace Go.Proofs.YtcaopooflemnlaaGreat
set_option linter.unusedVariables false
set_option linter.unusedSimpArgs false

theorem h_toldR {b : TBeam} (hb : BeamIn b) (hs : SupOk b) : Gs (F_ref20_Reactions b) fun r => F_ref20_Told r = some (outL (reaL b)) := by
 obtain ⟨r, r1, r2, r3⟩ := h_reactions hb hs
 have hn := hs.n10
 refine ⟨r, r1, ?_⟩
 exact g_told (c := 500000) (by omega) (by rw [r2]; unfold reaL; simp) (by omega) (by omega) (list_of (R := fun x q => Gq x q 500000) (reactB b) r2 r3)
end Go.Proofs.YtcaopooflemnlaaGreat

/- The beam of a valid set; the set seen from the other side. -/
namespace Go.Proofs.YtcaopooflemnlaaGreat
set_option linter.unusedVariables false
set_option linter.unusedSimpArgs false

def setBeam (s : TSet) : TBeam := ⟨s.name, s.length, s.lines, s.items.map (fun x => ⟨x.at_ + x.width / 2, x.weight⟩), s.pipe⟩
theorem set_sp {s : TSet} {i : Nat} (h : i < s.lines.length) : sp (setBeam s) i = s.lines[i] := by
 show s.lines.getD i 0 = _
 rw [List.getD_eq_getElem?_getD, List.getElem?_eq_getElem h]; rfl
theorem set_valid {s : TSet} (hg : Good s) : validBm (setBeam s) = true ∧ ¬ tilt (setBeam s) := by
 have a1 := hg.n0; have a2 := hg.n1; have a3 := hg.p0; have a4 := hg.p1; have a5 := hg.ln0; have a6 := hg.ln1; have a7 := hg.ni
 constructor
 ·unfold validBm
  rw [Bool.and_eq_true, Bool.and_eq_true, Bool.and_eq_true]
  refine ⟨?_, ?_, ?_, ?_⟩
  ·unfold badH1
   simp only [Bool.not_eq_true', Bool.or_eq_false_iff, decide_eq_false_iff_not, Bool.not_eq_false']
   refine ⟨hg.name, ?_, ?_, ?_, ?_⟩
   ·show ¬ s.length < 1; omega
   ·show ¬ s.length > 1048576; omega
   ·show ¬ s.pipe < 0; omega
   ·show ¬ s.pipe > 1048576; omega
  ·unfold badH2
   simp only [Bool.not_eq_true', Bool.or_eq_false_iff, decide_eq_false_iff_not]
   refine ⟨?_, ?_, ?_⟩
   ·show ¬ ((s.lines.length : Nat) : Int) < 1; omega
   ·show ¬ ((s.lines.length : Nat) : Int) > 10; omega
   ·show ¬ (((s.items.map _).length : Nat) : Int) > 40; rw [List.length_map]; omega
  ·apply all_of
   intro j hj
   have hj2 : j < s.lines.length := hj
   have h := hg.lat j hj2
   rw [lineAt_eq _ _ _ hj2, Bool.and_eq_true, between_iff, Bool.or_eq_true, decide_eq_true_iff, decide_eq_true_iff] at h
   have e1 := set_sp hj2
   have e2 := set_sp (s := s) (i := j - 1) (by omega)
   unfold badS
   simp only [Bool.not_eq_true', Bool.or_eq_false_iff, Bool.and_eq_false_iff, decide_eq_false_iff_not]
   rw [e1, e2]
   show ¬ s.lines[j] < 0 ∧ ¬ s.lines[j] > s.length ∧ _
   omega
  ·rw [List.all_eq_true]
   intro x hx
   obtain ⟨y, hy, rfl⟩ := List.mem_map.1 hx
   have h := hg.items y hy
   have b1 := h.p0; have b2 := h.w1; have b3 := h.pw; have b4 := h.m0; have b5 := h.m1
   unfold badL
   simp only [Bool.not_eq_true', Bool.or_eq_false_iff, decide_eq_false_iff_not]
   show ¬ y.at_ + y.width / 2 < 0 ∧ ¬ y.at_ + y.width / 2 > s.length ∧ ¬ y.weight < 0 ∧ ¬ y.weight > 67108864
   omega
 ·rintro ⟨h, _⟩
  have : s.lines.length = 1 := h
  omega
theorem set_small {s : TSet} (hn : s.name.size ≤ 1000000) (hg : Good s) : SmallB (setBeam s) := by
 have a6 := hg.ln1; have a7 := hg.ni
 exact ⟨hn, by show s.lines.length ≤ _; omega, by show (s.items.map _).length ≤ _; rw [List.length_map]; omega⟩
end Go.Proofs.YtcaopooflemnlaaGreat

/- The loads of the lines: by the program and by the reference; Heaviest, Slack, Loft, Head, Travel. -/
namespace Go.Proofs.YtcaopooflemnlaaGreat
set_option linter.unusedVariables false
set_option linter.unusedSimpArgs false

theorem mid_of {L : Int} {x : TItem} (h : GoodItem L x) (hL : L ≤ 1048576) : IntKind.i64.wrap (x.at_ + IntKind.i64.wrap (x.width.tdiv 2)) = x.at_ + x.width / 2 := by
 have b1 := h.p0; have b2 := h.w1; have b3 := h.pw
 rw [Int.tdiv_eq_ediv_of_nonneg (by omega), wrap64 (n := x.width / 2) (by omega) (by omega), wrap64 (by omega) (by omega)]
theorem t_beamOf {s : TSet} (hg : Good s) : F_batten_beamOf s = some (setBeam s) := by
 have a6 := hg.ln1; have a7 := hg.ni; have a2 := hg.n1
 apply gs_eq
 unfold F_batten_beamOf
 refine go (f_clone_int _ (by omega)) ?_
 refine gloop (fun r : TBeam × Unit => r.1 = setBeam s) (fun k t => k ≤ s.items.length ∧ t = ((k : Int), ⟨s.name, s.length, s.lines, (s.items.take k).map (fun x => ⟨x.at_ + x.width / 2, x.weight⟩), s.pipe⟩, ())) s.items.length (by unfold big; omega) ⟨Nat.zero_le _, rfl⟩ ?_ ?_
 ·rintro k t hk ⟨_, rfl⟩
  rcases Nat.lt_or_ge k s.items.length with hlt | hge
  ·have hm := mid_of (hg.items _ (List.getElem_mem hlt)) a2
   have hmid : F_batten_middle s.items[k] = some (s.items[k].at_ + s.items[k].width / 2) := by unfold F_batten_middle; rw [hm]
   refine gt (decide_eq_true (by show (k : Int) < ((s.items.length : Nat) : Int); omega)) (go (idx_at hlt) (go hmid (gif (by simp; omega) (gend ⟨hlt, hlt, ?_⟩))))
   rw [List.take_succ_eq_append_getElem hlt, List.map_append]
   show (IntKind.i64.wrap ((k : Int) + 1), _, ()) = _
   rw [wrap64 (by omega) (by omega)]
   rfl
  ·refine gf (decide_eq_false (by show ¬ (k : Int) < ((s.items.length : Nat) : Int); omega)) (gend ?_)
   show (⟨s.name, s.length, s.lines, (s.items.take k).map (fun x => ⟨x.at_ + x.width / 2, x.weight⟩), s.pipe⟩ : TBeam) = setBeam s
   rw [List.take_of_length_le hge]; rfl
 ·rintro ⟨t, u⟩ h
  exact gend h
theorem t_rbeam {s : TSet} (hg : Good s) : F_ref21_Beam s = some (setBeam s) := by
 have a6 := hg.ln1; have a7 := hg.ni; have a2 := hg.n1
 apply gs_eq
 unfold F_ref21_Beam
 refine gbif (by simp; omega) (gs ?_)
 refine gloop (fun r : TBeam × Unit => r.1 = setBeam s) (fun k t => k ≤ s.items.length ∧ t = ((k : Int), ⟨s.name, s.length, s.lines, (s.items.take k).map (fun x => ⟨x.at_ + x.width / 2, x.weight⟩), s.pipe⟩, ())) s.items.length (by unfold big; omega) ⟨Nat.zero_le _, rfl⟩ ?_ ?_
 ·rintro k t hk ⟨_, rfl⟩
  rcases Nat.lt_or_ge k s.items.length with hlt | hge
  ·have hm := mid_of (hg.items _ (List.getElem_mem hlt)) a2
   have hmid : F_ref21_Middle s.items[k] = some (s.items[k].at_ + s.items[k].width / 2) := by unfold F_ref21_Middle; rw [hm]
   refine gt (decide_eq_true (by show (k : Int) < ((s.items.length : Nat) : Int); omega)) (go (idx_at hlt) (go (idx_at hlt) (go hmid (gif (by simp; omega) (gend ⟨hlt, hlt, ?_⟩)))))
   rw [List.take_succ_eq_append_getElem hlt, List.map_append]
   show (IntKind.i64.wrap ((k : Int) + 1), _, ()) = _
   rw [wrap64 (by omega) (by omega)]
   rfl
  ·refine gf (decide_eq_false (by show ¬ (k : Int) < ((s.items.length : Nat) : Int); omega)) (gend ?_)
   show (⟨s.name, s.length, s.lines, (s.items.take k).map (fun x => ⟨x.at_ + x.width / 2, x.weight⟩), s.pipe⟩ : TBeam) = setBeam s
   rw [List.take_of_length_le hge]; rfl
 ·rintro ⟨t, u⟩ h
  exact gend h
structure Sm (s : TSet) : Prop where
 fits : Fits s
 name : s.name.size ≤ 1000000
theorem sm_of {s : TSet} {m : Int} (h : smallB s m = true) : Sm s := by
 refine ⟨small_fits h, ?_⟩
 simp only [smallB, smallH, Bool.and_eq_true, decide_eq_true_eq, List.all_eq_true] at h
 omega
def linesT (s : TSet) : List TFrac × Int := if validB s = true then outL (reaL (setBeam s)) else ([], 1)
theorem t_lines {s : TSet} (h : Sm s) : F_batten_Lines s = some (linesT s) := by
 apply gs_eq
 unfold F_batten_Lines linesT
 refine go (f_valid s h.fits) ?_
 cases hv : validB s with
 | false => exact gt rfl (gend rfl)
 | true =>
  have hg := Good.of hv
  obtain ⟨h1, h2⟩ := set_valid hg
  exact gf rfl (go (t_beamOf hg) (go (f_Reactions (set_small h.name hg) h1 h2) (gend rfl)))
theorem t_rlines {s : TSet} (h : Sm s) : F_ref22_Lines s = some (linesT s) := by
 apply gs_eq
 unfold F_ref22_Lines linesT
 refine go (f_rvalid s h.fits) ?_
 cases hv : validB s with
 | false => exact gt rfl (gend rfl)
 | true =>
  have hg := Good.of hv
  obtain ⟨h1, h2⟩ := set_valid hg
  obtain ⟨hb, hs⟩ := valid_in h1
  have hr : F_ref21_Lines s = some (outL (reaL (setBeam s))) := by
   apply gs_eq
   unfold F_ref21_Lines
   refine go (t_rbeam hg) (gcall (h_given (set_small h.name hg)) fun r hr => ?_)
   have : r = 0 := by
    rcases hr with ⟨a, _⟩ | ⟨_, a, _⟩ | ⟨_, _, a⟩
    ·rw [h1] at a; cases a
    ·exact absurd a h2
    ·exact a
   subst this
   exact gf rfl (gcall (h_toldR hb hs) fun r hr => go hr (gend rfl))
  refine gf rfl (go hr ?_)
  simp only [if_true]
  by_cases hf : ∀ q ∈ reaL (setBeam s), fitQ q
  ·rw [outL_fit hf]; exact gf rfl (gend rfl)
  ·rw [outL_big hf]; exact gt rfl (gend rfl)
theorem lq_len {s : TSet} : (reaL (setBeam s)).length = s.lines.length := by unfold reaL setBeam; simp
theorem lines_cases (s : TSet) : (validB s = false ∧ linesT s = ([], 1)) ∨ (validB s = true ∧ (∀ q ∈ reaL (setBeam s), fitQ q) ∧ linesT s = ((reaL (setBeam s)).map frQ, 0)) ∨ (validB s = true ∧ linesT s = ([], 5)) := by
 unfold linesT
 by_cases hv : validB s = true
 ·right
  rw [if_pos hv]
  by_cases hf : ∀ q ∈ reaL (setBeam s), fitQ q
  ·exact .inl ⟨hv, hf, outL_fit hf⟩
  ·exact .inr ⟨hv, outL_big hf⟩
 ·left
  rw [if_neg hv]
  exact ⟨by simpa using hv, rfl⟩
theorem fr_get {l : List Rat} {k : Nat} (h : k < l.length) : (l.map frQ)[k]? = some (frQ (l.getD k 0)) := by
 rw [List.getElem?_map, List.getD_eq_getElem?_getD, List.getElem?_eq_getElem h]; rfl
end Go.Proofs.YtcaopooflemnlaaGreat

/- Lists compared; small beams. -/
namespace Go.Proofs.YtcaopooflemnlaaGreat
set_option linter.unusedVariables false
set_option linter.unusedSimpArgs false

theorem f_eqFr {a b : List TFrac} (ha : a.length ≤ 1000000) : Gs (F_slices_Equal_api_Frac a b) fun v => v = true ↔ a = b := by
 unfold F_slices_Equal_api_Frac
 by_cases hl : a.length = b.length
 ·refine gf (by rw [hl]; simp) ?_
  refine gloop (fun r : (Bool × Unit) ⊕ Unit => (∃ y, r = .inl y ∧ y.1 = false ∧ a ≠ b) ∨ (r = .inr () ∧ a = b)) (fun k s => k ≤ a.length ∧ s = ((k : Int), ()) ∧ a.take k = b.take k) a.length (by unfold big; omega) ⟨by omega, rfl, by simp⟩ ?_ ?_
  ·rintro k s hk ⟨_, rfl, hab⟩
   rcases Nat.lt_or_ge k a.length with hlt | hge
   ·refine gt (decide_eq_true (by show (k : Int) < ((a.length : Nat) : Int); omega)) (go (idx_nat hlt) (go (idx_nat (l := b) (k := k) (by omega)) ?_))
    by_cases hc : a[k] = b[k]'(by omega)
    ·refine gf (by rw [(fr_eq _ _).2 hc]; rfl) (gend ⟨hlt, hlt, ?_, ?_⟩)
     ·show (IntKind.i64.wrap ((k : Int) + 1), ()) = _
      rw [wrap64 (by omega) (by omega)]; rfl
     ·rw [List.take_succ_eq_append_getElem hlt, List.take_succ_eq_append_getElem (show k < b.length by omega), hab, hc]
    ·refine gt ?_ (gend (.inl ⟨_, rfl, rfl, fun e => hc (by subst e; rfl)⟩))
     cases hv : ((a[k].num == (b[k]'(by omega)).num) && (a[k].den == (b[k]'(by omega)).den)) with
     | false => rfl
     | true => exact absurd ((fr_eq _ _).1 hv) hc
   ·refine gf (decide_eq_false (by show ¬ (k : Int) < ((a.length : Nat) : Int); omega)) (gend (.inr ⟨rfl, ?_⟩))
    rw [List.take_of_length_le hge, List.take_of_length_le (by omega)] at hab
    exact hab
  ·rintro r (⟨y, rfl, h1, h2⟩ | ⟨rfl, h2⟩)
   ·refine gend ?_
    rw [h1]; simp [h2]
   ·refine gend ?_
    simp [h2]
 ·refine gt (by rw [bne_iff_ne]; omega) (gend ?_)
  constructor
  ·intro h; cases h
  ·intro h; exact absurd (by rw [h]) hl
theorem f_same (a : List TFrac) (ha : a.length ≤ 1000000) : F_slices_Equal_api_Frac a a = some true := by
 obtain ⟨v, h1, h2⟩ := f_eqFr (a := a) (b := a) ha
 rw [h1, h2.2 rfl]
end Go.Proofs.YtcaopooflemnlaaGreat

/- Law 22: LiftlineLoads, LiftlineWeighs, LiftlineTravels, LiftlineTurned. -/
namespace Go.Proofs.YtcaopooflemnlaaGreat
set_option linter.unusedVariables false
set_option linter.unusedSimpArgs false

theorem awake22 : F_law22_awake = some true := by kernel_rfl
theorem t_small (s : TSet) : F_law22_small s = some (smallB s 8) := by
 unfold F_law22_small
 rw [f_small]; rfl
def travelI (s : TSet) : Int := (s.high - s.low + s.purchase - 1) / s.purchase
theorem travel_wrap {s : TSet} (hg : Good s) : IntKind.i64.wrap ((IntKind.i64.wrap ((IntKind.i64.wrap ((IntKind.i64.wrap (s.high - s.low)) + s.purchase)) - 1)).tdiv s.purchase) = travelI s := by
 have a1 := hg.l0; have a2 := hg.l1; have a3 := hg.h1; have a4 := hg.u0; have a5 := hg.u1
 have hq : 0 ≤ travelI s ∧ travelI s ≤ 1048580 := by
  unfold travelI
  rcases (show s.purchase = 1 ∨ s.purchase = 2 by omega) with e | e <;> rw [e] <;> omega
 rw [wrap64 (n := s.high - s.low) (by omega) (by omega), wrap64 (n := s.high - s.low + s.purchase) (by omega) (by omega), wrap64 (n := s.high - s.low + s.purchase - 1) (by omega) (by omega), Int.tdiv_eq_ediv_of_nonneg (by omega)]
 exact wrap64 (by unfold travelI at hq; omega) (by unfold travelI at hq; omega)
theorem t_travel {s : TSet} (h : Sm s) : F_liftline_Travel s = some (if validB s = true then (travelI s, 0) else (0, 1)) := by
 apply gs_eq
 unfold F_liftline_Travel
 refine go (f_valid s h.fits) ?_
 cases hv : validB s with
 | false => exact gt rfl (gend rfl)
 | true =>
  have hg := Good.of hv
  have a4 := hg.u0
  refine gf rfl ?_
  rw [if_neg (by omega), travel_wrap hg]
  exact gend rfl
theorem t_rtravel {s : TSet} (hg : Good s) : F_ref22_Travel s = some (travelI s) := by
 have a4 := hg.u0
 unfold F_ref22_Travel
 rw [if_neg (by omega), travel_wrap hg]
def headT (s : TSet) : TFrac × TFrac × Int := match linesT s with
 | (_, 0) => match sumO (reaL (setBeam s)) 0 with
  | none => (⟨0, 0⟩, ⟨0, 0⟩, 5)
  | some q => if fitQ (q * (s.purchase : Rat)) then (frQ q, frQ (q * (s.purchase : Rat)), 0) else (⟨0, 0⟩, ⟨0, 0⟩, 5)
 | (_, e) => (⟨0, 0⟩, ⟨0, 0⟩, e)
theorem frq_int (n : Int) : (⟨n, 1⟩ : TFrac) = frQ (n : Rat) := (fr_int n).symm
theorem t_head {s : TSet} (h : Sm s) : F_liftline_Head s = some (headT s) := by
 apply gs_eq
 unfold F_liftline_Head headT
 refine go (t_lines h) ?_
 rcases lines_cases s with ⟨_, e⟩ | ⟨hv, hf, e⟩ | ⟨_, e⟩
 ·rw [e]; exact gt rfl (gend rfl)
 ·rw [e]
  have hg := Good.of hv
  have hn : (reaL (setBeam s)).length = s.lines.length := lq_len
  have hn3 := hg.ln1
  have a4 := hg.u0; have a5 := hg.u1
  refine gf rfl (go (t_sum (by omega) hf) ?_)
  unfold sumH
  simp only
  cases hs : sumO (reaL (setBeam s)) 0 with
  | none => exact gt rfl (gend rfl)
  | some q =>
   have hq := sumO_fit _ _ _ t_fit0 hs
   have hp := t_fitint (n := s.purchase) (by omega)
   have hmul := t_mul hq hp
   have hw : F_liftline_whole s.purchase = some (frQ (s.purchase : Rat)) := by unfold F_liftline_whole; rw [frq_int]
   refine gf rfl (go hw (go hmul ?_))
   by_cases hfit : fitQ (q * (s.purchase : Rat))
   ·rw [fr_fit hfit]
    simp only [if_pos hfit]
    exact gf rfl (gend rfl)
   ·rw [fr_big hfit]
    simp only [if_neg hfit]
    exact gt rfl (gend rfl)
 ·rw [e]; exact gt rfl (gend rfl)
end Go.Proofs.YtcaopooflemnlaaGreat

/- Law 22: LiftlineTurned, LiftlineHeads, LiftlineHeaviest. -/
namespace Go.Proofs.YtcaopooflemnlaaGreat
set_option linter.unusedVariables false
set_option linter.unusedSimpArgs false

def loftQ (q : Rat) : Rat := 2 * (q * q)
def loftB (q : Rat) : Prop := fitQ (q * q) ∧ fitQ (loftQ q)
noncomputable def loftL (l : List Rat) : List TFrac × Int := open Classical in if ∀ q ∈ l, loftB q then (l.map fun q => frQ (loftQ q), 0) else ([], 5)
theorem two_frq : (⟨2, 1⟩ : TFrac) = frQ (2 : Rat) := frq_int 2
theorem fit_two : fitQ (2 : Rat) := t_fitint (n := 2) (by decide)
theorem iter_loft {T : TFrac → TFrac → Option (TFrac × Int)} {W : Option TFrac} (hT : ∀ a b : Rat, fitQ a → fitQ b → T (frQ a) (frQ b) = some (outQ (a * b))) (hW : W = some ⟨2, 1⟩) {l : List Rat} (hl : l.length ≤ 1000) (hf : ∀ q ∈ l, fitQ q) :
  ((iterF (σ := Int × List TFrac × Unit) (ρ := (List TFrac × Int × List TFrac × Unit) ⊕ (List TFrac × Unit)) (fun s12 => (bif (decide (s12.1 < (((l.map frQ).length : Nat) : Int))) then (idx (l.map frQ) s12.1).bind fun _x13 => ((l.map frQ)[(Int.toNat s12.1)]?).bind fun x14 => (T x14 x14).bind fun r15 => (bif (r15.2 != 0) then some (.inr (.inl (([] : List TFrac), r15.2, s12.2.1, ()))) else W.bind fun r16 => (T r16 r15.1).bind fun r17 => (bif (r17.2 != 0) then some (.inr (.inl (([] : List TFrac), r17.2, s12.2.1, ()))) else (if s12.2.1.length + ([r17.1] : List TFrac).length ≤ 2147483648 then some (.inl ((IntKind.i64.wrap (s12.1 + 1)), (s12.2.1 ++ ([r17.1] : List TFrac)), ())) else none))) else some (.inr (.inr ((s12.2.1, ())))))) big (0, ([] : List TFrac), ())).bind fun y18 => (match y18 with | .inl y19 => some (y19.1, y19.2.1) | .inr y20 => some (y20.1, 0))) = some (loftL l) := by
 apply gs_eq
 have hlm : (l.map frQ).length = l.length := List.length_map _
 refine gloop (fun r : (List TFrac × Int × List TFrac × Unit) ⊕ (List TFrac × Unit) => match r with
   | .inl y => ((y.1, y.2.1) : List TFrac × Int) = loftL l
   | .inr y => ((y.1, 0) : List TFrac × Int) = loftL l)
  (fun k t => k ≤ l.length ∧ t = ((k : Int), (l.take k).map (fun q => frQ (loftQ q)), ()) ∧ ∀ q ∈ l.take k, loftB q) l.length (by unfold big; omega) ⟨Nat.zero_le _, rfl, fun q hq => by simp at hq⟩ ?_ ?_
 ·rintro k t hk ⟨_, rfl, hall⟩
  rcases Nat.lt_or_ge k l.length with hlt | hge
  ·have g1 := fr_get hlt
   have hg : l.getD k 0 = l[k] := by rw [List.getD_eq_getElem?_getD, List.getElem?_eq_getElem hlt]; rfl
   rw [hg] at g1
   have hfk := hf _ (List.getElem_mem hlt)
   refine gt (decide_eq_true (by show (k : Int) < (((l.map frQ).length : Nat) : Int); omega)) (go (idx_q g1) (go (at_w rfl g1) (go (hT _ _ hfk hfk) ?_)))
   have hbad : ¬ loftB l[k] → (([], 5) : List TFrac × Int) = loftL l := by
    intro hn
    unfold loftL
    rw [if_neg (fun h => hn (h _ (List.getElem_mem hlt)))]
   by_cases h1 : fitQ (l[k] * l[k])
   ·rw [fr_fit h1]
    have hT2 := hT 2 (l[k] * l[k]) fit_two h1
    rw [← two_frq] at hT2
    refine gf rfl (go hW (go hT2 ?_))
    by_cases h2 : fitQ (2 * (l[k] * l[k]))
    ·rw [fr_fit h2]
     refine gf rfl (gif (by simp; omega) (gend ⟨hlt, hlt, ?_, ?_⟩))
     ·show (IntKind.i64.wrap ((k : Int) + 1), (l.take k).map (fun q => frQ (loftQ q)) ++ [frQ (2 * (l[k] * l[k]))], ()) = _
      rw [wrap64 (by omega) (by omega), List.take_succ_eq_append_getElem hlt, List.map_append]
      rfl
     ·intro q hq
      rw [List.take_succ_eq_append_getElem hlt] at hq
      rcases List.mem_append.1 hq with h | h
      ·exact hall q h
      ·simp at h; subst h; exact ⟨h1, h2⟩
    ·rw [fr_big h2]
     exact gt rfl (gend (hbad fun h => h2 h.2))
   ·rw [fr_big h1]
    exact gt rfl (gend (hbad fun h => h1 h.1))
  ·refine gf (decide_eq_false (by show ¬ (k : Int) < (((l.map frQ).length : Nat) : Int); omega)) (gend ?_)
   rw [List.take_of_length_le hge] at hall
   show (((l.take k).map (fun q => frQ (loftQ q)), 0) : List TFrac × Int) = loftL l
   rw [List.take_of_length_le hge]
   unfold loftL
   rw [if_pos hall]
 ·rintro (y | y) hy
  ·exact gend hy
  ·exact gend hy
noncomputable def loftT (s : TSet) : List TFrac × Int := match linesT s with
 | (_, 0) => loftL (reaL (setBeam s))
 | (_, e) => ([], e)
theorem t_loft {s : TSet} (h : Sm s) : F_liftline_Loft s = some (loftT s) := by
 apply gs_eq
 unfold F_liftline_Loft loftT
 refine go (t_lines h) ?_
 rcases lines_cases s with ⟨_, e⟩ | ⟨hv, hf, e⟩ | ⟨_, e⟩
 ·rw [e]; exact gt rfl (gend rfl)
 ·rw [e]
  have hg := Good.of hv
  have hn : (reaL (setBeam s)).length = s.lines.length := lq_len
  have hn3 := hg.ln1
  refine gf rfl ⟨_, iter_loft (T := F_ratio_Mul) (W := F_liftline_whole 2) (fun a b ha hb => t_mul ha hb) rfl (by omega) hf, rfl⟩
 ·rw [e]; exact gt rfl (gend rfl)
theorem t_rloft {s : TSet} (h : Sm s) : F_ref22_Loft s = some (loftT s) := by
 apply gs_eq
 unfold F_ref22_Loft loftT
 refine go (t_rlines h) ?_
 rcases lines_cases s with ⟨_, e⟩ | ⟨hv, hf, e⟩ | ⟨_, e⟩
 ·rw [e]; exact gt rfl (gend rfl)
 ·rw [e]
  have hg := Good.of hv
  have hn : (reaL (setBeam s)).length = s.lines.length := lq_len
  have hn3 := hg.ln1
  have hit := iter_loft (T := F_ref02_Times) (W := F_ref02_Of 2) (fun a b ha hb => t_rtimes ha hb) rfl (l := reaL (setBeam s)) (by omega) hf
  refine gf rfl ?_
  generalize reaL (setBeam s) = l at *
  have hlm : (l.map frQ).length = l.length := List.length_map _
  refine gloop (fun r : (List TFrac × Int × List TFrac × Unit) ⊕ (List TFrac × Unit) => match r with
    | .inl y => ((y.1, y.2.1) : List TFrac × Int) = loftL l
    | .inr y => ((y.1, 0) : List TFrac × Int) = loftL l)
   (fun k t => k ≤ l.length ∧ t = ((k : Int), (l.take k).map (fun q => frQ (loftQ q)), ()) ∧ ∀ q ∈ l.take k, loftB q) l.length (by unfold big; omega) ⟨Nat.zero_le _, rfl, fun q hq => by simp at hq⟩ ?_ ?_
  ·rintro k t hk ⟨_, rfl, hall⟩
   rcases Nat.lt_or_ge k l.length with hlt | hge
   ·have g1 := fr_get hlt
    have hg : l.getD k 0 = l[k] := by rw [List.getD_eq_getElem?_getD, List.getElem?_eq_getElem hlt]; rfl
    rw [hg] at g1
    have hfk := hf _ (List.getElem_mem hlt)
    refine gt (decide_eq_true (by show (k : Int) < (((l.map frQ).length : Nat) : Int); omega)) (go (idx_q g1) (go (at_w rfl g1) (go (idx_q g1) (go (at_w rfl g1) (go (t_rtimes hfk hfk) ?_)))))
    have hbad : ¬ loftB l[k] → (([], 5) : List TFrac × Int) = loftL l := by
     intro hn
     unfold loftL
     rw [if_neg (fun h => hn (h _ (List.getElem_mem hlt)))]
    by_cases h1 : fitQ (l[k] * l[k])
    ·rw [fr_fit h1]
     have hT2 := t_rtimes (a := 2) (b := l[k] * l[k]) fit_two h1
     rw [← two_frq] at hT2
     refine gf rfl (go rfl (go hT2 ?_))
     by_cases h2 : fitQ (2 * (l[k] * l[k]))
     ·rw [fr_fit h2]
      refine gf rfl (gif (by simp; omega) (gend ⟨hlt, hlt, ?_, ?_⟩))
      ·show (IntKind.i64.wrap ((k : Int) + 1), (l.take k).map (fun q => frQ (loftQ q)) ++ [frQ (2 * (l[k] * l[k]))], ()) = _
       rw [wrap64 (by omega) (by omega), List.take_succ_eq_append_getElem hlt, List.map_append]
       rfl
      ·intro q hq
       rw [List.take_succ_eq_append_getElem hlt] at hq
       rcases List.mem_append.1 hq with h | h
       ·exact hall q h
       ·simp at h; subst h; exact ⟨h1, h2⟩
     ·rw [fr_big h2]
      exact gt rfl (gend (hbad fun h => h2 h.2))
    ·rw [fr_big h1]
     exact gt rfl (gend (hbad fun h => h1 h.1))
   ·refine gf (decide_eq_false (by show ¬ (k : Int) < (((l.map frQ).length : Nat) : Int); omega)) (gend ?_)
    rw [List.take_of_length_le hge] at hall
    show (((l.take k).map (fun q => frQ (loftQ q)), 0) : List TFrac × Int) = loftL l
    rw [List.take_of_length_le hge]
    unfold loftL
    rw [if_pos hall]
  ·rintro (y | y) hy
   ·exact gend hy
   ·exact gend hy
 ·rw [e]; exact gt rfl (gend rfl)
theorem t_rhead {s : TSet} (h : Sm s) : F_ref22_Head s = some (headT s) := by
 apply gs_eq
 unfold F_ref22_Head headT
 refine go (t_rlines h) ?_
 rcases lines_cases s with ⟨_, e⟩ | ⟨hv, hf, e⟩ | ⟨_, e⟩
 ·rw [e]; exact gt rfl (gend rfl)
 ·rw [e]
  have hg := Good.of hv
  have hn : (reaL (setBeam s)).length = s.lines.length := lq_len
  have hn3 := hg.ln1
  have a4 := hg.u0; have a5 := hg.u1
  refine gf rfl (go rfl ?_)
  simp only
  generalize reaL (setBeam s) = l at *
  have hlm : (l.map frQ).length = l.length := List.length_map _
  refine gloop (fun R : (Int × TFrac × TFrac × TFrac × Unit) ⊕ (TFrac × TFrac × TFrac × Unit) => match sumO l 0 with | none => ∃ z, R = .inl (5, ⟨0, 0⟩, ⟨0, 0⟩, z, ()) | some r => R = .inr (⟨0, 0⟩, ⟨0, 0⟩, frQ r, ()))
   (fun k t => k ≤ l.length ∧ ∃ q, t = ((k : Int), ⟨0, 0⟩, ⟨0, 0⟩, frQ q, ()) ∧ fitQ q ∧ sumO l 0 = sumO (l.drop k) q) l.length (by unfold big; omega) ⟨Nat.zero_le _, 0, rfl, t_fit0, rfl⟩ ?_ ?_
  ·rintro k t hk ⟨_, q, rfl, hq, he⟩
   rcases Nat.lt_or_ge k l.length with hlt | hge
   ·have hx := hf _ (List.getElem_mem hlt)
    have g1 := fr_get hlt
    have hgd : l.getD k 0 = l[k] := by rw [List.getD_eq_getElem?_getD, List.getElem?_eq_getElem hlt]; rfl
    rw [hgd] at g1
    rw [List.drop_eq_getElem_cons hlt, show sumO (l[k] :: l.drop (k + 1)) q = if fitQ (q + l[k]) then sumO (l.drop (k + 1)) (q + l[k]) else none from rfl] at he
    refine gt (decide_eq_true (by show (k : Int) < (((l.map frQ).length : Nat) : Int); omega)) (go (idx_q g1) (go (at_w rfl g1) (go (t_radd hq hx) ?_)))
    by_cases hfit : fitQ (q + l[k])
    ·rw [if_pos hfit] at he
     rw [fr_fit hfit]
     refine gf rfl (gend ⟨hlt, hlt, _, ?_, hfit, he⟩)
     show (IntKind.i64.wrap ((k : Int) + 1), _, _, _, ()) = _
     rw [wrap64 (by omega) (by omega)]; rfl
    ·rw [if_neg hfit] at he
     rw [fr_big hfit]
     refine gt rfl (gend ?_)
     rw [he]
     exact ⟨_, rfl⟩
   ·have : k = l.length := by omega
    subst this
    refine gf (decide_eq_false (by show ¬ ((l.length : Nat) : Int) < (((l.map frQ).length : Nat) : Int); omega)) (gend ?_)
    rw [List.drop_length] at he
    rw [he]; rfl
  ·intro R hQ
   cases hs : sumO l 0 with
   | none =>
    rw [hs] at hQ
    obtain ⟨z, rfl⟩ := hQ
    exact gend rfl
   | some q =>
    rw [hs] at hQ
    dsimp only at hQ
    subst hQ
    have hq := sumO_fit _ _ _ t_fit0 hs
    have hp := t_fitint (n := s.purchase) (by omega)
    have hmul := t_rtimes hq hp
    have hw : F_ref02_Of s.purchase = some (frQ (s.purchase : Rat)) := by unfold F_ref02_Of; rw [frq_int]
    refine go hw (go hmul ?_)
    by_cases hfit : fitQ (q * (s.purchase : Rat))
    ·rw [fr_fit hfit]
     simp only [if_pos hfit]
     exact gf rfl (gend rfl)
    ·rw [fr_big hfit]
     simp only [if_neg hfit]
     exact gt rfl (gend rfl)
 ·rw [e]; exact gt rfl (gend rfl)
theorem loft_len {s : TSet} : (loftT s).1.length ≤ 1000000 := by
 unfold loftT
 rcases lines_cases s with ⟨_, e⟩ | ⟨hv, _, e⟩ | ⟨_, e⟩ <;> rw [e]
 ·simp
 ·have := (Good.of hv).ln1
  show (loftL (reaL (setBeam s))).1.length ≤ _
  unfold loftL
  split
  ·rw [List.length_map, lq_len]; omega
  ·simp
 ·simp
theorem main_LiftlineHeads (x0 : TSet) (w0 : W_Set x0) : F_law22_LiftlineHeads x0 = some true := by
 apply gs_eq
 unfold F_law22_LiftlineHeads
 refine go awake22 (gf rfl (go (t_small x0) ?_))
 cases hm : smallB x0 8 with
 | false => exact gt rfl (gend rfl)
 | true =>
  have h := sm_of hm
  refine gf rfl (go (t_loft h) (go (t_head h) (go (t_travel h) (go (t_rloft h) (go (t_rhead h) (goo (f_same _ loft_len) (gbf rfl (gbf (by simp) (gbf (by simp) (gbf (by simp) (gs (gf (by simp) (go (f_rvalid x0 h.fits) ?_)))))))))))))
  cases hv : validB x0 with
  | false => exact gt rfl (goo rfl (gend rfl))
  | true => exact gf rfl (gbt rfl (goo (t_rtravel (Good.of hv)) (gs (gend (by simp)))))
end Go.Proofs.YtcaopooflemnlaaGreat
