/- Joined by merge.py: PlW4. -/
import Derived.Test.YtcaopooflemnlaaGreatM13
/- The loads after a shock: by the program and by the reference; FailureWithout. -/
namespace Go.Proofs.YtcaopooflemnlaaGreat
set_option linter.unusedVariables false
set_option linter.unusedSimpArgs false

theorem w_without {s : TSet} (h : Sm s) (h15 : s.lines.length ≤ 15) (line : Int) : ∃ r : TSet × Int, F_failure_Without s line = some r ∧ F_ref24_Without s line = some r ∧ Fits r.1 ∧
  (validB s = true → s.lines.length ≠ 2 → ∀ k : Nat, k < s.lines.length → line = (k : Int) → r = (cutS s k, 0)) := by
 have hz : Fits (TSet.mk (⟨#[]⟩ : ByteArray) 0 0 0 0 ([] : List Int) 0 0 0 0 0 ([] : List TItem) ([] : List TBrick)) := ⟨by decide, by simp, by simp, by simp, by simp, by simp⟩
 have hg1 := w_given s h h15 line
 have hg2 := w_rgiven s h line
 cases hv : validB s with
 | false =>
  rw [hv] at hg1 hg2
  refine ⟨(_, 1), gs_eq ?_, gs_eq ?_, hz, fun e => by cases e⟩
  ·unfold F_failure_Without
   exact go hg1 (gt rfl (gend rfl))
  ·unfold F_ref24_Without
   exact go hg2 (gt rfl (gend rfl))
 | true =>
  have hg := Good.of hv
  have n2 := hg.ln0; have n10 := hg.ln1
  rw [hv] at hg1 hg2
  simp only [if_true] at hg1 hg2
  by_cases hr : line < 0 ∨ (s.lines.length : Int) ≤ line
  ·rw [if_pos hr] at hg1 hg2
   refine ⟨(_, 2), gs_eq ?_, gs_eq ?_, hz, fun _ _ k hk e => by omega⟩
   ·unfold F_failure_Without
    exact go hg1 (gt rfl (gend rfl))
   ·unfold F_ref24_Without
    exact go hg2 (gt rfl (gend rfl))
  ·rw [if_neg hr] at hg1 hg2
   by_cases h2 : s.lines.length = 2
   ·rw [if_pos h2] at hg1
    refine ⟨(_, 14), gs_eq ?_, gs_eq ?_, hz, fun _ e => absurd h2 e⟩
    ·unfold F_failure_Without
     exact go hg1 (gt rfl (gend rfl))
    ·unfold F_ref24_Without
     exact go hg2 (gf rfl (gt (by simp [h2]) (gend rfl)))
   ·rw [if_neg h2] at hg1
    obtain ⟨k, rfl⟩ : ∃ k : Nat, line = (k : Int) := ⟨line.toNat, by omega⟩
    have hk : k < s.lines.length := by omega
    refine ⟨(cutS s k, 0), gs_eq ?_, gs_eq ?_, (cut_sm h k).fits, fun _ _ k' _ e => by
     have : k = k' := by omega
     rw [this]⟩
    ·unfold F_failure_Without
     exact go hg1 (gf rfl (go (w_cut h n10 hk) (gend rfl)))
    ·unfold F_ref24_Without
     exact go hg2 (gf rfl (gf (by simp; omega) (go (w_less h n10 hk) (gend rfl))))
theorem bor (a b : Bool) (X : Option (Bool × Unit)) (h : X = some (b, ())) : (bif a then some (true, ()) else X) = some (a || b, ()) := by
 subst h; cases a <;> rfl
theorem w_rvq {a : TFrac} (w : RW a) : ∃ v : Bool, F_ref02_Valid a = some v ∧ (v = true ↔ RV a) := by
 obtain ⟨w0, w1, w2, w3⟩ := id w
 suffices hs : Gs (F_ref02_Valid a) fun v => v = true ↔ RV a from by
  obtain ⟨v, h1, h2⟩ := hs
  exact ⟨v, h1, h2⟩
 unfold F_ref02_Valid
 refine go (bor _ _ _ (bor _ _ _ (bor _ _ _ rfl))) ?_
 cases hb : (decide (a.den < 1) || (decide (a.den > 1152921504606846976) || (decide (a.num < -1152921504606846976) || decide (a.num > 1152921504606846976)))) with
 | true =>
  refine gt rfl (gend ?_)
  constructor
  ·intro h; cases h
  ·intro h
   have h0 := h.d0; have h1 := h.d1; have h2 := h.n0; have h3 := h.n1
   simp only [Bool.or_eq_true, decide_eq_true_iff] at hb
   omega
 | false =>
  have hb' := hb
  simp only [Bool.or_eq_false_iff, decide_eq_false_iff_not] at hb'
  obtain ⟨b0, b1, b2, b3⟩ := hb'
  refine gf rfl (go (r_size (by omega) (by omega)) (go (r_size (by omega) (by omega)) ?_))
  have e1 : TU.mk 0 ((a.num.natAbs : Nat) : Int) = ofU a.num.natAbs := (ofU_small (by omega)).symm
  have e2 : TU.mk 0 ((a.den.natAbs : Nat) : Int) = ofU a.den.natAbs := (ofU_small (by omega)).symm
  rw [e1, e2]
  refine go (g_gcd (by omega) (by omega) (by omega)) (gend ?_)
  have hg : Nat.gcd a.num.natAbs a.den.natAbs ≤ a.den.natAbs := Nat.gcd_le_right _ (by omega)
  rw [ofU_small (by omega)]
  simp only [Bool.and_eq_true, beq_iff_eq]
  constructor
  ·intro h
   exact ⟨by omega, by omega, by omega, by omega, by rw [show a.den.toNat = a.den.natAbs from by omega]; omega⟩
  ·intro h
   have := h.cop
   rw [show a.den.toNat = a.den.natAbs from by omega] at this
   rw [this]; simp
theorem w_rvf {a : TFrac} (h : RV a) : F_ref02_Valid a = some true := by
 obtain ⟨v, h1, h2⟩ := w_rvq h.w
 rw [h1, h2.2 h]
def timesF (q : Rat) (l : List Rat) : List Rat := l.map (· * q)
open Classical in
noncomputable def shockL (l : List Rat) (q : Rat) : List TFrac × Int := if fitAll l ∧ fitAll (timesF q l) then ((timesF q l).map frQ, 0) else ([], 5)
theorem shockL_big {l : List Rat} {q : Rat} (h : ¬ (fitAll l ∧ fitAll (timesF q l))) : shockL l q = ([], 5) := if_neg h
theorem shockL_ok {l : List Rat} {q : Rat} (h : fitAll l ∧ fitAll (timesF q l)) : shockL l q = ((timesF q l).map frQ, 0) := if_pos h
theorem fac_ways (f : TFrac) (w : RW f) : (RV f ∧ f = frQ (qOf f) ∧ fitQ (qOf f)) ∨ ¬ RV f := by
 by_cases h : RV f
 ·exact .inl ⟨h, (fr_of h).symm, fr_fit_of h⟩
 ·exact .inr h
theorem fr_one : (⟨1, 1⟩ : TFrac) = frQ (1 : Rat) := (fr_int 1).symm
theorem fr_hun : (⟨100, 1⟩ : TFrac) = frQ (100 : Rat) := (fr_int 100).symm
theorem fit_one : fitQ (1 : Rat) := t_fitint (n := 1) (by decide)
theorem fit_hun : fitQ (100 : Rat) := t_fitint (n := 100) (by decide)
theorem cmp_neg (a b : Rat) : decide ((if a < b then (-1 : Int) else if b < a then 1 else 0) < 0) = decide (a < b) := by
 apply decide_eq_decide.2
 by_cases h1 : a < b
 ·rw [if_pos h1]; exact ⟨fun _ => h1, fun _ => by decide⟩
 ·rw [if_neg h1]
  by_cases h2 : b < a
  ·rw [if_pos h2]; exact ⟨fun h => absurd h (by decide), fun h => absurd h h1⟩
  ·rw [if_neg h2]; exact ⟨fun h => absurd h (by decide), fun h => absurd h h1⟩
theorem w_mulP {l : List Rat} {q : Rat} (hl : l.length ≤ 1000) (hf : fitAll l) (hq : fitQ q) {γ : Type} {K : ((List TFrac × Int × List TFrac × Unit) ⊕ (List TFrac × Unit)) → Option γ} {P : γ → Prop} (hin : ∀ y : List TFrac × Int × List TFrac × Unit, ((y.1, y.2.1) : List TFrac × Int) = shockL l q → Gs (K (.inl y)) P) (hir : ∀ y : List TFrac × Unit, ((y.1, 0) : List TFrac × Int) = shockL l q → Gs (K (.inr y)) P) :
  Gs ((iterF (σ := Int × List TFrac × Unit) (ρ := (List TFrac × Int × List TFrac × Unit) ⊕ (List TFrac × Unit)) (fun s21 => (bif (decide (s21.1 < ((((l.map frQ).length : Nat)) : Int))) then (idx s21.2.1 s21.1).bind fun _x22 => (s21.2.1[(Int.toNat s21.1)]?).bind fun x23 => (F_ratio_Mul x23 (frQ q)).bind fun r24 => (idx s21.2.1 s21.1).bind fun _x25 => (s21.2.1[(Int.toNat s21.1)]?).bind fun x26 => (bif (r24.2 != 0) then some (.inr (.inl (([] : List TFrac), r24.2, (s21.2.1.set (Int.toNat s21.1) r24.1), ()))) else some (.inl ((IntKind.i64.wrap (s21.1 + 1)), (s21.2.1.set (Int.toNat s21.1) r24.1), ()))) else some (.inr (.inr ((s21.2.1, ())))))) big (0, l.map frQ, ())).bind K) P := by
 refine gloop (fun r : (List TFrac × Int × List TFrac × Unit) ⊕ (List TFrac × Unit) => match r with
   | .inl y => ((y.1, y.2.1) : List TFrac × Int) = shockL l q
   | .inr y => ((y.1, 0) : List TFrac × Int) = shockL l q)
  (fun k t => k ≤ l.length ∧ t = ((k : Int), (l.take k).map (fun x => frQ (x * q)) ++ (l.drop k).map frQ, ()) ∧ ∀ x ∈ l.take k, fitQ (x * q)) l.length (by unfold big; omega) ⟨Nat.zero_le _, rfl, fun x hx => by simp at hx⟩ ?_ ?_
 ·rintro k t hk ⟨_, rfl, hall⟩
  rcases Nat.lt_or_ge k l.length with hlt | hge
  ·have hlk : ((l.take k).map (fun x => frQ (x * q))).length = k := by simp; omega
   have hd : l.drop k = l[k] :: l.drop (k + 1) := List.drop_eq_getElem_cons hlt
   have g1 : ((l.take k).map (fun x => frQ (x * q)) ++ (l.drop k).map frQ)[k]? = some (frQ l[k]) := by
    rw [List.getElem?_append_right (by omega), hlk, Nat.sub_self, hd]; rfl
   have hmul := t_mul (hf _ (List.getElem_mem hlt)) hq
   have w1 : IntKind.i64.wrap ((k : Int) + 1) = ((k + 1 : Nat) : Int) := by rw [wrap64 (by omega) (by omega)]; omega
   refine gt (decide_eq_true (by show (k : Int) < (((((l.map frQ).length : Nat))) : Int); rw [List.length_map]; omega)) (go (idx_q g1) (go (at_w rfl g1) (go hmul (go (idx_q g1) (go (at_w rfl g1) ?_)))))
   by_cases hfit : fitQ (l[k] * q)
   ·rw [fr_fit hfit]
    refine gf rfl (gend ⟨hlt, hlt, ?_, fun x hx => ?_⟩)
    ·show (IntKind.i64.wrap ((k : Int) + 1), ((l.take k).map (fun x => frQ (x * q)) ++ (l.drop k).map frQ).set (Int.toNat (k : Int)) (frQ (l[k] * q)), ()) = _
     rw [w1, Int.toNat_natCast, hd, List.map_cons, List.set_append_right _ _ (by omega), hlk, Nat.sub_self, List.set_cons_zero, List.take_succ_eq_append_getElem hlt, List.map_append, List.append_assoc]
     rfl
    ·rw [List.take_succ_eq_append_getElem hlt] at hx
     rcases List.mem_append.1 hx with hx | hx
     ·exact hall x hx
     ·simp at hx; subst hx; exact hfit
   ·rw [fr_big hfit]
    refine gt rfl (gend ?_)
    show (([], 5) : List TFrac × Int) = _
    rw [shockL_big fun e => hfit (e.2 _ (List.mem_map.2 ⟨l[k], List.getElem_mem hlt, rfl⟩))]
  ·refine gf (decide_eq_false (by show ¬ (k : Int) < (((((l.map frQ).length : Nat))) : Int); rw [List.length_map]; omega)) (gend ?_)
   rw [List.take_of_length_le hge] at hall
   show (((l.take k).map (fun x => frQ (x * q)) ++ (l.drop k).map frQ, 0) : List TFrac × Int) = _
   rw [List.take_of_length_le hge, List.drop_of_length_le hge, shockL_ok ⟨hf, fun y hy => by
    obtain ⟨x, hx, rfl⟩ := List.mem_map.1 hy
    exact hall x hx⟩]
   unfold timesF
   simp
 ·rintro (y | y) hy
  ·exact hin y hy
  ·exact hir y hy
theorem w_mulR {l : List Rat} {q : Rat} (hl : l.length ≤ 1000) (hf : fitAll l) (hq : fitQ q) {γ : Type} {K : ((List TFrac × Int × List TFrac × Unit) ⊕ (List TFrac × Unit)) → Option γ} {P : γ → Prop} (hin : ∀ y : List TFrac × Int × List TFrac × Unit, ((y.1, y.2.1) : List TFrac × Int) = shockL l q → Gs (K (.inl y)) P) (hir : ∀ y : List TFrac × Unit, ((y.1, 0) : List TFrac × Int) = shockL l q → Gs (K (.inr y)) P) :
  Gs ((iterF (σ := Int × List TFrac × Unit) (ρ := (List TFrac × Int × List TFrac × Unit) ⊕ (List TFrac × Unit)) (fun s24 => (bif (decide (s24.1 < ((((l.map frQ).length : Nat)) : Int))) then (idx (l.map frQ) s24.1).bind fun _x25 => ((l.map frQ)[(Int.toNat s24.1)]?).bind fun x26 => (F_ref02_Times x26 (frQ q)).bind fun r27 => (bif (r27.2 != 0) then some (.inr (.inl (([] : List TFrac), r27.2, s24.2.1, ()))) else (if s24.2.1.length + ([r27.1] : List TFrac).length ≤ 2147483648 then some (.inl ((IntKind.i64.wrap (s24.1 + 1)), (s24.2.1 ++ ([r27.1] : List TFrac)), ())) else none)) else some (.inr (.inr ((s24.2.1, ())))))) big (0, ([] : List TFrac), ())).bind K) P := by
 refine gloop (fun r : (List TFrac × Int × List TFrac × Unit) ⊕ (List TFrac × Unit) => match r with
   | .inl y => ((y.1, y.2.1) : List TFrac × Int) = shockL l q
   | .inr y => ((y.1, 0) : List TFrac × Int) = shockL l q)
  (fun k t => k ≤ l.length ∧ t = ((k : Int), (l.take k).map (fun x => frQ (x * q)), ()) ∧ ∀ x ∈ l.take k, fitQ (x * q)) l.length (by unfold big; omega) ⟨Nat.zero_le _, rfl, fun x hx => by simp at hx⟩ ?_ ?_
 ·rintro k t hk ⟨_, rfl, hall⟩
  rcases Nat.lt_or_ge k l.length with hlt | hge
  ·have g1 : (l.map frQ)[k]? = some (frQ l[k]) := by rw [List.getElem?_map, List.getElem?_eq_getElem hlt]; rfl
   have hmul := t_rtimes (hf _ (List.getElem_mem hlt)) hq
   have w1 : IntKind.i64.wrap ((k : Int) + 1) = ((k + 1 : Nat) : Int) := by rw [wrap64 (by omega) (by omega)]; omega
   refine gt (decide_eq_true (by show (k : Int) < (((((l.map frQ).length : Nat))) : Int); rw [List.length_map]; omega)) (go (idx_q g1) (go (at_w rfl g1) (go hmul ?_)))
   by_cases hfit : fitQ (l[k] * q)
   ·rw [fr_fit hfit]
    refine gf rfl (gif (by simp; omega) (gend ⟨hlt, hlt, ?_, fun x hx => ?_⟩))
    ·show (IntKind.i64.wrap ((k : Int) + 1), (l.take k).map (fun x => frQ (x * q)) ++ [frQ (l[k] * q)], ()) = _
     rw [w1, List.take_succ_eq_append_getElem hlt, List.map_append]
     rfl
    ·rw [List.take_succ_eq_append_getElem hlt] at hx
     rcases List.mem_append.1 hx with hx | hx
     ·exact hall x hx
     ·simp at hx; subst hx; exact hfit
   ·rw [fr_big hfit]
    refine gt rfl (gend ?_)
    show (([], 5) : List TFrac × Int) = _
    rw [shockL_big fun e => hfit (e.2 _ (List.mem_map.2 ⟨l[k], List.getElem_mem hlt, rfl⟩))]
  ·refine gf (decide_eq_false (by show ¬ (k : Int) < (((((l.map frQ).length : Nat))) : Int); rw [List.length_map]; omega)) (gend ?_)
   rw [List.take_of_length_le hge] at hall
   show (((l.take k).map (fun x => frQ (x * q)), 0) : List TFrac × Int) = _
   rw [List.take_of_length_le hge, shockL_ok ⟨hf, fun y hy => by
    obtain ⟨x, hx, rfl⟩ := List.mem_map.1 hy
    exact hall x hx⟩]
   unfold timesF
   simp
 ·rintro (y | y) hy
  ·exact hin y hy
  ·exact hir y hy
noncomputable def shockT (s : TSet) (line : Int) (q : Rat) : List TFrac × Int := if line < 0 ∨ (s.lines.length : Int) ≤ line ∨ q < 1 ∨ 100 < q then ([], 2) else if s.lines.length = 2 then ([], 14) else shockL (Qc s line.toNat) q
theorem w_shock {s : TSet} (h : Sm s) (h15 : s.lines.length ≤ 15) (hv : validB s = true) (line : Int) {q : Rat} (hq : fitQ q) : F_failure_Shock s line (frQ q) = some (shockT s line q) := by
 have hg := Good.of hv
 have n2 := hg.ln0; have n10 := hg.ln1
 have hgv := w_given s h h15 line
 rw [if_pos hv] at hgv
 apply gs_eq
 unfold F_failure_Shock shockT
 have hc1 := t_cmp hq fit_one
 have hc2 := t_cmp hq fit_hun
 rw [← fr_one] at hc1
 rw [← fr_hun] at hc2
 refine goo (f_valid s h.fits) ?_
 rw [hv]
 refine gbf rfl (goo (rv_true (fr_rv hq).1) (gs (gf rfl (go hc1 (go hc2 ?_)))))
 by_cases l1 : line < 0
 ·exact gbt (decide_eq_true l1) (gs (gt rfl (gend (by rw [if_pos (.inl l1)]))))
 refine gbf (decide_eq_false l1) ?_
 by_cases l2 : (s.lines.length : Int) ≤ line
 ·exact gbt (decide_eq_true l2) (gs (gt rfl (gend (by rw [if_pos (.inr (.inl l2))]))))
 refine gbf (decide_eq_false l2) ?_
 by_cases l3 : q < 1
 ·exact gbt (by rw [cmp_neg]; exact decide_eq_true l3) (gs (gt rfl (gend (by rw [if_pos (.inr (.inr (.inl l3)))]))))
 refine gbf (by rw [cmp_neg]; exact decide_eq_false l3) (gs ?_)
 by_cases l4 : 100 < q
 ·exact gt (by rw [cmp_pos]; exact decide_eq_true l4) (gend (by rw [if_pos (.inr (.inr (.inr l4)))]))
 refine gf (by rw [cmp_pos]; exact decide_eq_false l4) ?_
 rw [if_neg (by rintro (e | e | e | e) <;> contradiction)]
 rw [if_neg (by omega)] at hgv
 by_cases h2 : s.lines.length = 2
 ·rw [if_pos h2] at hgv ⊢
  exact go hgv (gt rfl (gend rfl))
 ·rw [if_neg h2] at hgv ⊢
  obtain ⟨k, rfl⟩ : ∃ k : Nat, line = (k : Int) := ⟨line.toNat, by omega⟩
  have hk : k < s.lines.length := by omega
  rw [Int.toNat_natCast]
  have hL := w_lines h hv (by omega) hk
  have hql := Qc_len hk
  refine go hgv (gf rfl (go (w_cut h n10 hk) (go hL ?_)))
  by_cases hf : fitAll (Qc s k)
  ·rw [outL_fit hf]
   exact gf rfl (w_mulP (by omega) hf hq (fun y hy => gend hy) (fun y hy => gend hy))
  ·rw [outL_big hf]
   exact gt rfl (gend (by rw [shockL_big fun e => hf e.1]))
theorem w_rshock {s : TSet} (h : Sm s) (hv : validB s = true) (line : Int) {q : Rat} (hq : fitQ q) : F_ref24_Shock s line (frQ q) = some (shockT s line q) := by
 have hg := Good.of hv
 have n2 := hg.ln0; have n10 := hg.ln1
 have hgv := w_rgiven s h line
 rw [if_pos hv] at hgv
 apply gs_eq
 unfold F_ref24_Shock shockT
 have hc1 := t_rcmp hq fit_one
 have hc2 := t_rcmp hq fit_hun
 rw [← fr_one] at hc1
 rw [← fr_hun] at hc2
 refine goo (f_rvalid s h.fits) ?_
 rw [hv]
 refine gbf rfl (goo (w_rvf (fr_rv hq).1) (gs (gf rfl ?_)))
 by_cases l1 : line < 0
 ·rw [if_pos (.inl l1)] at hgv ⊢
  exact go hgv (gt rfl (gend rfl))
 by_cases l2 : (s.lines.length : Int) ≤ line
 ·rw [if_pos (.inr l2)] at hgv
  rw [if_pos (.inr (.inl l2))]
  exact go hgv (gt rfl (gend rfl))
 rw [if_neg (by omega)] at hgv
 refine go hgv (gf rfl (goo rfl (goo hc1 ?_)))
 by_cases l3 : q < 1
 ·exact gbt (by rw [cmp_neg]; exact decide_eq_true l3) (gs (gt rfl (gend (by rw [if_pos (.inr (.inr (.inl l3)))]))))
 refine gbf (by rw [cmp_neg]; exact decide_eq_false l3) (goo rfl (goo hc2 (gs ?_)))
 by_cases l4 : 100 < q
 ·exact gt (by rw [cmp_pos]; exact decide_eq_true l4) (gend (by rw [if_pos (.inr (.inr (.inr l4)))]))
 refine gf (by rw [cmp_pos]; exact decide_eq_false l4) ?_
 rw [if_neg (by rintro (e | e | e | e) <;> contradiction)]
 by_cases h2 : s.lines.length = 2
 ·rw [if_pos h2]
  exact gt (by simp [h2]) (gend rfl)
 ·rw [if_neg h2]
  obtain ⟨k, rfl⟩ : ∃ k : Nat, line = (k : Int) := ⟨line.toNat, by omega⟩
  have hk : k < s.lines.length := by omega
  rw [Int.toNat_natCast]
  have hL := w_rlines h hv (by omega) hk
  have hql := Qc_len hk
  refine gf (by simp; omega) (go (w_less h n10 hk) (go hL ?_))
  by_cases hf : fitAll (Qc s k)
  ·rw [outL_fit hf]
   exact gf rfl (w_mulR (by omega) hf hq (fun y hy => gend hy) (fun y hy => gend hy))
  ·rw [outL_big hf]
   exact gt rfl (gend (by rw [shockL_big fun e => hf e.1]))
theorem w_same_refl (a : TSet) (h : Fits a) : F_ref21_Same a a = some true := by
 have h1 := h.lines
 have h2 := h.items
 have h3 := h.bricks
 unfold F_ref21_Same
 simp only [beq_self_eq_true, bne_self_eq_false, Bool.not_true, cond_false, cond_true, Option.bind_some]
 rw [iter_no a.lines (by omega) (fun _ => true) (.inl (false, ())) (.inr ()) (fun k hk => by
   simp only [lt_yes hk, cond_true, idx_at hk, Option.bind_some, bne_self_eq_false, cond_false]
   rw [wrap64 (by omega) (by omega)]) (by simp only [lt_no, cond_false]),
  iter_no a.items (by omega) (fun _ => true) (.inl (false, ())) (.inr ()) (fun k hk => by
   simp only [lt_yes hk, cond_true, idx_at hk, Option.bind_some, beq_self_eq_true, Bool.and_self, Bool.not_true, cond_false]
   rw [wrap64 (by omega) (by omega)]) (by simp only [lt_no, cond_false]),
  iter_no a.bricks (by omega) (fun _ => true) (.inl (false, ())) (.inr ()) (fun k hk => by
   simp only [lt_yes hk, cond_true, idx_at hk, Option.bind_some, beq_self_eq_true, Bool.and_self, Bool.not_true, cond_false]
   rw [wrap64 (by omega) (by omega)]) (by simp only [lt_no, cond_false])]
 have e : ∀ {α : Type} (l : List α), l.all (fun _ => true) = true := fun l => by rw [List.all_eq_true]; intros; rfl
 rw [e, e, e]
 rfl
theorem w_i64 {n : Int} (h : (Lit.int .i64 n).wf = true) : -9223372036854775808 ≤ n ∧ n ≤ 9223372036854775807 := by
 have h2 : IntKind.min .i64 ≤ n ∧ n ≤ IntKind.max .i64 := by simpa [Lit.wf] using h
 exact h2
theorem w_rw {a : TFrac} (h : W_Frac a) : RW a := by
 obtain ⟨h1, h2⟩ := h
 unfold W_int1 at h1 h2
 have i1 := w_i64 h1
 have i2 := w_i64 h2
 exact ⟨i2.1, i2.2, i1.1, i1.2⟩
theorem shock_len {s : TSet} (line : Int) (q : Rat) (h15 : s.lines.length ≤ 15) : (shockT s line q).1.length ≤ 1000000 := by
 unfold shockT
 split
 ·simp
 ·split
  ·simp
  ·unfold shockL
   split
   ·have : (Qc s line.toNat).length ≤ 15 := by
     unfold Qc
     rw [lq_len]
     show (s.lines.take _ ++ s.lines.drop _).length ≤ 15
     simp
     omega
    unfold timesF
    simp
    omega
   ·simp
theorem main_FailureWithout (x0 : TSet) (x1 : Int) (x2 : TFrac) (w0 : W_Set x0) (w1 : W_int1 x1) (w2 : W_Frac x2) : F_law24_FailureWithout x0 x1 x2 = some true := by
 apply gs_eq
 unfold F_law24_FailureWithout
 refine go awake24 (gf rfl (gcall w_long fun v hv => ?_))
 cases v with
 | true => exact gt rfl (gend rfl)
 | false =>
  obtain ⟨h, h15, _, _⟩ := hv rfl
  obtain ⟨r, q1, q2, q3, _⟩ := w_without h h15 x1
  refine gf rfl (go q1 (go q2 ?_))
  have fin : ∀ y : List TFrac × Int, y.1.length ≤ 1000000 → F_failure_Shock x0 x1 x2 = some y → F_ref24_Shock x0 x1 x2 = some y → Gs ((F_failure_Shock x0 x1 x2).bind fun r5 => (F_ref24_Shock x0 x1 x2).bind fun r6 => ((F_ref21_Same r.1 r.1).bind fun r9 => (bif r9 then (bif (r.2 == r.2) then (F_slices_Equal_api_Frac r5.1 r6.1).bind fun r10 => (bif r10 then some ((r5.2 == r6.2), ()) else some (false, ())) else some (false, ())) else some (false, ())) : Option (Bool × Unit)).bind fun y11 => some y11.1) fun b => b = true := by
   intro y hy e1 e2
   exact go e1 (go e2 (goo (w_same_refl r.1 q3) (gbt rfl (gbt (by simp) (goo (f_same _ hy) (gbt rfl (gs (gend (by simp)))))))))
  have hw := w_rw w2
  by_cases hvv : validB x0 = true
  ·rcases fac_ways x2 hw with ⟨hrv, e, hfit⟩ | hn
   ·rw [e]
    rw [e] at fin
    exact fin _ (shock_len x1 _ h15) (w_shock h h15 hvv x1 hfit) (w_rshock h hvv x1 hfit)
   ·obtain ⟨v2, g1, g2⟩ := w_rvq hw
    have : v2 = false := by
     rw [Bool.eq_false_iff]; exact fun e => hn (g2.1 e)
    subst this
    refine fin ([], 1) (by simp) (gs_eq ?_) (gs_eq ?_)
    ·unfold F_failure_Shock
     refine goo (f_valid x0 h.fits) ?_
     rw [hvv]
     exact gbf rfl (goo (rv_false hw hn) (gs (gt rfl (gend rfl))))
    ·unfold F_ref24_Shock
     refine goo (f_rvalid x0 h.fits) ?_
     rw [hvv]
     exact gbf rfl (goo g1 (gs (gt rfl (gend rfl))))
  ·have hvf : validB x0 = false := by simpa using hvv
   refine fin ([], 1) (by simp) (gs_eq ?_) (gs_eq ?_)
   ·unfold F_failure_Shock
    refine goo (f_valid x0 h.fits) ?_
    rw [hvf]
    exact gbt rfl (gs (gt rfl (gend rfl)))
   ·unfold F_ref24_Shock
    refine goo (f_rvalid x0 h.fits) ?_
    rw [hvf]
    exact gbt rfl (gs (gt rfl (gend rfl)))
end Go.Proofs.YtcaopooflemnlaaGreat
