/- Joined by merge.py: PlQ6, PlQ7, PlG1, PlRw, PlG2, PlG3, PlG4, PlG5, PlH1, PlJ1, PlQ8a, PlQ8b, PlH2, PlH3, PlH4, PlJ1b, PlT2, PlQ11, PlU2, PlR8, PlR9, PlR10, PlR11, PlR12, PlR13, PlR14, PlR15, PlV1, PlV2, PlV3, PlV4, PlT1, PlT4a, PlU5, PlU0, PlU1, PlU3, PlU4, PlJ1c, PlU6, PlU7, PlU8, PlU9. -/
import Derived.Test.YtkagmdfhodbfmaaGreatM08
/- The program's reactions as rational numbers. -/
namespace Go.Proofs.YtkagmdfhodbfmaaGreat
set_option linter.unusedVariables false
set_option linter.unusedSimpArgs false

/-- A loop over a list that adds up, by itself. -/
theorem loop_sumG {α τ : Type} {F : Int × τ × Unit → Option ((Int × τ × Unit) ⊕ (τ × Unit))} {w : List α} (R : τ → Rat → Nat → Prop) (f : α → Rat) (e : Nat) (hw : w.length ≤ 1000000) {t0 : τ} {q0 : Rat} {c0 : Nat} (h0 : R t0 q0 c0)
    (hin : ∀ (k : Nat) (h : k < w.length) (t : τ) (q : Rat), R t q (c0 + e * k) → Gs (F ((k : Int), t, ())) fun y => ∃ t', y = .inl (((k + 1 : Nat) : Int), t', ()) ∧ R t' (q + f w[k]) (c0 + e * k + e))
    (hout : ∀ t, F ((w.length : Int), t, ()) = some (.inr (t, ()))) : Gs (iterF F big (0, t0, ())) fun r => R r.1 (q0 + sumQ f w) (c0 + e * w.length) := by
  obtain ⟨r, h1, h2⟩ := loop_sum (F := F) (K := some) (P := fun r => R r.1 (q0 + sumQ f w) (c0 + e * w.length)) R f e hw h0 (fun k h t q ht => by
    obtain ⟨y, h1, t', rfl, h2⟩ := hin k h t q ht
    exact ⟨t', h1, h2⟩) hout fun t ht => ⟨(t, ()), rfl, ht⟩
  refine ⟨r, ?_, h2⟩
  revert h1
  cases iterF F big (0, t0, ()) with
  | none => intro h1; cases h1
  | some a => intro h1; exact h1
def reactB (b : TBeam) (i : Nat) : Rat := reactQ b.even b.length (lds b.loads) (sp b) b.supports.length (momB b) i
/-- The row under way: what is done, and what is added up at i. -/
def Rk (n i : Nat) (O t : List Texact) (q : Rat) (c : Nat) : Prop := t.length = n ∧ (∀ j, j < i → t[j]? = O[j]?) ∧ ∃ v, t[i]? = some v ∧ Xq v q c
theorem Rk.set {n i : Nat} {O t : List Texact} {q r : Rat} {c e : Nat} {z : Texact} (h : Rk n i O t q c) (hi : i < n) (hz : Xq z r e) : Rk n i O (t.set i z) r e := by
  obtain ⟨h1, h2, h3⟩ := h
  refine ⟨by simp [h1], fun j hj => ?_, z, by rw [get_set (by omega), if_pos rfl], hz⟩
  rw [get_set (by omega), if_neg (by omega)]
  exact h2 j hj
theorem Rk.mono {n i : Nat} {O t : List Texact} {q : Rat} {c e : Nat} (h : Rk n i O t q c) (hc : c ≤ e) : Rk n i O t q e := by
  obtain ⟨h1, h2, v, h3, h4⟩ := h
  exact ⟨h1, h2, v, h3, h4.mono hc⟩
theorem Rk.cast {n i : Nat} {O t : List Texact} {q r : Rat} {c : Nat} (h : Rk n i O t q c) (e : q = r) : Rk n i O t r c := e ▸ h
set_option maxHeartbeats 2000000 in
theorem f_reactions {b : TBeam} (hb : BeamIn b) (hs : SupOk b) {m : List Texact} (hm : ∀ i, i < b.supports.length → ∃ x, m[i]? = some x ∧ Xq x (momB b i) 82000) :
    Gs (F_beam_reactions b m) fun r => r.length = b.supports.length ∧ ∀ i, i < b.supports.length → ∃ x, r[i]? = some x ∧ Xq x (reactB b i) 330000 := by
  unfold F_beam_reactions
  have hl := hb.l1
  have hn1 := hs.n1
  have hn10 := hs.n10
  have hln := hb.ln
  have hw1 : IntKind.i64.wrap (((b.supports.length : Nat) : Int) - 1) = ((b.supports.length - 1 : Nat) : Int) := by rw [wrap64 (by omega) (by omega)]; omega
  refine gif ⟨by omega, by omega⟩ ?_
  refine gloop (fun s : List Texact × Unit => s.1.length = b.supports.length ∧ ∀ i, i < b.supports.length → ∃ x, s.1[i]? = some x ∧ Xq x (reactB b i) 330000)
    (fun i s => ∃ O, s = ((i : Int), O, ()) ∧ O.length = b.supports.length ∧ ∀ j, j < i → ∃ x, O[j]? = some x ∧ Xq x (reactB b j) 330000)
    b.supports.length (by unfold big; omega) ⟨_, rfl, by simp, fun j hj => absurd hj (Nat.not_lt_zero j)⟩ ?_ ?_
  · rintro i s hi ⟨O, rfl, hOl, hO⟩
    rcases Nat.lt_or_ge i b.supports.length with hlt | hge
    · refine gt (decide_eq_true (by show (i : Int) < ((b.supports.length : Nat) : Int); omega)) ?_
      have pi := sp_get hlt
      have ri := sp_rg hs hlt
      obtain ⟨z0, zz1, zz2⟩ := f_whole 0 (by omega) (by omega)
      obtain ⟨qo, qo1⟩ : ∃ q, O[i]? = some q := ⟨_, List.getElem?_eq_getElem (by omega)⟩
      obtain ⟨mi, mi1, mi2⟩ := hm i hlt
      have start : Rk b.supports.length i O (O.set i z0) (0 : Rat) 2 := by
        refine ⟨by simp [hOl], fun j hj => ?_, z0, by rw [get_set (by omega), if_pos rfl], zz2⟩
        rw [get_set (by omega), if_neg (by omega)]
      have ht0 : Int.toNat ((i : Nat) : Int) = i := Int.toNat_natCast i
      simp only [ht0]
      refine goo (idx_w rfl pi) (goo zz1 (goo (idx_w rfl qo1) (goo qo1 ?_)))
      refine gcalll (loop_sumG (w := b.loads) (Rk b.supports.length i O) (fun x => if x.at_ = sp b i then (x.weight : Rat) else 0) 3 (by omega) start ?_ ?_) ?_
      · rintro k hk t q ⟨t1, t2, v, v1, v2⟩
        obtain ⟨x0, x1, x2, x3⟩ := hb.ld _ (List.getElem_mem hk)
        have hx := idx_nat hk
        have w1 : IntKind.i64.wrap ((k : Int) + 1) = ((k + 1 : Nat) : Int) := by rw [wrap64 (by omega) (by omega)]; omega
        refine gt (decide_eq_true (by show (k : Int) < ((b.loads.length : Nat) : Int); omega)) (goo hx ?_)
        generalize b.loads[k] = x at *
        rcases Decidable.em (x.at_ = sp b i) with h | h
        · obtain ⟨a, a1, a2⟩ := f_whole x.weight (by omega) (by omega)
          obtain ⟨p, p1, p2⟩ := f_eplus v2 a2 (by omega) (by omega)
          refine gbt (by rw [beq_iff_eq]; exact h) (goo (idx_q v1) (goo v1 (goo a1 (goo p1 (goo (idx_q v1) (goo v1 (gs (gend ⟨t.set i p, by simp only [w1], ?_⟩))))))))
          rw [if_pos h]
          exact Rk.set ⟨t1, t2, v, v1, v2⟩ hlt (p2.mono (by omega))
        · refine gbf (by rw [beq_eq_false_iff_ne]; exact h) (gs (gend ⟨t, by simp only [w1], ?_⟩))
          rw [if_neg h]
          exact ⟨t1, t2, v, v1, v2.skip⟩
      · intro t
        have e0 : decide (((b.loads.length : Nat) : Int) < ((b.loads.length : Nat) : Int)) = false := by simp
        simp only [e0, cond_false]
      rintro ⟨t, u⟩ ht
      have ht : Rk b.supports.length i O t (atQ (lds b.loads) (sp b i)) 122 := (ht.mono (by omega)).cast (by unfold atQ lds; rw [sumQ_map]; grind)
      refine gcalll (Q := fun r : List Texact × Unit => Rk b.supports.length i O r.1 (atQ (lds b.loads) (sp b i) + (if 0 < i then leverQ b.even (lds b.loads) (sp b (i - 1)) (sp b i) false + (momB b (i - 1) - momB b i) / ((sp b i - sp b (i - 1) : Int) : Rat) else 0)) 164427) ?_ ?_
      · obtain ⟨t1, t2, v, v1, v2⟩ := id ht
        rcases Nat.eq_zero_or_pos i with h0 | h0
        · subst h0
          refine gf (decide_eq_false (by omega)) (gend ?_)
          rw [if_neg (by omega)]
          exact (ht.mono (by omega)).cast (by grind)
        · obtain ⟨j, rfl⟩ : ∃ j, i = j + 1 := ⟨i - 1, by omega⟩
          have w1 : IntKind.i64.wrap (((j + 1 : Nat) : Int) - 1) = (j : Int) := by rw [wrap64 (by omega) (by omega)]; omega
          have pj := sp_get (b := b) (i := j) (by omega)
          have rj := sp_rg hs (i := j) (by omega)
          have hc : sp b j < sp b (j + 1) := hs.inc j (by omega)
          obtain ⟨mj, mj1, mj2⟩ := hm j (by omega)
          obtain ⟨l, l1, l2⟩ := f_lever hb (fr := sp b j) (to := sp b (j + 1)) false rj.1 hc ri.2
          obtain ⟨a, a1, a2⟩ := f_eplus v2 l2 (by omega) (by omega)
          obtain ⟨d, d1, d2⟩ := f_eless mj2 mi2 (by omega) (by omega)
          obtain ⟨g, g1, g2⟩ := f_bgap hb hs (i := j) (by omega)
          obtain ⟨e, e1, e2⟩ := f_eby d2 g2 (by have := gp_pos hs j (by omega); grind) (by omega) (by omega)
          obtain ⟨f, f1, f2⟩ := f_eplus a2 e2 (by omega) (by omega)
          refine gt (decide_eq_true (by omega)) (go (idx_w w1 pj) (go (idx_q v1) (go v1 (go (idx_w w1 mj1) (go (idx_q mi1) (go l1 (go a1 (go d1 (go g1 (go e1 (go f1 (go (idx_q v1) (go v1 (gend ?_))))))))))))))
          refine Rk.set ht hlt ((f2.mono (by omega)).cast ?_)
          rw [if_pos (by omega)]
          show _ = atQ (lds b.loads) (sp b (j + 1)) + (leverQ b.even (lds b.loads) (sp b j) (sp b (j + 1)) false + (momB b j - momB b (j + 1)) / gp b j)
          grind
      rintro ⟨t', u'⟩ ht'
      clear ht
      obtain ⟨qa, hqa⟩ : ∃ qa, atQ (lds b.loads) (sp b i) + (if 0 < i then leverQ b.even (lds b.loads) (sp b (i - 1)) (sp b i) false + (momB b (i - 1) - momB b i) / ((sp b i - sp b (i - 1) : Int) : Rat) else 0) = qa := ⟨_, rfl⟩
      rw [hqa] at ht'
      have w2 : IntKind.i64.wrap ((i : Int) + 1) = ((i + 1 : Nat) : Int) := by rw [wrap64 (by omega) (by omega)]; omega
      refine gcalll (Q := fun r : List Texact × Unit => Rk b.supports.length i O r.1 (qa + (if i + 1 < b.supports.length then leverQ b.even (lds b.loads) (sp b i) (sp b (i + 1)) true + (momB b (i + 1) - momB b i) / ((sp b (i + 1) - sp b i : Int) : Rat) else 0)) 328732) ?_ ?_
      · obtain ⟨t1, t2, v, v1, v2⟩ := id ht'
        rcases Nat.lt_or_ge (i + 1) b.supports.length with h0 | h0
        · have pj := sp_get (b := b) (i := i + 1) (by omega)
          have rj := sp_rg hs (i := i + 1) (by omega)
          have hc : sp b i < sp b (i + 1) := hs.inc i (by omega)
          obtain ⟨mj, mj1, mj2⟩ := hm (i + 1) (by omega)
          obtain ⟨l, l1, l2⟩ := f_lever hb (fr := sp b i) (to := sp b (i + 1)) true ri.1 hc rj.2
          obtain ⟨a, a1, a2⟩ := f_eplus v2 l2 (by omega) (by omega)
          obtain ⟨d, d1, d2⟩ := f_eless mj2 mi2 (by omega) (by omega)
          obtain ⟨g, g1, g2⟩ := f_bgap hb hs (i := i) (by omega)
          obtain ⟨e, e1, e2⟩ := f_eby d2 g2 (by have := gp_pos hs i (by omega); grind) (by omega) (by omega)
          obtain ⟨f, f1, f2⟩ := f_eplus a2 e2 (by omega) (by omega)
          refine gt (decide_eq_true (by show IntKind.i64.wrap ((i : Int) + 1) < ((b.supports.length : Nat) : Int); rw [w2]; omega)) (go (idx_w w2 pj) (go (idx_q v1) (go v1 (go (idx_w w2 mj1) (go (idx_q mi1) (go l1 (go a1 (go d1 (go g1 (go e1 (go f1 (go (idx_q v1) (go v1 (gend ?_))))))))))))))
          refine Rk.set ht' hlt ((f2.mono (by omega)).cast ?_)
          rw [if_pos (by omega)]
          show _ = qa + (leverQ b.even (lds b.loads) (sp b i) (sp b (i + 1)) true + (momB b (i + 1) - momB b i) / gp b i)
          grind
        · refine gf (decide_eq_false (by show ¬ IntKind.i64.wrap ((i : Int) + 1) < ((b.supports.length : Nat) : Int); rw [w2]; omega)) (gend ?_)
          rw [if_neg (by omega)]
          exact (ht'.mono (by omega)).cast (by grind)
      rintro ⟨ta, ua⟩ hta
      clear ht'
      obtain ⟨qb, hqb⟩ : ∃ qb, qa + (if i + 1 < b.supports.length then leverQ b.even (lds b.loads) (sp b i) (sp b (i + 1)) true + (momB b (i + 1) - momB b i) / ((sp b (i + 1) - sp b i : Int) : Rat) else 0) = qb := ⟨_, rfl⟩
      rw [hqb] at hta
      refine gcalll (Q := fun r : List Texact × Unit => Rk b.supports.length i O r.1 (qb + (if i = 0 then beyondQ b.even (lds b.loads) (sp b i) else 0)) 328940) ?_ ?_
      · obtain ⟨t1, t2, v, v1, v2⟩ := id hta
        rcases Decidable.em (i = 0) with h0 | h0
        · obtain ⟨l, l1, l2⟩ := f_beyond hb (a := sp b i) ri.1 ri.2
          obtain ⟨a, a1, a2⟩ := f_eplus v2 l2 (by omega) (by omega)
          refine gt (by rw [beq_iff_eq]; omega) (go (idx_q v1) (go v1 (go l1 (go a1 (go (idx_q v1) (go v1 (gend ?_)))))))
          rw [if_pos h0]
          exact Rk.set hta hlt (a2.mono (by omega))
        · refine gf (by rw [beq_eq_false_iff_ne]; omega) (gend ?_)
          rw [if_neg h0]
          exact (hta.mono (by omega)).cast (by grind)
      rintro ⟨tb, ub⟩ htb
      clear hta
      obtain ⟨qc, hqc⟩ : ∃ qc, qb + (if i = 0 then beyondQ b.even (lds b.loads) (sp b i) else 0) = qc := ⟨_, rfl⟩
      rw [hqc] at htb
      refine gcall (Q := fun r : List Texact × Unit => Rk b.supports.length i O r.1 (qc + (if i + 1 = b.supports.length then beyondQ b.even (turnW b.length (lds b.loads)) (b.length - sp b i) else 0)) 330000) ?_ ?_
      · obtain ⟨t1, t2, v, v1, v2⟩ := id htb
        rcases Decidable.em (i + 1 = b.supports.length) with h0 | h0
        · have hbl : IntKind.i64.wrap (b.length - sp b i) = b.length - sp b i := wrap64 (by omega) (by omega)
          obtain ⟨l, l1, l2⟩ := f_beyond (turn_in hb) (a := b.length - sp b i) (by omega) (by show b.length - sp b i ≤ b.length; omega)
          rw [turn_lds] at l2
          obtain ⟨a, a1, a2⟩ := f_eplus v2 l2 (by omega) (by omega)
          refine gt (by rw [hw1, beq_iff_eq]; omega) (go (idx_q v1) (go v1 (go (f_turned hb hs) (go (by rw [hbl]; exact l1) (go a1 (go (idx_q v1) (go v1 (gend ?_))))))))
          rw [if_pos h0]
          exact Rk.set htb hlt (a2.mono (by omega))
        · refine gf (by rw [hw1, beq_eq_false_iff_ne]; omega) (gend ?_)
          rw [if_neg h0]
          exact (htb.mono (by omega)).cast (by grind)
      rintro ⟨tc, uc⟩ ⟨c1, c2, v, v1, v2⟩
      refine gend ⟨hlt, tc, by simp only [w2], c1, fun j hj => ?_⟩
      rcases Decidable.em (j = i) with h | h
      · subst h
        refine ⟨v, v1, v2.cast ?_⟩
        unfold reactB reactQ
        rw [← hqc, ← hqb, ← hqa]
      · rw [c2 j (by omega)]
        exact hO j (by omega)
    · have : i = b.supports.length := by omega
      subst this
      exact gf (decide_eq_false (by show ¬ ((b.supports.length : Nat) : Int) < ((b.supports.length : Nat) : Int); omega)) (gend ⟨hOl, hO⟩)
  · rintro ⟨O, u⟩ h
    exact gend h
end Go.Proofs.YtkagmdfhodbfmaaGreat

/- Valid beams. -/
namespace Go.Proofs.YtkagmdfhodbfmaaGreat
set_option linter.unusedVariables false
set_option linter.unusedSimpArgs false

def badH1 (b : TBeam) : Bool := !nameB b.name || (decide (b.length < 1) || (decide (b.length > 1048576) || (decide (b.even < 0) || decide (b.even > 1048576))))
def badH2 (b : TBeam) : Bool := decide (((b.supports.length : Nat) : Int) < 1) || (decide (((b.supports.length : Nat) : Int) > 10) || decide (((b.loads.length : Nat) : Int) > 40))
def badS (b : TBeam) (i : Nat) : Bool := decide (sp b i < 0) || (decide (sp b i > b.length) || (decide (0 < i) && decide (sp b i ≤ sp b (i - 1))))
def badL (b : TBeam) (x : TLoad) : Bool := decide (x.at_ < 0) || (decide (x.at_ > b.length) || (decide (x.weight < 0) || decide (x.weight > 67108864)))
def validBm (b : TBeam) : Bool := !badH1 b && (!badH2 b && ((List.range b.supports.length).all (fun i => !badS b i) && b.loads.all (fun x => !badL b x)))
theorem bif_or (c d : Bool) : ((bif c then some (true, ()) else some (d, ())) : Option (Bool × Unit)) = some (c || d, ()) := by cases c <;> rfl
theorem all_of {n : Nat} {p : Nat → Bool} (h : ∀ j, j < n → p j = true) : (List.range n).all p = true := by
  rw [List.all_eq_true]
  intro j hj
  exact h j (List.mem_range.1 hj)
theorem all_not {n : Nat} {p : Nat → Bool} {k : Nat} (hk : k < n) (h : p k = false) : (List.range n).all p = false := by
  rw [List.all_eq_false]
  exact ⟨k, List.mem_range.2 hk, by rw [h]; simp⟩
theorem f_badload (b : TBeam) (x : TLoad) : F_beam_Valid_1 x b = some (badL b x) := by
  unfold F_beam_Valid_1 badL
  simp only [bif_or, Option.bind_some]
theorem bad_sup {b : TBeam} {k : Nat} (hk : k < b.supports.length) (hn : b.supports.length ≤ 1000000) (x : Int) (hx : x = sp b k) :
    ((bif (decide (x < 0)) then some (true, ()) else (bif (decide (x > b.length)) then some (true, ()) else (bif (decide ((k : Int) > 0)) then (idx b.supports (IntKind.i64.wrap ((k : Int) - 1))).bind fun x10 => some ((decide (x ≤ x10)), ()) else some (false, ()))) : Option (Bool × Unit))) = some (badS b k, ()) := by
  subst hx
  have h : ((bif (decide ((k : Int) > 0)) then (idx b.supports (IntKind.i64.wrap ((k : Int) - 1))).bind fun x10 => some ((decide (sp b k ≤ x10)), ()) else some (false, ())) : Option (Bool × Unit)) = some (decide (0 < k) && decide (sp b k ≤ sp b (k - 1)), ()) := by
    rcases Nat.eq_zero_or_pos k with h | h
    · subst h; rfl
    · rw [decide_eq_true (show (k : Int) > 0 by omega), decide_eq_true h, wrap64 (by omega) (by omega), show (k : Int) - 1 = ((k - 1 : Nat) : Int) from by omega, sp_idx (by omega)]
      rfl
  rw [h, bif_or, bif_or]
  rfl
theorem f_bvalid {b : TBeam} (hname : b.name.size ≤ 1000000) (hn : b.supports.length ≤ 1000000) (hl : b.loads.length ≤ 1000000) : F_beam_Valid b = some (validBm b) := by
  apply gs_eq
  unfold F_beam_Valid
  rw [f_name _ (by omega)]
  simp only [Option.bind_some, bif_or]
  have hh : (!nameB b.name || (decide (b.length < 1) || (decide (b.length > 1048576) || (decide (b.even < 0) || (decide (b.even > 1048576) || (decide (((b.supports.length : Nat) : Int) < 1) || (decide (((b.supports.length : Nat) : Int) > 10) || decide (((b.loads.length : Nat) : Int) > 40)))))))) = (badH1 b || badH2 b) := by
    unfold badH1 badH2
    simp only [Bool.or_assoc]
  rw [hh]
  cases h1 : (badH1 b || badH2 b) with
  | true =>
    refine gt rfl (gend ?_)
    unfold validBm
    rw [Bool.or_eq_true] at h1
    rcases h1 with h | h <;> simp [h]
  | false =>
    rw [Bool.or_eq_false_iff] at h1
    refine gf rfl ?_
    refine gloop (fun r : (Bool × Unit) ⊕ Unit => match r with
        | .inl y => y.1 = false ∧ (List.range b.supports.length).all (fun i => !badS b i) = false
        | .inr _ => (List.range b.supports.length).all (fun i => !badS b i) = true)
      (fun k s => s = ((k : Int), ()) ∧ ∀ j, j < k → (!badS b j) = true) b.supports.length (by unfold big; omega) ⟨rfl, fun j hj => absurd hj (Nat.not_lt_zero j)⟩ ?_ ?_
    · rintro k s hk ⟨rfl, hj⟩
      rcases Nat.lt_or_ge k b.supports.length with hlt | hge
      · refine gt (decide_eq_true (by show (k : Int) < ((b.supports.length : Nat) : Int); omega)) (go (sp_idx hlt) (go (bad_sup hlt hn _ rfl) ?_))
        cases hb : badS b k with
        | true => exact gt rfl (gend ⟨rfl, all_not hlt (by rw [hb]; rfl)⟩)
        | false =>
          refine gf rfl (gend ⟨hlt, by show (IntKind.i64.wrap ((k : Int) + 1), ()) = (((k + 1 : Nat) : Int), ()); rw [wrap64 (by omega) (by omega)]; rfl, fun j hj2 => ?_⟩)
          rcases Decidable.em (j = k) with h | h
          · subst h; rw [hb]; rfl
          · exact hj j (by omega)
      · have : k = b.supports.length := by omega
        subst this
        exact gf (decide_eq_false (by show ¬ ((b.supports.length : Nat) : Int) < ((b.supports.length : Nat) : Int); omega)) (gend (all_of hj))
    · rintro (y | y) hr
      · obtain ⟨h2, h3⟩ := hr
        refine gend ?_
        unfold validBm
        rw [h3, h2]
        simp
      · simp only at hr ⊢
        refine go (f_slices_ContainsFunc_api_Load b.loads (by omega) (fun z16 => F_beam_Valid_1 z16 b) (fun x => badL b x) (fun x _ => f_badload b x)) (gend ?_)
        unfold validBm
        rw [hr, h1.1, h1.2]
        simp only [Bool.not_false, Bool.true_and]
        rw [Bool.eq_iff_iff]
        simp
theorem valid_in {b : TBeam} (h : validBm b = true) : BeamIn b ∧ SupOk b := by
  unfold validBm at h
  rw [Bool.and_eq_true, Bool.and_eq_true, Bool.and_eq_true] at h
  obtain ⟨h1, h2, h3, h4⟩ := h
  unfold badH1 at h1
  unfold badH2 at h2
  simp only [Bool.not_eq_true', Bool.or_eq_false_iff, decide_eq_false_iff_not] at h1 h2
  obtain ⟨_, a1, a2, a3, a4⟩ := h1
  obtain ⟨b1, b2, b3⟩ := h2
  rw [List.all_eq_true] at h3 h4
  have hS : ∀ i, i < b.supports.length → 0 ≤ sp b i ∧ sp b i ≤ b.length ∧ (0 < i → sp b (i - 1) < sp b i) := by
    intro i hi
    have := h3 i (List.mem_range.2 hi)
    unfold badS at this
    simp only [Bool.not_eq_true', Bool.or_eq_false_iff, Bool.and_eq_false_iff, decide_eq_false_iff_not] at this
    omega
  refine ⟨⟨by omega, by omega, by omega, by omega, ?_, by omega⟩, ⟨by omega, by omega, ?_, ?_⟩⟩
  · intro x hx
    have := h4 x hx
    unfold badL at this
    simp only [Bool.not_eq_true', Bool.or_eq_false_iff, decide_eq_false_iff_not] at this
    unfold LoadOk
    omega
  · intro x hx
    obtain ⟨i, hi, rfl⟩ := List.getElem_of_mem hx
    have := hS i hi
    have e : sp b i = b.supports[i] := by unfold sp; rw [List.getD_eq_getElem?_getD, List.getElem?_eq_getElem hi]; rfl
    omega
  · intro i hi
    have := (hS (i + 1) hi).2.2 (by omega)
    simpa [sp] using this
end Go.Proofs.YtkagmdfhodbfmaaGreat

/- The reference's numbers of many digits (base 2^24): trim, larger, digit, plus, minus. -/
namespace Go.Proofs.YtkagmdfhodbfmaaGreat
set_option linter.unusedVariables false
set_option linter.unusedSimpArgs false

theorem tight_snoc {d : List Int} {x : Int} (h : x ≠ 0) : tight (d ++ [x]) := by
  unfold tight; simpa using h
theorem dg_out {l : List Int} {k : Nat} (h : l.length ≤ k) : dg l k = 0 := by simp [dg, h]
theorem tight_take {l : List Int} {m : Nat} (h : m < l.length) (hx : dg l m ≠ 0) : tight (l.take (m + 1)) := by
  rw [take_snoc h]
  rw [dg_get h] at hx
  exact tight_snoc hx
theorem g_trim {neg : Bool} {l : List Int} (hd : dig (16777216 : Int) l) (hl : l.length ≤ 16500000) : ∃ r : TBig, F_ref08_trim ⟨neg, l⟩ = some r ∧ (bv (16777216 : Int) r.d = bv (16777216 : Int) l ∧ dig (16777216 : Int) r.d ∧ tight r.d ∧ r.d.length ≤ l.length ∧ (r.neg = true ↔ neg = true ∧ bv (16777216 : Int) l ≠ 0)) := by
  unfold F_ref08_trim
  refine iter_bind (Q := fun r : Int × Unit => ∃ m : Nat, r = ((m : Int), ()) ∧ m ≤ l.length ∧ bv (16777216 : Int) (l.take m) = bv (16777216 : Int) l ∧ tight (l.take m))
    (fun k s => ∃ m : Nat, s = ((m : Int), ()) ∧ m + k = l.length ∧ bv (16777216 : Int) (l.take m) = bv (16777216 : Int) l) l.length (by unfold big; omega) ?_ ⟨l.length, rfl, rfl, by rw [List.take_length]⟩ ?_
  · rintro k s hk ⟨m, rfl, hm, hv⟩
    cases m with
    | zero =>
      have e0 : decide (((0 : Nat) : Int) > 0) = false := by decide
      refine .inr ⟨_, ?_, 0, rfl, Nat.zero_le _, hv, by simp [tight]⟩
      simp only [e0, cond_false, Option.bind_some]
    | succ m =>
      have e0 : decide (((m + 1 : Nat) : Int) > 0) = true := by simp
      have e1 : IntKind.i64.wrap (((m + 1 : Nat) : Int) - 1) = (m : Int) := by rw [wrap64 (by omega) (by omega)]; omega
      have hlt : m < l.length := by omega
      simp only [e0, cond_true, e1]
      rw [idx_nat hlt, ← dg_get hlt]
      simp only [Option.bind_some]
      rcases Decidable.em (dg l m = 0) with h | h
      · have e2 : (dg l m == 0) = true := by rw [h]; rfl
        rw [e2, cond_true]
        refine .inl ⟨_, rfl, by omega, m, rfl, by omega, ?_⟩
        rw [bv_take_succ, h] at hv
        simpa using hv
      · have e2 : (dg l m == 0) = false := by simpa using h
        rw [e2, cond_false]
        exact .inr ⟨_, rfl, m + 1, rfl, by omega, hv, tight_take hlt h⟩
  · rintro _ ⟨m, rfl, hm, hv, ht⟩
    simp only [Int.toNat_natCast]
    rw [if_pos ⟨by omega, by omega, by omega⟩]
    have hd2 := dig_take hd m
    have hz := bv_zero (by decide) hd2 ht
    rw [hv] at hz
    have hd0 : List.drop (Int.toNat 0) (l.take m) = l.take m := rfl
    rw [hd0]
    rcases Decidable.em (m = 0) with h | h
    · have e2 : ((m : Int) == 0) = true := by simp [h]
      rw [e2, cond_true]
      refine ⟨_, rfl, hv, hd2, ht, by simp; omega, ?_⟩
      have : bv (16777216 : Int) l = 0 := hz.2 (by rw [h]; rfl)
      simp [this]
    · have e2 : ((m : Int) == 0) = false := by simp; omega
      rw [e2, cond_false]
      refine ⟨_, rfl, hv, hd2, ht, by simp; omega, ?_⟩
      have : bv (16777216 : Int) l ≠ 0 := fun e => by
        have hl2 : (l.take m).length = m := by simp; omega
        rw [hz.1 e] at hl2
        simp at hl2
        omega
      simp [this]
theorem g_digit (l : List Int) (k : Nat) : F_ref08_digit l (k : Int) = some (dg l k) := by
  unfold F_ref08_digit
  rcases Nat.lt_or_ge k l.length with h | h
  · have e0 : decide ((k : Int) < ((l.length : Nat) : Int)) = true := by simp; omega
    rw [e0, cond_true, idx_nat h, dg_get h]; rfl
  · have e0 : decide ((k : Int) < ((l.length : Nat) : Int)) = false := by simp; omega
    rw [e0, cond_false]
    have : dg l k = 0 := by simp [dg, h]
    rw [this]
theorem bv_take_all {l : List Int} {k : Nat} (h : l.length ≤ k) : bv (16777216 : Int) (l.take k) = bv (16777216 : Int) l := by rw [List.take_of_length_le h]
/-- What a sum leaves: its last digit is not 0. -/
theorem h_plus (a b : List Int) (ha : dig (16777216 : Int) a) (hb : dig (16777216 : Int) b) (hta : tight a) (htb : tight b) (hla : a.length ≤ 16500000) (hlb : b.length ≤ 16500000) :
    ∃ r, F_ref08_plus a b = some r ∧ (bv (16777216 : Int) r = bv (16777216 : Int) a + bv (16777216 : Int) b ∧ dig (16777216 : Int) r ∧ tight r ∧ r.length ≤ max a.length b.length + 1) := by
  unfold F_ref08_plus
  obtain ⟨m, hm⟩ : ∃ m, max a.length b.length = m := ⟨_, rfl⟩
  rw [hm]
  refine iter_bind (Q := fun r : List Int × Unit => bv (16777216 : Int) r.1 = bv (16777216 : Int) a + bv (16777216 : Int) b ∧ dig (16777216 : Int) r.1 ∧ tight r.1 ∧ r.1.length ≤ m + 1)
    (fun k s => ∃ c out, s = (c, (k : Int), out, ()) ∧ out.length = k ∧ dig (16777216 : Int) out ∧ 0 ≤ c ∧ c ≤ 1 ∧ bv (16777216 : Int) out + (16777216 : Int) ^ k * c = bv (16777216 : Int) (a.take k) + bv (16777216 : Int) (b.take k) ∧ (m < k → c = 0) ∧ (m ≤ k → c = 0 → tight out)) (m + 1) (by unfold big; omega) ?_ ⟨0, [], rfl, rfl, (fun x hx => nomatch hx), by omega, by omega, by simp [bv], fun _ => rfl, fun _ _ => by simp [tight]⟩ ?_
  · rintro k s hk ⟨c, out, rfl, hlo, hdo, hc0, hc1, hv, hcm, htm⟩
    simp only
    obtain ⟨t, ht1, ht2⟩ : ∃ t : Bool, ((bif (decide ((k : Int) < ((a.length : Nat) : Int))) then some (true, ()) else (bif (decide ((k : Int) < ((b.length : Nat) : Int))) then some (true, ()) else some ((decide (c > 0)), ()))) : Option (Bool × Unit)) = some (t, ()) ∧ (t = true ↔ k < m ∨ 0 < c) := by
      rcases Nat.lt_or_ge k a.length with h | h
      · have e0 : decide ((k : Int) < ((a.length : Nat) : Int)) = true := by simp; omega
        rw [e0]; exact ⟨true, rfl, by simp; omega⟩
      · have e0 : decide ((k : Int) < ((a.length : Nat) : Int)) = false := by simp; omega
        rw [e0, cond_false]
        rcases Nat.lt_or_ge k b.length with h2 | h2
        · have e0 : decide ((k : Int) < ((b.length : Nat) : Int)) = true := by simp; omega
          rw [e0]; exact ⟨true, rfl, by simp; omega⟩
        · have e0 : decide ((k : Int) < ((b.length : Nat) : Int)) = false := by simp; omega
          rw [e0, cond_false]
          exact ⟨_, rfl, by simp; omega⟩
    rw [ht1]
    simp only [Option.bind_some]
    rcases Bool.eq_false_or_eq_true t with h | h
    · have hor := ht2.1 h
      subst h
      have hkm : k < m + 1 := by
        rcases hor with h | h
        · omega
        · rcases Nat.lt_or_ge m k with h2 | h2
          · have := hcm h2; omega
          · omega
      simp only [cond_true]
      rw [g_digit, g_digit]
      simp only [Option.bind_some]
      have hx := dg_range (by decide) ha k
      have hy := dg_range (by decide) hb k
      have h1 := bv_take_succ (16777216 : Int) a k
      have h2 := bv_take_succ (16777216 : Int) b k
      obtain ⟨x, hxe⟩ : ∃ x, dg a k = x := ⟨_, rfl⟩
      obtain ⟨y, hye⟩ : ∃ y, dg b k = y := ⟨_, rfl⟩
      rw [hxe] at hx h1 ⊢
      rw [hye] at hy h2 ⊢
      have w1 : IntKind.i64.wrap (IntKind.i64.wrap (x + y) + c) = x + y + c := by rw [wrap64 (n := x + y) (by omega) (by omega), wrap64 (by omega) (by omega)]
      rw [w1, if_pos (by simp; omega), Int.tmod_eq_emod_of_nonneg (by omega), Int.tdiv_eq_ediv_of_nonneg (by omega), wrap64 (n := (x + y + c) / 16777216) (by omega) (by omega), wrap64 (n := (k : Int) + 1) (by omega) (by omega)]
      refine .inl ⟨_, rfl, hkm, _, _, rfl, by simp [hlo], dig_snoc hdo (by omega) (by omega), by omega, by omega, ?_, ?_, ?_⟩
      · rw [bv_append, hlo, h1, h2]
        simp only [bv, Int.mul_zero, Int.add_zero]
        have h3 : (16777216 : Int) ^ (k + 1) = (16777216 : Int) ^ k * (16777216 : Int) := Int.pow_succ _ _
        have h4 := Int.emod_add_mul_ediv (x + y + c) (16777216 : Int)
        rw [h3]
        generalize (x + y + c) % (16777216 : Int) = q at h4 ⊢
        generalize (x + y + c) / (16777216 : Int) = t at h4 ⊢
        generalize bv (16777216 : Int) (a.take k) = A at *
        generalize bv (16777216 : Int) (b.take k) = D at *
        grind
      · intro hlt
        have hk2 : m = k := by omega
        have : x = 0 := by rw [← hxe]; exact dg_out (by omega)
        have : y = 0 := by rw [← hye]; exact dg_out (by omega)
        omega
      · intro hle hz
        rcases Nat.lt_or_ge k m with h | h
        · -- the last digit of the longer one
          have hk2 : m = k + 1 := by omega
          have hone : x ≠ 0 ∨ y ≠ 0 := by
            rcases Nat.lt_or_ge k a.length with h3 | h3
            · left
              intro e
              have : a = a.take k ++ [a[k]] := by rw [← take_snoc h3, List.take_of_length_le (by omega)]
              apply hta
              rw [this, ← dg_get h3, hxe, e]; simp
            · right
              intro e
              have h4 : k < b.length := by omega
              have : b = b.take k ++ [b[k]] := by rw [← take_snoc h4, List.take_of_length_le (by omega)]
              apply htb
              rw [this, ← dg_get h4, hye, e]; simp
          exact tight_snoc (by omega)
        · have : x = 0 := by rw [← hxe]; exact dg_out (by omega)
          have : y = 0 := by rw [← hye]; exact dg_out (by omega)
          exact tight_snoc (by omega)
    · have hor : ¬(k < m ∨ 0 < c) := by rw [← ht2, h]; simp
      subst h
      have hc : c = 0 := by omega
      refine .inr ⟨(out, ()), by simp only [cond_false], ?_, hdo, htm (by omega) hc, by show out.length ≤ _; omega⟩
      rw [hc, bv_take_all (by omega), bv_take_all (by omega)] at hv
      show bv (16777216 : Int) out = _
      rw [← hv]; simp
  · rintro ⟨r, u⟩ ⟨q1, q2, q3, q4⟩
    exact ⟨r, rfl, q1, q2, q3, q4⟩
theorem h_minus (a b : List Int) (ha : dig (16777216 : Int) a) (hb : dig (16777216 : Int) b) (hla : a.length ≤ 16500000) (hle : b.length ≤ a.length) (hv0 : bv (16777216 : Int) b ≤ bv (16777216 : Int) a) :
    ∃ r, F_ref08_minus a b = some r ∧ (bv (16777216 : Int) r = bv (16777216 : Int) a - bv (16777216 : Int) b ∧ dig (16777216 : Int) r ∧ r.length = a.length) := by
  unfold F_ref08_minus
  refine iter_bind (Q := fun r : List Int × Unit => bv (16777216 : Int) r.1 = bv (16777216 : Int) a - bv (16777216 : Int) b ∧ dig (16777216 : Int) r.1 ∧ r.1.length = a.length)
    (fun k s => ∃ c out, s = (c, (k : Int), out, ()) ∧ k ≤ a.length ∧ out.length = k ∧ dig (16777216 : Int) out ∧ 0 ≤ c ∧ c ≤ 1 ∧ bv (16777216 : Int) out - (16777216 : Int) ^ k * c = bv (16777216 : Int) (a.take k) - bv (16777216 : Int) (b.take k)) a.length (by unfold big; omega) ?_ ⟨0, [], rfl, Nat.zero_le _, rfl, (fun x hx => nomatch hx), by omega, by omega, by simp [bv]⟩ ?_
  · rintro k s hk ⟨c, out, rfl, _, hlo, hdo, hc0, hc1, hv⟩
    rcases Nat.lt_or_ge k a.length with hlt | hge
    · have e0 : decide ((k : Int) < ((a.length : Nat) : Int)) = true := by simp; omega
      simp only [e0, cond_true]
      rw [idx_nat hlt, ← dg_get hlt, g_digit]
      simp only [Option.bind_some]
      have hx := dg_range (by decide) ha k
      have hy := dg_range (by decide) hb k
      have h1 := bv_take_succ (16777216 : Int) a k
      have h2 := bv_take_succ (16777216 : Int) b k
      obtain ⟨x, hxe⟩ : ∃ x, dg a k = x := ⟨_, rfl⟩
      obtain ⟨y, hye⟩ : ∃ y, dg b k = y := ⟨_, rfl⟩
      rw [hxe] at hx h1 ⊢
      rw [hye] at hy h2 ⊢
      have w1 : IntKind.i64.wrap (IntKind.i64.wrap (x - y) - c) = x - y - c := by rw [wrap64 (n := x - y) (by omega) (by omega), wrap64 (by omega) (by omega)]
      rw [w1]
      refine .inl (step_of hlt ?_)
      have hp : ∃ c' z, ((bif (decide (x - y - c < 0)) then some (1, (IntKind.i64.wrap (x - y - c + 16777216)), ()) else some (0, (x - y - c), ()) : Option (Int × Int × Unit))) = some (c', z, ()) ∧ 0 ≤ c' ∧ c' ≤ 1 ∧ 0 ≤ z ∧ z < 16777216 ∧ z - 16777216 * c' = x - y - c := by
        rcases Int.lt_or_le (x - y - c) 0 with h | h
        · have e : decide (x - y - c < 0) = true := by simpa using h
          rw [e]
          exact ⟨1, x - y - c + 16777216, by rw [wrap64 (by omega) (by omega)]; rfl, by omega, by omega, by omega, by omega, by omega⟩
        · have e : decide (x - y - c < 0) = false := by simpa using h
          rw [e]
          exact ⟨0, x - y - c, rfl, by omega, by omega, by omega, by omega, by omega⟩
      obtain ⟨c', z, p1, p2, p3, p4, p5, p6⟩ := hp
      rw [p1]
      simp only [Option.bind_some]
      rw [if_pos (by simp; omega), wrap64 (n := (k : Int) + 1) (by omega) (by omega)]
      refine ⟨_, rfl, _, rfl, c', _, rfl, hlt, by simp [hlo], dig_snoc hdo p4 p5, p2, p3, ?_⟩
      rw [bv_append, hlo, h1, h2]
      simp only [bv, Int.mul_zero, Int.add_zero]
      have h3 : (16777216 : Int) ^ (k + 1) = (16777216 : Int) ^ k * (16777216 : Int) := Int.pow_succ _ _
      rw [h3]
      generalize bv (16777216 : Int) (a.take k) = A at *
      generalize bv (16777216 : Int) (b.take k) = D at *
      grind
    · have hk' : k = a.length := by omega
      subst hk'
      have e0 : decide (((a.length : Nat) : Int) < ((a.length : Nat) : Int)) = false := by simp
      refine .inr ⟨(out, ()), by simp only [e0, cond_false], ?_, hdo, hlo⟩
      rw [List.take_length, bv_take_all hle] at hv
      have hr := bv_range (by decide) hdo
      rw [hlo] at hr
      show bv (16777216 : Int) out = _
      have hc : c = 0 := by
        rcases Int.lt_or_le c 1 with h | h
        · omega
        · have : c = 1 := by omega
          rw [this, Int.mul_one] at hv
          omega
      rw [hc, Int.mul_zero, Int.sub_zero] at hv
      exact hv
  · rintro ⟨r, u⟩ ⟨q1, q2, q3⟩
    exact ⟨r, rfl, q1, q2, q3⟩
end Go.Proofs.YtkagmdfhodbfmaaGreat

/- The reference's numbers of many digits: Int, Neg, Product, Sum, half, even. -/
namespace Go.Proofs.YtkagmdfhodbfmaaGreat
set_option linter.unusedVariables false
set_option linter.unusedSimpArgs false

/-- Digits of the reference: their value is a natural number. -/
structure Wg (l : List Int) (v : Nat) : Prop where
  dig : dig (16777216 : Int) l
  tight : tight l
  len : l.length ≤ 16000000
  val : bv (16777216 : Int) l = v
/-- An integer of the reference. -/
structure Nb (a : TBig) (v : Int) : Prop where
  w : Wg a.d v.natAbs
  neg : a.neg = true ↔ v < 0
  len : a.d.length ≤ 8000000
theorem Wg.zero {l : List Int} {v : Nat} (h : Wg l v) : l = [] ↔ v = 0 := by
  rw [← bv_zero (by decide) h.dig h.tight, h.val]; omega
theorem Wg.lt {l : List Int} {v : Nat} (h : Wg l v) : v < 2 ^ (24 * l.length) := by
  have h1 := (bv_range (by decide) h.dig).2
  rw [h.val] at h1
  have e : (16777216 : Int) ^ l.length = ((2 ^ (24 * l.length) : Nat) : Int) := by
    rw [Nat.pow_mul, Int.natCast_pow]; rfl
  rw [e] at h1
  exact_mod_cast h1
theorem Wg.le {a b : List Int} {u v : Nat} (ha : Wg a u) (hb : Wg b v) (h : u ≤ v) : a.length ≤ b.length := by
  rcases Nat.lt_or_ge b.length a.length with hl | hl
  · have := bv_lt_len (by decide) hb.dig ha.dig ha.tight hl
    rw [ha.val, hb.val] at this
    omega
  · exact hl
theorem Wg.add {a b : List Int} {u v : Nat} (ha : Wg a u) (hb : Wg b v) (hl : max a.length b.length + 1 ≤ 16000000) : ∃ r, F_ref08_plus a b = some r ∧ Wg r (u + v) ∧ r.length ≤ max a.length b.length + 1 := by
  obtain ⟨r, r1, r2, r3, r4, r5⟩ := h_plus a b ha.dig hb.dig ha.tight hb.tight (by have := ha.len; omega) (by have := hb.len; omega)
  exact ⟨r, r1, ⟨r3, r4, by omega, by rw [r2, ha.val, hb.val]; omega⟩, r5⟩
/-- minus, and trim after it. -/
theorem Wg.sub {a b : List Int} {u v : Nat} (neg : Bool) (ha : Wg a u) (hb : Wg b v) (h : v ≤ u) : ∃ r t, F_ref08_minus a b = some r ∧ F_ref08_trim ⟨neg, r⟩ = some t ∧ Wg t.d (u - v) ∧ t.d.length ≤ a.length ∧ (t.neg = true ↔ neg = true ∧ u - v ≠ 0) := by
  obtain ⟨r, r1, r2, r3, r4⟩ := h_minus a b ha.dig hb.dig (by have := ha.len; omega) (hb.le ha h) (by rw [ha.val, hb.val]; omega)
  obtain ⟨t, t1, t2, t3, t4, t5, t6⟩ := g_trim (neg := neg) r3 (by rw [r4]; have := ha.len; omega)
  have hv : bv (16777216 : Int) r = ((u - v : Nat) : Int) := by rw [r2, ha.val, hb.val]; omega
  refine ⟨r, t, r1, t1, ⟨t3, t4, by have := ha.len; omega, by rw [t2, hv]⟩, by omega, ?_⟩
  rw [t6, hv]
  exact and_congr_right fun _ => by omega
end Go.Proofs.YtkagmdfhodbfmaaGreat

/- The reference's numbers of many digits: Gcd. -/
namespace Go.Proofs.YtkagmdfhodbfmaaGreat
set_option linter.unusedVariables false
set_option linter.unusedSimpArgs false

theorem Wg.ne {l : List Int} {v : Nat} (h : Wg l v) (hv : 0 < v) : 0 < l.length := by
  apply List.length_pos_iff.2
  intro e
  have := h.zero.1 e
  omega
end Go.Proofs.YtkagmdfhodbfmaaGreat

/- The reference's exact numbers: Quotient, Lower; Plus, Less, Times, Over, Sign, Cmp as rational numbers. -/
namespace Go.Proofs.YtkagmdfhodbfmaaGreat
set_option linter.unusedVariables false
set_option linter.unusedSimpArgs false

/-- An exact number of the reference, with at most c digits. -/
structure Gq (x : TExact) (q : Rat) (c : Nat) : Prop where
  ex : ∃ v w : Int, Nb x.n v ∧ Nb x.d w ∧ 0 < w ∧ q * (w : Rat) = (v : Rat)
  ln : x.n.d.length ≤ c
  ld : x.d.d.length ≤ c
theorem Gq.mono {x : TExact} {q : Rat} {c e : Nat} (h : Gq x q c) (hc : c ≤ e) : Gq x q e := ⟨h.ex, Nat.le_trans h.ln hc, Nat.le_trans h.ld hc⟩
theorem Gq.cast {x : TExact} {q r : Rat} {c : Nat} (h : Gq x q c) (e : q = r) : Gq x r c := e ▸ h
end Go.Proofs.YtkagmdfhodbfmaaGreat

/- The reference's beams as rational numbers: Turned, Left, Right, far. -/
namespace Go.Proofs.YtkagmdfhodbfmaaGreat
set_option linter.unusedVariables false
set_option linter.unusedSimpArgs false

theorem Gq.skip {x : TExact} {q : Rat} {c e : Nat} (h : Gq x q c) : Gq x (q + 0) (c + e) := (h.mono (Nat.le_add_right _ _)).cast (by grind)
end Go.Proofs.YtkagmdfhodbfmaaGreat

/- What the program and the reference tell of a beam's moments and reactions. -/
namespace Go.Proofs.YtkagmdfhodbfmaaGreat
set_option linter.unusedVariables false
set_option linter.unusedSimpArgs false

/-- The beam tilts. -/
def tilt (b : TBeam) : Prop := b.supports.length = 1 ∧ fstQ b ≠ lstQ b
def reaL (b : TBeam) : List Rat := (List.range b.supports.length).map (reactB b)
/-- What is small enough for the walks. -/
structure SmallB (b : TBeam) : Prop where
  name : b.name.size ≤ 1000000
  sup : b.supports.length ≤ 1000000
  ld : b.loads.length ≤ 1000000
theorem list_of {α : Type} {R : α → Rat → Prop} {l : List α} {n : Nat} (f : Nat → Rat) (hl : l.length = n) (h : ∀ i, i < n → ∃ x, l[i]? = some x ∧ R x (f i)) : ∀ (i : Nat) (h1 : i < l.length) (h2 : i < ((List.range n).map f).length), R l[i] ((List.range n).map f)[i] := by
  intro i h1 h2
  obtain ⟨x, x1, x2⟩ := h i (by omega)
  rw [List.getElem?_eq_getElem h1] at x1
  injection x1 with x1
  rw [x1]
  simpa using x2
theorem f_given_ok {b : TBeam} (hw : SmallB b) (h : validBm b = true) (ht : ¬ tilt b) : Gs (F_beam_given b) fun r => r.2 = 0 ∧ r.1.length = b.supports.length ∧ ∀ i, i < b.supports.length → ∃ x, r.1[i]? = some x ∧ Xq x (momB b i) 82000 := by
  obtain ⟨hb, hs⟩ := valid_in h
  unfold F_beam_given
  refine go (f_bvalid hw.name hw.sup hw.ld) (gf (by rw [h]; rfl) (gcall (f_moments hb hs) fun r hr => ?_))
  have h2 : r.2 = true := hr.1.2 fun h1 => Classical.byContradiction fun h3 => ht ⟨h1, h3⟩
  refine gf (by rw [h2]; rfl) (gend ⟨rfl, hr.2 h2⟩)
theorem f_Reactions {b : TBeam} (hw : SmallB b) (h : validBm b = true) (ht : ¬ tilt b) : F_beam_Reactions b = some (outL (reaL b)) := by
  apply gs_eq
  obtain ⟨hb, hs⟩ := valid_in h
  have hn : b.supports.length ≤ 10 := hs.n10
  unfold F_beam_Reactions
  refine gcall (f_given_ok hw h ht) fun r hr => ?_
  obtain ⟨h1, h2, h3⟩ := hr
  refine gf (by rw [h1]; rfl) (gcall (f_reactions hb hs h3) fun t ht => ?_)
  refine go (f_fractions (qs := reaL b) (c := 330000) (by omega) (by rw [ht.1]; unfold reaL; simp) ?_) (gend rfl)
  exact list_of (R := fun x q => Xq x q 330000) (reactB b) ht.1 ht.2
end Go.Proofs.YtkagmdfhodbfmaaGreat

/- All weight is borne; the moments of a beam that doesn't tilt. -/
namespace Go.Proofs.YtkagmdfhodbfmaaGreat
set_option linter.unusedVariables false
set_option linter.unusedSimpArgs false

def wgtQ (b : TBeam) : Rat := (b.even : Rat) * b.length / 1000 + sumQ (fun x : Ld => (x.2 : Rat)) (lds b.loads)
def leQ (w : List Ld) (a : Int) : Rat := sumQ (fun x => if x.1 ≤ a then (x.2 : Rat) else 0) w
theorem le_split (w : List Ld) (a : Int) : leQ w a = atQ w a + sumQ (fun x => if x.1 < a then (x.2 : Rat) else 0) w := by
  unfold leQ atQ
  rw [← sumQ_add]
  apply sumQ_congr
  intro x _
  rcases Int.lt_trichotomy x.1 a with h | h | h
  · rw [if_pos (by omega), if_neg (by omega), if_pos h]; grind
  · rw [if_pos (by omega), if_pos h, if_neg (by omega)]; grind
  · rw [if_neg (by omega), if_neg (by omega), if_neg (by omega)]; grind
theorem le_next (w : List Ld) {a c : Int} (h : a < c) : leQ w c = leQ w a + sumQ (fun x => if x.1 ≤ a ∨ c ≤ x.1 then 0 else (x.2 : Rat)) w + atQ w c := by
  unfold leQ atQ
  rw [← sumQ_add, ← sumQ_add]
  apply sumQ_congr
  intro x _
  rcases Int.lt_or_le a x.1 with h1 | h1
  · rcases Int.lt_trichotomy x.1 c with h2 | h2 | h2
    · rw [if_pos (by omega), if_neg (by omega), if_neg (by omega), if_neg (by omega)]; grind
    · rw [if_pos (by omega), if_neg (by omega), if_pos (by omega), if_pos h2]; grind
    · rw [if_neg (by omega), if_neg (by omega), if_pos (by omega), if_neg (by omega)]; grind
  · rw [if_pos (by omega), if_pos h1, if_pos (.inl h1), if_neg (by omega)]; grind
theorem le_end {L : Int} {w : List Ld} (s : Int) : leQ w s + sumQ (fun x => if x.1 < L - s then (x.2 : Rat) else 0) (turnW L w) = sumQ (fun x => (x.2 : Rat)) w := by
  unfold leQ turnW
  rw [sumQ_map, ← sumQ_add]
  apply sumQ_congr
  intro x _
  simp only
  by_cases h : x.1 ≤ s
  · rw [if_pos h, if_neg (by omega)]; grind
  · rw [if_neg h, if_pos (by omega)]; grind
/-- What all supports to the left bear, and their moments. -/
def Fk (b : TBeam) (k : Nat) : Rat := sumN (reactB b) k
def Tk (b : TBeam) (k : Nat) : Rat := sumN (fun i => reactB b i * (sp b i : Rat)) k
theorem cast_sub' (a c : Int) : ((a - c : Int) : Rat) = (a : Rat) - (c : Rat) := Rat.intCast_sub a c
theorem gp_ne {b : TBeam} (hs : SupOk b) {i : Nat} (h : i + 1 < b.supports.length) : gp b i ≠ 0 := by
  have := gp_pos hs i h
  grind
theorem equil {b : TBeam} (hb : BeamIn b) (hs : SupOk b) (ht : ¬ tilt b) : ∀ (k : Nat), k < b.supports.length →
    (Fk b (k + 1) = if k + 1 < b.supports.length then (b.even : Rat) * (sp b k : Rat) / 1000 + leQ (lds b.loads) (sp b k) + (leverQ b.even (lds b.loads) (sp b k) (sp b (k + 1)) true + (momB b (k + 1) - momB b k) / gp b k) else wgtQ b) ∧
    Fk b (k + 1) * (sp b k : Rat) - Tk b (k + 1) = momB b k + overQ b.even (lds b.loads) (sp b k) := by
  intro k
  have hfin : ∀ k, k + 1 = b.supports.length → (b.even : Rat) * (sp b k : Rat) / 1000 + leQ (lds b.loads) (sp b k) + beyondQ b.even (turnW b.length (lds b.loads)) (b.length - sp b k) = wgtQ b := by
    intro k hk
    have h1 := le_end (L := b.length) (w := lds b.loads) (sp b k)
    unfold beyondQ wgtQ
    rw [cast_sub']
    grind
  induction k with
  | zero =>
    intro h0
    have hr : reactB b 0 = atQ (lds b.loads) (sp b 0) + 0 + (if 0 + 1 < b.supports.length then leverQ b.even (lds b.loads) (sp b 0) (sp b (0 + 1)) true + (momB b (0 + 1) - momB b 0) / gp b 0 else 0) + beyondQ b.even (lds b.loads) (sp b 0) + (if 0 + 1 = b.supports.length then beyondQ b.even (turnW b.length (lds b.loads)) (b.length - sp b 0) else 0) := by
      unfold reactB reactQ
      rw [if_neg (by omega), if_pos rfl]
      rfl
    have hF : Fk b (0 + 1) = reactB b 0 := by unfold Fk; simp only [sumN]; grind
    have hT : Tk b (0 + 1) = reactB b 0 * (sp b 0 : Rat) := by unfold Tk; simp only [sumN]; grind
    have hl := le_split (lds b.loads) (sp b 0)
    have hM : momB b 0 = fstQ b := by
      unfold momB
      by_cases h1 : b.supports.length = 1
      · have := Classical.byContradiction fun h3 => ht ⟨h1, h3⟩
        rw [show (0 : Nat) = b.supports.length - 1 from by omega, mom_last]
        exact this.symm
      · rw [mom_first _ _ _ _ (by omega)]
    constructor
    · rw [hF, hr]
      by_cases h1 : 0 + 1 < b.supports.length
      · rw [if_pos h1, if_pos h1, if_neg (by omega)]
        unfold beyondQ
        grind
      · have h2 : 0 + 1 = b.supports.length := by omega
        have h3 := hfin 0 h2
        rw [if_neg h1, if_neg h1, if_pos h2, ← h3, hl]
        unfold beyondQ
        grind
    · rw [hF, hT, hM]
      unfold fstQ
      grind
  | succ k ih =>
    intro h0
    obtain ⟨h1, h2⟩ := ih (by omega)
    rw [if_pos (by omega)] at h1
    have hlt : sp b k < sp b (k + 1) := hs.inc k (by omega)
    have hr : reactB b (k + 1) = atQ (lds b.loads) (sp b (k + 1)) + (leverQ b.even (lds b.loads) (sp b k) (sp b (k + 1)) false + (momB b k - momB b (k + 1)) / gp b k) + (if k + 1 + 1 < b.supports.length then leverQ b.even (lds b.loads) (sp b (k + 1)) (sp b (k + 1 + 1)) true + (momB b (k + 1 + 1) - momB b (k + 1)) / gp b (k + 1) else 0) + 0 + (if k + 1 + 1 = b.supports.length then beyondQ b.even (turnW b.length (lds b.loads)) (b.length - sp b (k + 1)) else 0) := by
      unfold reactB reactQ
      rw [if_pos (show 0 < k + 1 by omega), if_neg (show ¬ k + 1 = 0 by omega)]
      rfl
    have hF : Fk b (k + 1 + 1) = Fk b (k + 1) + reactB b (k + 1) := rfl
    have hT : Tk b (k + 1 + 1) = Tk b (k + 1) + reactB b (k + 1) * (sp b (k + 1) : Rat) := rfl
    have hbo := lever_both (E := b.even) (w := lds b.loads) hlt
    have hln := le_next (lds b.loads) hlt
    have hov := over_next (E := b.even) (w := lds b.loads) hlt
    have hg := gp_ne hs (i := k) (by omega)
    have hgd : ((sp b (k + 1) - sp b k : Int) : Rat) = gp b k := rfl
    have hgs : gp b k = (sp b (k + 1) : Rat) - (sp b k : Rat) := cast_sub' _ _
    rw [hgd] at hbo hov
    have hcut : (b.even : Rat) * (sp b (k + 1) : Rat) / 1000 + leQ (lds b.loads) (sp b (k + 1)) = Fk b (k + 1) + (atQ (lds b.loads) (sp b (k + 1)) + (leverQ b.even (lds b.loads) (sp b k) (sp b (k + 1)) false + (momB b k - momB b (k + 1)) / gp b k)) := by
      rw [h1, hln]
      have e : (momB b (k + 1) - momB b k) / gp b k + (momB b k - momB b (k + 1)) / gp b k = 0 := by grind
      grind
    constructor
    · rw [hF, hr]
      by_cases h3 : k + 1 + 1 < b.supports.length
      · rw [if_pos h3, if_pos h3, if_neg (by omega)]
        grind
      · have h4 : k + 1 + 1 = b.supports.length := by omega
        have h5 := hfin (k + 1) h4
        rw [if_neg h3, if_neg h3, if_pos h4, ← h5]
        grind
    · rw [hF, hT]
      have e1 : gp b k * ((momB b (k + 1) - momB b k) / gp b k) = momB b (k + 1) - momB b k := by grind
      have e2 : (Fk b (k + 1) + reactB b (k + 1)) * (sp b (k + 1) : Rat) - (Tk b (k + 1) + reactB b (k + 1) * (sp b (k + 1) : Rat)) = (Fk b (k + 1) * (sp b k : Rat) - Tk b (k + 1)) + gp b k * Fk b (k + 1) := by
        rw [hgs]; grind
      rw [e2, h2, hov]
      have e3 : leQ (lds b.loads) (sp b k) = sumQ (fun x : Ld => if x.1 ≤ sp b k then (x.2 : Rat) else 0) (lds b.loads) := rfl
      rw [← e3]
      have e4 : gp b k * Fk b (k + 1) = gp b k * ((b.even : Rat) * (sp b k : Rat) / 1000 + leQ (lds b.loads) (sp b k)) + gp b k * leverQ b.even (lds b.loads) (sp b k) (sp b (k + 1)) true + gp b k * ((momB b (k + 1) - momB b k) / gp b k) := by
        rw [h1]; grind
      rw [e4, e1]
      grind
theorem all_weight {b : TBeam} (hb : BeamIn b) (hs : SupOk b) (ht : ¬ tilt b) : Fk b b.supports.length = wgtQ b := by
  have hn := hs.n1
  have h := (equil hb hs ht (b.supports.length - 1) (by omega)).1
  rw [if_neg (by omega), show b.supports.length - 1 + 1 = b.supports.length from by omega] at h
  exact h
theorem mom_end {b : TBeam} (hs : SupOk b) : momB b (b.supports.length - 1) = lstQ b := by
  unfold momB; rw [mom_last]
theorem lds_le {b : TBeam} (hb : BeamIn b) : ∀ x ∈ lds b.loads, x.1 ≤ b.length := by
  intro x hx
  unfold lds at hx
  obtain ⟨y, hy, rfl⟩ := List.mem_map.1 hx
  exact (hb.ld y hy).2.1
theorem bend_last {b : TBeam} (hb : BeamIn b) (hs : SupOk b) (ht : ¬ tilt b) : Fk b b.supports.length * (b.length : Rat) - Tk b b.supports.length = overQ b.even (lds b.loads) b.length := by
  have hn := hs.n1
  have h := (equil hb hs ht (b.supports.length - 1) (by omega)).2
  rw [show b.supports.length - 1 + 1 = b.supports.length from by omega] at h
  have hm := mom_end hs
  have hw := all_weight hb hs ht
  have ho := over_end (E := b.even) (lds_le hb) (sp_rg hs (i := b.supports.length - 1) (by omega)).2
  have hmm : momB b (b.supports.length - 1) = 0 - overQ b.even (turnW b.length (lds b.loads)) (b.length - sp b (b.supports.length - 1)) := hm
  have hwq : wgtQ b = (b.even : Rat) * b.length / 1000 + sumQ (fun x : Ld => (x.2 : Rat)) (lds b.loads) := rfl
  rw [← hwq] at ho
  rw [ho, cast_sub']
  rw [hmm] at h
  rw [hw] at h ⊢
  grind
end Go.Proofs.YtkagmdfhodbfmaaGreat

/- The beam of a valid set; the set seen from the other side. -/
namespace Go.Proofs.YtkagmdfhodbfmaaGreat
set_option linter.unusedVariables false
set_option linter.unusedSimpArgs false

def setBeam (s : TSet) : TBeam := ⟨s.name, s.length, s.lines, s.items.map (fun x => ⟨x.at_ + x.width / 2, x.weight⟩), s.pipe⟩
theorem set_sp {s : TSet} {i : Nat} (h : i < s.lines.length) : sp (setBeam s) i = s.lines[i] := by
  show s.lines.getD i 0 = _
  rw [List.getD_eq_getElem?_getD, List.getElem?_eq_getElem h]; rfl
theorem set_valid {s : TSet} (hg : Good s) : validBm (setBeam s) = true ∧ ¬ tilt (setBeam s) := by
  have a1 := hg.n0; have a2 := hg.n1; have a3 := hg.p0; have a4 := hg.p1; have a5 := hg.ln0; have a6 := hg.ln1; have a7 := hg.ni
  constructor
  · unfold validBm
    rw [Bool.and_eq_true, Bool.and_eq_true, Bool.and_eq_true]
    refine ⟨?_, ?_, ?_, ?_⟩
    · unfold badH1
      simp only [Bool.not_eq_true', Bool.or_eq_false_iff, decide_eq_false_iff_not, Bool.not_eq_false']
      refine ⟨hg.name, ?_, ?_, ?_, ?_⟩
      · show ¬ s.length < 1; omega
      · show ¬ s.length > 1048576; omega
      · show ¬ s.pipe < 0; omega
      · show ¬ s.pipe > 1048576; omega
    · unfold badH2
      simp only [Bool.not_eq_true', Bool.or_eq_false_iff, decide_eq_false_iff_not]
      refine ⟨?_, ?_, ?_⟩
      · show ¬ ((s.lines.length : Nat) : Int) < 1; omega
      · show ¬ ((s.lines.length : Nat) : Int) > 10; omega
      · show ¬ (((s.items.map _).length : Nat) : Int) > 40; rw [List.length_map]; omega
    · apply all_of
      intro j hj
      have hj2 : j < s.lines.length := hj
      have h := hg.lat j hj2
      rw [lineAt_eq _ _ _ hj2, Bool.and_eq_true, between_iff, Bool.or_eq_true, decide_eq_true_iff, decide_eq_true_iff] at h
      have e1 := set_sp hj2
      have e2 := set_sp (s := s) (i := j - 1) (by omega)
      unfold badS
      simp only [Bool.not_eq_true', Bool.or_eq_false_iff, Bool.and_eq_false_iff, decide_eq_false_iff_not]
      rw [e1, e2]
      show ¬ s.lines[j] < 0 ∧ ¬ s.lines[j] > s.length ∧ _
      omega
    · rw [List.all_eq_true]
      intro x hx
      obtain ⟨y, hy, rfl⟩ := List.mem_map.1 hx
      have h := hg.items y hy
      have b1 := h.p0; have b2 := h.w1; have b3 := h.pw; have b4 := h.m0; have b5 := h.m1
      unfold badL
      simp only [Bool.not_eq_true', Bool.or_eq_false_iff, decide_eq_false_iff_not]
      show ¬ y.at_ + y.width / 2 < 0 ∧ ¬ y.at_ + y.width / 2 > s.length ∧ ¬ y.weight < 0 ∧ ¬ y.weight > 67108864
      omega
  · rintro ⟨h, _⟩
    have : s.lines.length = 1 := h
    omega
theorem set_small {s : TSet} (hn : s.name.size ≤ 1000000) (hg : Good s) : SmallB (setBeam s) := by
  have a6 := hg.ln1; have a7 := hg.ni
  exact ⟨hn, by show s.lines.length ≤ _; omega, by show (s.items.map _).length ≤ _; rw [List.length_map]; omega⟩
theorem sum_weights (s : TSet) : sumQ (fun x : Ld => (x.2 : Rat)) (lds (setBeam s).loads) = ((sumTo (·.weight) s.items s.items.length : Int) : Rat) := by
  unfold lds setBeam sumTo
  rw [List.take_length]
  simp only [List.map_map]
  rw [sumQ_map]
  have : ∀ l : List TItem, sumQ (fun x : TItem => ((((fun x : TLoad => (x.at_, x.weight)) ∘ fun x : TItem => (⟨x.at_ + x.width / 2, x.weight⟩ : TLoad)) x).2 : Rat)) l = (((l.map (·.weight)).sum : Int) : Rat) := by
    intro l
    induction l with
    | nil => rfl
    | cons x l ih =>
      simp only [sumQ, List.map_cons, List.sum_cons, Rat.intCast_add]
      rw [ih]
      rfl
  exact this s.items
/-- The lines bear the weight of the set. -/
theorem set_weight {s : TSet} (hg : Good s) : wgtQ (setBeam s) = ((weightI s : Int) : Rat) := by
  unfold wgtQ weightI pipeI
  rw [sum_weights, Rat.intCast_add, Rat.intCast_mul]
  congr 1
  show (s.pipe : Rat) * (s.length : Rat) / 1000 = _
  have h := hg.nm
  obtain ⟨k, hk⟩ : ∃ k, s.length = 1000 * k := ⟨s.length / 1000, by omega⟩
  have h2 : s.length / 1000 = k := by omega
  rw [h2, hk, Rat.intCast_mul]
  have : ((1000 : Int) : Rat) = 1000 := rfl
  rw [this]
  grind
end Go.Proofs.YtkagmdfhodbfmaaGreat

/- What the supports bear adds up, and is multiplied with the weights. -/
namespace Go.Proofs.YtkagmdfhodbfmaaGreat
set_option linter.unusedVariables false
set_option linter.unusedSimpArgs false

def wS (w : List Ld) (g : Int → Rat) : Rat := sumQ (fun x => (x.2 : Rat) * g x.1) w
/-- Weights that are put together of those of two others. -/
structure CombW (E E1 E2 : Int) (w w1 w2 : List Ld) (c d : Rat) : Prop where
  ev : (E : Rat) = c * (E1 : Rat) + d * (E2 : Rat)
  ld : ∀ g : Int → Rat, wS w g = c * wS w1 g + d * wS w2 g
section
variable {E E1 E2 : Int} {w w1 w2 : List Ld} {c d : Rat}
theorem CombW.sum (h : CombW E E1 E2 w w1 w2 c d) {f : Ld → Rat} (g : Int → Rat) (hf : ∀ x, f x = (x.2 : Rat) * g x.1) : sumQ f w = c * sumQ f w1 + d * sumQ f w2 := by
  have e : ∀ l : List Ld, sumQ f l = wS l g := fun l => sumQ_congr fun x _ => hf x
  rw [e, e, e]
  exact h.ld g
theorem CombW.over (h : CombW E E1 E2 w w1 w2 c d) (a : Int) : overQ E w a = c * overQ E1 w1 a + d * overQ E2 w2 a := by
  unfold overQ
  rw [h.sum (fun p => if p < a then (a : Rat) - (p : Rat) else 0) (fun x => by split <;> grind), h.ev]
  grind
theorem CombW.beyond (h : CombW E E1 E2 w w1 w2 c d) (a : Int) : beyondQ E w a = c * beyondQ E1 w1 a + d * beyondQ E2 w2 a := by
  unfold beyondQ
  rw [h.sum (fun p => if p < a then 1 else 0) (fun x => by split <;> grind), h.ev]
  grind
theorem CombW.at_ (h : CombW E E1 E2 w w1 w2 c d) (a : Int) : atQ w a = c * atQ w1 a + d * atQ w2 a := by
  unfold atQ
  exact h.sum (fun p => if p = a then 1 else 0) (fun x => by split <;> grind)
theorem CombW.lever (h : CombW E E1 E2 w w1 w2 c d) (fr to : Int) (left : Bool) : leverQ E w fr to left = c * leverQ E1 w1 fr to left + d * leverQ E2 w2 fr to left := by
  unfold leverQ
  rw [h.sum (fun p => if p ≤ fr ∨ to ≤ p then 0 else ((if left then to - p else p - fr : Int) : Rat) / ((to - fr : Int) : Rat)) (fun x => by split <;> grind), h.ev]
  grind
theorem CombW.side (h : CombW E E1 E2 w w1 w2 c d) (fr to : Int) (left : Bool) : sideQ E w fr to left = c * sideQ E1 w1 fr to left + d * sideQ E2 w2 fr to left := by
  unfold sideQ
  rw [h.sum (fun p => if p ≤ fr ∨ to ≤ p then 0 else ((if left then p - fr else to - p : Int) : Rat) * (((to - fr) * (to - fr) - (if left then p - fr else to - p) * (if left then p - fr else to - p) : Int) : Rat) / ((to - fr : Int) : Rat)) (fun x => by split <;> grind), h.ev]
  grind
theorem CombW.turn (h : CombW E E1 E2 w w1 w2 c d) (L : Int) : CombW E E1 E2 (turnW L w) (turnW L w1) (turnW L w2) c d := by
  refine ⟨h.ev, fun g => ?_⟩
  have e : ∀ l : List Ld, wS (turnW L l) g = wS l fun p => g (L - p) := fun l => by
    unfold wS turnW
    rw [sumQ_map]
  rw [e, e, e]
  exact h.ld _
end
/-- A beam whose weights are put together of those of two others. -/
structure Comb (b b1 b2 : TBeam) (c d : Rat) : Prop where
  s1 : b1.supports = b.supports
  s2 : b2.supports = b.supports
  l1 : b1.length = b.length
  l2 : b2.length = b.length
  w : CombW b.even b1.even b2.even (lds b.loads) (lds b1.loads) (lds b2.loads) c d
section
variable {b b1 b2 : TBeam} {c d : Rat}
theorem sp_of {b b1 : TBeam} (h : b1.supports = b.supports) (i : Nat) : sp b1 i = sp b i := by unfold sp; rw [h]
theorem Comb.fst (h : Comb b b1 b2 c d) : fstQ b = c * fstQ b1 + d * fstQ b2 := by
  unfold fstQ
  rw [sp_of h.s1, sp_of h.s2, h.w.over]
  grind
theorem Comb.rp (h : Comb b b1 b2 c d) (i : Nat) : Rp b i = c * Rp b1 i + d * Rp b2 i := by
  unfold Rp
  simp only [sp_of h.s1, sp_of h.s2]
  rw [h.w.side, h.w.side]
  grind
end
end Go.Proofs.YtkagmdfhodbfmaaGreat

/- The loads of a valid set turn it about its centre. -/
namespace Go.Proofs.YtkagmdfhodbfmaaGreat
set_option linter.unusedVariables false
set_option linter.unusedSimpArgs false

def turnI (s : TSet) : Int := s.length * pipeI s + sumTo (fun x : TItem => 2 * (x.at_ + x.width / 2) * x.weight) s.items s.items.length
theorem sum_turn (s : TSet) : 2 * sumQ (fun x : Ld => (x.1 : Rat) * (x.2 : Rat)) (lds (setBeam s).loads) = ((sumTo (fun x : TItem => 2 * (x.at_ + x.width / 2) * x.weight) s.items s.items.length : Int) : Rat) := by
  unfold lds setBeam sumTo
  rw [List.take_length]
  simp only [List.map_map]
  rw [sumQ_map]
  have : ∀ l : List TItem, 2 * sumQ (fun x : TItem => ((((fun x : TLoad => (x.at_, x.weight)) ∘ fun x : TItem => (⟨x.at_ + x.width / 2, x.weight⟩ : TLoad)) x).1 : Rat) * ((((fun x : TLoad => (x.at_, x.weight)) ∘ fun x : TItem => (⟨x.at_ + x.width / 2, x.weight⟩ : TLoad)) x).2 : Rat)) l = (((l.map fun x : TItem => 2 * (x.at_ + x.width / 2) * x.weight).sum : Int) : Rat) := by
    intro l
    induction l with
    | nil => show 2 * (0 : Rat) = ((0 : Int) : Rat); grind
    | cons x l ih =>
      simp only [sumQ, List.map_cons, List.sum_cons, Rat.intCast_add]
      rw [← ih]
      show 2 * (((x.at_ + x.width / 2 : Int) : Rat) * (x.weight : Rat) + _) = ((2 * (x.at_ + x.width / 2) * x.weight : Int) : Rat) + _
      rw [Rat.intCast_mul, Rat.intCast_mul]
      have : ((2 : Int) : Rat) = 2 := rfl
      rw [this]
      grind
  exact this s.items
theorem tk_turn {b : TBeam} (hb : BeamIn b) (hs : SupOk b) (ht : ¬ tilt b) : Tk b b.supports.length = (b.even : Rat) * b.length * b.length / 2000 + sumQ (fun x : Ld => (x.1 : Rat) * (x.2 : Rat)) (lds b.loads) := by
  have h1 := bend_last hb hs ht
  have h2 := all_weight hb hs ht
  have h3 : overQ b.even (lds b.loads) b.length = (b.even : Rat) * b.length * b.length / 2000 + ((b.length : Rat) * sumQ (fun x : Ld => (x.2 : Rat)) (lds b.loads) - sumQ (fun x : Ld => (x.1 : Rat) * (x.2 : Rat)) (lds b.loads)) := by
    unfold overQ
    congr 1
    rw [← sumQ_mul, ← sumQ_sub]
    apply sumQ_congr
    intro x hx
    have h4 := lds_le hb x hx
    split
    · grind
    · have : x.1 = b.length := by omega
      rw [this]; grind
  rw [h2, h3] at h1
  unfold wgtQ at h1
  grind
theorem set_turn {s : TSet} (hg : Good s) : 2 * Tk (setBeam s) s.lines.length = ((turnI s : Int) : Rat) := by
  obtain ⟨h1, h2⟩ := set_valid hg
  obtain ⟨hb, hs⟩ := valid_in h1
  have h := tk_turn hb hs h2
  have hl : (setBeam s).supports.length = s.lines.length := rfl
  rw [hl] at h
  have h3 := sum_turn s
  have e1 : ((setBeam s).even : Rat) = (s.pipe : Rat) := rfl
  have e2 : ((setBeam s).length : Rat) = (s.length : Rat) := rfl
  rw [h, e1, e2]
  unfold turnI pipeI
  rw [Rat.intCast_add, Rat.intCast_mul, Rat.intCast_mul, ← h3]
  have h4 := hg.nm
  obtain ⟨k, hk⟩ : ∃ k, s.length = 1000 * k := ⟨s.length / 1000, by omega⟩
  have h5 : s.length / 1000 = k := by omega
  rw [h5, hk, Rat.intCast_mul]
  have : ((1000 : Int) : Rat) = 1000 := rfl
  rw [this]
  grind
end Go.Proofs.YtkagmdfhodbfmaaGreat

/- Exact numbers: Make. -/
namespace Go.Proofs.YtkagmdfhodbfmaaGreat

theorem f_rmake {n d : Int} (n0 : -9223372036854775808 ≤ n) (n1 : n ≤ 9223372036854775807) (d0 : -9223372036854775808 ≤ d) (d1 : d ≤ 9223372036854775807) :
    F_ratio_Make n d = some (if d = 0 then (⟨0, 0⟩, 16) else outQ (mkRat (if d < 0 then -n else n) d.natAbs)) := by
  unfold F_ratio_Make
  by_cases hd : d = 0
  · rw [if_pos hd, hd]; rfl
  · rw [if_neg hd, beq_eq_false_iff_ne.mpr hd, cond_false, f_size n0 n1, f_size d0 d1]
    simp only [Option.bind_some]
    rw [f_gcd _ _ (by unfold big; omega)]
    simp only [Option.bind_some]
    have hgp : 0 < Nat.gcd n.natAbs d.natAbs := Nat.gcd_pos_of_pos_right _ (by omega)
    have hnn : (if d < 0 then -n else n).natAbs = n.natAbs := by split <;> omega
    rw [out_red (n := if d < 0 then -n else n) (d := d.natAbs) (g := Nat.gcd n.natAbs d.natAbs) (by omega) (by rw [hnn]), hnn]
    generalize Nat.gcd n.natAbs d.natAbs = g at *
    have ha : n.natAbs / g ≤ n.natAbs := Nat.div_le_self _ _
    have hb : d.natAbs / g ≤ d.natAbs := Nat.div_le_self _ _
    have t1 : IntKind.u64.wrap ((n.natAbs : Int).tdiv (g : Int)) = ((n.natAbs / g : Nat) : Int) := by
      rw [Int.tdiv_eq_ediv_of_nonneg (by omega), wrapu, ← Int.natCast_ediv]; generalize n.natAbs / g = k at ha ⊢; omega
    have t2 : IntKind.u64.wrap ((d.natAbs : Int).tdiv (g : Int)) = ((d.natAbs / g : Nat) : Int) := by
      rw [Int.tdiv_eq_ediv_of_nonneg (by omega), wrapu, ← Int.natCast_ediv]; generalize d.natAbs / g = k at hb ⊢; omega
    rw [t1, t2]
    have hz : n = 0 → n.natAbs / g = 0 := by rintro rfl; simp
    generalize n.natAbs / g = a at *
    generalize d.natAbs / g = b at *
    have hg0 : (g : Int) ≠ 0 := by omega
    rw [if_neg hg0, if_neg hg0, if_neg hg0, if_neg hg0]
    rw [f_signed (by omega) (by omega) (by omega) (by omega), f_signed (by omega) (by omega) (by omega) (by omega)]
    have hcond : ((a : Int) ≤ 1152921504606846976 ∧ (b : Int) ≤ 1152921504606846976) ↔ (a ≤ 1152921504606846976 ∧ b ≤ 1152921504606846976) := by omega
    by_cases h0 : n = 0
    · obtain rfl := hz h0
      subst h0
      simp only [bne_self_eq_false, cond_false, Option.bind_some, hcond, Bool.false_eq_true, if_false]
      rw [show (if (if d < 0 then -(0 : Int) else 0) < 0 then -((0 : Nat) : Int) else ((0 : Nat) : Int)) = ((0 : Nat) : Int) from by split <;> rfl]
    · have h0' : (n != 0) = true := by simp [h0]
      rw [h0']
      simp only [cond_true, Option.bind_some, hcond]
      rw [show (if (!decide (n < 0) == decide (d < 0)) = true then -(a : Int) else (a : Int)) = (if (if d < 0 then -n else n) < 0 then -(a : Int) else (a : Int)) from by
        by_cases c1 : n < 0 <;> by_cases c2 : d < 0 <;> simp [c1, c2] <;> omega]
end Go.Proofs.YtkagmdfhodbfmaaGreat

/- Exact numbers: the product is in its lowest terms. -/
namespace Go.Proofs.YtkagmdfhodbfmaaGreat

theorem cop_mul {n1 d1 n2 d2 : Nat} (h1 : Nat.gcd n1 d1 = 1) (h2 : Nat.gcd n2 d2 = 1) (p1 : 0 < d1) (p2 : 0 < d2) :
    Nat.gcd ((n1 / Nat.gcd n1 d2) * (n2 / Nat.gcd n2 d1)) ((d1 / Nat.gcd n2 d1) * (d2 / Nat.gcd n1 d2)) = 1 := by
  have a1 : Nat.Coprime (n1 / Nat.gcd n1 d2) (d2 / Nat.gcd n1 d2) := Nat.gcd_div_gcd_div_gcd_of_pos_right p2
  have a2 : Nat.Coprime (n2 / Nat.gcd n2 d1) (d1 / Nat.gcd n2 d1) := Nat.gcd_div_gcd_div_gcd_of_pos_right p1
  have a3 : Nat.Coprime (n1 / Nat.gcd n1 d2) (d1 / Nat.gcd n2 d1) := Nat.Coprime.coprime_dvd_left (Nat.div_dvd_of_dvd (Nat.gcd_dvd_left _ _)) (Nat.Coprime.coprime_dvd_right (Nat.div_dvd_of_dvd (Nat.gcd_dvd_right _ _)) h1)
  have a4 : Nat.Coprime (n2 / Nat.gcd n2 d1) (d2 / Nat.gcd n1 d2) := Nat.Coprime.coprime_dvd_left (Nat.div_dvd_of_dvd (Nat.gcd_dvd_left _ _)) (Nat.Coprime.coprime_dvd_right (Nat.div_dvd_of_dvd (Nat.gcd_dvd_right _ _)) h2)
  exact Nat.Coprime.mul_left (Nat.Coprime.mul_right a3 a1) (Nat.Coprime.mul_right a2 a4)
theorem mul_red {n1 n2 : Int} {d1 d2 : Nat} (p1 : 0 < d1) (p2 : 0 < d2) (h1 : Nat.gcd n1.natAbs d1 = 1) (h2 : Nat.gcd n2.natAbs d2 = 1) {p q : Nat}
    (hp : p = (n1.natAbs / Nat.gcd n1.natAbs d2) * (n2.natAbs / Nat.gcd n2.natAbs d1)) (hq : q = (d1 / Nat.gcd n2.natAbs d1) * (d2 / Nat.gcd n1.natAbs d2)) :
    Nat.gcd (n1 * n2).natAbs (d1 * d2) = Nat.gcd n1.natAbs d2 * Nat.gcd n2.natAbs d1 ∧ (n1 * n2).natAbs / (Nat.gcd n1.natAbs d2 * Nat.gcd n2.natAbs d1) = p ∧ d1 * d2 / (Nat.gcd n1.natAbs d2 * Nat.gcd n2.natAbs d1) = q := by
  have hc := cop_mul h1 h2 p1 p2
  have g1 : 0 < Nat.gcd n1.natAbs d2 := Nat.gcd_pos_of_pos_right _ p2
  have g2 : 0 < Nat.gcd n2.natAbs d1 := Nat.gcd_pos_of_pos_right _ p1
  have e1 := Nat.div_mul_cancel (Nat.gcd_dvd_left n1.natAbs d2)
  have e2 := Nat.div_mul_cancel (Nat.gcd_dvd_left n2.natAbs d1)
  have e3 := Nat.div_mul_cancel (Nat.gcd_dvd_right n1.natAbs d2)
  have e4 := Nat.div_mul_cancel (Nat.gcd_dvd_right n2.natAbs d1)
  rw [← hp, ← hq] at hc
  have en : (n1 * n2).natAbs = p * (Nat.gcd n1.natAbs d2 * Nat.gcd n2.natAbs d1) := by
    rw [Int.natAbs_mul, hp]
    generalize Nat.gcd n1.natAbs d2 = u at *
    generalize Nat.gcd n2.natAbs d1 = v at *
    conv => lhs; rw [← e1, ← e2]
    grind
  have ed : d1 * d2 = q * (Nat.gcd n1.natAbs d2 * Nat.gcd n2.natAbs d1) := by
    rw [hq]
    generalize Nat.gcd n1.natAbs d2 = u at *
    generalize Nat.gcd n2.natAbs d1 = v at *
    conv => lhs; rw [← e3, ← e4]
    grind
  have gg := Nat.mul_pos g1 g2
  rw [en, ed]
  refine ⟨?_, Nat.mul_div_cancel _ gg, Nat.mul_div_cancel _ gg⟩
  rw [Nat.gcd_mul_right, hc, Nat.one_mul]
end Go.Proofs.YtkagmdfhodbfmaaGreat

/- Exact numbers: Mul. -/
namespace Go.Proofs.YtkagmdfhodbfmaaGreat

theorem RV.w {a : TFrac} (h : RV a) : RW a := ⟨by have := h.d0; omega, by have := h.d1; omega, by have := h.n0; omega, by have := h.n1; omega⟩
theorem rv_true {a : TFrac} (h : RV a) : F_ratio_Valid a = some true := by
  obtain ⟨v, e, i⟩ := f_qvalid h.w
  rw [e, i.mpr h]
theorem f_rmul {a b : TFrac} (ha : RV a) (hb : RV b) : F_ratio_Mul a b = some (outQ (qOf a * qOf b)) := by
  obtain ⟨an, ad⟩ := a
  obtain ⟨bn, bd⟩ := b
  obtain ⟨x0, x1, x2, x3, x4⟩ := id ha
  obtain ⟨y0, y1, y2, y3, y4⟩ := id hb
  dsimp only at *
  obtain ⟨d1, rfl⟩ := Int.eq_ofNat_of_zero_le (show 0 ≤ ad by omega)
  obtain ⟨d2, rfl⟩ := Int.eq_ofNat_of_zero_le (show 0 ≤ bd by omega)
  rw [Int.toNat_natCast] at x4 y4
  unfold F_ratio_Mul
  rw [rv_true ha, rv_true hb]
  simp only [Option.bind_some, Bool.not_true, cond_false]
  rw [f_size (by omega) (by omega), f_size (by omega) (by omega)]
  simp only [Option.bind_some, wrapu]
  rw [show (d2 : Int) % 18446744073709551616 = d2 from by omega, show (d1 : Int) % 18446744073709551616 = d1 from by omega, f_gcd _ _ (by unfold big; omega), f_gcd _ _ (by unfold big; omega)]
  simp only [Option.bind_some]
  have g1 : 0 < Nat.gcd an.natAbs d2 := Nat.gcd_pos_of_pos_right _ (by omega)
  have g2 : 0 < Nat.gcd bn.natAbs d1 := Nat.gcd_pos_of_pos_right _ (by omega)
  obtain ⟨hg, hp, hq⟩ := mul_red (n1 := an) (n2 := bn) (d1 := d1) (d2 := d2) (by omega) (by omega) x4 y4 rfl rfl
  have hout := out_red (n := an * bn) (d := d1 * d2) (Nat.ne_of_gt (Nat.mul_pos (by omega) (by omega))) hg
  rw [hp, hq] at hout
  rw [show qOf ⟨an, d1⟩ * qOf ⟨bn, d2⟩ = mkRat (an * bn) (d1 * d2) from by unfold qOf; exact Rat.mkRat_mul_mkRat _ _ _ _, hout]
  have dv (u v w : Nat) (hw : u ≤ w) : u / v ≤ w := Nat.le_trans (Nat.div_le_self _ _) hw
  have k1 := dv an.natAbs (Nat.gcd an.natAbs d2) 1152921504606846976 (by omega)
  have k2 := dv bn.natAbs (Nat.gcd bn.natAbs d1) 1152921504606846976 (by omega)
  have k3 := dv d1 (Nat.gcd bn.natAbs d1) 1152921504606846976 (by omega)
  have k4 := dv d2 (Nat.gcd an.natAbs d2) 1152921504606846976 (by omega)
  have tm (u v : Nat) : (u : Int).tdiv (v : Int) = ((u / v : Nat) : Int) := by rw [Int.tdiv_eq_ediv_of_nonneg (by omega), Int.natCast_ediv]
  simp only [tm]
  have hz : an * bn = 0 ↔ an.natAbs / Nat.gcd an.natAbs d2 * (bn.natAbs / Nat.gcd bn.natAbs d1) = 0 := by
    have e := Nat.div_mul_cancel (show Nat.gcd an.natAbs d2 * Nat.gcd bn.natAbs d1 ∣ (an * bn).natAbs from by rw [← hg]; exact Nat.gcd_dvd_left _ _)
    rw [hp] at e
    rw [← Int.natAbs_eq_zero, ← e]
    simp [Nat.mul_eq_zero, Nat.ne_of_gt g1, Nat.ne_of_gt g2]
  generalize an.natAbs / Nat.gcd an.natAbs d2 = A at *
  generalize bn.natAbs / Nat.gcd bn.natAbs d1 = B at *
  generalize d1 / Nat.gcd bn.natAbs d1 = C at *
  generalize d2 / Nat.gcd an.natAbs d2 = E at *
  have i1 : ((Nat.gcd an.natAbs d2 : Nat) : Int) ≠ 0 := by omega
  have i2 : ((Nat.gcd bn.natAbs d1 : Nat) : Int) ≠ 0 := by omega
  rw [if_neg i2, if_neg i1, if_neg i1, if_neg i2]
  rw [show (A : Int) % 18446744073709551616 = A from by omega, show (B : Int) % 18446744073709551616 = B from by omega, show (C : Int) % 18446744073709551616 = C from by omega, show (E : Int) % 18446744073709551616 = E from by omega]
  rw [f_product (by omega) (by omega) (by omega) (by omega), f_product (by omega) (by omega) (by omega) (by omega)]
  simp only [Option.bind_some]
  rw [← Int.natCast_mul, ← Int.natCast_mul]
  have hs : an * bn ≠ 0 → (!((decide (an < 0)) == (decide (bn < 0)))) = decide (an * bn < 0) := by
    intro h
    have h1 : an ≠ 0 := by rintro rfl; simp at h
    have h2 : bn ≠ 0 := by rintro rfl; simp at h
    by_cases c1 : an < 0 <;> by_cases c2 : bn < 0
    · have := Int.mul_pos_of_neg_of_neg c1 c2; simp [c1, c2]; omega
    · have := Int.mul_neg_of_neg_of_pos c1 (show 0 < bn by omega); simp [c1, c2, this]
    · have := Int.mul_neg_of_pos_of_neg (show 0 < an by omega) c2; simp [c1, c2, this]
    · have := Int.mul_pos (show 0 < an by omega) (show 0 < bn by omega); simp [c1, c2]; omega
  generalize A * B = p at *
  generalize C * E = q at *
  by_cases c1 : (p : Int) / 18446744073709551616 > 0
  · rw [decide_eq_true c1, if_neg (by omega)]
    simp only [cond_true, Option.bind_some]
  · rw [decide_eq_false c1]
    simp only [cond_false, Option.bind_some]
    by_cases c2 : (q : Int) / 18446744073709551616 > 0
    · rw [decide_eq_true c2, if_neg (by omega)]
      simp only [cond_true]
    · rw [decide_eq_false c2, cond_false, show (p : Int) % 18446744073709551616 = p from by omega, show (q : Int) % 18446744073709551616 = q from by omega]
      rw [f_signed (by omega) (by omega) (by omega) (by omega), f_signed (by omega) (by omega) (by omega) (by omega)]
      have hcond : ((p : Int) ≤ 1152921504606846976 ∧ (q : Int) ≤ 1152921504606846976) ↔ (p ≤ 1152921504606846976 ∧ q ≤ 1152921504606846976) := by omega
      by_cases h0 : (p : Int) > 0
      · rw [decide_eq_true h0, hs (by intro h; have := hz.mp h; omega)]
        simp only [cond_true, Option.bind_some, hcond, decide_eq_true_eq]
      · obtain rfl : p = 0 := by omega
        rw [decide_eq_false h0, hz.mpr rfl]
        simp only [cond_false, Option.bind_some, hcond]
        rfl
end Go.Proofs.YtkagmdfhodbfmaaGreat

/- Exact numbers of the reference: magnitudes of two words. -/
namespace Go.Proofs.YtkagmdfhodbfmaaGreat
set_option linter.unusedSimpArgs false
set_option linter.unusedVariables false

theorem iter_run_inv {σ ρ : Type} {F : σ → Option (σ ⊕ ρ)} {Q : ρ → Prop} (I : Nat → σ → Prop) (n : Nat) (hn : n < big)
    (step : ∀ k s, I k s → (∃ s', F s = some (.inl s') ∧ k < n ∧ I (k + 1) s') ∨ ∃ r, F s = some (.inr r) ∧ Q r) {s : σ} (h : I 0 s) : ∃ r, iterF F big s = some r ∧ Q r :=
  iter_inv I n hn (fun k s _ hi => step k s hi) h
def ofU (n : Nat) : TU := ⟨((n / 18446744073709551616 : Nat) : Int), ((n % 18446744073709551616 : Nat) : Int)⟩
theorem ofU_small {n : Nat} (h : n < 18446744073709551616) : ofU n = ⟨0, (n : Int)⟩ := by
  unfold ofU
  congr 1 <;> omega
theorem ofU_zero (n : Nat) : (((ofU n).h == 0) && ((ofU n).l == 0)) = decide (n = 0) := by
  unfold ofU
  by_cases h : n = 0
  · subst h; rfl
  · rw [decide_eq_false h]
    simp only [Bool.and_eq_false_iff, beq_eq_false_iff_ne]
    omega
theorem g_size {n : Int} (h : -9223372036854775808 ≤ n) (h2 : n ≤ 9223372036854775807) : F_ref02_Size n = some (n.natAbs : Int) := by
  unfold F_ref02_Size
  rw [wrapu, wrapu]
  by_cases hn : n < 0
  · rw [decide_eq_true hn, cond_true]; congr 1; omega
  · rw [decide_eq_false hn, cond_false]; congr 1; omega
theorem g_less (m n : Nat) : F_ref02_Less (ofU m) (ofU n) = some (decide (m < n)) := by
  unfold F_ref02_Less ofU
  dsimp only
  by_cases h : ((m / 18446744073709551616 : Nat) : Int) < ((n / 18446744073709551616 : Nat) : Int)
  · rw [decide_eq_true h]
    simp only [cond_true, Option.bind_some]
    congr 1; symm; apply decide_eq_true; omega
  · rw [decide_eq_false h]
    by_cases h2 : ((m / 18446744073709551616 : Nat) : Int) = ((n / 18446744073709551616 : Nat) : Int)
    · rw [beq_iff_eq.mpr h2]
      simp only [cond_true, cond_false, Option.bind_some]
      congr 1; apply decide_eq_decide.mpr; omega
    · rw [beq_eq_false_iff_ne.mpr h2]
      simp only [cond_false, Option.bind_some]
      congr 1; symm; apply decide_eq_false; omega
theorem g_plus {m n : Nat} (h : m + n < 340282366920938463463374607431768211456) : F_ref02_Plus (ofU m) (ofU n) = some (ofU (m + n)) := by
  unfold F_ref02_Plus ofU
  simp only [wrapu]
  by_cases c : (((m % 18446744073709551616 : Nat) : Int) + ((n % 18446744073709551616 : Nat) : Int)) % 18446744073709551616 < ((m % 18446744073709551616 : Nat) : Int)
  · rw [decide_eq_true c]
    simp only [cond_true, Option.bind_some]
    congr 2 <;> omega
  · rw [decide_eq_false c]
    simp only [cond_false, Option.bind_some]
    congr 2 <;> omega
theorem g_minus {m n : Nat} (hm : m < 340282366920938463463374607431768211456) (h : n ≤ m) : F_ref02_Minus (ofU m) (ofU n) = some (ofU (m - n)) := by
  unfold F_ref02_Minus ofU
  simp only [wrapu]
  by_cases c : ((m % 18446744073709551616 : Nat) : Int) < ((n % 18446744073709551616 : Nat) : Int)
  · rw [decide_eq_true c]
    simp only [cond_true, Option.bind_some]
    congr 2 <;> omega
  · rw [decide_eq_false c]
    simp only [cond_false, Option.bind_some]
    congr 2 <;> omega
theorem sh63 (x : Int) : x.fdiv (2 ^ min (Int.toNat 63) IntKind.u64.bits) = x / 9223372036854775808 := by
  rw [show (2 ^ min (Int.toNat 63) IntKind.u64.bits : Int) = 9223372036854775808 from by decide, Int.fdiv_eq_ediv_of_nonneg _ (by omega)]
theorem sh1 (x : Int) : x.fdiv (2 ^ min (Int.toNat 1) IntKind.u64.bits) = x / 2 := by
  rw [show (2 ^ min (Int.toNat 1) IntKind.u64.bits : Int) = 2 from by decide, Int.fdiv_eq_ediv_of_nonneg _ (by omega)]
theorem sl63 (x : Int) : x * 2 ^ min (Int.toNat 63) IntKind.u64.bits = x * 9223372036854775808 := by
  rw [show (2 ^ min (Int.toNat 63) IntKind.u64.bits : Int) = 9223372036854775808 from by decide]
theorem sl1 (x : Int) : x * 2 ^ min (Int.toNat 1) IntKind.u64.bits = x * 2 := by
  rw [show (2 ^ min (Int.toNat 1) IntKind.u64.bits : Int) = 2 from by decide]
theorem sl32 (x : Int) : x * 2 ^ min (Int.toNat 32) IntKind.u64.bits = x * 4294967296 := by
  rw [show (2 ^ min (Int.toNat 32) IntKind.u64.bits : Int) = 4294967296 from by decide]
theorem g_half {m : Nat} (h : m < 340282366920938463463374607431768211456) : F_ref02_Half (ofU m) = some (ofU (m / 2)) := by
  unfold F_ref02_Half ofU
  simp only [wrapu, sh1, sl63]
  congr 2 <;> omega
theorem lo1 (n : Nat) : ((bitsOf .and .u64 ((n % 18446744073709551616 : Nat) : Int) 1) == 0) = decide (n % 2 = 0) := by
  have e : bitsOf .and .u64 ((n % 18446744073709551616 : Nat) : Int) 1 = ((n % 2 : Nat) : Int) := by
    show IntKind.u64.wrap (((BitVec.ofInt 64 ((n % 18446744073709551616 : Nat) : Int) &&& BitVec.ofInt 64 1).toNat : Nat) : Int) = _
    rw [wrapu, BitVec.toNat_and, show (1 : Int) = ((2 ^ 1 - 1 : Nat) : Int) from rfl, BitVec.ofInt_natCast, BitVec.ofInt_natCast, BitVec.toNat_ofNat, BitVec.toNat_ofNat, Nat.mod_eq_of_lt (show 2 ^ 1 - 1 < 2 ^ 64 by decide), Nat.and_two_pow_sub_one_eq_mod]
    omega
  rw [e]
  by_cases h : n % 2 = 0
  · rw [decide_eq_true h, h]; rfl
  · rw [decide_eq_false h, beq_eq_false_iff_ne]; omega
theorem g_mul {x y : Nat} (hx2 : x < 18446744073709551616) (hy2 : y < 18446744073709551616) : F_ref02_Mul x y = some (ofU (x * y)) := by
  have hx : (0 : Int) ≤ x := by omega
  have hy : (0 : Int) ≤ y := by omega
  unfold F_ref02_Mul
  simp only [sh32, lo32 hx, lo32 hy, wrapu, sl32]
  have hofU : ofU (x * y) = ⟨((x : Int) * y) / 18446744073709551616, ((x : Int) * y) % 18446744073709551616⟩ := by
    unfold ofU
    rw [← Int.natCast_mul]
    rfl
  rw [hofU]
  have ex : (x : Int) = 4294967296 * ((x : Int) / 4294967296) + (x : Int) % 4294967296 := by omega
  have ey : (y : Int) = 4294967296 * ((y : Int) / 4294967296) + (y : Int) % 4294967296 := by omega
  have a0 : 0 ≤ (x : Int) / 4294967296 := by omega
  have a1 : (x : Int) / 4294967296 ≤ 4294967295 := by omega
  have b0 : 0 ≤ (x : Int) % 4294967296 := by omega
  have b1 : (x : Int) % 4294967296 ≤ 4294967295 := by omega
  have c0 : 0 ≤ (y : Int) / 4294967296 := by omega
  have c1 : (y : Int) / 4294967296 ≤ 4294967295 := by omega
  have d0 : 0 ≤ (y : Int) % 4294967296 := by omega
  have d1 : (y : Int) % 4294967296 ≤ 4294967295 := by omega
  generalize (x : Int) / 4294967296 = a at *
  generalize (x : Int) % 4294967296 = b at *
  generalize (y : Int) / 4294967296 = c at *
  generalize (y : Int) % 4294967296 = d at *
  have exy : (x : Int) * y = 18446744073709551616 * (a * c) + 4294967296 * (a * d + b * c) + b * d := by rw [ex, ey]; grind
  have bd (u v : Int) (u0 : 0 ≤ u) (u1 : u ≤ 4294967295) (v0 : 0 ≤ v) (v1 : v ≤ 4294967295) : 0 ≤ u * v ∧ u * v ≤ 18446744065119617025 :=
    ⟨Int.mul_nonneg u0 v0, Int.le_trans (Int.mul_le_mul u1 v1 v0 (by omega)) (by omega)⟩
  have p := bd a c a0 a1 c0 c1
  have q := bd a d a0 a1 d0 d1
  have r := bd b c b0 b1 c0 c1
  have t := bd b d b0 b1 d0 d1
  rw [exy]
  generalize a * c = A at *
  generalize a * d = B at *
  generalize b * c = C at *
  generalize b * d = D at *
  have e1 : D % 18446744073709551616 = D := by omega
  have e2 : B % 18446744073709551616 = B := by omega
  have e3 : C % 18446744073709551616 = C := by omega
  have e4 : A % 18446744073709551616 = A := by omega
  rw [e1, e2, e3, e4]
  have e5 : (B + D / 4294967296) % 18446744073709551616 = B + D / 4294967296 := by omega
  rw [e5, lo32 (x := B + D / 4294967296) (by omega), lo32 (x := D) (by omega)]
  congr 2 <;> omega
end Go.Proofs.YtkagmdfhodbfmaaGreat

/- Exact numbers of the reference: the greatest common divisor, by halves. -/
namespace Go.Proofs.YtkagmdfhodbfmaaGreat
set_option linter.unusedSimpArgs false
set_option linter.unusedVariables false

theorem pw257 (k : Nat) (h : k ≤ 1) : 2 ^ 256 ≤ 2 ^ (257 - k) := Nat.pow_le_pow_right (by decide) (by omega)
theorem pow_lt128 {a k m : Nat} (ha : 0 < a) (h : a * 2 ^ k = m) (hm : m < 340282366920938463463374607431768211456) : k < 128 := by
  rcases Nat.lt_or_ge k 128 with h1 | h1
  · exact h1
  · have h2 : 2 ^ 128 ≤ 2 ^ k := Nat.pow_le_pow_right (by decide) h1
    have h3 : 1 * 2 ^ k ≤ a * 2 ^ k := Nat.mul_le_mul_right _ ha
    have h4 : (2 : Nat) ^ 128 = 340282366920938463463374607431768211456 := by decide
    omega
/-- Halves, until it is odd. -/
theorem halves (F : TU × Unit → Option ((TU × Unit) ⊕ (TU × Unit)))
    (hF : ∀ a : Nat, a < 340282366920938463463374607431768211456 → F (ofU a, ()) = if a % 2 = 0 then some (.inl (ofU (a / 2), ())) else some (.inr (ofU a, ()))) {a : Nat} (ha : 0 < a) (h : a < 340282366920938463463374607431768211456) :
    ∃ A k : Nat, iterF F big (ofU a, ()) = some (ofU A, ()) ∧ A % 2 = 1 ∧ A * 2 ^ k = a := by
  obtain ⟨r, h1, A, k, h2, h3, h4⟩ := iter_run_inv (F := F) (Q := fun r => ∃ A k : Nat, r = (ofU A, ()) ∧ A % 2 = 1 ∧ A * 2 ^ k = a) (fun k s => ∃ A : Nat, s = (ofU A, ()) ∧ 0 < A ∧ A * 2 ^ k = a) 128 (by unfold big; omega) (by
    rintro k s ⟨A, rfl, hA, he⟩
    have hAl : A < 340282366920938463463374607431768211456 := by
      have : A * 1 ≤ A * 2 ^ k := Nat.mul_le_mul_left _ (Nat.pow_pos (by decide))
      omega
    rw [hF A hAl]
    by_cases hc : A % 2 = 0
    · rw [if_pos hc]
      refine .inl ⟨_, rfl, pow_lt128 hA he h, A / 2, rfl, by omega, ?_⟩
      rw [Nat.pow_succ, ← he, Nat.mul_comm (2 ^ k), ← Nat.mul_assoc, Nat.div_mul_cancel (Nat.dvd_of_mod_eq_zero hc)]
    · rw [if_neg hc]
      exact .inr ⟨_, rfl, A, k, rfl, by omega, he⟩) (s := (ofU a, ())) ⟨a, rfl, ha, by simp⟩
  subst h2
  exact ⟨A, k, h1, h3, h4⟩
theorem gcd_halves {a A b k : Nat} (he : A * 2 ^ k = a) (hab : a % 2 = 1 ∨ b % 2 = 1) : Nat.gcd A b = Nat.gcd a b := by
  cases k with
  | zero => rw [← he]; simp
  | succ k =>
    have hb : b % 2 = 1 := by
      rcases hab with h | h
      · rw [← he, Nat.pow_succ, ← Nat.mul_assoc, Nat.mul_mod_left] at h; omega
      · exact h
    have hc : Nat.Coprime (2 ^ (k + 1)) b := Nat.Coprime.pow_left _ (by
      show Nat.gcd 2 b = 1
      rw [Nat.gcd_rec, hb]; rfl)
    rw [← he]
    exact (Nat.Coprime.gcd_mul_right_cancel A hc).symm
def gcdL (F1 F2 : TU × Unit → Option ((TU × Unit) ⊕ (TU × Unit))) : TU × TU × Unit → Option ((TU × TU × Unit) ⊕ (TU × TU × Unit)) :=
  fun s38 => (bif (!((s38.1.h == 0) && (s38.1.l == 0))) then (iterF (σ := TU × Unit) (ρ := TU × Unit) F1 big (s38.1, ())).bind fun y41 => (iterF (σ := TU × Unit) (ρ := TU × Unit) F2 big (s38.2.1, ())).bind fun y44 => ((F_ref02_Less y41.1 y44.1).bind fun r45 => (bif r45 then some (y44.1, y41.1, ()) else some (y41.1, y44.1, ())) : Option (TU × TU × Unit)).bind fun y46 => (F_ref02_Minus y46.1 y46.2.1).bind fun r47 => some (.inl (r47, y46.2.1, ())) else some (.inr (s38.1, s38.2.1, ())))
theorem halfF (a : Nat) (ha : a < 340282366920938463463374607431768211456) : ((bif ((bitsOf .and .u64 (ofU a).l 1) == 0) then (F_ref02_Half (ofU a)).bind fun r40 => some (.inl (r40, ())) else some (.inr (ofU a, ()))) : Option ((TU × Unit) ⊕ (TU × Unit))) = if a % 2 = 0 then some (.inl (ofU (a / 2), ())) else some (.inr (ofU a, ())) := by
  rw [show (ofU a).l = ((a % 18446744073709551616 : Nat) : Int) from rfl, lo1, g_half ha]
  by_cases h : a % 2 = 0
  · rw [decide_eq_true h, if_pos h]; rfl
  · rw [decide_eq_false h, if_neg h]; rfl
/-- The main loop: odd parts, the difference. -/
theorem gcd_main {F1 F2 : TU × Unit → Option ((TU × Unit) ⊕ (TU × Unit))}
    (h1 : ∀ a : Nat, a < 340282366920938463463374607431768211456 → F1 (ofU a, ()) = if a % 2 = 0 then some (.inl (ofU (a / 2), ())) else some (.inr (ofU a, ())))
    (h2 : ∀ a : Nat, a < 340282366920938463463374607431768211456 → F2 (ofU a, ()) = if a % 2 = 0 then some (.inl (ofU (a / 2), ())) else some (.inr (ofU a, ())))
    {a b : Nat} (ha : a < 340282366920938463463374607431768211456) (hb : 0 < b) (hb2 : b < 340282366920938463463374607431768211456) (hodd : a % 2 = 1 ∨ b % 2 = 1) :
    ∃ z, iterF (gcdL F1 F2) big (ofU a, ofU b, ()) = some (z, ofU (Nat.gcd a b), ()) := by
  obtain ⟨r, e, z, rfl⟩ := iter_run_inv (F := gcdL F1 F2) (Q := fun r => ∃ z, r = (z, ofU (Nat.gcd a b), ()))
    (fun k s => ∃ A B : Nat, s = (ofU A, ofU B, ()) ∧ A < 340282366920938463463374607431768211456 ∧ 0 < B ∧ B < 340282366920938463463374607431768211456 ∧ (A % 2 = 1 ∨ B % 2 = 1) ∧ Nat.gcd A B = Nat.gcd a b ∧ k ≤ 257 ∧ (if A % 2 = 0 then A / 2 else A) * B < 2 ^ (257 - k)) 257 (by unfold big; omega) (by
    rintro k s ⟨A, B, rfl, hA, hB, hB2, ho, hg, hk, hP⟩
    unfold gcdL
    dsimp only
    rw [ofU_zero]
    by_cases h0 : A = 0
    · subst h0
      rw [decide_eq_true rfl]
      simp only [Bool.not_true, cond_false]
      refine .inr ⟨_, rfl, ofU 0, ?_⟩
      rw [← hg, Nat.gcd_zero_left]
    · rw [decide_eq_false h0]
      simp only [Bool.not_false, cond_true]
      obtain ⟨A1, p, e1, o1, f1⟩ := halves F1 h1 (show 0 < A by omega) hA
      obtain ⟨B1, q, e2, o2, f2⟩ := halves F2 h2 hB hB2
      rw [e1, e2]
      simp only [Option.bind_some]
      rw [g_less]
      simp only [Option.bind_some]
      have g1 : Nat.gcd A1 B1 = Nat.gcd a b := by
        rw [gcd_halves (b := B1) f1 (by right; exact o2), Nat.gcd_comm, gcd_halves (b := A) f2 (by rcases ho with h | h; exact .inr h; exact .inl h), Nat.gcd_comm, hg]
      have hA1 : A1 ≤ (if A % 2 = 0 then A / 2 else A) := by
        cases p with
        | zero => rw [← f1]; simp only [Nat.pow_zero, Nat.mul_one]; rw [if_neg (by omega)]; exact Nat.le_refl _
        | succ p =>
          have h3 : 2 * A1 ≤ A := by
            rw [← f1, Nat.pow_succ, Nat.mul_comm (2 ^ p), ← Nat.mul_assoc, Nat.mul_comm 2]
            exact Nat.le_mul_of_pos_right _ (Nat.pow_pos (by decide))
          split <;> omega
      have hB1 : B1 ≤ B := by rw [← f2]; exact Nat.le_mul_of_pos_right _ (Nat.pow_pos (by decide))
      have hprod : A1 * B1 < 2 ^ (257 - k) := Nat.lt_of_le_of_lt (Nat.mul_le_mul hA1 hB1) hP
      have hpos : 0 < A1 * B1 := Nat.mul_pos (by omega) (by omega)
      have hk2 : k < 257 := by
        rcases Nat.lt_or_ge k 257 with h | h
        · exact h
        · have : 257 - k = 0 := by omega
          rw [this] at hprod
          omega
      have hpow : 2 ^ (257 - k) = 2 * 2 ^ (257 - (k + 1)) := by
        rw [show 257 - k = (257 - (k + 1)) + 1 from by omega, Nat.pow_succ, Nat.mul_comm]
      have hA1l : A1 < 340282366920938463463374607431768211456 := by
        have : A1 ≤ A := by rw [← f1]; exact Nat.le_mul_of_pos_right _ (Nat.pow_pos (by decide))
        omega
      have key : ∀ X Y : Nat, Y ≤ X → X * Y = A1 * B1 → X % 2 = 1 → Y % 2 = 1 → (if (X - Y) % 2 = 0 then (X - Y) / 2 else X - Y) * Y < 2 ^ (257 - (k + 1)) := by
        intro X Y hYX he hX hY
        rw [if_pos (by omega)]
        have h5 : 2 * ((X - Y) / 2 * Y) ≤ X * Y := by
          rw [← Nat.mul_assoc]
          exact Nat.mul_le_mul_right _ (by omega)
        omega
      by_cases hlt : A1 < B1
      · rw [decide_eq_true hlt]
        simp only [cond_true, Option.bind_some]
        rw [g_minus (by omega) (by omega)]
        simp only [Option.bind_some]
        refine .inl ⟨_, rfl, hk2, B1 - A1, A1, rfl, by omega, by omega, by omega, .inr o1, ?_, by omega, key B1 A1 (by omega) (Nat.mul_comm _ _) o2 o1⟩
        rw [Nat.gcd_sub_self_left (by omega), Nat.gcd_comm]
        exact g1
      · rw [decide_eq_false hlt]
        simp only [cond_false, Option.bind_some]
        rw [g_minus (by omega) (by omega)]
        simp only [Option.bind_some]
        refine .inl ⟨_, rfl, hk2, A1 - B1, B1, rfl, by omega, by omega, by omega, .inr o2, ?_, by omega, key A1 B1 (by omega) rfl o1 o2⟩
        rw [Nat.gcd_sub_self_left (by omega)]
        exact g1) (s := (ofU a, ofU b, ())) ⟨a, b, rfl, ha, hb, hb2, hodd, rfl, by omega, by
      have h3 : (if a % 2 = 0 then a / 2 else a) * b ≤ 340282366920938463463374607431768211455 * 340282366920938463463374607431768211455 := Nat.mul_le_mul (by split <;> omega) (by omega)
      have h4 : (340282366920938463463374607431768211455 * 340282366920938463463374607431768211455 : Nat) < 2 ^ 256 := by decide
      exact Nat.lt_of_le_of_lt h3 (Nat.lt_of_lt_of_le h4 (pw257 0 (by decide)))⟩
  exact ⟨z, e⟩
theorem g_gcd {a b : Nat} (ha : a < 340282366920938463463374607431768211456) (hb : 0 < b) (hb2 : b < 340282366920938463463374607431768211456) : F_ref02_Gcd (ofU a) (ofU b) = some (ofU (Nat.gcd a b)) := by
  unfold F_ref02_Gcd
  rw [ofU_zero]
  by_cases h0 : a = 0
  · subst h0
    rw [decide_eq_true rfl, cond_true, Nat.gcd_zero_left]
  · rw [decide_eq_false h0, cond_false]
    obtain ⟨r, e, k, A, B, rfl, hAk, hBk, hodd⟩ := iter_run_inv (F := (fun s10 => ((bif ((bitsOf .and .u64 s10.2.1.l 1) == 0) then some (((bitsOf .and .u64 s10.2.2.1.l 1) == 0), ()) else some (false, ())) : Option (Bool × Unit)).bind fun y11 => (bif y11.1 then (F_ref02_Half s10.2.1).bind fun r12 => (F_ref02_Half s10.2.2.1).bind fun r13 => some (.inl ((IntKind.i64.wrap (s10.1 + 1)), r12, r13, ())) else some (.inr (s10.1, s10.2.1, s10.2.2.1, ())))))
      (Q := fun r : Int × TU × TU × Unit => ∃ k A B : Nat, r = ((k : Int), ofU A, ofU B, ()) ∧ A * 2 ^ k = a ∧ B * 2 ^ k = b ∧ (A % 2 = 1 ∨ B % 2 = 1))
      (fun k s => ∃ A B : Nat, s = ((k : Int), ofU A, ofU B, ()) ∧ 0 < A ∧ 0 < B ∧ A * 2 ^ k = a ∧ B * 2 ^ k = b) 128 (by unfold big; omega) (by
      rintro k s ⟨A, B, rfl, hA, hB, ea, eb⟩
      have hk := pow_lt128 hA ea ha
      have hAl : A < 340282366920938463463374607431768211456 := by
        have : A * 1 ≤ A * 2 ^ k := Nat.mul_le_mul_left _ (Nat.pow_pos (by decide))
        omega
      have hBl : B < 340282366920938463463374607431768211456 := by
        have : B * 1 ≤ B * 2 ^ k := Nat.mul_le_mul_left _ (Nat.pow_pos (by decide))
        omega
      dsimp only
      rw [show (ofU A).l = ((A % 18446744073709551616 : Nat) : Int) from rfl, show (ofU B).l = ((B % 18446744073709551616 : Nat) : Int) from rfl, lo1, lo1]
      have stop : A % 2 = 1 ∨ B % 2 = 1 → ∃ r : Int × TU × TU × Unit, ((some (.inr ((k : Int), ofU A, ofU B, ())) : Option ((Int × TU × TU × Unit) ⊕ (Int × TU × TU × Unit)))) = some (.inr r) ∧ ∃ k A B : Nat, r = ((k : Int), ofU A, ofU B, ()) ∧ A * 2 ^ k = a ∧ B * 2 ^ k = b ∧ (A % 2 = 1 ∨ B % 2 = 1) := fun h => ⟨_, rfl, k, A, B, rfl, ea, eb, h⟩
      by_cases c1 : A % 2 = 0
      · by_cases c2 : B % 2 = 0
        · rw [decide_eq_true c1, decide_eq_true c2]
          simp only [cond_true, Option.bind_some]
          rw [g_half hAl, g_half hBl]
          simp only [Option.bind_some]
          refine .inl ⟨_, rfl, hk, A / 2, B / 2, by rw [wrap64 (by omega) (by omega)]; rfl, by omega, by omega, ?_, ?_⟩
          · rw [Nat.pow_succ, ← ea, Nat.mul_comm (2 ^ k), ← Nat.mul_assoc, Nat.div_mul_cancel (Nat.dvd_of_mod_eq_zero c1)]
          · rw [Nat.pow_succ, ← eb, Nat.mul_comm (2 ^ k), ← Nat.mul_assoc, Nat.div_mul_cancel (Nat.dvd_of_mod_eq_zero c2)]
        · rw [decide_eq_true c1, decide_eq_false c2]
          simp only [cond_true, cond_false, Option.bind_some]
          exact .inr (stop (.inr (by omega)))
      · rw [decide_eq_false c1]
        simp only [cond_false, Option.bind_some]
        exact .inr (stop (.inl (by omega)))) (s := (0, ofU a, ofU b, ())) ⟨a, b, rfl, by omega, hb, by simp, by simp⟩
    rw [e]
    simp only [Option.bind_some]
    have hpk : 0 < 2 ^ k := Nat.pow_pos (by decide)
    have hBp : 0 < B := by
      rcases Nat.eq_zero_or_pos B with h | h
      · rw [h, Nat.zero_mul] at hBk; omega
      · exact h
    have hAl : A < 340282366920938463463374607431768211456 := by
      have : A * 1 ≤ A * 2 ^ k := Nat.mul_le_mul_left _ hpk
      omega
    have hBl : B < 340282366920938463463374607431768211456 := by
      have : B * 1 ≤ B * 2 ^ k := Nat.mul_le_mul_left _ hpk
      omega
    obtain ⟨z, e2⟩ := gcd_main (F1 := (fun s39 => (bif ((bitsOf .and .u64 s39.1.l 1) == 0) then (F_ref02_Half s39.1).bind fun r40 => some (.inl (r40, ())) else some (.inr (s39.1, ()))))) (F2 := (fun s42 => (bif ((bitsOf .and .u64 s42.1.l 1) == 0) then (F_ref02_Half s42.1).bind fun r43 => some (.inl (r43, ())) else some (.inr (s42.1, ()))))) halfF halfF hAl hBp hBl hodd
    unfold gcdL at e2
    rw [e2]
    simp only [Option.bind_some]
    have hG : Nat.gcd A B * 2 ^ k = Nat.gcd a b := by rw [← hAk, ← hBk, Nat.gcd_mul_right]
    have hgl : Nat.gcd a b ≤ b := Nat.gcd_le_right _ hb
    have hk := pow_lt128 hBp hBk hb2
    generalize Nat.gcd A B = g at *
    obtain ⟨r, e3, rfl⟩ := iter_run_inv (F := (fun s51 => (bif (decide (s51.1 > 0)) then (F_ref02_Plus s51.2.1 s51.2.1).bind fun r52 => some (.inl ((IntKind.i64.wrap (s51.1 - 1)), r52, ())) else some (.inr (s51.2.1, ())))))
      (Q := fun r : TU × Unit => r = (ofU (Nat.gcd a b), ())) (fun i s => i ≤ k ∧ s = ((k : Int) - i, ofU (g * 2 ^ i), ())) k (by unfold big; omega) (by
      rintro i s ⟨hi, rfl⟩
      dsimp only
      by_cases hlt : i < k
      · have hle : g * 2 ^ (i + 1) ≤ g * 2 ^ k := Nat.mul_le_mul_left _ (Nat.pow_le_pow_right (by decide) hlt)
        have hdb : g * 2 ^ i + g * 2 ^ i = g * 2 ^ (i + 1) := by rw [Nat.pow_succ, ← Nat.mul_assoc]; omega
        rw [decide_eq_true (show (k : Int) - i > 0 by omega), cond_true, g_plus (by omega)]
        simp only [Option.bind_some]
        refine .inl ⟨_, rfl, hlt, hlt, ?_⟩
        rw [hdb, wrap64 (by omega) (by omega)]
        congr 1
        omega
      · obtain rfl : i = k := by omega
        rw [decide_eq_false (show ¬ (i : Int) - i > 0 by omega), cond_false]
        exact .inr ⟨_, rfl, by rw [hG]⟩) (s := ((k : Int), ofU g, ())) ⟨by omega, by simp⟩
    rw [e3]
    rfl
end Go.Proofs.YtkagmdfhodbfmaaGreat

/- Exact numbers of the reference: the long division of magnitudes; Made. -/
namespace Go.Proofs.YtkagmdfhodbfmaaGreat
set_option linter.unusedSimpArgs false
set_option linter.unusedVariables false

/-- One step of the long division, on plain numbers. -/
theorem div_step {N D i t R : Nat} (_hD : 0 < D) (hi : i < 128) (ht : t = N / 2 ^ (127 - i) % 2) (hR : R = N / 2 ^ (128 - i) % D) :
    (2 * R + t < D → N / 2 ^ (128 - (i + 1)) % D = 2 * R + t ∧ N / 2 ^ (128 - (i + 1)) / D = 2 * (N / 2 ^ (128 - i) / D)) ∧
    (D ≤ 2 * R + t → N / 2 ^ (128 - (i + 1)) % D = 2 * R + t - D ∧ N / 2 ^ (128 - (i + 1)) / D = 2 * (N / 2 ^ (128 - i) / D) + 1) := by
  have e : N / 2 ^ (128 - (i + 1)) = 2 * (N / 2 ^ (128 - i)) + t := by
    rw [ht, show 128 - (i + 1) = 127 - i from by omega, show 128 - i = (127 - i) + 1 from by omega, Nat.pow_succ, ← Nat.div_div_eq_div_mul]
    omega
  have hRD : R < D := by rw [hR]; exact Nat.mod_lt _ _hD
  have hm := Nat.div_add_mod (N / 2 ^ (128 - i)) D
  rw [← hR] at hm
  rw [e]
  generalize N / 2 ^ (128 - i) = M at *
  generalize M / D = q at *
  have e2 : 2 * M + t = D * (2 * q) + (2 * R + t) := by rw [← hm]; grind
  have ht2 : t ≤ 1 := by omega
  refine ⟨fun h => ?_, fun h => ?_⟩
  · rw [e2, Nat.mul_add_mod, Nat.mod_eq_of_lt h, Nat.mul_add_div _hD, Nat.div_eq_of_lt h]
    exact ⟨rfl, rfl⟩
  · have e3 : D * (2 * q) + (2 * R + t) = D * (2 * q + 1) + (2 * R + t - D) := by
      rw [Nat.mul_add, Nat.mul_one]; omega
    have h4 : 2 * R + t - D < D := by omega
    rw [e2, e3, Nat.mul_add_mod, Nat.mod_eq_of_lt h4, Nat.mul_add_div _hD, Nat.div_eq_of_lt h4]
    exact ⟨rfl, rfl⟩
theorem shl_of (R t : Nat) (hR : R < 170141183460469231731687303715884105728) (ht : t ≤ 1) {z : Int} (hz : z = (t : Int)) :
    TU.mk (IntKind.u64.wrap ((IntKind.u64.wrap ((ofU R).h * 2 ^ min (Int.toNat 1) IntKind.u64.bits)) + ((ofU R).l.fdiv (2 ^ min (Int.toNat 63) IntKind.u64.bits)))) (IntKind.u64.wrap ((IntKind.u64.wrap ((ofU R).l * 2 ^ min (Int.toNat 1) IntKind.u64.bits)) + z)) = ofU (2 * R + t) := by
  subst hz
  unfold ofU
  simp only [wrapu, sh63, sl1]
  congr 1 <;> omega
theorem shl_mod (A : Nat) (_hA : A < 340282366920938463463374607431768211456) :
    TU.mk (IntKind.u64.wrap ((IntKind.u64.wrap ((ofU A).h * 2 ^ min (Int.toNat 1) IntKind.u64.bits)) + ((ofU A).l.fdiv (2 ^ min (Int.toNat 63) IntKind.u64.bits)))) (IntKind.u64.wrap ((ofU A).l * 2 ^ min (Int.toNat 1) IntKind.u64.bits)) = ofU (2 * A % 340282366920938463463374607431768211456) := by
  unfold ofU
  simp only [wrapu, sh63, sl1]
  congr 1 <;> omega
theorem top_of (A : Nat) (_hA : A < 340282366920938463463374607431768211456) : (ofU A).h.fdiv (2 ^ min (Int.toNat 63) IntKind.u64.bits) = ((A / 170141183460469231731687303715884105728 : Nat) : Int) := by
  unfold ofU
  simp only [sh63]
  omega
theorem pow_split (N i : Nat) (hi : i ≤ 128) : N * 2 ^ i % 2 ^ 128 = N % 2 ^ (128 - i) * 2 ^ i := by
  conv => lhs; rw [show (2 : Nat) ^ 128 = 2 ^ (128 - i) * 2 ^ i from by rw [← Nat.pow_add, show 128 - i + i = 128 from by omega]]
  rw [Nat.mul_mod_mul_right]
theorem g_div {N D : Nat} (hN : N < 340282366920938463463374607431768211456) (hD : 0 < D) (hD2 : D < 170141183460469231731687303715884105728) : ∃ z, F_ref02_Div (ofU N) (ofU D) = some (ofU (N / D), z) := by
  unfold F_ref02_Div
  have hshort : ∀ b : Bool, (((bif ((ofU N).h == 0) then some (((ofU D).h == 0), ()) else some (false, ())) : Option (Bool × Unit))) = some (((ofU N).h == 0) && ((ofU D).h == 0), ()) := by
    intro _
    cases ((ofU N).h == 0) <;> rfl
  rw [hshort true]
  simp only [Option.bind_some]
  by_cases hs : ((ofU N).h == 0) && ((ofU D).h == 0)
  · rw [hs, cond_true]
    simp only [Bool.and_eq_true, beq_iff_eq] at hs
    have n1 : N < 18446744073709551616 := by have := hs.1; unfold ofU at this; dsimp only at this; omega
    have n2 : D < 18446744073709551616 := by have := hs.2; unfold ofU at this; dsimp only at this; omega
    rw [ofU_small n1, ofU_small n2]
    dsimp only
    rw [if_neg (by omega), if_neg (by omega), wrapu, Int.tdiv_eq_ediv_of_nonneg (by omega), ← Int.natCast_ediv]
    have := Nat.div_le_self N D
    generalize N / D = q at *
    rw [ofU_small (show q < 18446744073709551616 by omega), show (q : Int) % 18446744073709551616 = q from by omega]
    exact ⟨_, rfl⟩
  · rw [show (((ofU N).h == 0) && ((ofU D).h == 0)) = false from by simpa using hs, cond_false]
    have p128 : (2 : Nat) ^ 128 = 340282366920938463463374607431768211456 := by decide
    have p127 : (2 : Nat) ^ 127 = 170141183460469231731687303715884105728 := by decide
    obtain ⟨r, e, a, z, rfl⟩ := iter_run_inv (F := (fun s10 : Int × TU × TU × TU × Unit => (bif (decide (s10.1 < 128)) then (((bif (decide ((s10.2.2.2.1.h.fdiv (2 ^ min (Int.toNat 63) IntKind.u64.bits)) > 0)) then some (true, ()) else (F_ref02_Less (TU.mk (IntKind.u64.wrap ((IntKind.u64.wrap (s10.2.2.2.1.h * 2 ^ min (Int.toNat 1) IntKind.u64.bits)) + (s10.2.2.2.1.l.fdiv (2 ^ min (Int.toNat 63) IntKind.u64.bits)))) (IntKind.u64.wrap ((IntKind.u64.wrap (s10.2.2.2.1.l * 2 ^ min (Int.toNat 1) IntKind.u64.bits)) + (s10.2.1.h.fdiv (2 ^ min (Int.toNat 63) IntKind.u64.bits))))) (ofU D)).bind fun r11 => some ((!r11), ())) : Option (Bool × Unit)).bind fun y12 => (bif y12.1 then (F_ref02_Minus (TU.mk (IntKind.u64.wrap ((IntKind.u64.wrap (s10.2.2.2.1.h * 2 ^ min (Int.toNat 1) IntKind.u64.bits)) + (s10.2.2.2.1.l.fdiv (2 ^ min (Int.toNat 63) IntKind.u64.bits)))) (IntKind.u64.wrap ((IntKind.u64.wrap (s10.2.2.2.1.l * 2 ^ min (Int.toNat 1) IntKind.u64.bits)) + (s10.2.1.h.fdiv (2 ^ min (Int.toNat 63) IntKind.u64.bits))))) (ofU D)).bind fun r13 => some ((TU.mk (IntKind.u64.wrap ((IntKind.u64.wrap (s10.2.1.h * 2 ^ min (Int.toNat 1) IntKind.u64.bits)) + (s10.2.1.l.fdiv (2 ^ min (Int.toNat 63) IntKind.u64.bits)))) (IntKind.u64.wrap (s10.2.1.l * 2 ^ min (Int.toNat 1) IntKind.u64.bits))), (TU.mk (IntKind.u64.wrap ((IntKind.u64.wrap (s10.2.2.1.h * 2 ^ min (Int.toNat 1) IntKind.u64.bits)) + (s10.2.2.1.l.fdiv (2 ^ min (Int.toNat 63) IntKind.u64.bits)))) (IntKind.u64.wrap ((IntKind.u64.wrap (s10.2.2.1.l * 2 ^ min (Int.toNat 1) IntKind.u64.bits)) + 1))), r13, ()) else some ((TU.mk (IntKind.u64.wrap ((IntKind.u64.wrap (s10.2.1.h * 2 ^ min (Int.toNat 1) IntKind.u64.bits)) + (s10.2.1.l.fdiv (2 ^ min (Int.toNat 63) IntKind.u64.bits)))) (IntKind.u64.wrap (s10.2.1.l * 2 ^ min (Int.toNat 1) IntKind.u64.bits))), (TU.mk (IntKind.u64.wrap ((IntKind.u64.wrap (s10.2.2.1.h * 2 ^ min (Int.toNat 1) IntKind.u64.bits)) + (s10.2.2.1.l.fdiv (2 ^ min (Int.toNat 63) IntKind.u64.bits)))) (IntKind.u64.wrap (s10.2.2.1.l * 2 ^ min (Int.toNat 1) IntKind.u64.bits))), (TU.mk (IntKind.u64.wrap ((IntKind.u64.wrap (s10.2.2.2.1.h * 2 ^ min (Int.toNat 1) IntKind.u64.bits)) + (s10.2.2.2.1.l.fdiv (2 ^ min (Int.toNat 63) IntKind.u64.bits)))) (IntKind.u64.wrap ((IntKind.u64.wrap (s10.2.2.2.1.l * 2 ^ min (Int.toNat 1) IntKind.u64.bits)) + (s10.2.1.h.fdiv (2 ^ min (Int.toNat 63) IntKind.u64.bits))))), ())) : Option (TU × TU × TU × Unit)).bind fun y14 => some (.inl ((IntKind.i64.wrap (s10.1 + 1)), y14.1, y14.2.1, y14.2.2.1, ())) else some (.inr (s10.2.1, s10.2.2.1, s10.2.2.2.1, ())))))
      (Q := fun r : TU × TU × TU × Unit => ∃ a z, r = (a, ofU (N / D), z, ()))
      (fun i s => i ≤ 128 ∧ s = ((i : Int), ofU (N * 2 ^ i % 2 ^ 128), ofU (N / 2 ^ (128 - i) / D), ofU (N / 2 ^ (128 - i) % D), ())) 128 (by unfold big; omega) (by
      rintro i s ⟨hi, rfl⟩
      dsimp only
      by_cases hlt : i < 128
      · rw [decide_eq_true (show (i : Int) < 128 by omega), cond_true]
        have hRD : N / 2 ^ (128 - i) % D < D := Nat.mod_lt _ hD
        have hA : N * 2 ^ i % 2 ^ 128 < 340282366920938463463374607431768211456 := by rw [p128]; exact Nat.mod_lt _ (by decide)
        have htop : N * 2 ^ i % 2 ^ 128 / 170141183460469231731687303715884105728 = N / 2 ^ (127 - i) % 2 := by
          rw [pow_split N i hi, ← p127, show (2 : Nat) ^ 127 = 2 ^ (127 - i) * 2 ^ i from by rw [← Nat.pow_add, show 127 - i + i = 127 from by omega]]
          rw [Nat.mul_div_mul_right _ _ (Nat.pow_pos (by decide)), show 128 - i = (127 - i) + 1 from by omega, Nat.pow_succ, Nat.mod_mul, Nat.add_mul_div_left _ _ (Nat.pow_pos (by decide)), Nat.div_eq_of_lt (Nat.mod_lt _ (Nat.pow_pos (by decide)))]
          omega
        have hstep := div_step (N := N) (t := N * 2 ^ i % 2 ^ 128 / 170141183460469231731687303715884105728) hD hlt htop rfl
        have hnext : 2 * (N * 2 ^ i % 2 ^ 128) % 340282366920938463463374607431768211456 = N * 2 ^ (i + 1) % 2 ^ 128 := by
          rw [p128, Nat.pow_succ, ← Nat.mul_assoc, Nat.mul_comm 2]
          omega
        have hqb : 2 * (N / 2 ^ (128 - i) / D) + 1 < 340282366920938463463374607431768211456 := by
          have h1 : N / 2 ^ (128 - i) / D ≤ N / 2 ^ (128 - i) := Nat.div_le_self _ _
          have h2 : N / 2 ^ (128 - i) ≤ N / 2 := Nat.div_le_div_left (by have := Nat.pow_le_pow_right (n := 2) (by decide) (show 1 ≤ 128 - i by omega); omega) (by decide)
          omega
        rw [top_of _ hA]
        generalize hAg : N * 2 ^ i % 2 ^ 128 = A at *
        generalize htg : A / 170141183460469231731687303715884105728 = t at *
        generalize hRg : N / 2 ^ (128 - i) % D = R at *
        generalize hqg : N / 2 ^ (128 - i) / D = q at *
        have ht1 : t ≤ 1 := by omega
        rw [shl_of R t (by omega) ht1 rfl, shl_mod A hA, shl_of q 1 (by omega) (by omega) (z := 1) rfl, top_of R (by omega), hnext]
        have hq0 := shl_of q 0 (by omega) (by omega) (z := 0) rfl
        rw [shl_mod q (by omega), show 2 * q % 340282366920938463463374607431768211456 = 2 * q from by omega]
        rw [show ((R / 170141183460469231731687303715884105728 : Nat) : Int) = 0 from by omega]
        simp only [show decide ((0 : Int) > 0) = false from rfl, cond_false, g_less, Option.bind_some]
        by_cases hc : 2 * R + t < D
        · obtain ⟨h1, h2⟩ := hstep.1 hc
          rw [decide_eq_true hc]
          simp only [Bool.not_true, cond_false, Option.bind_some]
          refine .inl ⟨_, rfl, hlt, hlt, ?_⟩
          rw [h1, h2, wrap64 (by omega) (by omega)]
          rfl
        · obtain ⟨h1, h2⟩ := hstep.2 (by omega)
          rw [decide_eq_false hc]
          simp only [Bool.not_false, cond_true, Option.bind_some]
          rw [g_minus (by omega) (by omega)]
          simp only [Option.bind_some]
          refine .inl ⟨_, rfl, hlt, hlt, ?_⟩
          rw [h1, h2, wrap64 (by omega) (by omega)]
          rfl
      · obtain rfl : i = 128 := by omega
        rw [decide_eq_false (by omega), cond_false]
        refine .inr ⟨_, rfl, ofU (N * 2 ^ 128 % 2 ^ 128), ofU (N / 2 ^ (128 - 128) % D), ?_⟩
        rw [show N / 2 ^ (128 - 128) / D = N / D from by simp]) (s := (0, ofU N, TU.mk 0 0, TU.mk 0 0, ())) ⟨by omega, by
        have h0 : N / 2 ^ 128 = 0 := Nat.div_eq_of_lt (by omega)
        rw [show 128 - 0 = 128 from rfl, h0, Nat.pow_zero, Nat.mul_one, Nat.mod_eq_of_lt (by omega), Nat.zero_div, Nat.zero_mod]
        rfl⟩
    rw [e]
    exact ⟨_, rfl⟩
theorem g_made {num den : Nat} {neg : Bool} (hn : num < 340282366920938463463374607431768211456) (hd2 : den < 170141183460469231731687303715884105728) :
    F_ref02_Made (ofU num) neg (ofU den) = some (if den = 0 then (⟨0, 0⟩, 16) else outQ (mkRat (if neg then -(num : Int) else num) den)) := by
  unfold F_ref02_Made
  rw [ofU_zero]
  by_cases hd : den = 0
  · rw [decide_eq_true hd, if_pos hd, cond_true]
  · rw [decide_eq_false hd, if_neg hd, cond_false, g_gcd hn (by omega) (by omega)]
    simp only [Option.bind_some]
    have hab : (if neg = true then -(num : Int) else num).natAbs = num := by split <;> omega
    rw [out_red (n := if neg = true then -(num : Int) else num) (d := den) (g := Nat.gcd num den) hd (by rw [hab]), hab]
    have hgp : 0 < Nat.gcd num den := Nat.gcd_pos_of_pos_right _ (by omega)
    have hgl : Nat.gcd num den ≤ den := Nat.gcd_le_right _ (by omega)
    have hz : num = 0 → num / Nat.gcd num den = 0 := by rintro rfl; simp
    have q1 : num / Nat.gcd num den ≤ num := Nat.div_le_self _ _
    have q2 : den / Nat.gcd num den ≤ den := Nat.div_le_self _ _
    obtain ⟨z1, e1⟩ := g_div hn hgp (by omega)
    obtain ⟨z2, e2⟩ := g_div (show den < 340282366920938463463374607431768211456 by omega) hgp (by omega)
    rw [e1]
    simp only [Option.bind_some]
    rw [e2]
    simp only [Option.bind_some]
    generalize num / Nat.gcd num den = p at *
    generalize den / Nat.gcd num den = q at *
    by_cases hp : p ≤ 1152921504606846976
    · rw [ofU_small (show p < 18446744073709551616 by omega)]
      simp only [show decide ((0 : Int) > 0) = false from rfl, cond_false]
      rw [decide_eq_false (show ¬ ((p : Int) > 1152921504606846976) by omega), cond_false]
      by_cases hq : q ≤ 1152921504606846976
      · rw [ofU_small (show q < 18446744073709551616 by omega)]
        simp only [show decide ((0 : Int) > 0) = false from rfl, cond_false]
        rw [decide_eq_false (show ¬ ((q : Int) > 1152921504606846976) by omega), if_pos ⟨hp, hq⟩]
        simp only [Option.bind_some, cond_false]
        rw [wrap64 (n := (p : Int)) (by omega) (by omega), wrap64 (n := (q : Int)) (by omega) (by omega), wrap64 (by omega) (by omega)]
        cases neg
        · simp only [cond_false, Bool.false_eq_true, if_false]
          rw [if_neg (by omega)]
        · simp only [cond_true, if_true]
          by_cases h0 : num = 0
          · rw [hz h0, h0]; rfl
          · rw [if_pos (by omega), show (0 : Int) - p = -p from by omega]
      · rw [if_neg (by omega)]
        unfold ofU
        dsimp only
        by_cases hh : ((q / 18446744073709551616 : Nat) : Int) > 0
        · rw [decide_eq_true hh]; rfl
        · rw [decide_eq_false hh, decide_eq_true (show ((q % 18446744073709551616 : Nat) : Int) > 1152921504606846976 by omega)]; rfl
    · rw [if_neg (by omega)]
      have : (((bif (decide ((ofU p).h > 0)) then some (true, ()) else (bif (decide ((ofU p).l > 1152921504606846976)) then some (true, ()) else (bif (decide ((ofU q).h > 0)) then some (true, ()) else some ((decide ((ofU q).l > 1152921504606846976)), ())))) : Option (Bool × Unit))) = some (true, ()) := by
        unfold ofU
        dsimp only
        by_cases hh : ((p / 18446744073709551616 : Nat) : Int) > 0
        · rw [decide_eq_true hh]; rfl
        · rw [decide_eq_false hh, decide_eq_true (show ((p % 18446744073709551616 : Nat) : Int) > 1152921504606846976 by omega)]; rfl
      rw [this]
      rfl
end Go.Proofs.YtkagmdfhodbfmaaGreat

/- Exact numbers of the reference: its operations are those of the rational numbers. -/
namespace Go.Proofs.YtkagmdfhodbfmaaGreat
set_option linter.unusedSimpArgs false
set_option linter.unusedVariables false

theorem nat_mul_bd {a b : Nat} (ha : a ≤ 1152921504606846976) (hb : b ≤ 1152921504606846976) : a * b ≤ 1329227995784915872903807060280344576 :=
  Nat.le_trans (Nat.mul_le_mul ha hb) (by decide)
theorem sgn_mul {x y : Int} : (if (!((decide (x < 0)) == (decide (y < 0)))) = true then -((x.natAbs * y.natAbs : Nat) : Int) else ((x.natAbs * y.natAbs : Nat) : Int)) = x * y := by
  rw [Int.natCast_mul]
  by_cases c1 : x < 0 <;> by_cases c2 : y < 0
  · rw [decide_eq_true c1, decide_eq_true c2]
    simp only [beq_self_eq_true, Bool.not_true, Bool.false_eq_true, if_false]
    rw [show (x.natAbs : Int) = -x from by omega, show (y.natAbs : Int) = -y from by omega, Int.neg_mul_neg]
  · rw [decide_eq_true c1, decide_eq_false c2, show (x.natAbs : Int) = -x from by omega, show (y.natAbs : Int) = y from by omega, Int.neg_mul, Int.neg_neg]; rfl
  · rw [decide_eq_false c1, decide_eq_true c2, show (x.natAbs : Int) = x from by omega, show (y.natAbs : Int) = -y from by omega, Int.mul_neg, Int.neg_neg]; rfl
  · rw [decide_eq_false c1, decide_eq_false c2, show (x.natAbs : Int) = x from by omega, show (y.natAbs : Int) = y from by omega]; rfl
theorem rv_nat {a : TFrac} (h : RV a) : ∃ (n : Int) (d : Nat), a = ⟨n, (d : Int)⟩ ∧ 0 < d ∧ d ≤ 1152921504606846976 ∧ n.natAbs ≤ 1152921504606846976 ∧ Nat.gcd n.natAbs d = 1 ∧ qOf a = mkRat n d := by
  obtain ⟨n, d⟩ := a
  obtain ⟨x0, x1, x2, x3, x4⟩ := h
  dsimp only at *
  exact ⟨n, d.toNat, by congr 1; omega, by omega, by omega, by omega, x4, rfl⟩
theorem g_times {a b : TFrac} (ha : RV a) (hb : RV b) : F_ref02_Times a b = some (outQ (qOf a * qOf b)) := by
  obtain ⟨n1, d1, rfl, p1, u1, v1, _, e1⟩ := rv_nat ha
  obtain ⟨n2, d2, rfl, p2, u2, v2, _, e2⟩ := rv_nat hb
  unfold F_ref02_Times
  dsimp only
  rw [g_size (by omega) (by omega), g_size (by omega) (by omega), g_size (by omega) (by omega), g_size (by omega) (by omega)]
  simp only [Option.bind_some, Int.natAbs_natCast]
  have b1 := nat_mul_bd v1 v2
  have b2 := nat_mul_bd u1 u2
  rw [g_mul (by omega) (by omega), g_mul (by omega) (by omega)]
  simp only [Option.bind_some]
  rw [g_made (by omega) (by omega), if_neg (Nat.ne_of_gt (Nat.mul_pos p1 p2)), sgn_mul, e1, e2, Rat.mkRat_mul_mkRat]
  rfl
theorem g_add {a b : TFrac} (ha : RV a) (hb : RV b) : F_ref02_Add a b = some (outQ (qOf a + qOf b)) := by
  obtain ⟨n1, d1, rfl, p1, u1, v1, _, e1⟩ := rv_nat ha
  obtain ⟨n2, d2, rfl, p2, u2, v2, _, e2⟩ := rv_nat hb
  unfold F_ref02_Add
  dsimp only
  rw [g_size (by omega) (by omega), g_size (by omega) (by omega), g_size (by omega) (by omega), g_size (by omega) (by omega)]
  simp only [Option.bind_some, Int.natAbs_natCast]
  have b1 := nat_mul_bd v1 u2
  have b2 := nat_mul_bd v2 u1
  have b3 := nat_mul_bd u1 u2
  rw [g_mul (by omega) (by omega), g_mul (by omega) (by omega), g_mul (by omega) (by omega)]
  simp only [Option.bind_some]
  have hd : d1 * d2 ≠ 0 := Nat.ne_of_gt (Nat.mul_pos p1 p2)
  have es : mkRat n1 d1 + mkRat n2 d2 = mkRat (n1 * d2 + n2 * d1) (d1 * d2) := Rat.mkRat_add_mkRat _ _ (by omega) (by omega)
  rw [e1, e2, es]
  have x1 : ((n1.natAbs * d2 : Nat) : Int) = if n1 < 0 then -(n1 * d2) else n1 * d2 := by
    rw [Int.natCast_mul]; split
    · rw [← Int.neg_mul]; congr 1; omega
    · congr 1; omega
  have x2 : ((n2.natAbs * d1 : Nat) : Int) = if n2 < 0 then -(n2 * d1) else n2 * d1 := by
    rw [Int.natCast_mul]; split
    · rw [← Int.neg_mul]; congr 1; omega
    · congr 1; omega
  generalize n1.natAbs * d2 = A at *
  generalize n2.natAbs * d1 = B at *
  generalize n1 * (d2 : Int) = X at *
  generalize n2 * (d1 : Int) = Y at *
  by_cases hs : decide (n1 < 0) = decide (n2 < 0)
  · rw [beq_iff_eq.mpr hs, cond_true, g_plus (by omega)]
    simp only [Option.bind_some]
    rw [g_made (by omega) (by omega), if_neg hd]
    simp only [Option.bind_some]
    have hs := decide_eq_decide.mp hs
    rw [show (if decide (n1 < 0) = true then -((A + B : Nat) : Int) else ((A + B : Nat) : Int)) = X + Y from by
      by_cases c1 : n1 < 0
      · rw [if_pos c1] at x1; rw [if_pos (hs.mp c1)] at x2; rw [decide_eq_true c1, if_pos rfl]; omega
      · rw [if_neg c1] at x1; rw [if_neg (fun h => c1 (hs.mpr h))] at x2; rw [decide_eq_false c1, if_neg (by simp)]; omega]
  · rw [beq_eq_false_iff_ne.mpr hs, cond_false, g_less]
    simp only [Option.bind_some]
    have hs : ¬ (n1 < 0 ↔ n2 < 0) := fun h => hs (decide_eq_decide.mpr h)
    by_cases hl : A < B
    · rw [decide_eq_true hl, cond_true, g_minus (by omega) (by omega)]
      simp only [Option.bind_some]
      rw [g_made (by omega) (by omega), if_neg hd]
      simp only [Option.bind_some]
      rw [show (if decide (n2 < 0) = true then -((B - A : Nat) : Int) else ((B - A : Nat) : Int)) = X + Y from by
        by_cases c2 : n2 < 0
        · have c1 : ¬ n1 < 0 := fun h => hs ⟨fun _ => c2, fun _ => h⟩
          rw [if_neg c1] at x1; rw [if_pos c2] at x2; rw [decide_eq_true c2, if_pos rfl]; omega
        · have c1 : n1 < 0 := by
            rcases Classical.em (n1 < 0) with h | h
            · exact h
            · exact absurd ⟨fun h' => absurd h' h, fun h' => absurd h' c2⟩ hs
          rw [if_pos c1] at x1; rw [if_neg c2] at x2; rw [decide_eq_false c2, if_neg (by simp)]; omega]
    · rw [decide_eq_false hl, cond_false, g_minus (by omega) (by omega)]
      simp only [Option.bind_some]
      rw [g_made (by omega) (by omega), if_neg hd]
      simp only [Option.bind_some]
      rw [show (if decide (n1 < 0) = true then -((A - B : Nat) : Int) else ((A - B : Nat) : Int)) = X + Y from by
        by_cases c1 : n1 < 0
        · have c2 : ¬ n2 < 0 := fun h => hs ⟨fun _ => h, fun _ => c1⟩
          rw [if_pos c1] at x1; rw [if_neg c2] at x2; rw [decide_eq_true c1, if_pos rfl]; omega
        · have c2 : n2 < 0 := by
            rcases Classical.em (n2 < 0) with h | h
            · exact h
            · exact absurd ⟨fun h' => absurd h' c1, fun h' => absurd h' h⟩ hs
          rw [if_neg c1] at x1; rw [if_pos c2] at x2; rw [decide_eq_false c1, if_neg (by simp)]; omega]
end Go.Proofs.YtkagmdfhodbfmaaGreat

/- Sums, products and comparisons of fractions that fit. -/
namespace Go.Proofs.YtkagmdfhodbfmaaGreat
set_option linter.unusedVariables false
set_option linter.unusedSimpArgs false

theorem t_fit0 : fitQ (0 : Rat) := by unfold fitQ; decide
theorem t_fitint {n : Int} (h : n.natAbs ≤ 1152921504606846976) : fitQ (n : Rat) := by
  unfold fitQ
  rw [Rat.num_intCast, Rat.den_intCast]
  omega
theorem t_mul {a b : Rat} (ha : fitQ a) (hb : fitQ b) : F_ratio_Mul (frQ a) (frQ b) = some (outQ (a * b)) := by
  rw [f_rmul (fr_rv ha).1 (fr_rv hb).1, (fr_rv ha).2, (fr_rv hb).2]
theorem t_rtimes {a b : Rat} (ha : fitQ a) (hb : fitQ b) : F_ref02_Times (frQ a) (frQ b) = some (outQ (a * b)) := by
  rw [g_times (fr_rv ha).1 (fr_rv hb).1, (fr_rv ha).2, (fr_rv hb).2]
theorem t_radd {a b : Rat} (ha : fitQ a) (hb : fitQ b) : F_ref02_Add (frQ a) (frQ b) = some (outQ (a + b)) := by
  rw [g_add (fr_rv ha).1 (fr_rv hb).1, (fr_rv ha).2, (fr_rv hb).2]
end Go.Proofs.YtkagmdfhodbfmaaGreat

/- The loads of the lines, by batten and by the reference of layer 21. -/
namespace Go.Proofs.YtkagmdfhodbfmaaGreat
set_option linter.unusedVariables false
set_option linter.unusedSimpArgs false

theorem mid_of {L : Int} {x : TItem} (h : GoodItem L x) (hL : L ≤ 1048576) : IntKind.i64.wrap (x.at_ + IntKind.i64.wrap (x.width.tdiv 2)) = x.at_ + x.width / 2 := by
  have b1 := h.p0; have b2 := h.w1; have b3 := h.pw
  rw [Int.tdiv_eq_ediv_of_nonneg (by omega), wrap64 (n := x.width / 2) (by omega) (by omega), wrap64 (by omega) (by omega)]
theorem t_beamOf {s : TSet} (hg : Good s) : F_batten_beamOf s = some (setBeam s) := by
  have a6 := hg.ln1; have a7 := hg.ni; have a2 := hg.n1
  apply gs_eq
  unfold F_batten_beamOf
  refine go (f_clone_int _ (by omega)) ?_
  refine gloop (fun r : TBeam × Unit => r.1 = setBeam s) (fun k t => k ≤ s.items.length ∧ t = ((k : Int), ⟨s.name, s.length, s.lines, (s.items.take k).map (fun x => ⟨x.at_ + x.width / 2, x.weight⟩), s.pipe⟩, ())) s.items.length (by unfold big; omega) ⟨Nat.zero_le _, rfl⟩ ?_ ?_
  · rintro k t hk ⟨_, rfl⟩
    rcases Nat.lt_or_ge k s.items.length with hlt | hge
    · have hm := mid_of (hg.items _ (List.getElem_mem hlt)) a2
      have hmid : F_batten_middle s.items[k] = some (s.items[k].at_ + s.items[k].width / 2) := by unfold F_batten_middle; rw [hm]
      refine gt (decide_eq_true (by show (k : Int) < ((s.items.length : Nat) : Int); omega)) (go (idx_at hlt) (go hmid (gif (by simp; omega) (gend ⟨hlt, hlt, ?_⟩))))
      rw [List.take_succ_eq_append_getElem hlt, List.map_append]
      show (IntKind.i64.wrap ((k : Int) + 1), _, ()) = _
      rw [wrap64 (by omega) (by omega)]
      rfl
    · refine gf (decide_eq_false (by show ¬ (k : Int) < ((s.items.length : Nat) : Int); omega)) (gend ?_)
      show (⟨s.name, s.length, s.lines, (s.items.take k).map (fun x => ⟨x.at_ + x.width / 2, x.weight⟩), s.pipe⟩ : TBeam) = setBeam s
      rw [List.take_of_length_le hge]; rfl
  · rintro ⟨t, u⟩ h
    exact gend h
/-- What is small. -/
structure Sm (s : TSet) : Prop where
  fits : Fits s
  name : s.name.size ≤ 1000000
theorem sm_of {s : TSet} {m : Int} (h : smallB s m = true) : Sm s := by
  refine ⟨small_fits h, ?_⟩
  simp only [smallB, smallH, Bool.and_eq_true, decide_eq_true_eq, List.all_eq_true] at h
  omega
def linesT (s : TSet) : List TFrac × Int := if validB s = true then outL (reaL (setBeam s)) else ([], 1)
theorem t_lines {s : TSet} (h : Sm s) : F_batten_Lines s = some (linesT s) := by
  apply gs_eq
  unfold F_batten_Lines linesT
  refine go (f_valid s h.fits) ?_
  cases hv : validB s with
  | false => exact gt rfl (gend rfl)
  | true =>
    have hg := Good.of hv
    obtain ⟨h1, h2⟩ := set_valid hg
    exact gf rfl (go (t_beamOf hg) (go (f_Reactions (set_small h.name hg) h1 h2) (gend rfl)))
theorem lq_len {s : TSet} : (reaL (setBeam s)).length = s.lines.length := by unfold reaL setBeam; simp
/-- The three ways of the loads. -/
theorem lines_cases (s : TSet) : (validB s = false ∧ linesT s = ([], 1)) ∨ (validB s = true ∧ (∀ q ∈ reaL (setBeam s), fitQ q) ∧ linesT s = ((reaL (setBeam s)).map frQ, 0)) ∨ (validB s = true ∧ linesT s = ([], 5)) := by
  unfold linesT
  by_cases hv : validB s = true
  · right
    rw [if_pos hv]
    by_cases hf : ∀ q ∈ reaL (setBeam s), fitQ q
    · exact .inl ⟨hv, hf, outL_fit hf⟩
    · exact .inr ⟨hv, outL_big hf⟩
  · left
    rw [if_neg hv]
    exact ⟨by simpa using hv, rfl⟩
theorem fr_get {l : List Rat} {k : Nat} (h : k < l.length) : (l.map frQ)[k]? = some (frQ (l.getD k 0)) := by
  rw [List.getElem?_map, List.getD_eq_getElem?_getD, List.getElem?_eq_getElem h]; rfl
theorem fit_get {l : List Rat} (hf : ∀ q ∈ l, fitQ q) {k : Nat} (h : k < l.length) : fitQ (l.getD k 0) := by
  rw [List.getD_eq_getElem?_getD, List.getElem?_eq_getElem h]
  exact hf _ (List.getElem_mem h)
theorem t_weight {s : TSet} (h : Sm s) : F_batten_Weight s = some (if validB s = true then (weightI s, 0) else (0, 1)) := by
  apply gs_eq
  unfold F_batten_Weight
  refine go (f_valid s h.fits) ?_
  cases hv : validB s with
  | false => exact gt rfl (gend rfl)
  | true => exact gf rfl (go (f_weight s (Good.of hv)) (gend rfl))
end Go.Proofs.YtkagmdfhodbfmaaGreat

/- The centre of a set, by the program and by the reference. -/
namespace Go.Proofs.YtkagmdfhodbfmaaGreat
set_option linter.unusedVariables false
set_option linter.unusedSimpArgs false

theorem fit_mkR {v : Int} {d : Nat} (hv : v.natAbs ≤ 1152921504606846976) (hd0 : d ≠ 0) (hd : d ≤ 1152921504606846976) : fitQ (mkRat v d) := by
  have h1 : (mkRat v d).den ≤ d := by
    rw [Rat.den_mkRat]
    split
    · omega
    · exact Nat.div_le_self _ _
  have h2 : (mkRat v d).num.natAbs ≤ v.natAbs := by
    rw [Rat.num_mkRat, if_neg hd0, Int.natAbs_ediv_of_dvd (Int.natAbs_dvd_natAbs.1 (by rw [Int.natAbs_natCast]; exact Nat.gcd_dvd_right _ _))]
    exact Nat.div_le_self _ _
  exact ⟨by omega, by omega⟩
def turnF (x : TItem) : Int := 2 * (x.at_ + x.width / 2) * x.weight
def turnK (s : TSet) (k : Nat) : Int := s.length * pipeI s + sumTo turnF s.items k
theorem turnF_bd {s : TSet} (hg : Good s) {x : TItem} (hx : x ∈ s.items) : 0 ≤ turnF x ∧ turnF x ≤ 2199023255552 := by
  have h := hg.items x hx
  have b1 := h.p0; have b2 := h.w1; have b3 := h.pw; have b4 := h.m0; have b5 := h.m1; have a2 := hg.n1
  have c : 0 ≤ 2 * (x.at_ + x.width / 2) ∧ 2 * (x.at_ + x.width / 2) ≤ 2097152 := by omega
  exact ⟨Int.mul_nonneg c.1 b4, Int.le_trans (Int.mul_le_mul c.2 b5 b4 (by omega)) (by omega)⟩
theorem lenpipe_bd {s : TSet} (hg : Good s) : 0 ≤ s.length * pipeI s ∧ s.length * pipeI s ≤ 1152288653180928 := by
  have a1 := hg.n0; have a2 := hg.n1; have a3 := hg.p0; have a4 := hg.p1
  have hp : 0 ≤ pipeI s ∧ pipeI s ≤ 1048576 * 1048 := by
    unfold pipeI
    have h1 : 0 ≤ s.length / 1000 ∧ s.length / 1000 ≤ 1048 := by omega
    exact ⟨Int.mul_nonneg a3 h1.1, Int.mul_le_mul a4 h1.2 h1.1 (by omega)⟩
  exact ⟨Int.mul_nonneg (by omega) hp.1, Int.le_trans (Int.mul_le_mul a2 hp.2 hp.1 (by omega)) (by omega)⟩
theorem turnK_bd {s : TSet} (hg : Good s) {k : Nat} (hk : k ≤ s.items.length) : 0 ≤ turnK s k ∧ turnK s k ≤ 1152921504606846976 := by
  have h1 := lenpipe_bd hg
  have h2 := sumTo_bound turnF s.items 2199023255552 (fun x hx => turnF_bd hg hx) k hk
  have a7 := hg.ni
  unfold turnK
  omega
theorem turnK_all (s : TSet) : turnK s s.items.length = turnI s := rfl
theorem turn_step {s : TSet} (hg : Good s) {k : Nat} (hlt : k < s.items.length) : IntKind.i64.wrap (turnK s k + IntKind.i64.wrap (IntKind.i64.wrap (2 * (s.items[k].at_ + s.items[k].width / 2)) * s.items[k].weight)) = turnK s (k + 1) := by
  have h1 := turnF_bd hg (List.getElem_mem hlt)
  have h2 := turnK_bd hg (show k ≤ s.items.length by omega)
  have h := hg.items _ (List.getElem_mem hlt)
  have b1 := h.p0; have b2 := h.w1; have b3 := h.pw; have a2 := hg.n1
  rw [wrap64 (n := 2 * (s.items[k].at_ + s.items[k].width / 2)) (by omega) (by omega)]
  have e : 2 * (s.items[k].at_ + s.items[k].width / 2) * s.items[k].weight = turnF s.items[k] := rfl
  rw [e, wrap64 (n := turnF s.items[k]) (by omega) (by omega), wrap64 (by omega) (by omega)]
  unfold turnK
  rw [sumTo_succ _ _ _ hlt]
  omega
/-- The centre: twice the turn by twice the weight. -/
def centR (s : TSet) : Rat := mkRat (turnI s) (2 * weightI s).natAbs
theorem cent_fit {s : TSet} (hg : Good s) (hw : weightI s ≠ 0) : fitQ (centR s) := by
  have h1 := turnK_bd hg (Nat.le_refl _)
  rw [turnK_all] at h1
  have h2 := weight_bound hg
  exact fit_mkR (by omega) (by omega) (by omega)
theorem cent_mul {s : TSet} (hg : Good s) (hw : weightI s ≠ 0) : 2 * (centR s * ((weightI s : Int) : Rat)) = ((turnI s : Int) : Rat) := by
  have h2 := weight_bound hg
  unfold centR
  rw [Rat.mkRat_eq_div]
  have e : (((2 * weightI s).natAbs : Nat) : Rat) = 2 * ((weightI s : Int) : Rat) := by
    rw [← Rat.intCast_natCast, show (((2 * weightI s).natAbs : Nat) : Int) = 2 * weightI s from by omega, Rat.intCast_mul]
    rfl
  rw [e]
  have h0 : ((weightI s : Int) : Rat) ≠ 0 := by
    intro h
    exact hw (Rat.intCast_inj.1 (by rw [h]; rfl))
  generalize ((weightI s : Int) : Rat) = w at *
  generalize ((turnI s : Int) : Rat) = t at *
  rw [Rat.div_def]
  have : 2 * w * (2 * w)⁻¹ = 1 := Rat.mul_inv_cancel _ (by grind)
  grind
theorem t_centre {s : TSet} (h : Sm s) : F_batten_Centre s = some (if validB s = true then (if weightI s = 0 then (⟨0, 0⟩, 16) else (frQ (centR s), 0)) else (⟨0, 0⟩, 1)) := by
  apply gs_eq
  unfold F_batten_Centre
  refine go (f_valid s h.fits) ?_
  cases hv : validB s with
  | false => exact gt rfl (gend rfl)
  | true =>
    have hg := Good.of hv
    have hwb := weight_bound hg
    have hlp := lenpipe_bd hg
    have a7 := hg.ni
    refine gf rfl (go (f_weight s hg) ?_)
    by_cases hw : weightI s = 0
    · refine gt (by rw [hw]; rfl) (gend ?_)
      rw [if_pos rfl, if_pos hw]
    · refine gf (by rw [beq_eq_false_iff_ne]; exact hw) (go (f_pipe s hg) ?_)
      rw [wrap64 (n := s.length * pipeI s) (by omega) (by omega)]
      refine gloop (fun r => r = (turnI s, ())) (fun k t => k ≤ s.items.length ∧ t = (turnK s k, (k : Int), ())) s.items.length (by unfold big; omega) ⟨Nat.zero_le _, by unfold turnK; rw [sumTo_zero, Int.add_zero]; rfl⟩ ?_ ?_
      · rintro k t hk ⟨_, rfl⟩
        rcases Nat.lt_or_ge k s.items.length with hlt | hge
        · have hm := mid_of (hg.items _ (List.getElem_mem hlt)) hg.n1
          have hmid : F_batten_middle s.items[k] = some (s.items[k].at_ + s.items[k].width / 2) := by unfold F_batten_middle; rw [hm]
          refine gt (decide_eq_true (by show (k : Int) < ((s.items.length : Nat) : Int); omega)) (go (idx_at hlt) (go hmid (gend ⟨hlt, hlt, ?_⟩)))
          rw [turn_step hg hlt, wrap64 (n := (k : Int) + 1) (by omega) (by omega)]; rfl
        · have : k = s.items.length := by omega
          subst this
          exact gf (decide_eq_false (by show ¬ ((s.items.length : Nat) : Int) < ((s.items.length : Nat) : Int); omega)) (gend (by rw [turnK_all]))
      · rintro r rfl
        have ht := turnK_bd hg (Nat.le_refl _)
        rw [turnK_all] at ht
        have hmake := f_rmake (n := turnI s) (d := 2 * weightI s) (by omega) (by omega) (by omega) (by omega)
        rw [if_neg (show 2 * weightI s ≠ 0 by omega), if_neg (show ¬ 2 * weightI s < 0 by omega)] at hmake
        have hfit := fr_fit (cent_fit hg hw)
        unfold centR at hfit
        rw [hfit] at hmake
        refine go (f_weight s hg) ?_
        rw [wrap64 (n := 2 * weightI s) (by omega) (by omega)]
        refine go hmake (gend ?_)
        rw [if_pos rfl, if_neg hw]
        rfl
end Go.Proofs.YtkagmdfhodbfmaaGreat

/- The room between items that do not overlap: plain lists. -/
namespace Go.Proofs.YtkagmdfhodbfmaaGreat
set_option linter.unusedVariables false
set_option linter.unusedSimpArgs false

/-- One item ends where the other one begins, or before. -/
def Aft (x y : TItem) : Prop := x.at_ + x.width ≤ y.at_
def Apt (x y : TItem) : Prop := Aft x y ∨ Aft y x
/-- Items on a pipe, apart from each other. -/
structure Lay (L : Int) (l : List TItem) : Prop where
  it : ∀ x ∈ l, 0 ≤ x.at_ ∧ 1 ≤ x.width ∧ x.at_ + x.width ≤ L
  ap : l.Pairwise Apt
/-- In order, from a place on. -/
structure Row (L a : Int) (l : List TItem) : Prop where
  it : ∀ x ∈ l, a ≤ x.at_ ∧ 1 ≤ x.width ∧ x.at_ + x.width ≤ L
  ap : l.Pairwise Aft
  aL : a ≤ L
theorem Row.head {L a : Int} {x : TItem} {l : List TItem} (h : Row L a (x :: l)) : a ≤ x.at_ ∧ 1 ≤ x.width ∧ x.at_ + x.width ≤ L := h.it x List.mem_cons_self
theorem Lay.aft {L : Int} {l : List TItem} (h : Lay L l) (hs : l.Pairwise fun a b => a.at_ ≤ b.at_) : l.Pairwise Aft := by
  have := h.ap.and hs
  refine List.Pairwise.imp_of_mem ?_ this
  rintro x y hx hy ⟨h1, h2⟩
  rcases h1 with h1 | h1
  · exact h1
  · have := h.it x hx
    have := h.it y hy
    unfold Aft at h1 ⊢
    omega
theorem Lay.row {L : Int} {l : List TItem} (h : Lay L l) (hL : 0 ≤ L) (hs : l.Pairwise fun a b => a.at_ ≤ b.at_) : Row L 0 l := ⟨h.it, h.aft hs, hL⟩
end Go.Proofs.YtkagmdfhodbfmaaGreat

/- The sentences on sets and on the loads of their lines. -/
namespace Go.Proofs.YtkagmdfhodbfmaaGreat
set_option linter.unusedVariables false
set_option linter.unusedSimpArgs false

theorem awake21 : F_law21_awake = some true := by kernel_rfl
theorem t_large (s : TSet) : F_law21_large s = some (!smallB s 8) := by
  unfold F_law21_large
  rw [f_small]; rfl
end Go.Proofs.YtkagmdfhodbfmaaGreat

/- The loads of all lines are the weight of the set, and turn it about its centre. -/
namespace Go.Proofs.YtkagmdfhodbfmaaGreat
set_option linter.unusedVariables false
set_option linter.unusedSimpArgs false

theorem frq_int (n : Int) : (⟨n, 1⟩ : TFrac) = frQ (n : Rat) := (fr_int n).symm
theorem t_f21 (n : Int) : F_law21_f n = some (frQ (n : Rat)) := by unfold F_law21_f; rw [← frq_int]
theorem rea_get {b : TBeam} {k : Nat} (h : k < b.supports.length) : (reaL b).getD k 0 = reactB b k := by
  unfold reaL
  rw [List.getD_eq_getElem?_getD, List.getElem?_map, List.getElem?_range h]; rfl
theorem Fk_succ (b : TBeam) (k : Nat) : Fk b (k + 1) = Fk b k + reactB b k := rfl
theorem Tk_succ (b : TBeam) (k : Nat) : Tk b (k + 1) = Tk b k + reactB b k * (sp b k : Rat) := rfl
theorem main_BattenBalance (x0 : TSet) (w0 : W_Set x0) : F_law21_BattenBalance x0 = some true := by
  apply gs_eq
  unfold F_law21_BattenBalance
  refine go awake21 (gf rfl (go (t_large x0) ?_))
  cases hm : smallB x0 8 with
  | false => exact gt rfl (gend rfl)
  | true =>
    have h := sm_of hm
    refine gf rfl (go (t_lines h) (go (t_weight h) ?_))
    rcases lines_cases x0 with ⟨hv, e⟩ | ⟨hv, hf, e⟩ | ⟨hv, e⟩
    · rw [e]; exact gbt rfl (gs (gt rfl (gend rfl)))
    · have hg := Good.of hv
      have a1 := hg.n0; have a2 := hg.n1; have a6 := hg.ln1
      obtain ⟨h1, h2⟩ := set_valid hg
      obtain ⟨hb, hs⟩ := valid_in h1
      have hW : Fk (setBeam x0) x0.lines.length = ((weightI x0 : Int) : Rat) := by
        rw [← set_weight hg]; exact all_weight hb hs h2
      have hT := set_turn hg
      have hwb := weight_bound hg
      have hll : (reaL (setBeam x0)).length = x0.lines.length := lq_len
      rw [e, hv]
      simp only [if_true]
      have hlm : ((reaL (setBeam x0)).map frQ).length = x0.lines.length := by rw [List.length_map, hll]
      refine gbf rfl (gs (gf rfl (gf (by rw [hlm]; simp) (go (t_f21 0) (go (t_f21 0) ?_)))))
      have hgl : ∀ k (hk : k < x0.lines.length), ((reaL (setBeam x0)).map frQ)[k]? = some (frQ (reactB (setBeam x0) k)) ∧ fitQ (reactB (setBeam x0) k) := by
        intro k hk
        have g1 := fr_get (l := reaL (setBeam x0)) (k := k) (by omega)
        have g2 := fit_get hf (k := k) (by omega)
        rw [rea_get (show k < (setBeam x0).supports.length from hk)] at g1 g2
        exact ⟨g1, g2⟩
      refine gloop (fun r => (∃ u v, r = .inl (true, u, v, ())) ∨ (r = .inr (frQ (Fk (setBeam x0) x0.lines.length), frQ (Tk (setBeam x0) x0.lines.length), ()) ∧ fitQ (Tk (setBeam x0) x0.lines.length)))
        (fun k t => k ≤ x0.lines.length ∧ t = ((k : Int), frQ (Fk (setBeam x0) k), frQ (Tk (setBeam x0) k), ()) ∧ fitQ (Fk (setBeam x0) k) ∧ fitQ (Tk (setBeam x0) k)) x0.lines.length (by unfold big; omega) ⟨Nat.zero_le _, rfl, t_fit0, t_fit0⟩ ?_ ?_
      · rintro k t hk ⟨_, rfl, fa, fb⟩
        rcases Nat.lt_or_ge k x0.lines.length with hlt | hge
        · obtain ⟨g1, g2⟩ := hgl k hlt
          have hln : idx x0.lines (k : Int) = some x0.lines[k] := idx_at hlt
          have hspk : sp (setBeam x0) k = x0.lines[k] := set_sp hlt
          have hrg := sp_rg hs (i := k) hlt
          rw [hspk] at hrg
          have hL : (setBeam x0).length = x0.length := rfl
          have hfl : fitQ ((x0.lines[k] : Int) : Rat) := t_fitint (by omega)
          have hadd := t_radd fa g2
          have hmul := t_rtimes g2 hfl
          refine gt (decide_eq_true (by show (k : Int) < ((((reaL (setBeam x0)).map frQ).length : Nat) : Int); rw [hlm]; omega)) (go (idx_q g1) (go (at_w rfl g1) (go hadd (go hln (go (t_f21 _) (go hmul ?_))))))
          by_cases f1 : fitQ (Fk (setBeam x0) k + reactB (setBeam x0) k)
          · rw [fr_fit f1]
            by_cases f2 : fitQ (reactB (setBeam x0) k * ((x0.lines[k] : Int) : Rat))
            · rw [fr_fit f2]
              have hadd2 := t_radd fb f2
              refine gbf rfl (gs (gf rfl (go hadd2 ?_)))
              by_cases f3 : fitQ (Tk (setBeam x0) k + reactB (setBeam x0) k * ((x0.lines[k] : Int) : Rat))
              · rw [fr_fit f3]
                refine gf rfl (gend ⟨hlt, hlt, ?_, ?_, ?_⟩)
                · rw [Fk_succ, Tk_succ, hspk]
                  show (IntKind.i64.wrap ((k : Int) + 1), _, _, ()) = _
                  rw [wrap64 (by omega) (by omega)]; rfl
                · rw [Fk_succ]; exact f1
                · rw [Tk_succ, hspk]; exact f3
              · rw [fr_big f3]
                exact gt rfl (gend (.inl ⟨_, _, rfl⟩))
            · rw [fr_big f2]
              exact gbf rfl (gs (gt rfl (gend (.inl ⟨_, _, rfl⟩))))
          · rw [fr_big f1]
            exact gbt rfl (gs (gt rfl (gend (.inl ⟨_, _, rfl⟩))))
        · have : k = x0.lines.length := by omega
          subst this
          exact gf (decide_eq_false (by show ¬ ((x0.lines.length : Nat) : Int) < ((((reaL (setBeam x0)).map frQ).length : Nat) : Int); rw [hlm]; omega)) (gend (.inr ⟨rfl, fb⟩))
      · rintro r (⟨u, v, rfl⟩ | ⟨rfl, hfT⟩)
        · exact gend rfl
        · refine go (t_f21 _) (gf (by rw [hW]; simp) (go (t_centre h) ?_))
          rw [hv]
          simp only [if_true]
          by_cases hw : weightI x0 = 0
          · rw [if_pos hw]
            exact gt rfl (gbt rfl (gs (gend (by rw [hw]; rfl))))
          · rw [if_neg hw]
            have hmul := t_mul (cent_fit hg hw) (t_fitint (n := weightI x0) (by omega))
            have hcm := cent_mul hg hw
            have heq : centR x0 * ((weightI x0 : Int) : Rat) = Tk (setBeam x0) x0.lines.length := by grind
            refine gf rfl (go (t_f21 _) (go hmul ?_))
            rw [heq, fr_fit hfT]
            exact gbf rfl (gs (gend (by simp)))
    · rw [e]; exact gbt rfl (gs (gt rfl (gend rfl)))
end Go.Proofs.YtkagmdfhodbfmaaGreat
