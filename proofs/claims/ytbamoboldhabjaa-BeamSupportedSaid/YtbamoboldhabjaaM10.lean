/- Joined by merge.py: PlQ7, PlG1, PlRw, PlG2, PlG3, PlG4, PlG5, PlH1, PlJ1, PlJ1c, PlK3, PlQ8a, PlR8, PlR9, PlR10, PlK1, PlQ8, PlQ9, PlR11, PlR12, PlR13, PlR14, PlR15, PlV1, PlV2, PlV3, PlV4, PlK0, PlJ0, PlK6. -/
import Derived.Test.YtbamoboldhabjaaM09
/- Valid beams. -/
namespace Go.Proofs.Ytbamoboldhabjaa
set_option linter.unusedVariables false
set_option linter.unusedSimpArgs false

def badH1 (b : TBeam) : Bool := !nameB b.name || (decide (b.length < 1) || (decide (b.length > 1048576) || (decide (b.even < 0) || decide (b.even > 1048576))))
def badH2 (b : TBeam) : Bool := decide (((b.supports.length : Nat) : Int) < 1) || (decide (((b.supports.length : Nat) : Int) > 10) || decide (((b.loads.length : Nat) : Int) > 40))
def badS (b : TBeam) (i : Nat) : Bool := decide (sp b i < 0) || (decide (sp b i > b.length) || (decide (0 < i) && decide (sp b i ≤ sp b (i - 1))))
def badL (b : TBeam) (x : TLoad) : Bool := decide (x.at_ < 0) || (decide (x.at_ > b.length) || (decide (x.weight < 0) || decide (x.weight > 67108864)))
def validBm (b : TBeam) : Bool := !badH1 b && (!badH2 b && ((List.range b.supports.length).all (fun i => !badS b i) && b.loads.all (fun x => !badL b x)))
theorem bif_or (c d : Bool) : ((bif c then some (true, ()) else some (d, ())) : Option (Bool × Unit)) = some (c || d, ()) := by cases c <;> rfl
theorem gs_eq {γ : Type} {X : Option γ} {a : γ} (h : Gs X fun r => r = a) : X = some a := by
  obtain ⟨y, h1, rfl⟩ := h
  exact h1
theorem all_of {n : Nat} {p : Nat → Bool} (h : ∀ j, j < n → p j = true) : (List.range n).all p = true := by
  rw [List.all_eq_true]
  intro j hj
  exact h j (List.mem_range.1 hj)
theorem all_not {n : Nat} {p : Nat → Bool} {k : Nat} (hk : k < n) (h : p k = false) : (List.range n).all p = false := by
  rw [List.all_eq_false]
  exact ⟨k, List.mem_range.2 hk, by rw [h]; simp⟩
theorem f_badload (b : TBeam) (x : TLoad) : F_beam_Valid_1 x b = some (badL b x) := by
  unfold F_beam_Valid_1 badL
  simp only [bif_or, Option.bind_some]
theorem bad_sup {b : TBeam} {k : Nat} (hk : k < b.supports.length) (hn : b.supports.length ≤ 1000000) (x : Int) (hx : x = sp b k) :
    ((bif (decide (x < 0)) then some (true, ()) else (bif (decide (x > b.length)) then some (true, ()) else (bif (decide ((k : Int) > 0)) then (idx b.supports (IntKind.i64.wrap ((k : Int) - 1))).bind fun x10 => some ((decide (x ≤ x10)), ()) else some (false, ()))) : Option (Bool × Unit))) = some (badS b k, ()) := by
  subst hx
  have h : ((bif (decide ((k : Int) > 0)) then (idx b.supports (IntKind.i64.wrap ((k : Int) - 1))).bind fun x10 => some ((decide (sp b k ≤ x10)), ()) else some (false, ())) : Option (Bool × Unit)) = some (decide (0 < k) && decide (sp b k ≤ sp b (k - 1)), ()) := by
    rcases Nat.eq_zero_or_pos k with h | h
    · subst h; rfl
    · rw [decide_eq_true (show (k : Int) > 0 by omega), decide_eq_true h, wrap64 (by omega) (by omega), show (k : Int) - 1 = ((k - 1 : Nat) : Int) from by omega, sp_idx (by omega)]
      rfl
  rw [h, bif_or, bif_or]
  rfl
theorem f_bvalid {b : TBeam} (hname : b.name.size ≤ 1000000) (hn : b.supports.length ≤ 1000000) (hl : b.loads.length ≤ 1000000) : F_beam_Valid b = some (validBm b) := by
  apply gs_eq
  unfold F_beam_Valid
  rw [f_name _ (by omega)]
  simp only [Option.bind_some, bif_or]
  have hh : (!nameB b.name || (decide (b.length < 1) || (decide (b.length > 1048576) || (decide (b.even < 0) || (decide (b.even > 1048576) || (decide (((b.supports.length : Nat) : Int) < 1) || (decide (((b.supports.length : Nat) : Int) > 10) || decide (((b.loads.length : Nat) : Int) > 40)))))))) = (badH1 b || badH2 b) := by
    unfold badH1 badH2
    simp only [Bool.or_assoc]
  rw [hh]
  cases h1 : (badH1 b || badH2 b) with
  | true =>
    refine gt rfl (gend ?_)
    unfold validBm
    rw [Bool.or_eq_true] at h1
    rcases h1 with h | h <;> simp [h]
  | false =>
    rw [Bool.or_eq_false_iff] at h1
    refine gf rfl ?_
    refine gloop (fun r : (Bool × Unit) ⊕ Unit => match r with
        | .inl y => y.1 = false ∧ (List.range b.supports.length).all (fun i => !badS b i) = false
        | .inr _ => (List.range b.supports.length).all (fun i => !badS b i) = true)
      (fun k s => s = ((k : Int), ()) ∧ ∀ j, j < k → (!badS b j) = true) b.supports.length (by unfold big; omega) ⟨rfl, fun j hj => absurd hj (Nat.not_lt_zero j)⟩ ?_ ?_
    · rintro k s hk ⟨rfl, hj⟩
      rcases Nat.lt_or_ge k b.supports.length with hlt | hge
      · refine gt (decide_eq_true (by show (k : Int) < ((b.supports.length : Nat) : Int); omega)) (go (sp_idx hlt) (go (bad_sup hlt hn _ rfl) ?_))
        cases hb : badS b k with
        | true => exact gt rfl (gend ⟨rfl, all_not hlt (by rw [hb]; rfl)⟩)
        | false =>
          refine gf rfl (gend ⟨hlt, by show (IntKind.i64.wrap ((k : Int) + 1), ()) = (((k + 1 : Nat) : Int), ()); rw [wrap64 (by omega) (by omega)]; rfl, fun j hj2 => ?_⟩)
          rcases Decidable.em (j = k) with h | h
          · subst h; rw [hb]; rfl
          · exact hj j (by omega)
      · have : k = b.supports.length := by omega
        subst this
        exact gf (decide_eq_false (by show ¬ ((b.supports.length : Nat) : Int) < ((b.supports.length : Nat) : Int); omega)) (gend (all_of hj))
    · rintro (y | y) hr
      · obtain ⟨h2, h3⟩ := hr
        refine gend ?_
        unfold validBm
        rw [h3, h2]
        simp
      · simp only at hr ⊢
        refine go (f_slices_ContainsFunc_api_Load b.loads (by omega) (fun z16 => F_beam_Valid_1 z16 b) (fun x => badL b x) (fun x _ => f_badload b x)) (gend ?_)
        unfold validBm
        rw [hr, h1.1, h1.2]
        simp only [Bool.not_false, Bool.true_and]
        rw [Bool.eq_iff_iff]
        simp
theorem f_rvalid20 {b : TBeam} (hname : b.name.size ≤ 1000000) (hn : b.supports.length ≤ 1000000) (hl : b.loads.length ≤ 1000000) : F_ref20_Valid b = some (validBm b) := by
  apply gs_eq
  unfold F_ref20_Valid
  rw [f_rname _ (by omega)]
  simp only [Option.bind_some, bif_or]
  have e1 : (!nameB b.name || (decide (b.length < 1) || (decide (b.length > 1048576) || (decide (b.even < 0) || decide (b.even > 1048576))))) = badH1 b := rfl
  have e2 : (decide (((b.supports.length : Nat) : Int) < 1) || (decide (((b.supports.length : Nat) : Int) > 10) || decide (((b.loads.length : Nat) : Int) > 40))) = badH2 b := rfl
  rw [e1, e2]
  cases h1 : badH1 b with
  | true => exact gt rfl (gend (by unfold validBm; simp [h1]))
  | false =>
    cases h2 : badH2 b with
    | true => exact gf rfl (gt rfl (gend (by unfold validBm; simp [h2])))
    | false =>
      refine gf rfl (gf rfl ?_)
      refine gloop (fun r : (Bool × Unit) ⊕ Unit => match r with
          | .inl y => y.1 = false ∧ (List.range b.supports.length).all (fun i => !badS b i) = false
          | .inr _ => (List.range b.supports.length).all (fun i => !badS b i) = true)
        (fun k s => s = ((k : Int), ()) ∧ ∀ j, j < k → (!badS b j) = true) b.supports.length (by unfold big; omega) ⟨rfl, fun j hj => absurd hj (Nat.not_lt_zero j)⟩ ?_ ?_
      · rintro k s hk ⟨rfl, hj⟩
        rcases Nat.lt_or_ge k b.supports.length with hlt | hge
        · have hsel := bad_sup hlt hn _ rfl
          have pk := sp_idx hlt
          simp only [pk, Option.bind_some]
          refine gt (decide_eq_true (by omega)) (go hsel ?_)
          cases hb : badS b k with
          | true => exact gt rfl (gend ⟨rfl, all_not hlt (by rw [hb]; rfl)⟩)
          | false =>
            refine gf rfl (gend ⟨hlt, by show (IntKind.i64.wrap ((k : Int) + 1), ()) = (((k + 1 : Nat) : Int), ()); rw [wrap64 (by omega) (by omega)]; rfl, fun j hj2 => ?_⟩)
            rcases Decidable.em (j = k) with h | h
            · subst h; rw [hb]; rfl
            · exact hj j (by omega)
        · have : k = b.supports.length := by omega
          subst this
          exact gf (decide_eq_false (by show ¬ ((b.supports.length : Nat) : Int) < ((b.supports.length : Nat) : Int); omega)) (gend (all_of hj))
      · rintro (y | y) hr
        · obtain ⟨h3, h4⟩ := hr
          refine gend ?_
          unfold validBm
          rw [h4, h3]
          simp
        · simp only at hr ⊢
          refine gloop (fun r : (Bool × Unit) ⊕ Unit => match r with
              | .inl y => y.1 = false ∧ b.loads.all (fun x => !badL b x) = false
              | .inr _ => b.loads.all (fun x => !badL b x) = true)
            (fun k s => s = ((k : Int), ()) ∧ (b.loads.take k).all (fun x => !badL b x) = true) b.loads.length (by unfold big; omega) ⟨rfl, rfl⟩ ?_ ?_
          · rintro k s hk ⟨rfl, hj⟩
            rcases Nat.lt_or_ge k b.loads.length with hlt | hge
            · have pk := idx_nat hlt
              refine gt (decide_eq_true (by show (k : Int) < ((b.loads.length : Nat) : Int); omega)) (go pk ?_)
              cases hb : badL b b.loads[k] with
              | true =>
                refine gt hb (gend ⟨rfl, ?_⟩)
                rw [List.all_eq_false]
                exact ⟨_, List.getElem_mem hlt, by rw [hb]; simp⟩
              | false =>
                refine gf hb (gend ⟨hlt, by show (IntKind.i64.wrap ((k : Int) + 1), ()) = (((k + 1 : Nat) : Int), ()); rw [wrap64 (by omega) (by omega)]; rfl, ?_⟩)
                rw [List.take_succ_eq_append_getElem hlt, List.all_append, hj]
                simp [hb]
            · have : k = b.loads.length := by omega
              subst this
              rw [List.take_length] at hj
              exact gf (decide_eq_false (by show ¬ ((b.loads.length : Nat) : Int) < ((b.loads.length : Nat) : Int); omega)) (gend hj)
          · rintro (y | y) hr2
            · obtain ⟨h5, h6⟩ := hr2
              refine gend ?_
              unfold validBm
              rw [h6, h5]
              simp
            · simp only at hr2
              refine gend ?_
              unfold validBm
              rw [hr, hr2, h1, h2]
              rfl
theorem valid_in {b : TBeam} (h : validBm b = true) : BeamIn b ∧ SupOk b := by
  unfold validBm at h
  rw [Bool.and_eq_true, Bool.and_eq_true, Bool.and_eq_true] at h
  obtain ⟨h1, h2, h3, h4⟩ := h
  unfold badH1 at h1
  unfold badH2 at h2
  simp only [Bool.not_eq_true', Bool.or_eq_false_iff, decide_eq_false_iff_not] at h1 h2
  obtain ⟨_, a1, a2, a3, a4⟩ := h1
  obtain ⟨b1, b2, b3⟩ := h2
  rw [List.all_eq_true] at h3 h4
  have hS : ∀ i, i < b.supports.length → 0 ≤ sp b i ∧ sp b i ≤ b.length ∧ (0 < i → sp b (i - 1) < sp b i) := by
    intro i hi
    have := h3 i (List.mem_range.2 hi)
    unfold badS at this
    simp only [Bool.not_eq_true', Bool.or_eq_false_iff, Bool.and_eq_false_iff, decide_eq_false_iff_not] at this
    omega
  refine ⟨⟨by omega, by omega, by omega, by omega, ?_, by omega⟩, ⟨by omega, by omega, ?_, ?_⟩⟩
  · intro x hx
    have := h4 x hx
    unfold badL at this
    simp only [Bool.not_eq_true', Bool.or_eq_false_iff, decide_eq_false_iff_not] at this
    unfold LoadOk
    omega
  · intro x hx
    obtain ⟨i, hi, rfl⟩ := List.getElem_of_mem hx
    have := hS i hi
    have e : sp b i = b.supports[i] := by unfold sp; rw [List.getD_eq_getElem?_getD, List.getElem?_eq_getElem hi]; rfl
    omega
  · intro i hi
    have := (hS (i + 1) hi).2.2 (by omega)
    simpa [sp] using this
end Go.Proofs.Ytbamoboldhabjaa

/- The reference's numbers of many digits (base 2^24): trim, larger, digit, plus, minus. -/
namespace Go.Proofs.Ytbamoboldhabjaa
set_option linter.unusedVariables false
set_option linter.unusedSimpArgs false

theorem tight_snoc {d : List Int} {x : Int} (h : x ≠ 0) : tight (d ++ [x]) := by
  unfold tight; simpa using h
theorem dg_out {l : List Int} {k : Nat} (h : l.length ≤ k) : dg l k = 0 := by simp [dg, h]
theorem tight_take {l : List Int} {m : Nat} (h : m < l.length) (hx : dg l m ≠ 0) : tight (l.take (m + 1)) := by
  rw [take_snoc h]
  rw [dg_get h] at hx
  exact tight_snoc hx
theorem g_trim {neg : Bool} {l : List Int} (hd : dig (16777216 : Int) l) (hl : l.length ≤ 16500000) : ∃ r : TBig, F_ref08_trim ⟨neg, l⟩ = some r ∧ (bv (16777216 : Int) r.d = bv (16777216 : Int) l ∧ dig (16777216 : Int) r.d ∧ tight r.d ∧ r.d.length ≤ l.length ∧ (r.neg = true ↔ neg = true ∧ bv (16777216 : Int) l ≠ 0)) := by
  unfold F_ref08_trim
  refine iter_bind (Q := fun r : Int × Unit => ∃ m : Nat, r = ((m : Int), ()) ∧ m ≤ l.length ∧ bv (16777216 : Int) (l.take m) = bv (16777216 : Int) l ∧ tight (l.take m))
    (fun k s => ∃ m : Nat, s = ((m : Int), ()) ∧ m + k = l.length ∧ bv (16777216 : Int) (l.take m) = bv (16777216 : Int) l) l.length (by unfold big; omega) ?_ ⟨l.length, rfl, rfl, by rw [List.take_length]⟩ ?_
  · rintro k s hk ⟨m, rfl, hm, hv⟩
    cases m with
    | zero =>
      have e0 : decide (((0 : Nat) : Int) > 0) = false := by decide
      refine .inr ⟨_, ?_, 0, rfl, Nat.zero_le _, hv, by simp [tight]⟩
      simp only [e0, cond_false, Option.bind_some]
    | succ m =>
      have e0 : decide (((m + 1 : Nat) : Int) > 0) = true := by simp
      have e1 : IntKind.i64.wrap (((m + 1 : Nat) : Int) - 1) = (m : Int) := by rw [wrap64 (by omega) (by omega)]; omega
      have hlt : m < l.length := by omega
      simp only [e0, cond_true, e1]
      rw [idx_nat hlt, ← dg_get hlt]
      simp only [Option.bind_some]
      rcases Decidable.em (dg l m = 0) with h | h
      · have e2 : (dg l m == 0) = true := by rw [h]; rfl
        rw [e2, cond_true]
        refine .inl ⟨_, rfl, by omega, m, rfl, by omega, ?_⟩
        rw [bv_take_succ, h] at hv
        simpa using hv
      · have e2 : (dg l m == 0) = false := by simpa using h
        rw [e2, cond_false]
        exact .inr ⟨_, rfl, m + 1, rfl, by omega, hv, tight_take hlt h⟩
  · rintro _ ⟨m, rfl, hm, hv, ht⟩
    simp only [Int.toNat_natCast]
    rw [if_pos ⟨by omega, by omega, by omega⟩]
    have hd2 := dig_take hd m
    have hz := bv_zero (by decide) hd2 ht
    rw [hv] at hz
    have hd0 : List.drop (Int.toNat 0) (l.take m) = l.take m := rfl
    rw [hd0]
    rcases Decidable.em (m = 0) with h | h
    · have e2 : ((m : Int) == 0) = true := by simp [h]
      rw [e2, cond_true]
      refine ⟨_, rfl, hv, hd2, ht, by simp; omega, ?_⟩
      have : bv (16777216 : Int) l = 0 := hz.2 (by rw [h]; rfl)
      simp [this]
    · have e2 : ((m : Int) == 0) = false := by simp; omega
      rw [e2, cond_false]
      refine ⟨_, rfl, hv, hd2, ht, by simp; omega, ?_⟩
      have : bv (16777216 : Int) l ≠ 0 := fun e => by
        have hl2 : (l.take m).length = m := by simp; omega
        rw [hz.1 e] at hl2
        simp at hl2
        omega
      simp [this]
theorem g_larger (a b : List Int) (ha : dig (16777216 : Int) a) (hb : dig (16777216 : Int) b) (hta : tight a) (htb : tight b) (hla : a.length ≤ 16500000) (hlb : b.length ≤ 16500000) :
    F_ref08_larger a b = some (decide (bv (16777216 : Int) b < bv (16777216 : Int) a)) := by
  suffices h : ∃ r, F_ref08_larger a b = some r ∧ r = decide (bv (16777216 : Int) b < bv (16777216 : Int) a) by
    obtain ⟨r, h1, rfl⟩ := h
    exact h1
  unfold F_ref08_larger
  rcases Decidable.em (a.length = b.length) with he | hne
  · have e0 : (((a.length : Nat) : Int) != ((b.length : Nat) : Int)) = false := by rw [he]; simp
    rw [e0, cond_false]
    refine iter_bind (Q := fun r : (Bool × Unit) ⊕ Unit => match r with
        | .inl y => y.1 = decide (bv (16777216 : Int) b < bv (16777216 : Int) a)
        | .inr _ => false = decide (bv (16777216 : Int) b < bv (16777216 : Int) a))
      (fun k s => ∃ m, m + k = a.length ∧ s = ((m : Int) - 1, ()) ∧ a.drop m = b.drop m) a.length (by unfold big; omega) ?_ ⟨a.length, by omega, by rw [wrap64 (by omega) (by omega)], by rw [List.drop_length, he, List.drop_length]⟩ ?_
    · rintro k s hk ⟨m, hm, rfl, hdr⟩
      cases m with
      | zero =>
        have e1 : decide ((((0 : Nat) : Int) - 1) ≥ 0) = false := by decide
        refine .inr ⟨.inr (), by simp only [e1, cond_false], ?_⟩
        simp only [List.drop_zero] at hdr
        subst hdr
        exact (decide_eq_false (by omega)).symm
      | succ m =>
        have e1 : decide ((((m + 1 : Nat) : Int) - 1) ≥ 0) = true := by simp
        have e2 : (((m + 1 : Nat) : Int) - 1) = (m : Int) := by omega
        have hma : m < a.length := by omega
        have hmb : m < b.length := by omega
        have ga : dg a m = a[m] := by simp [dg, hma]
        have gb : dg b m = b[m] := by simp [dg, hmb]
        simp only [e1, cond_true]
        rw [e2, idx_nat hma, idx_nat hmb]
        simp only [Option.bind_some]
        rw [← ga, ← gb]
        rcases Decidable.em (dg a m = dg b m) with h | h
        · have e3 : (dg a m != dg b m) = false := by rw [h]; simp
          rw [e3, cond_false]
          refine .inl ⟨_, rfl, by omega, m, by omega, ?_, ?_⟩
          · rw [wrap64 (by omega) (by omega)]
          · rw [List.drop_eq_getElem_cons hma, List.drop_eq_getElem_cons hmb, hdr, ← ga, ← gb, h]
        · have e3 : (dg a m != dg b m) = true := by simpa using h
          rw [e3, cond_true]
          rcases Int.lt_or_le (dg a m) (dg b m) with h2 | h2
          · have e4 : decide (dg a m > dg b m) = false := by simp; omega
            have := bv_lt_of (by decide) ha hb he hma hdr h2
            refine .inr ⟨_, rfl, ?_⟩
            show decide (dg a m > dg b m) = _
            rw [e4]; exact (decide_eq_false (by omega)).symm
          · have e4 : decide (dg a m > dg b m) = true := by simp; omega
            have := bv_lt_of (by decide) hb ha he.symm hmb hdr.symm (by omega)
            refine .inr ⟨_, rfl, ?_⟩
            show decide (dg a m > dg b m) = _
            rw [e4]; exact (decide_eq_true (by omega)).symm
    · rintro (y | y) h
      · exact ⟨y.1, rfl, h⟩
      · exact ⟨false, rfl, h⟩
  · have e0 : (((a.length : Nat) : Int) != ((b.length : Nat) : Int)) = true := by simp; omega
    rw [e0, cond_true]
    refine ⟨_, rfl, ?_⟩
    rcases Nat.lt_or_ge a.length b.length with h | h
    · have := bv_lt_len (by decide) ha hb htb h
      rw [decide_eq_false (by omega), decide_eq_false (by omega)]
    · have := bv_lt_len (by decide) hb ha hta (by omega)
      rw [decide_eq_true (by omega), decide_eq_true (by omega)]
theorem g_digit (l : List Int) (k : Nat) : F_ref08_digit l (k : Int) = some (dg l k) := by
  unfold F_ref08_digit
  rcases Nat.lt_or_ge k l.length with h | h
  · have e0 : decide ((k : Int) < ((l.length : Nat) : Int)) = true := by simp; omega
    rw [e0, cond_true, idx_nat h, dg_get h]; rfl
  · have e0 : decide ((k : Int) < ((l.length : Nat) : Int)) = false := by simp; omega
    rw [e0, cond_false]
    have : dg l k = 0 := by simp [dg, h]
    rw [this]
theorem bv_take_all {l : List Int} {k : Nat} (h : l.length ≤ k) : bv (16777216 : Int) (l.take k) = bv (16777216 : Int) l := by rw [List.take_of_length_le h]
/-- What a sum leaves: its last digit is not 0. -/
theorem h_plus (a b : List Int) (ha : dig (16777216 : Int) a) (hb : dig (16777216 : Int) b) (hta : tight a) (htb : tight b) (hla : a.length ≤ 16500000) (hlb : b.length ≤ 16500000) :
    ∃ r, F_ref08_plus a b = some r ∧ (bv (16777216 : Int) r = bv (16777216 : Int) a + bv (16777216 : Int) b ∧ dig (16777216 : Int) r ∧ tight r ∧ r.length ≤ max a.length b.length + 1) := by
  unfold F_ref08_plus
  obtain ⟨m, hm⟩ : ∃ m, max a.length b.length = m := ⟨_, rfl⟩
  rw [hm]
  refine iter_bind (Q := fun r : List Int × Unit => bv (16777216 : Int) r.1 = bv (16777216 : Int) a + bv (16777216 : Int) b ∧ dig (16777216 : Int) r.1 ∧ tight r.1 ∧ r.1.length ≤ m + 1)
    (fun k s => ∃ c out, s = (c, (k : Int), out, ()) ∧ out.length = k ∧ dig (16777216 : Int) out ∧ 0 ≤ c ∧ c ≤ 1 ∧ bv (16777216 : Int) out + (16777216 : Int) ^ k * c = bv (16777216 : Int) (a.take k) + bv (16777216 : Int) (b.take k) ∧ (m < k → c = 0) ∧ (m ≤ k → c = 0 → tight out)) (m + 1) (by unfold big; omega) ?_ ⟨0, [], rfl, rfl, (fun x hx => nomatch hx), by omega, by omega, by simp [bv], fun _ => rfl, fun _ _ => by simp [tight]⟩ ?_
  · rintro k s hk ⟨c, out, rfl, hlo, hdo, hc0, hc1, hv, hcm, htm⟩
    simp only
    obtain ⟨t, ht1, ht2⟩ : ∃ t : Bool, ((bif (decide ((k : Int) < ((a.length : Nat) : Int))) then some (true, ()) else (bif (decide ((k : Int) < ((b.length : Nat) : Int))) then some (true, ()) else some ((decide (c > 0)), ()))) : Option (Bool × Unit)) = some (t, ()) ∧ (t = true ↔ k < m ∨ 0 < c) := by
      rcases Nat.lt_or_ge k a.length with h | h
      · have e0 : decide ((k : Int) < ((a.length : Nat) : Int)) = true := by simp; omega
        rw [e0]; exact ⟨true, rfl, by simp; omega⟩
      · have e0 : decide ((k : Int) < ((a.length : Nat) : Int)) = false := by simp; omega
        rw [e0, cond_false]
        rcases Nat.lt_or_ge k b.length with h2 | h2
        · have e0 : decide ((k : Int) < ((b.length : Nat) : Int)) = true := by simp; omega
          rw [e0]; exact ⟨true, rfl, by simp; omega⟩
        · have e0 : decide ((k : Int) < ((b.length : Nat) : Int)) = false := by simp; omega
          rw [e0, cond_false]
          exact ⟨_, rfl, by simp; omega⟩
    rw [ht1]
    simp only [Option.bind_some]
    rcases Bool.eq_false_or_eq_true t with h | h
    · have hor := ht2.1 h
      subst h
      have hkm : k < m + 1 := by
        rcases hor with h | h
        · omega
        · rcases Nat.lt_or_ge m k with h2 | h2
          · have := hcm h2; omega
          · omega
      simp only [cond_true]
      rw [g_digit, g_digit]
      simp only [Option.bind_some]
      have hx := dg_range (by decide) ha k
      have hy := dg_range (by decide) hb k
      have h1 := bv_take_succ (16777216 : Int) a k
      have h2 := bv_take_succ (16777216 : Int) b k
      obtain ⟨x, hxe⟩ : ∃ x, dg a k = x := ⟨_, rfl⟩
      obtain ⟨y, hye⟩ : ∃ y, dg b k = y := ⟨_, rfl⟩
      rw [hxe] at hx h1 ⊢
      rw [hye] at hy h2 ⊢
      have w1 : IntKind.i64.wrap (IntKind.i64.wrap (x + y) + c) = x + y + c := by rw [wrap64 (n := x + y) (by omega) (by omega), wrap64 (by omega) (by omega)]
      rw [w1, if_pos (by simp; omega), Int.tmod_eq_emod_of_nonneg (by omega), Int.tdiv_eq_ediv_of_nonneg (by omega), wrap64 (n := (x + y + c) / 16777216) (by omega) (by omega), wrap64 (n := (k : Int) + 1) (by omega) (by omega)]
      refine .inl ⟨_, rfl, hkm, _, _, rfl, by simp [hlo], dig_snoc hdo (by omega) (by omega), by omega, by omega, ?_, ?_, ?_⟩
      · rw [bv_append, hlo, h1, h2]
        simp only [bv, Int.mul_zero, Int.add_zero]
        have h3 : (16777216 : Int) ^ (k + 1) = (16777216 : Int) ^ k * (16777216 : Int) := Int.pow_succ _ _
        have h4 := Int.emod_add_mul_ediv (x + y + c) (16777216 : Int)
        rw [h3]
        generalize (x + y + c) % (16777216 : Int) = q at h4 ⊢
        generalize (x + y + c) / (16777216 : Int) = t at h4 ⊢
        generalize bv (16777216 : Int) (a.take k) = A at *
        generalize bv (16777216 : Int) (b.take k) = D at *
        grind
      · intro hlt
        have hk2 : m = k := by omega
        have : x = 0 := by rw [← hxe]; exact dg_out (by omega)
        have : y = 0 := by rw [← hye]; exact dg_out (by omega)
        omega
      · intro hle hz
        rcases Nat.lt_or_ge k m with h | h
        · -- the last digit of the longer one
          have hk2 : m = k + 1 := by omega
          have hone : x ≠ 0 ∨ y ≠ 0 := by
            rcases Nat.lt_or_ge k a.length with h3 | h3
            · left
              intro e
              have : a = a.take k ++ [a[k]] := by rw [← take_snoc h3, List.take_of_length_le (by omega)]
              apply hta
              rw [this, ← dg_get h3, hxe, e]; simp
            · right
              intro e
              have h4 : k < b.length := by omega
              have : b = b.take k ++ [b[k]] := by rw [← take_snoc h4, List.take_of_length_le (by omega)]
              apply htb
              rw [this, ← dg_get h4, hye, e]; simp
          exact tight_snoc (by omega)
        · have : x = 0 := by rw [← hxe]; exact dg_out (by omega)
          have : y = 0 := by rw [← hye]; exact dg_out (by omega)
          exact tight_snoc (by omega)
    · have hor : ¬(k < m ∨ 0 < c) := by rw [← ht2, h]; simp
      subst h
      have hc : c = 0 := by omega
      refine .inr ⟨(out, ()), by simp only [cond_false], ?_, hdo, htm (by omega) hc, by show out.length ≤ _; omega⟩
      rw [hc, bv_take_all (by omega), bv_take_all (by omega)] at hv
      show bv (16777216 : Int) out = _
      rw [← hv]; simp
  · rintro ⟨r, u⟩ ⟨q1, q2, q3, q4⟩
    exact ⟨r, rfl, q1, q2, q3, q4⟩
theorem h_minus (a b : List Int) (ha : dig (16777216 : Int) a) (hb : dig (16777216 : Int) b) (hla : a.length ≤ 16500000) (hle : b.length ≤ a.length) (hv0 : bv (16777216 : Int) b ≤ bv (16777216 : Int) a) :
    ∃ r, F_ref08_minus a b = some r ∧ (bv (16777216 : Int) r = bv (16777216 : Int) a - bv (16777216 : Int) b ∧ dig (16777216 : Int) r ∧ r.length = a.length) := by
  unfold F_ref08_minus
  refine iter_bind (Q := fun r : List Int × Unit => bv (16777216 : Int) r.1 = bv (16777216 : Int) a - bv (16777216 : Int) b ∧ dig (16777216 : Int) r.1 ∧ r.1.length = a.length)
    (fun k s => ∃ c out, s = (c, (k : Int), out, ()) ∧ k ≤ a.length ∧ out.length = k ∧ dig (16777216 : Int) out ∧ 0 ≤ c ∧ c ≤ 1 ∧ bv (16777216 : Int) out - (16777216 : Int) ^ k * c = bv (16777216 : Int) (a.take k) - bv (16777216 : Int) (b.take k)) a.length (by unfold big; omega) ?_ ⟨0, [], rfl, Nat.zero_le _, rfl, (fun x hx => nomatch hx), by omega, by omega, by simp [bv]⟩ ?_
  · rintro k s hk ⟨c, out, rfl, _, hlo, hdo, hc0, hc1, hv⟩
    rcases Nat.lt_or_ge k a.length with hlt | hge
    · have e0 : decide ((k : Int) < ((a.length : Nat) : Int)) = true := by simp; omega
      simp only [e0, cond_true]
      rw [idx_nat hlt, ← dg_get hlt, g_digit]
      simp only [Option.bind_some]
      have hx := dg_range (by decide) ha k
      have hy := dg_range (by decide) hb k
      have h1 := bv_take_succ (16777216 : Int) a k
      have h2 := bv_take_succ (16777216 : Int) b k
      obtain ⟨x, hxe⟩ : ∃ x, dg a k = x := ⟨_, rfl⟩
      obtain ⟨y, hye⟩ : ∃ y, dg b k = y := ⟨_, rfl⟩
      rw [hxe] at hx h1 ⊢
      rw [hye] at hy h2 ⊢
      have w1 : IntKind.i64.wrap (IntKind.i64.wrap (x - y) - c) = x - y - c := by rw [wrap64 (n := x - y) (by omega) (by omega), wrap64 (by omega) (by omega)]
      rw [w1]
      refine .inl (step_of hlt ?_)
      have hp : ∃ c' z, ((bif (decide (x - y - c < 0)) then some (1, (IntKind.i64.wrap (x - y - c + 16777216)), ()) else some (0, (x - y - c), ()) : Option (Int × Int × Unit))) = some (c', z, ()) ∧ 0 ≤ c' ∧ c' ≤ 1 ∧ 0 ≤ z ∧ z < 16777216 ∧ z - 16777216 * c' = x - y - c := by
        rcases Int.lt_or_le (x - y - c) 0 with h | h
        · have e : decide (x - y - c < 0) = true := by simpa using h
          rw [e]
          exact ⟨1, x - y - c + 16777216, by rw [wrap64 (by omega) (by omega)]; rfl, by omega, by omega, by omega, by omega, by omega⟩
        · have e : decide (x - y - c < 0) = false := by simpa using h
          rw [e]
          exact ⟨0, x - y - c, rfl, by omega, by omega, by omega, by omega, by omega⟩
      obtain ⟨c', z, p1, p2, p3, p4, p5, p6⟩ := hp
      rw [p1]
      simp only [Option.bind_some]
      rw [if_pos (by simp; omega), wrap64 (n := (k : Int) + 1) (by omega) (by omega)]
      refine ⟨_, rfl, _, rfl, c', _, rfl, hlt, by simp [hlo], dig_snoc hdo p4 p5, p2, p3, ?_⟩
      rw [bv_append, hlo, h1, h2]
      simp only [bv, Int.mul_zero, Int.add_zero]
      have h3 : (16777216 : Int) ^ (k + 1) = (16777216 : Int) ^ k * (16777216 : Int) := Int.pow_succ _ _
      rw [h3]
      generalize bv (16777216 : Int) (a.take k) = A at *
      generalize bv (16777216 : Int) (b.take k) = D at *
      grind
    · have hk' : k = a.length := by omega
      subst hk'
      have e0 : decide (((a.length : Nat) : Int) < ((a.length : Nat) : Int)) = false := by simp
      refine .inr ⟨(out, ()), by simp only [e0, cond_false], ?_, hdo, hlo⟩
      rw [List.take_length, bv_take_all hle] at hv
      have hr := bv_range (by decide) hdo
      rw [hlo] at hr
      show bv (16777216 : Int) out = _
      have hc : c = 0 := by
        rcases Int.lt_or_le c 1 with h | h
        · omega
        · have : c = 1 := by omega
          rw [this, Int.mul_one] at hv
          omega
      rw [hc, Int.mul_zero, Int.sub_zero] at hv
      exact hv
  · rintro ⟨r, u⟩ ⟨q1, q2, q3⟩
    exact ⟨r, rfl, q1, q2, q3⟩
end Go.Proofs.Ytbamoboldhabjaa

/- The reference's numbers of many digits: Int, Neg, Product, Sum, half, even. -/
namespace Go.Proofs.Ytbamoboldhabjaa
set_option linter.unusedVariables false
set_option linter.unusedSimpArgs false

theorem r_size {n : Int} (h : -9223372036854775808 ≤ n) (h2 : n ≤ 9223372036854775807) : F_ref02_Size n = some (n.natAbs : Int) := by
  unfold F_ref02_Size
  rw [wrap_u, wrap_u]
  by_cases hn : n < 0
  · rw [decide_eq_true hn, cond_true]; congr 1; omega
  · rw [decide_eq_false hn, cond_false]; congr 1; omega
/-- Digits of the reference: their value is a natural number. -/
structure Wg (l : List Int) (v : Nat) : Prop where
  dig : dig (16777216 : Int) l
  tight : tight l
  len : l.length ≤ 16000000
  val : bv (16777216 : Int) l = v
/-- An integer of the reference. -/
structure Nb (a : TBig) (v : Int) : Prop where
  w : Wg a.d v.natAbs
  neg : a.neg = true ↔ v < 0
  len : a.d.length ≤ 8000000
theorem Wg.zero {l : List Int} {v : Nat} (h : Wg l v) : l = [] ↔ v = 0 := by
  rw [← bv_zero (by decide) h.dig h.tight, h.val]; omega
theorem Wg.lt {l : List Int} {v : Nat} (h : Wg l v) : v < 2 ^ (24 * l.length) := by
  have h1 := (bv_range (by decide) h.dig).2
  rw [h.val] at h1
  have e : (16777216 : Int) ^ l.length = ((2 ^ (24 * l.length) : Nat) : Int) := by
    rw [Nat.pow_mul, Int.natCast_pow]; rfl
  rw [e] at h1
  exact_mod_cast h1
theorem Wg.le {a b : List Int} {u v : Nat} (ha : Wg a u) (hb : Wg b v) (h : u ≤ v) : a.length ≤ b.length := by
  rcases Nat.lt_or_ge b.length a.length with hl | hl
  · have := bv_lt_len (by decide) hb.dig ha.dig ha.tight hl
    rw [ha.val, hb.val] at this
    omega
  · exact hl
theorem Wg.add {a b : List Int} {u v : Nat} (ha : Wg a u) (hb : Wg b v) (hl : max a.length b.length + 1 ≤ 16000000) : ∃ r, F_ref08_plus a b = some r ∧ Wg r (u + v) ∧ r.length ≤ max a.length b.length + 1 := by
  obtain ⟨r, r1, r2, r3, r4, r5⟩ := h_plus a b ha.dig hb.dig ha.tight hb.tight (by have := ha.len; omega) (by have := hb.len; omega)
  exact ⟨r, r1, ⟨r3, r4, by omega, by rw [r2, ha.val, hb.val]; omega⟩, r5⟩
theorem Wg.larger {a b : List Int} {u v : Nat} (ha : Wg a u) (hb : Wg b v) : F_ref08_larger a b = some (decide (v < u)) := by
  rw [g_larger a b ha.dig hb.dig ha.tight hb.tight (by have := ha.len; omega) (by have := hb.len; omega), ha.val, hb.val]
  congr 1; apply decide_eq_decide.mpr; omega
/-- minus, and trim after it. -/
theorem Wg.sub {a b : List Int} {u v : Nat} (neg : Bool) (ha : Wg a u) (hb : Wg b v) (h : v ≤ u) : ∃ r t, F_ref08_minus a b = some r ∧ F_ref08_trim ⟨neg, r⟩ = some t ∧ Wg t.d (u - v) ∧ t.d.length ≤ a.length ∧ (t.neg = true ↔ neg = true ∧ u - v ≠ 0) := by
  obtain ⟨r, r1, r2, r3, r4⟩ := h_minus a b ha.dig hb.dig (by have := ha.len; omega) (hb.le ha h) (by rw [ha.val, hb.val]; omega)
  obtain ⟨t, t1, t2, t3, t4, t5, t6⟩ := g_trim (neg := neg) r3 (by rw [r4]; have := ha.len; omega)
  have hv : bv (16777216 : Int) r = ((u - v : Nat) : Int) := by rw [r2, ha.val, hb.val]; omega
  refine ⟨r, t, r1, t1, ⟨t3, t4, by have := ha.len; omega, by rw [t2, hv]⟩, by omega, ?_⟩
  rw [t6, hv]
  exact and_congr_right fun _ => by omega
theorem g_int (n : Int) (h1 : -9223372036854775808 ≤ n) (h2 : n ≤ 9223372036854775807) : ∃ r, F_ref08_Int n = some r ∧ Nb r n ∧ r.d.length ≤ 3 := by
  unfold F_ref08_Int
  rw [r_size h1 h2]
  simp only [Option.bind_some]
  refine iter_bind (Q := fun r : TBig × Unit => Nb r.1 n ∧ r.1.d.length ≤ 3)
    (fun k s => ∃ (m : Nat) (out : List Int), s = ((m : Int), ⟨decide (n < 0), out⟩, ()) ∧ out.length = k ∧ dig (16777216 : Int) out ∧ bv (16777216 : Int) out + (16777216 : Int) ^ k * m = n.natAbs ∧ (m = 0 → tight out)) 3 (by unfold big; omega) ?_ ⟨n.natAbs, [], rfl, rfl, (fun x hx => nomatch hx), by simp [bv], fun _ => by simp [tight]⟩ ?_
  · rintro k s hk ⟨m, out, rfl, hlo, hdo, hv, ht⟩
    have hr := (bv_range (by decide) hdo).1
    have hp : 0 < (16777216 : Int) ^ k := Int.pow_pos (by decide)
    have hmb : (m : Int) ≤ n.natAbs := by
      have := Int.mul_le_mul_of_nonneg_right (show 1 ≤ (16777216 : Int) ^ k from hp) (show 0 ≤ (m : Int) by omega)
      omega
    rcases Nat.eq_zero_or_pos m with h | h
    · subst h
      have e0 : decide (((0 : Nat) : Int) > 0) = false := by decide
      refine .inr ⟨(⟨decide (n < 0), out⟩, ()), by simp only [e0, cond_false], ⟨⟨hdo, ht rfl, by show out.length ≤ _; omega, ?_⟩, by simp, by show out.length ≤ _; omega⟩, by show out.length ≤ _; omega⟩
      show bv (16777216 : Int) out = _
      rw [← hv]; simp
    · have e0 : decide ((m : Int) > 0) = true := by simp; omega
      have hk3 : k < 3 := by
        rcases Nat.lt_or_ge k 3 with h3 | h3
        · exact h3
        · have : k = 3 := by omega
          subst this
          omega
      have w1 : IntKind.u64.wrap ((m : Int).tdiv 16777216) = ((m / 16777216 : Nat) : Int) := by
        rw [Int.tdiv_eq_ediv_of_nonneg (by omega), wrap_u]; omega
      have w2 : IntKind.i64.wrap ((m : Int).tmod 16777216) = ((m % 16777216 : Nat) : Int) := by
        rw [Int.tmod_eq_emod_of_nonneg (by omega), wrap64 (by omega) (by omega)]; omega
      refine .inl ⟨_, ?_, hk3, m / 16777216, out ++ [((m % 16777216 : Nat) : Int)], rfl, by simp [hlo], dig_snoc hdo (by omega) (by omega), ?_, fun hz => tight_snoc (by omega)⟩
      · simp only [e0, cond_true]
        rw [w1, w2, if_pos (by simp; omega)]
      · rw [bv_append, hlo, ← hv]
        simp only [bv, Int.mul_zero, Int.add_zero]
        have h3 : (16777216 : Int) ^ (k + 1) = (16777216 : Int) ^ k * (16777216 : Int) := Int.pow_succ _ _
        have h4 : (m : Int) = ((m % 16777216 : Nat) : Int) + 16777216 * ((m / 16777216 : Nat) : Int) := by omega
        rw [h3]
        generalize ((m % 16777216 : Nat) : Int) = q at h4 ⊢
        generalize ((m / 16777216 : Nat) : Int) = t at h4 ⊢
        rw [h4]
        grind
  · rintro ⟨r, u⟩ ⟨q1, q2⟩
    exact ⟨r, rfl, q1, q2⟩
theorem g_neg {a : TBig} {v : Int} (h : Nb a v) : ∃ r, F_ref08_Neg a = some r ∧ Nb r (-v) ∧ r.d = a.d := by
  unfold F_ref08_Neg
  have hz := h.w.zero
  have hw : Wg a.d (-v).natAbs := by rw [Int.natAbs_neg]; exact h.w
  cases hn : a.neg with
  | false =>
    have h2 := h.neg
    rw [hn] at h2
    refine ⟨_, rfl, ⟨hw, ?_, h.len⟩, rfl⟩
    show decide (((a.d.length : Nat) : Int) > 0) = true ↔ -v < 0
    rw [decide_eq_true_iff]
    have : 0 < a.d.length ↔ a.d ≠ [] := List.length_pos_iff
    rw [ne_eq, hz] at this
    simp at h2
    omega
  | true =>
    have h2 := h.neg
    rw [hn] at h2
    refine ⟨_, rfl, ⟨hw, ?_, h.len⟩, rfl⟩
    simp at h2 ⊢; omega
set_option maxHeartbeats 1000000 in
theorem g_product {a b : TBig} {v w : Int} (ha : Nb a v) (hb : Nb b w) (hl : a.d.length + b.d.length + 1 ≤ 8000000) : ∃ r, F_ref08_Product a b = some r ∧ Nb r (v * w) ∧ r.d.length ≤ a.d.length + b.d.length + 1 := by
  unfold F_ref08_Product
  have hw : IntKind.i64.wrap ((IntKind.i64.wrap (((a.d.length : Nat) : Int) + ((b.d.length : Nat) : Int))) + 1) = ((a.d.length + b.d.length + 1 : Nat) : Int) := by rw [wrap64 (n := ((a.d.length : Nat) : Int) + ((b.d.length : Nat) : Int)) (by omega) (by omega), wrap64 (by omega) (by omega)]; omega
  rw [hw, if_pos ⟨by omega, by omega⟩]
  simp only [Int.toNat_natCast]
  have hda := ha.w.dig
  have hdb := hb.w.dig
  obtain ⟨x, hx⟩ : ∃ x, a.d = x := ⟨_, rfl⟩
  obtain ⟨y, hy⟩ : ∃ y, b.d = y := ⟨_, rfl⟩
  rw [hx] at hda hl ⊢
  rw [hy] at hdb hl ⊢
  refine iter_bind (Q := fun r : List Int × Unit => bv (16777216 : Int) r.1 = bv (16777216 : Int) x * bv (16777216 : Int) y ∧ dig (16777216 : Int) r.1 ∧ r.1.length = x.length + y.length + 1)
    (fun i s => ∃ out, s = ((i : Int), out, ()) ∧ i ≤ x.length ∧ out.length = x.length + y.length + 1 ∧ dig (16777216 : Int) out ∧ bv (16777216 : Int) out = bv (16777216 : Int) (x.take i) * bv (16777216 : Int) y ∧ ∀ q, i + y.length ≤ q → dg out q = 0)
    x.length (by unfold big; omega) ?_ ⟨List.replicate (x.length + y.length + 1) 0, rfl, Nat.zero_le _, by simp, ?_, ?_, ?_⟩ ?_
  · rintro i s hi ⟨out, rfl, _, hlen, hdo, hv, hz⟩
    rcases Nat.lt_or_ge i x.length with hlt | hge
    · refine .inl (step_of hlt ?_)
      have e0 : decide ((i : Int) < ((x.length : Nat) : Int)) = true := by simp; omega
      simp only [e0, cond_true]
      have hxi := dg_range (by decide) hda i
      obtain ⟨p, hp⟩ : ∃ p, dg x i = p := ⟨_, rfl⟩
      rw [hp] at hxi
      refine iter_bind (Q := fun r : List Int × Unit => r.1.length = x.length + y.length + 1 ∧ dig (16777216 : Int) r.1 ∧ bv (16777216 : Int) r.1 = bv (16777216 : Int) out + p * bv (16777216 : Int) y * (16777216 : Int) ^ i ∧ ∀ q, i + 1 + y.length ≤ q → dg r.1 q = 0)
        (fun k s => ∃ c o2, s = (c, (k : Int), o2, ()) ∧ k ≤ y.length + 1 ∧ o2.length = x.length + y.length + 1 ∧ dig (16777216 : Int) o2 ∧ 0 ≤ c ∧ c < (16777216 : Int) ∧ bv (16777216 : Int) o2 + (16777216 : Int) ^ (i + k) * c = bv (16777216 : Int) out + p * bv (16777216 : Int) (y.take k) * (16777216 : Int) ^ i ∧ (y.length < k → c = 0) ∧ ∀ q, i + k ≤ q → dg o2 q = dg out q)
        (y.length + 1) (by unfold big; omega) ?_ ⟨0, out, rfl, Nat.zero_le _, hlen, hdo, by omega, by omega, by simp [bv], fun _ => rfl, fun _ _ => rfl⟩ ?_
      · rintro k s hk ⟨c, o2, rfl, _, hl2, hd2, hc0, hc1, hv2, hcz, hz2⟩
        simp only
        obtain ⟨t, ht1, ht2⟩ : ∃ t : Bool, ((bif (decide ((k : Int) < ((y.length : Nat) : Int))) then some (true, ()) else some ((decide (c > 0)), ())) : Option (Bool × Unit)) = some (t, ()) ∧ (t = true ↔ k < y.length ∨ 0 < c) := by
          rcases Nat.lt_or_ge k y.length with h | h
          · have e0 : decide ((k : Int) < ((y.length : Nat) : Int)) = true := by simp; omega
            rw [e0]; exact ⟨true, rfl, by simp; omega⟩
          · have e0 : decide ((k : Int) < ((y.length : Nat) : Int)) = false := by simp; omega
            rw [e0, cond_false]
            exact ⟨_, rfl, by simp; omega⟩
        rw [ht1]
        simp only [Option.bind_some]
        rcases Bool.eq_false_or_eq_true t with ht | ht
        · have hor := ht2.1 ht
          subst ht
          have hkl : k < y.length + 1 := by
            rcases hor with h | h
            · omega
            · rcases Nat.lt_or_ge y.length k with h2 | h2
              · have := hcz h2; omega
              · omega
          have hyk := dg_range (by decide) hdb k
          have hok := dg_range (by decide) hd2 (i + k)
          have hik : i + k < o2.length := by omega
          have e2 : IntKind.i64.wrap ((i : Int) + (k : Int)) = ((i + k : Nat) : Int) := by rw [wrap64 (by omega) (by omega)]; omega
          simp only [cond_true]
          rw [e2, idx_nat hik]
          simp only [Option.bind_some, Int.toNat_natCast]
          rw [List.getElem?_eq_getElem hik, ← dg_get hik]
          simp only [Option.bind_some]
          rw [idx_nat hlt, ← dg_get hlt, hp, g_digit]
          simp only [Option.bind_some]
          have htk := bv_take_succ (16777216 : Int) y k
          obtain ⟨g, hg⟩ : ∃ g, dg y k = g := ⟨_, rfl⟩
          obtain ⟨z, hzz⟩ : ∃ z, dg o2 (i + k) = z := ⟨_, rfl⟩
          rw [hg] at hyk htk ⊢
          rw [hzz] at hok ⊢
          have hpg0 : 0 ≤ p * g := Int.mul_nonneg hxi.1 hyk.1
          have hpg1 : p * g ≤ 16777215 * 16777215 := Int.mul_le_mul (by omega) (by omega) hyk.1 (by omega)
          obtain ⟨pg, hpg⟩ : ∃ pg, p * g = pg := ⟨_, rfl⟩
          rw [hpg] at hpg0 hpg1 ⊢
          have w1 : IntKind.i64.wrap (IntKind.i64.wrap (z + IntKind.i64.wrap pg) + c) = c + (pg + z) := by
            rw [wrap64 (n := pg) (by omega) (by omega), wrap64 (n := z + pg) (by omega) (by omega), wrap64 (by omega) (by omega)]; omega
          rw [w1, Int.tmod_eq_emod_of_nonneg (by omega), Int.tdiv_eq_ediv_of_nonneg (by omega), wrap64 (n := (c + (pg + z)) / 16777216) (by omega) (by omega), wrap64 (n := (k : Int) + 1) (by omega) (by omega)]
          refine .inl ⟨_, rfl, hkl, _, _, rfl, hkl, by simp [hl2], dig_set hd2 (by omega) (by omega), by omega, by omega, ?_, ?_, ?_⟩
          · rw [bv_set _ _ _ _ hik, htk, hzz]
            have he := Int.emod_add_mul_ediv (c + (pg + z)) (16777216 : Int)
            generalize (c + (pg + z)) % (16777216 : Int) = q at he ⊢
            generalize (c + (pg + z)) / (16777216 : Int) = t at he ⊢
            have h1 : (16777216 : Int) ^ (i + (k + 1)) = (16777216 : Int) ^ (i + k) * (16777216 : Int) := by rw [← Nat.add_assoc]; exact Int.pow_succ _ _
            have h2 : (16777216 : Int) ^ (i + k) = (16777216 : Int) ^ i * (16777216 : Int) ^ k := Int.pow_add _ _ _
            rw [h1]
            have h3 : p * (bv (16777216 : Int) (y.take k) + (16777216 : Int) ^ k * g) * (16777216 : Int) ^ i = p * bv (16777216 : Int) (y.take k) * (16777216 : Int) ^ i + (16777216 : Int) ^ (i + k) * pg := by rw [h2, ← hpg]; grind
            rw [h3]
            grind
          · intro hlt2
            have hky : k = y.length := by omega
            have hg0 : g = 0 := by rw [← hg]; exact dg_out (by omega)
            have hz0 : z = 0 := by rw [← hzz, hz2 _ (Nat.le_refl _)]; exact hz _ (by omega)
            have : pg = 0 := by rw [← hpg, hg0]; simp
            omega
          · intro q hq
            rw [dg_set (by omega)]
            exact hz2 q (by omega)
        · have hor : ¬(k < y.length ∨ 0 < c) := by rw [← ht2, ht]; simp
          subst ht
          have hc : c = 0 := by omega
          refine .inr ⟨(o2, ()), by simp only [cond_false], hl2, hd2, ?_, fun q hq => (hz2 q (by omega)).trans (hz q (by omega))⟩
          rw [hc, bv_take_all (by omega)] at hv2
          show bv (16777216 : Int) o2 = _
          rw [← hv2]; simp
      · rintro ⟨o2, u⟩ ⟨q1, q2, q3, q4⟩
        simp only at q1 q2 q3 q4 ⊢
        rw [wrap64 (n := (i : Int) + 1) (by omega) (by omega)]
        refine ⟨_, rfl, _, rfl, _, rfl, hlt, q1, q2, ?_, q4⟩
        rw [bv_take_succ, hp, q3, hv]
        grind
    · have hi' : i = x.length := by omega
      subst hi'
      have e0 : decide (((x.length : Nat) : Int) < ((x.length : Nat) : Int)) = false := by simp
      refine .inr ⟨(out, ()), by simp only [e0, cond_false], ?_, hdo, hlen⟩
      rw [List.take_length] at hv
      exact hv
  · intro z hz
    have := List.eq_of_mem_replicate hz
    omega
  · rw [bv_zeros]; simp [bv]
  · intro q _
    unfold dg
    simp only [List.getD_eq_getElem?_getD, List.getElem?_replicate]
    split <;> rfl
  · rintro ⟨r, u⟩ ⟨q1, q2, q3⟩
    simp only at q1 q2 q3 ⊢
    obtain ⟨t, t1, t2, t3, t4, t5, t6⟩ := g_trim (neg := !(a.neg == b.neg)) q2 (by omega)
    rw [t1]
    have va := ha.w.val
    have vb := hb.w.val
    rw [hx] at va
    rw [hy] at vb
    have hv : bv (16777216 : Int) r = (((v * w).natAbs : Nat) : Int) := by rw [q1, va, vb, Int.natAbs_mul]; simp
    refine ⟨_, rfl, ⟨⟨t3, t4, by omega, by rw [t2, hv]⟩, ?_, by omega⟩, by omega⟩
    rw [t6, hv]
    have na := ha.neg
    have nb := hb.neg
    have hsg : v * w < 0 ↔ (v < 0 ∧ 0 < w) ∨ (0 < v ∧ w < 0) := by
      constructor
      · intro h
        rcases Int.lt_trichotomy v 0 with h1 | h1 | h1
        · rcases Int.lt_or_le 0 w with h2 | h2
          · exact .inl ⟨h1, h2⟩
          · have := Int.mul_nonneg_of_nonpos_of_nonpos (Int.le_of_lt h1) h2
            omega
        · subst h1; simp at h
        · rcases Int.lt_or_le w 0 with h2 | h2
          · exact .inr ⟨h1, h2⟩
          · have := Int.mul_nonneg (Int.le_of_lt h1) h2
            omega
      · rintro (⟨h1, h2⟩ | ⟨h1, h2⟩)
        · exact Int.mul_neg_of_neg_of_pos h1 h2
        · exact Int.mul_neg_of_pos_of_neg h1 h2
    have hnz : (((v * w).natAbs : Nat) : Int) ≠ 0 ↔ v ≠ 0 ∧ w ≠ 0 := by
      rw [show ((((v * w).natAbs : Nat) : Int) ≠ 0 ↔ v * w ≠ 0) from by omega]
      simp [Int.mul_eq_zero]
    rw [hsg, hnz]
    cases hna : a.neg <;> cases hnb : b.neg <;> rw [hna] at na <;> rw [hnb] at nb <;> simp at na nb ⊢ <;> omega
theorem g_sum {a b : TBig} {v w : Int} (ha : Nb a v) (hb : Nb b w) (hl : max a.d.length b.d.length + 1 ≤ 8000000) : ∃ r, F_ref08_Sum a b = some r ∧ Nb r (v + w) ∧ r.d.length ≤ max a.d.length b.d.length + 1 := by
  unfold F_ref08_Sum
  have na := ha.neg
  have nb := hb.neg
  rcases Decidable.em (a.neg = b.neg) with he | hne
  · have e0 : (a.neg == b.neg) = true := by simpa using he
    rw [e0, cond_true]
    obtain ⟨r, r1, r2, r3⟩ := ha.w.add hb.w (by omega)
    rw [r1]
    have hs : (v < 0 ↔ w < 0) := by rw [← na, ← nb, he]
    refine ⟨_, rfl, ⟨?_, ?_, by show r.length ≤ _; omega⟩, r3⟩
    · rw [show (v + w).natAbs = v.natAbs + w.natAbs from by omega]; exact r2
    · show a.neg = true ↔ _
      rw [na]; omega
  · have e0 : (a.neg == b.neg) = false := by simpa using hne
    rw [e0, cond_false, hb.w.larger ha.w]
    simp only [Option.bind_some]
    have hs : ¬(v < 0 ↔ w < 0) := by
      rw [← na, ← nb]
      cases ha2 : a.neg <;> cases hb2 : b.neg <;> simp [ha2, hb2] at hne ⊢
    rcases Nat.lt_or_ge v.natAbs w.natAbs with h | h
    · rw [decide_eq_true h]
      simp only [cond_true, Option.bind_some]
      obtain ⟨r, t, r1, t1, t2, t3, t4⟩ := hb.w.sub b.neg ha.w (Nat.le_of_lt h)
      rw [r1]
      simp only [Option.bind_some]
      rw [t1]
      refine ⟨t, rfl, ⟨?_, ?_, by omega⟩, by omega⟩
      · rw [show (v + w).natAbs = w.natAbs - v.natAbs from by omega]; exact t2
      · rw [t4, nb]; omega
    · rw [decide_eq_false (by omega)]
      simp only [cond_false, Option.bind_some]
      obtain ⟨r, t, r1, t1, t2, t3, t4⟩ := ha.w.sub a.neg hb.w h
      rw [r1]
      simp only [Option.bind_some]
      rw [t1]
      refine ⟨t, rfl, ⟨?_, ?_, by omega⟩, by omega⟩
      · rw [show (v + w).natAbs = v.natAbs - w.natAbs from by omega]; exact t2
      · rw [t4, na]; omega
end Go.Proofs.Ytbamoboldhabjaa

/- The reference's numbers of many digits: Gcd. -/
namespace Go.Proofs.Ytbamoboldhabjaa
set_option linter.unusedVariables false
set_option linter.unusedSimpArgs false

theorem Wg.ne {l : List Int} {v : Nat} (h : Wg l v) (hv : 0 < v) : 0 < l.length := by
  apply List.length_pos_iff.2
  intro e
  have := h.zero.1 e
  omega
end Go.Proofs.Ytbamoboldhabjaa

/- The reference's exact numbers: Quotient, Lower; Plus, Less, Times, Over, Sign, Cmp as rational numbers. -/
namespace Go.Proofs.Ytbamoboldhabjaa
set_option linter.unusedVariables false
set_option linter.unusedSimpArgs false

/-- An exact number of the reference, with at most c digits. -/
structure Gq (x : TExact) (q : Rat) (c : Nat) : Prop where
  ex : ∃ v w : Int, Nb x.n v ∧ Nb x.d w ∧ 0 < w ∧ q * (w : Rat) = (v : Rat)
  ln : x.n.d.length ≤ c
  ld : x.d.d.length ≤ c
theorem Gq.mono {x : TExact} {q : Rat} {c e : Nat} (h : Gq x q c) (hc : c ≤ e) : Gq x q e := ⟨h.ex, Nat.le_trans h.ln hc, Nat.le_trans h.ld hc⟩
theorem Gq.cast {x : TExact} {q r : Rat} {c : Nat} (h : Gq x q c) (e : q = r) : Gq x r c := e ▸ h
theorem g_plusq {x y : TExact} {q r : Rat} {c e : Nat} (hx : Gq x q c) (hy : Gq y r e) (hm : c + e + 2 ≤ 8000000) : ∃ z, F_ref08_Plus x y = some z ∧ Gq z (q + r) (c + e + 2) := by
  unfold F_ref08_Plus
  have l1 := hx.ln
  have l2 := hx.ld
  have l3 := hy.ln
  have l4 := hy.ld
  obtain ⟨v1, w1, n1, d1, p1, h1⟩ := hx.ex
  obtain ⟨v2, w2, n2, d2, p2, h2⟩ := hy.ex
  obtain ⟨a, a1, a2, a3⟩ := g_product n1 d2 (by omega)
  obtain ⟨b, b1, b2, b3⟩ := g_product n2 d1 (by omega)
  obtain ⟨s, s1, s2, s3⟩ := g_sum a2 b2 (by omega)
  obtain ⟨d, d1', d2', d3'⟩ := g_product d1 d2 (by omega)
  rw [a1, b1]
  simp only [Option.bind_some]
  rw [s1, d1']
  refine ⟨_, rfl, ⟨_, _, s2, d2', Int.mul_pos p1 p2, ?_⟩, by show s.d.length ≤ _; omega, by show d.d.length ≤ _; omega⟩
  simp only [Rat.intCast_mul, Rat.intCast_add]
  grind
theorem g_lessq {x y : TExact} {q r : Rat} {c e : Nat} (hx : Gq x q c) (hy : Gq y r e) (hm : c + e + 2 ≤ 8000000) : ∃ z, F_ref08_Less x y = some z ∧ Gq z (q - r) (c + e + 2) := by
  unfold F_ref08_Less
  obtain ⟨v2, w2, n2, d2, p2, h2⟩ := hy.ex
  obtain ⟨a, a1, a2, a3⟩ := g_neg n2
  rw [a1]
  simp only [Option.bind_some]
  obtain ⟨z, z1, z2⟩ := g_plusq (y := ⟨a, y.d⟩) (r := -r) hx ⟨⟨_, _, a2, d2, p2, by simp only [Rat.intCast_neg]; grind⟩, by rw [a3]; exact hy.ln, hy.ld⟩ hm
  rw [z1]
  exact ⟨z, rfl, z2.cast (by rw [Rat.sub_eq_add_neg])⟩
theorem g_sign {x : TExact} {q : Rat} {c : Nat} (hx : Gq x q c) : ∃ s, F_ref08_Sign x = some s ∧ (s = 0 ↔ q = 0) := by
  unfold F_ref08_Sign
  obtain ⟨v, w, n, d, p, h⟩ := hx.ex
  have hz : q = 0 ↔ v = 0 := by
    have hw := int_ne (show w ≠ 0 by omega)
    constructor
    · intro e
      subst e
      rw [Rat.zero_mul] at h
      exact Rat.intCast_inj.1 h.symm
    · intro e
      subst e
      rcases Rat.mul_eq_zero.1 h with e | e
      · exact e
      · exact absurd e hw
  rw [hz]
  have hn := n.neg
  have h0 := n.w.zero
  cases hb : x.n.neg with
  | true =>
    rw [hb] at hn
    exact ⟨_, rfl, by simp at hn ⊢; omega⟩
  | false =>
    rw [hb] at hn
    simp at hn
    cases hd : x.n.d with
    | nil => exact ⟨0, rfl, by have := h0.1 hd; omega⟩
    | cons a l =>
      refine ⟨1, ?_, ?_⟩
      · have e0 : ((((a :: l).length : Nat) : Int) == 0) = false := by simp; omega
        simp only [cond_false]
        rw [e0]; rfl
      · have : ¬ v.natAbs = 0 := fun e => by
          have := h0.2 e
          rw [hd] at this
          cases this
        omega
theorem g_cmpq {x y : TExact} {q r : Rat} {c e : Nat} (hx : Gq x q c) (hy : Gq y r e) (hm : c + e + 2 ≤ 8000000) : ∃ s, F_ref08_Cmp x y = some s ∧ (s = 0 ↔ q = r) := by
  unfold F_ref08_Cmp
  obtain ⟨z, z1, z2⟩ := g_lessq hx hy hm
  obtain ⟨s, s1, s2⟩ := g_sign z2
  rw [z1]
  simp only [Option.bind_some]
  rw [s1]
  exact ⟨s, rfl, by rw [s2]; constructor <;> intro h <;> grind⟩
end Go.Proofs.Ytbamoboldhabjaa

/- The reference's exact numbers: Fraction, Told, part, Of. -/
namespace Go.Proofs.Ytbamoboldhabjaa
set_option linter.unusedVariables false
set_option linter.unusedSimpArgs false

theorem g_part (d : Int) (l : List Int) (h4 : d ≤ 9223372036854775807) (hd : 0 < d) (hl : ∀ x ∈ l, -9223372036854775808 ≤ x ∧ x ≤ 9223372036854775807) (hll : l.length ≤ 1000) :
    ∃ r, F_ref20_part l d = some r ∧ Gq r ((prodZ l : Rat) / (d : Rat)) (4 * l.length + 3) := by
  unfold F_ref20_part
  obtain ⟨o, o1, o2, o3⟩ := g_int 1 (by omega) (by omega)
  rw [o1]
  simp only [Option.bind_some]
  refine iter_bind (Q := fun r : TBig × Unit => Nb r.1 (prodZ l) ∧ r.1.d.length ≤ 4 * l.length + 3) (fun k s => ∃ t, s = ((k : Int), t, ()) ∧ k ≤ l.length ∧ Nb t (prodZ (l.take k)) ∧ t.d.length ≤ 4 * k + 3) l.length (by unfold big; omega) ?_ ⟨o, rfl, Nat.zero_le _, o2, by omega⟩ ?_
  · rintro k s hk ⟨t, rfl, _, ht, htl⟩
    rcases Nat.lt_or_ge k l.length with hlt | hge
    · have hx := hl l[k] (List.getElem_mem _)
      obtain ⟨a, a1, a2, a3⟩ := g_int l[k] hx.1 hx.2
      obtain ⟨p, p1, p2, p3⟩ := g_product ht a2 (by omega)
      have e0 : decide ((k : Int) < ((l.length : Nat) : Int)) = true := decide_eq_true (by omega)
      refine .inl ⟨_, ?_, hlt, p, rfl, hlt, ?_, by omega⟩
      · simp only [e0, cond_true]
        rw [idx_nat hlt]
        simp only [Option.bind_some]
        rw [a1]
        simp only [Option.bind_some]
        rw [p1, wrap64 (by omega) (by omega)]
        rfl
      · rw [List.take_succ_eq_append_getElem hlt, prodZ_append]
        simpa [prodZ] using p2
    · have hk' : k = l.length := by omega
      subst hk'
      have e0 : decide (((l.length : Nat) : Int) < ((l.length : Nat) : Int)) = false := by simp
      rw [List.take_length] at ht
      exact .inr ⟨(t, ()), by simp only [e0, cond_false], ht, htl⟩
  · rintro ⟨t, u⟩ ⟨t1, t2⟩
    simp only at t1 t2 ⊢
    obtain ⟨b, b1, b2, b3⟩ := g_int d (by omega) h4
    rw [b1]
    exact ⟨_, rfl, ⟨_, _, t1, b2, hd, by have := int_ne (show d ≠ 0 by omega); grind⟩, t2, by show b.d.length ≤ _; omega⟩
end Go.Proofs.Ytbamoboldhabjaa

/- The reference's beams as rational numbers: Turned, Left, Right, far. -/
namespace Go.Proofs.Ytbamoboldhabjaa
set_option linter.unusedVariables false
set_option linter.unusedSimpArgs false

theorem Gq.skip {x : TExact} {q : Rat} {c e : Nat} (h : Gq x q c) : Gq x (q + 0) (c + e) := (h.mono (Nat.le_add_right _ _)).cast (by grind)
theorem h_turned {b : TBeam} (hb : BeamIn b) (hs : SupOk b) : F_ref20_Turned b = some (turnB b) := by
  have hl0 := hb.l0
  have hl1 := hb.l1
  have hln := hb.ln
  have hn := hs.n10
  have hn1 := hs.n1
  apply gs_eq
  unfold F_ref20_Turned
  refine gloop (fun s : TBeam × Unit => s.1 = ⟨b.name, b.length, b.supports.reverse.map (fun s => b.length - s), [], b.even⟩)
    (fun k s => ∃ m : Nat, m + k = b.supports.length ∧ s = ((m : Int) - 1, ⟨b.name, b.length, (b.supports.drop m).reverse.map (fun s => b.length - s), [], b.even⟩, ())) b.supports.length (by unfold big; omega)
    ⟨b.supports.length, rfl, by rw [wrap64 (by omega) (by omega), List.drop_length]; rfl⟩ ?_ ?_
  · rintro k s hk ⟨m, hm, rfl⟩
    cases m with
    | zero =>
      exact gf (decide_eq_false (by show ¬ (((0 : Nat) : Int) - 1 ≥ 0); omega)) (gend (by show (⟨_, _, _, _, _⟩ : TBeam) = _; rw [List.drop_zero]))
    | succ m =>
      have e2 : (((m + 1 : Nat) : Int) - 1) = (m : Int) := by omega
      have hlt : m < b.supports.length := by omega
      have pm := sp_get hlt
      have rm := sp_rg hs hlt
      refine gt (decide_eq_true (by show (((m + 1 : Nat) : Int) - 1 ≥ 0); omega)) (go (idx_w e2 pm) (gif (by simp; omega) (gend ⟨by omega, m, by omega, ?_⟩)))
      have hdr : b.supports.drop m = sp b m :: b.supports.drop (m + 1) := by
        rw [List.drop_eq_getElem_cons hlt]
        congr 1
        unfold sp; rw [List.getD_eq_getElem?_getD, List.getElem?_eq_getElem hlt]; rfl
      rw [hdr, List.reverse_cons, List.map_append]
      show (IntKind.i64.wrap (((m + 1 : Nat) : Int) - 1 - 1), (⟨b.name, b.length, (b.supports.drop (m + 1)).reverse.map (fun s => b.length - s) ++ [IntKind.i64.wrap (b.length - sp b m)], [], b.even⟩ : TBeam), ()) = _
      rw [e2, wrap64 (n := (m : Int) - 1) (by omega) (by omega), wrap64 (n := b.length - sp b m) (by omega) (by omega)]
      rfl
  · rintro ⟨t, u⟩ ht
    simp only at ht
    subst ht
    refine gloop (fun s : TBeam × Unit => s.1 = turnB b) (fun k s => k ≤ b.loads.length ∧ s = ((k : Int), ⟨b.name, b.length, b.supports.reverse.map (fun s => b.length - s), (b.loads.take k).map (fun x => ⟨b.length - x.at_, x.weight⟩), b.even⟩, ())) b.loads.length (by unfold big; omega) ⟨Nat.zero_le _, rfl⟩ ?_ ?_
    · rintro k s hk ⟨_, rfl⟩
      rcases Nat.lt_or_ge k b.loads.length with hlt | hge
      · obtain ⟨x0, x1, x2, x3⟩ := hb.ld _ (List.getElem_mem hlt)
        have pk := idx_nat hlt
        refine gt (decide_eq_true (by show (k : Int) < ((b.loads.length : Nat) : Int); omega)) (go pk (go pk (gif (by simp; omega) (gend ⟨hlt, hlt, ?_⟩))))
        rw [List.take_succ_eq_append_getElem hlt, List.map_append]
        show (IntKind.i64.wrap ((k : Int) + 1), (⟨b.name, b.length, _, (b.loads.take k).map (fun x => ⟨b.length - x.at_, x.weight⟩) ++ [⟨IntKind.i64.wrap (b.length - b.loads[k].at_), b.loads[k].weight⟩], b.even⟩ : TBeam), ()) = _
        rw [wrap64 (n := b.length - b.loads[k].at_) (by omega) (by omega), wrap64 (n := (k : Int) + 1) (by omega) (by omega)]
        rfl
      · refine gf (decide_eq_false (by show ¬ (k : Int) < ((b.loads.length : Nat) : Int); omega)) (gend ?_)
        show (⟨b.name, b.length, b.supports.reverse.map (fun s => b.length - s), (b.loads.take k).map (fun x => ⟨b.length - x.at_, x.weight⟩), b.even⟩ : TBeam) = turnB b
        rw [List.take_of_length_le hge]
        rfl
    · rintro ⟨t, u⟩ h
      exact gend h
theorem gfe {γ : Type} {c : Bool} {X Y : γ} (h : c = false) : (bif c then X else Y) = Y := by subst h; rfl
theorem h_left {b : TBeam} (hb : BeamIn b) {a : Int} (h0 : 0 ≤ a) (h1 : a ≤ b.length) : Gs (F_ref20_Left b a) fun r => Gq r (overQ b.even (lds b.loads) a) 600 := by
  unfold F_ref20_Left
  have hl := hb.l1
  have he0 := hb.e0
  have he1 := hb.e1
  have hln := hb.ln
  obtain ⟨p, p1, p2⟩ := g_part 2000 [b.even, a, a] (by omega) (by omega) (by intro x hx; simp at hx; omega) (by simp)
  refine go p1 ?_
  refine gcall (loop_sumG (w := b.loads) (fun t q c => Gq t q c) (fun x => if x.at_ < a then (x.weight : Rat) * (a - x.at_) else 0) 13 (by omega) p2 ?_ (fun t => gfe (decide_eq_false (by show ¬ (((b.loads.length : Nat) : Int) < ((b.loads.length : Nat) : Int)); omega)))) ?_
  · intro k h t q ht
    obtain ⟨x0, x1, x2, x3⟩ := hb.ld _ (List.getElem_mem h)
    have w1 : IntKind.i64.wrap ((k : Int) + 1) = ((k + 1 : Nat) : Int) := by rw [wrap64 (by omega) (by omega)]; omega
    have hx := idx_nat h
    refine gt (decide_eq_true (by show (k : Int) < ((b.loads.length : Nat) : Int); omega)) (goo hx ?_)
    generalize b.loads[k] = x at *
    by_cases hc : x.at_ < a
    · have hw : IntKind.i64.wrap (a - x.at_) = a - x.at_ := wrap64 (by omega) (by omega)
      obtain ⟨z, z1, z2⟩ := g_part 1 [x.weight, a - x.at_] (by omega) (by omega) (by intro y hy; simp at hy; omega) (by simp)
      obtain ⟨s, s1, s2⟩ := g_plusq ht z2 (by simp only [List.length_cons, List.length_nil]; omega)
      refine gbt (decide_eq_true hc) (goo hx (goo hx (goo (by rw [hw]; exact z1) (goo s1 (gs (gend ⟨s, by simp only [w1], (s2.mono (by simp only [List.length_cons, List.length_nil]; omega)).cast ?_⟩))))))
      rw [div_one', prod2, Rat.intCast_sub, if_pos hc]
    · refine gbf (decide_eq_false hc) (gs (gend ⟨t, by simp only [w1], ?_⟩))
      rw [if_neg hc]
      exact ht.skip
  · rintro ⟨t, u⟩ ht
    refine gend ((ht.mono (by simp only [List.length_cons, List.length_nil]; omega)).cast ?_)
    unfold overQ lds
    rw [sumQ_map, prod3]
    rfl
theorem h_right {b : TBeam} (hb : BeamIn b) (hs : SupOk b) {a : Int} (h0 : 0 ≤ a) (h1 : a ≤ b.length) : Gs (F_ref20_Right b a) fun r => Gq r (overQ b.even (turnW b.length (lds b.loads)) (b.length - a)) 600 := by
  unfold F_ref20_Right
  have hl := hb.l1
  have hw : IntKind.i64.wrap (b.length - a) = b.length - a := wrap64 (by omega) (by omega)
  refine go (h_turned hb hs) (gcall (by rw [hw]; exact h_left (turn_in hb) (by omega) (by show b.length - a ≤ b.length; omega)) fun r hr => gend ?_)
  rw [turn_lds] at hr
  exact hr
end Go.Proofs.Ytbamoboldhabjaa

/- What the program and the reference tell of a beam's moments and reactions. -/
namespace Go.Proofs.Ytbamoboldhabjaa
set_option linter.unusedVariables false
set_option linter.unusedSimpArgs false

/-- The beam tilts. -/
def tilt (b : TBeam) : Prop := b.supports.length = 1 ∧ fstQ b ≠ lstQ b
def reaL (b : TBeam) : List Rat := (List.range b.supports.length).map (reactB b)
/-- What is small enough for the walks. -/
structure SmallB (b : TBeam) : Prop where
  name : b.name.size ≤ 1000000
  sup : b.supports.length ≤ 1000000
  ld : b.loads.length ≤ 1000000
theorem list_of {α : Type} {R : α → Rat → Prop} {l : List α} {n : Nat} (f : Nat → Rat) (hl : l.length = n) (h : ∀ i, i < n → ∃ x, l[i]? = some x ∧ R x (f i)) : ∀ (i : Nat) (h1 : i < l.length) (h2 : i < ((List.range n).map f).length), R l[i] ((List.range n).map f)[i] := by
  intro i h1 h2
  obtain ⟨x, x1, x2⟩ := h i (by omega)
  rw [List.getElem?_eq_getElem h1] at x1
  injection x1 with x1
  rw [x1]
  simpa using x2
theorem f_given_ok {b : TBeam} (hw : SmallB b) (h : validBm b = true) (ht : ¬ tilt b) : Gs (F_beam_given b) fun r => r.2 = 0 ∧ r.1.length = b.supports.length ∧ ∀ i, i < b.supports.length → ∃ x, r.1[i]? = some x ∧ Xq x (momB b i) 82000 := by
  obtain ⟨hb, hs⟩ := valid_in h
  unfold F_beam_given
  refine go (f_bvalid hw.name hw.sup hw.ld) (gf (by rw [h]; rfl) (gcall (f_moments hb hs) fun r hr => ?_))
  have h2 : r.2 = true := hr.1.2 fun h1 => Classical.byContradiction fun h3 => ht ⟨h1, h3⟩
  refine gf (by rw [h2]; rfl) (gend ⟨rfl, hr.2 h2⟩)
theorem f_Reactions {b : TBeam} (hw : SmallB b) (h : validBm b = true) (ht : ¬ tilt b) : F_beam_Reactions b = some (outL (reaL b)) := by
  apply gs_eq
  obtain ⟨hb, hs⟩ := valid_in h
  have hn : b.supports.length ≤ 10 := hs.n10
  unfold F_beam_Reactions
  refine gcall (f_given_ok hw h ht) fun r hr => ?_
  obtain ⟨h1, h2, h3⟩ := hr
  refine gf (by rw [h1]; rfl) (gcall (f_reactions hb hs h3) fun t ht => ?_)
  refine go (f_fractions (qs := reaL b) (c := 330000) (by omega) (by rw [ht.1]; unfold reaL; simp) ?_) (gend rfl)
  exact list_of (R := fun x q => Xq x q 330000) (reactB b) ht.1 ht.2
theorem h_tilts {b : TBeam} (hb : BeamIn b) (hs : SupOk b) : Gs (F_ref20_Tilts b) fun r => r = true ↔ tilt b := by
  unfold F_ref20_Tilts tilt
  have hn := hs.n1
  rcases Decidable.em (b.supports.length = 1) with h | h
  · have q0 := sp_get (b := b) (i := 0) (by omega)
    have r0 := sp_rg hs (i := 0) (by omega)
    refine gbt (by rw [beq_iff_eq]; omega) (goo (idx_q (k := 0) q0) (goo (idx_q (k := 0) q0) (gcalll (h_left hb r0.1 r0.2) fun x hx => gcalll (h_right hb hs r0.1 r0.2) fun y hy => ?_)))
    obtain ⟨s, s1, s2⟩ := g_cmpq hx hy (by omega)
    refine goo s1 (gs (gend ?_))
    show (s != 0) = true ↔ _
    rw [bne_iff_ne, ne_eq, s2]
    have e : b.supports.length - 1 = 0 := by omega
    unfold fstQ lstQ
    rw [e]
    constructor
    · intro h2; exact ⟨h, fun h3 => h2 (by grind)⟩
    · intro h2 h3; exact h2.2 (by rw [h3])
  · refine gbf (by rw [beq_eq_false_iff_ne]; omega) (gs (gend ?_))
    show false = true ↔ _
    simp [h]
theorem h_given {b : TBeam} (hw : SmallB b) : Gs (F_ref20_Given b) fun r => (validBm b = false ∧ r = 1) ∨ (validBm b = true ∧ tilt b ∧ r = 22) ∨ (validBm b = true ∧ ¬ tilt b ∧ r = 0) := by
  unfold F_ref20_Given
  refine go (f_rvalid20 hw.name hw.sup hw.ld) ?_
  cases h : validBm b with
  | false => exact gt rfl (gend (.inl ⟨rfl, rfl⟩))
  | true =>
    obtain ⟨hb, hs⟩ := valid_in h
    refine gf rfl (gcall (h_tilts hb hs) fun r hr => ?_)
    cases hr2 : r with
    | true => exact gt rfl (gend (.inr (.inl ⟨rfl, hr.1 hr2, rfl⟩)))
    | false => exact gf rfl (gend (.inr (.inr ⟨rfl, (fun ht => absurd (hr.2 ht) (by rw [hr2]; simp)), rfl⟩)))
end Go.Proofs.Ytbamoboldhabjaa

/- Lists compared; small beams. -/
namespace Go.Proofs.Ytbamoboldhabjaa
set_option linter.unusedVariables false
set_option linter.unusedSimpArgs false

def longBm (b : TBeam) : Bool := (decide (((b.supports.length : Nat) : Int) > 5) && decide (((b.supports.length : Nat) : Int) ≤ 10)) || (decide (((b.supports.length : Nat) : Int) > 15) || ((decide (((b.loads.length : Nat) : Int) > 8) && decide (((b.loads.length : Nat) : Int) ≤ 40)) || (decide (((b.loads.length : Nat) : Int) > 45) || decide (((b.name.size : Nat) : Int) > 60))))
theorem f_long (b : TBeam) : F_law20_long b = some (longBm b) := by
  unfold F_law20_long longBm
  cases decide (((b.supports.length : Nat) : Int) > 5) <;> cases decide (((b.supports.length : Nat) : Int) ≤ 10) <;> cases decide (((b.supports.length : Nat) : Int) > 15) <;> cases decide (((b.loads.length : Nat) : Int) > 8) <;> cases decide (((b.loads.length : Nat) : Int) ≤ 40) <;> cases decide (((b.loads.length : Nat) : Int) > 45) <;> rfl
theorem long_small {b : TBeam} (h : longBm b = false) : SmallB b ∧ b.supports.length ≤ 15 ∧ b.loads.length ≤ 45 := by
  unfold longBm at h
  simp only [Bool.or_eq_false_iff, Bool.and_eq_false_iff, decide_eq_false_iff_not] at h
  exact ⟨⟨by omega, by omega, by omega⟩, by omega, by omega⟩
end Go.Proofs.Ytbamoboldhabjaa

/- All weight is borne; the moments of a beam that doesn't tilt. -/
namespace Go.Proofs.Ytbamoboldhabjaa
set_option linter.unusedVariables false
set_option linter.unusedSimpArgs false

def wgtQ (b : TBeam) : Rat := (b.even : Rat) * b.length / 1000 + sumQ (fun x : Ld => (x.2 : Rat)) (lds b.loads)
def leQ (w : List Ld) (a : Int) : Rat := sumQ (fun x => if x.1 ≤ a then (x.2 : Rat) else 0) w
theorem le_split (w : List Ld) (a : Int) : leQ w a = atQ w a + sumQ (fun x => if x.1 < a then (x.2 : Rat) else 0) w := by
  unfold leQ atQ
  rw [← sumQ_add]
  apply sumQ_congr
  intro x _
  rcases Int.lt_trichotomy x.1 a with h | h | h
  · rw [if_pos (by omega), if_neg (by omega), if_pos h]; grind
  · rw [if_pos (by omega), if_pos h, if_neg (by omega)]; grind
  · rw [if_neg (by omega), if_neg (by omega), if_neg (by omega)]; grind
theorem le_next (w : List Ld) {a c : Int} (h : a < c) : leQ w c = leQ w a + sumQ (fun x => if x.1 ≤ a ∨ c ≤ x.1 then 0 else (x.2 : Rat)) w + atQ w c := by
  unfold leQ atQ
  rw [← sumQ_add, ← sumQ_add]
  apply sumQ_congr
  intro x _
  rcases Int.lt_or_le a x.1 with h1 | h1
  · rcases Int.lt_trichotomy x.1 c with h2 | h2 | h2
    · rw [if_pos (by omega), if_neg (by omega), if_neg (by omega), if_neg (by omega)]; grind
    · rw [if_pos (by omega), if_neg (by omega), if_pos (by omega), if_pos h2]; grind
    · rw [if_neg (by omega), if_neg (by omega), if_pos (by omega), if_neg (by omega)]; grind
  · rw [if_pos (by omega), if_pos h1, if_pos (.inl h1), if_neg (by omega)]; grind
theorem le_end {L : Int} {w : List Ld} (s : Int) : leQ w s + sumQ (fun x => if x.1 < L - s then (x.2 : Rat) else 0) (turnW L w) = sumQ (fun x => (x.2 : Rat)) w := by
  unfold leQ turnW
  rw [sumQ_map, ← sumQ_add]
  apply sumQ_congr
  intro x _
  simp only
  by_cases h : x.1 ≤ s
  · rw [if_pos h, if_neg (by omega)]; grind
  · rw [if_neg h, if_pos (by omega)]; grind
theorem sumQ_range (f : Nat → Rat) : ∀ (n : Nat), sumQ f (List.range n) = sumN f n
  | 0 => rfl
  | n + 1 => by rw [List.range_succ, sumQ_append, sumQ_range f n]; simp only [sumQ, sumN]; grind
/-- What all supports to the left bear, and their moments. -/
def Fk (b : TBeam) (k : Nat) : Rat := sumN (reactB b) k
def Tk (b : TBeam) (k : Nat) : Rat := sumN (fun i => reactB b i * (sp b i : Rat)) k
theorem cast_sub' (a c : Int) : ((a - c : Int) : Rat) = (a : Rat) - (c : Rat) := Rat.intCast_sub a c
theorem gp_ne {b : TBeam} (hs : SupOk b) {i : Nat} (h : i + 1 < b.supports.length) : gp b i ≠ 0 := by
  have := gp_pos hs i h
  grind
theorem equil {b : TBeam} (hb : BeamIn b) (hs : SupOk b) (ht : ¬ tilt b) : ∀ (k : Nat), k < b.supports.length →
    (Fk b (k + 1) = if k + 1 < b.supports.length then (b.even : Rat) * (sp b k : Rat) / 1000 + leQ (lds b.loads) (sp b k) + (leverQ b.even (lds b.loads) (sp b k) (sp b (k + 1)) true + (momB b (k + 1) - momB b k) / gp b k) else wgtQ b) ∧
    Fk b (k + 1) * (sp b k : Rat) - Tk b (k + 1) = momB b k + overQ b.even (lds b.loads) (sp b k) := by
  intro k
  have hfin : ∀ k, k + 1 = b.supports.length → (b.even : Rat) * (sp b k : Rat) / 1000 + leQ (lds b.loads) (sp b k) + beyondQ b.even (turnW b.length (lds b.loads)) (b.length - sp b k) = wgtQ b := by
    intro k hk
    have h1 := le_end (L := b.length) (w := lds b.loads) (sp b k)
    unfold beyondQ wgtQ
    rw [cast_sub']
    grind
  induction k with
  | zero =>
    intro h0
    have hr : reactB b 0 = atQ (lds b.loads) (sp b 0) + 0 + (if 0 + 1 < b.supports.length then leverQ b.even (lds b.loads) (sp b 0) (sp b (0 + 1)) true + (momB b (0 + 1) - momB b 0) / gp b 0 else 0) + beyondQ b.even (lds b.loads) (sp b 0) + (if 0 + 1 = b.supports.length then beyondQ b.even (turnW b.length (lds b.loads)) (b.length - sp b 0) else 0) := by
      unfold reactB reactQ
      rw [if_neg (by omega), if_pos rfl]
      rfl
    have hF : Fk b (0 + 1) = reactB b 0 := by unfold Fk; simp only [sumN]; grind
    have hT : Tk b (0 + 1) = reactB b 0 * (sp b 0 : Rat) := by unfold Tk; simp only [sumN]; grind
    have hl := le_split (lds b.loads) (sp b 0)
    have hM : momB b 0 = fstQ b := by
      unfold momB
      by_cases h1 : b.supports.length = 1
      · have := Classical.byContradiction fun h3 => ht ⟨h1, h3⟩
        rw [show (0 : Nat) = b.supports.length - 1 from by omega, mom_last]
        exact this.symm
      · rw [mom_first _ _ _ _ (by omega)]
    constructor
    · rw [hF, hr]
      by_cases h1 : 0 + 1 < b.supports.length
      · rw [if_pos h1, if_pos h1, if_neg (by omega)]
        unfold beyondQ
        grind
      · have h2 : 0 + 1 = b.supports.length := by omega
        have h3 := hfin 0 h2
        rw [if_neg h1, if_neg h1, if_pos h2, ← h3, hl]
        unfold beyondQ
        grind
    · rw [hF, hT, hM]
      unfold fstQ
      grind
  | succ k ih =>
    intro h0
    obtain ⟨h1, h2⟩ := ih (by omega)
    rw [if_pos (by omega)] at h1
    have hlt : sp b k < sp b (k + 1) := hs.inc k (by omega)
    have hr : reactB b (k + 1) = atQ (lds b.loads) (sp b (k + 1)) + (leverQ b.even (lds b.loads) (sp b k) (sp b (k + 1)) false + (momB b k - momB b (k + 1)) / gp b k) + (if k + 1 + 1 < b.supports.length then leverQ b.even (lds b.loads) (sp b (k + 1)) (sp b (k + 1 + 1)) true + (momB b (k + 1 + 1) - momB b (k + 1)) / gp b (k + 1) else 0) + 0 + (if k + 1 + 1 = b.supports.length then beyondQ b.even (turnW b.length (lds b.loads)) (b.length - sp b (k + 1)) else 0) := by
      unfold reactB reactQ
      rw [if_pos (show 0 < k + 1 by omega), if_neg (show ¬ k + 1 = 0 by omega)]
      rfl
    have hF : Fk b (k + 1 + 1) = Fk b (k + 1) + reactB b (k + 1) := rfl
    have hT : Tk b (k + 1 + 1) = Tk b (k + 1) + reactB b (k + 1) * (sp b (k + 1) : Rat) := rfl
    have hbo := lever_both (E := b.even) (w := lds b.loads) hlt
    have hln := le_next (lds b.loads) hlt
    have hov := over_next (E := b.even) (w := lds b.loads) hlt
    have hg := gp_ne hs (i := k) (by omega)
    have hgd : ((sp b (k + 1) - sp b k : Int) : Rat) = gp b k := rfl
    have hgs : gp b k = (sp b (k + 1) : Rat) - (sp b k : Rat) := cast_sub' _ _
    rw [hgd] at hbo hov
    have hcut : (b.even : Rat) * (sp b (k + 1) : Rat) / 1000 + leQ (lds b.loads) (sp b (k + 1)) = Fk b (k + 1) + (atQ (lds b.loads) (sp b (k + 1)) + (leverQ b.even (lds b.loads) (sp b k) (sp b (k + 1)) false + (momB b k - momB b (k + 1)) / gp b k)) := by
      rw [h1, hln]
      have e : (momB b (k + 1) - momB b k) / gp b k + (momB b k - momB b (k + 1)) / gp b k = 0 := by grind
      grind
    constructor
    · rw [hF, hr]
      by_cases h3 : k + 1 + 1 < b.supports.length
      · rw [if_pos h3, if_pos h3, if_neg (by omega)]
        grind
      · have h4 : k + 1 + 1 = b.supports.length := by omega
        have h5 := hfin (k + 1) h4
        rw [if_neg h3, if_neg h3, if_pos h4, ← h5]
        grind
    · rw [hF, hT]
      have e1 : gp b k * ((momB b (k + 1) - momB b k) / gp b k) = momB b (k + 1) - momB b k := by grind
      have e2 : (Fk b (k + 1) + reactB b (k + 1)) * (sp b (k + 1) : Rat) - (Tk b (k + 1) + reactB b (k + 1) * (sp b (k + 1) : Rat)) = (Fk b (k + 1) * (sp b k : Rat) - Tk b (k + 1)) + gp b k * Fk b (k + 1) := by
        rw [hgs]; grind
      rw [e2, h2, hov]
      have e3 : leQ (lds b.loads) (sp b k) = sumQ (fun x : Ld => if x.1 ≤ sp b k then (x.2 : Rat) else 0) (lds b.loads) := rfl
      rw [← e3]
      have e4 : gp b k * Fk b (k + 1) = gp b k * ((b.even : Rat) * (sp b k : Rat) / 1000 + leQ (lds b.loads) (sp b k)) + gp b k * leverQ b.even (lds b.loads) (sp b k) (sp b (k + 1)) true + gp b k * ((momB b (k + 1) - momB b k) / gp b k) := by
        rw [h1]; grind
      rw [e4, e1]
      grind
theorem all_weight {b : TBeam} (hb : BeamIn b) (hs : SupOk b) (ht : ¬ tilt b) : Fk b b.supports.length = wgtQ b := by
  have hn := hs.n1
  have h := (equil hb hs ht (b.supports.length - 1) (by omega)).1
  rw [if_neg (by omega), show b.supports.length - 1 + 1 = b.supports.length from by omega] at h
  exact h
theorem mom_end {b : TBeam} (hs : SupOk b) : momB b (b.supports.length - 1) = lstQ b := by
  unfold momB; rw [mom_last]
theorem sp_mono {b : TBeam} (hs : SupOk b) {i : Nat} : ∀ {j : Nat}, i ≤ j → j < b.supports.length → sp b i ≤ sp b j := by
  intro j
  induction j with
  | zero => intro h _; rw [show i = 0 from by omega]; omega
  | succ j ih =>
    intro h hj
    rcases Nat.lt_or_ge i (j + 1) with h1 | h1
    · have := ih (by omega) (by omega)
      have : sp b j < sp b (j + 1) := hs.inc j hj
      omega
    · rw [show i = j + 1 from by omega]; omega
theorem mom_start {b : TBeam} (hs : SupOk b) (ht : ¬ tilt b) : momB b 0 = fstQ b := by
  have hn := hs.n1
  unfold momB
  by_cases h1 : b.supports.length = 1
  · have := Classical.byContradiction fun h3 => ht ⟨h1, h3⟩
    rw [show (0 : Nat) = b.supports.length - 1 from by omega, mom_last]
    exact this.symm
  · rw [mom_first _ _ _ _ (by omega)]
theorem mom_eqs {b : TBeam} (hs : SupOk b) {i : Nat} (h : i + 2 < b.supports.length) : gp b i * momB b i + 2 * (gp b i + gp b (i + 1)) * momB b (i + 1) + gp b (i + 1) * momB b (i + 2) = Rp b (i + 1) :=
  mom_three (fun j hj => gp_pos hs j hj) h
theorem sp_lt {b : TBeam} (hs : SupOk b) {i j : Nat} (h : i < j) (hj : j < b.supports.length) : sp b i < sp b j := by
  have h1 := sp_mono hs (i := i) (j := j - 1) (by omega) (by omega)
  have h2 : sp b (j - 1) < sp b j := by
    obtain ⟨k, rfl⟩ : ∃ k, j = k + 1 := ⟨j - 1, by omega⟩
    exact hs.inc k hj
  omega
end Go.Proofs.Ytbamoboldhabjaa

/- Exact numbers: the product is in its lowest terms. -/
namespace Go.Proofs.Ytbamoboldhabjaa

theorem cop_mul {n1 d1 n2 d2 : Nat} (h1 : Nat.gcd n1 d1 = 1) (h2 : Nat.gcd n2 d2 = 1) (p1 : 0 < d1) (p2 : 0 < d2) :
    Nat.gcd ((n1 / Nat.gcd n1 d2) * (n2 / Nat.gcd n2 d1)) ((d1 / Nat.gcd n2 d1) * (d2 / Nat.gcd n1 d2)) = 1 := by
  have a1 : Nat.Coprime (n1 / Nat.gcd n1 d2) (d2 / Nat.gcd n1 d2) := Nat.gcd_div_gcd_div_gcd_of_pos_right p2
  have a2 : Nat.Coprime (n2 / Nat.gcd n2 d1) (d1 / Nat.gcd n2 d1) := Nat.gcd_div_gcd_div_gcd_of_pos_right p1
  have a3 : Nat.Coprime (n1 / Nat.gcd n1 d2) (d1 / Nat.gcd n2 d1) := Nat.Coprime.coprime_dvd_left (Nat.div_dvd_of_dvd (Nat.gcd_dvd_left _ _)) (Nat.Coprime.coprime_dvd_right (Nat.div_dvd_of_dvd (Nat.gcd_dvd_right _ _)) h1)
  have a4 : Nat.Coprime (n2 / Nat.gcd n2 d1) (d2 / Nat.gcd n1 d2) := Nat.Coprime.coprime_dvd_left (Nat.div_dvd_of_dvd (Nat.gcd_dvd_left _ _)) (Nat.Coprime.coprime_dvd_right (Nat.div_dvd_of_dvd (Nat.gcd_dvd_right _ _)) h2)
  exact Nat.Coprime.mul_left (Nat.Coprime.mul_right a3 a1) (Nat.Coprime.mul_right a2 a4)
theorem mul_red {n1 n2 : Int} {d1 d2 : Nat} (p1 : 0 < d1) (p2 : 0 < d2) (h1 : Nat.gcd n1.natAbs d1 = 1) (h2 : Nat.gcd n2.natAbs d2 = 1) {p q : Nat}
    (hp : p = (n1.natAbs / Nat.gcd n1.natAbs d2) * (n2.natAbs / Nat.gcd n2.natAbs d1)) (hq : q = (d1 / Nat.gcd n2.natAbs d1) * (d2 / Nat.gcd n1.natAbs d2)) :
    Nat.gcd (n1 * n2).natAbs (d1 * d2) = Nat.gcd n1.natAbs d2 * Nat.gcd n2.natAbs d1 ∧ (n1 * n2).natAbs / (Nat.gcd n1.natAbs d2 * Nat.gcd n2.natAbs d1) = p ∧ d1 * d2 / (Nat.gcd n1.natAbs d2 * Nat.gcd n2.natAbs d1) = q := by
  have hc := cop_mul h1 h2 p1 p2
  have g1 : 0 < Nat.gcd n1.natAbs d2 := Nat.gcd_pos_of_pos_right _ p2
  have g2 : 0 < Nat.gcd n2.natAbs d1 := Nat.gcd_pos_of_pos_right _ p1
  have e1 := Nat.div_mul_cancel (Nat.gcd_dvd_left n1.natAbs d2)
  have e2 := Nat.div_mul_cancel (Nat.gcd_dvd_left n2.natAbs d1)
  have e3 := Nat.div_mul_cancel (Nat.gcd_dvd_right n1.natAbs d2)
  have e4 := Nat.div_mul_cancel (Nat.gcd_dvd_right n2.natAbs d1)
  rw [← hp, ← hq] at hc
  have en : (n1 * n2).natAbs = p * (Nat.gcd n1.natAbs d2 * Nat.gcd n2.natAbs d1) := by
    rw [Int.natAbs_mul, hp]
    generalize Nat.gcd n1.natAbs d2 = u at *
    generalize Nat.gcd n2.natAbs d1 = v at *
    conv => lhs; rw [← e1, ← e2]
    grind
  have ed : d1 * d2 = q * (Nat.gcd n1.natAbs d2 * Nat.gcd n2.natAbs d1) := by
    rw [hq]
    generalize Nat.gcd n1.natAbs d2 = u at *
    generalize Nat.gcd n2.natAbs d1 = v at *
    conv => lhs; rw [← e3, ← e4]
    grind
  have gg := Nat.mul_pos g1 g2
  rw [en, ed]
  refine ⟨?_, Nat.mul_div_cancel _ gg, Nat.mul_div_cancel _ gg⟩
  rw [Nat.gcd_mul_right, hc, Nat.one_mul]
end Go.Proofs.Ytbamoboldhabjaa

/- Exact numbers: Mul. -/
namespace Go.Proofs.Ytbamoboldhabjaa

theorem RV.w {a : TFrac} (h : RV a) : RW a := ⟨by have := h.d0; omega, by have := h.d1; omega, by have := h.n0; omega, by have := h.n1; omega⟩
theorem rv_true {a : TFrac} (h : RV a) : F_ratio_Valid a = some true := by
  obtain ⟨v, e, i⟩ := f_qvalid h.w
  rw [e, i.mpr h]
theorem f_rmul {a b : TFrac} (ha : RV a) (hb : RV b) : F_ratio_Mul a b = some (outQ (qOf a * qOf b)) := by
  obtain ⟨an, ad⟩ := a
  obtain ⟨bn, bd⟩ := b
  obtain ⟨x0, x1, x2, x3, x4⟩ := id ha
  obtain ⟨y0, y1, y2, y3, y4⟩ := id hb
  dsimp only at *
  obtain ⟨d1, rfl⟩ := Int.eq_ofNat_of_zero_le (show 0 ≤ ad by omega)
  obtain ⟨d2, rfl⟩ := Int.eq_ofNat_of_zero_le (show 0 ≤ bd by omega)
  rw [Int.toNat_natCast] at x4 y4
  unfold F_ratio_Mul
  rw [rv_true ha, rv_true hb]
  simp only [Option.bind_some, Bool.not_true, cond_false]
  rw [f_size (by omega) (by omega), f_size (by omega) (by omega)]
  simp only [Option.bind_some, wrapu]
  rw [show (d2 : Int) % 18446744073709551616 = d2 from by omega, show (d1 : Int) % 18446744073709551616 = d1 from by omega, f_gcd _ _ (by unfold big; omega), f_gcd _ _ (by unfold big; omega)]
  simp only [Option.bind_some]
  have g1 : 0 < Nat.gcd an.natAbs d2 := Nat.gcd_pos_of_pos_right _ (by omega)
  have g2 : 0 < Nat.gcd bn.natAbs d1 := Nat.gcd_pos_of_pos_right _ (by omega)
  obtain ⟨hg, hp, hq⟩ := mul_red (n1 := an) (n2 := bn) (d1 := d1) (d2 := d2) (by omega) (by omega) x4 y4 rfl rfl
  have hout := out_red (n := an * bn) (d := d1 * d2) (Nat.ne_of_gt (Nat.mul_pos (by omega) (by omega))) hg
  rw [hp, hq] at hout
  rw [show qOf ⟨an, d1⟩ * qOf ⟨bn, d2⟩ = mkRat (an * bn) (d1 * d2) from by unfold qOf; exact Rat.mkRat_mul_mkRat _ _ _ _, hout]
  have dv (u v w : Nat) (hw : u ≤ w) : u / v ≤ w := Nat.le_trans (Nat.div_le_self _ _) hw
  have k1 := dv an.natAbs (Nat.gcd an.natAbs d2) 1152921504606846976 (by omega)
  have k2 := dv bn.natAbs (Nat.gcd bn.natAbs d1) 1152921504606846976 (by omega)
  have k3 := dv d1 (Nat.gcd bn.natAbs d1) 1152921504606846976 (by omega)
  have k4 := dv d2 (Nat.gcd an.natAbs d2) 1152921504606846976 (by omega)
  have tm (u v : Nat) : (u : Int).tdiv (v : Int) = ((u / v : Nat) : Int) := by rw [Int.tdiv_eq_ediv_of_nonneg (by omega), Int.natCast_ediv]
  simp only [tm]
  have hz : an * bn = 0 ↔ an.natAbs / Nat.gcd an.natAbs d2 * (bn.natAbs / Nat.gcd bn.natAbs d1) = 0 := by
    have e := Nat.div_mul_cancel (show Nat.gcd an.natAbs d2 * Nat.gcd bn.natAbs d1 ∣ (an * bn).natAbs from by rw [← hg]; exact Nat.gcd_dvd_left _ _)
    rw [hp] at e
    rw [← Int.natAbs_eq_zero, ← e]
    simp [Nat.mul_eq_zero, Nat.ne_of_gt g1, Nat.ne_of_gt g2]
  generalize an.natAbs / Nat.gcd an.natAbs d2 = A at *
  generalize bn.natAbs / Nat.gcd bn.natAbs d1 = B at *
  generalize d1 / Nat.gcd bn.natAbs d1 = C at *
  generalize d2 / Nat.gcd an.natAbs d2 = E at *
  have i1 : ((Nat.gcd an.natAbs d2 : Nat) : Int) ≠ 0 := by omega
  have i2 : ((Nat.gcd bn.natAbs d1 : Nat) : Int) ≠ 0 := by omega
  rw [if_neg i2, if_neg i1, if_neg i1, if_neg i2]
  rw [show (A : Int) % 18446744073709551616 = A from by omega, show (B : Int) % 18446744073709551616 = B from by omega, show (C : Int) % 18446744073709551616 = C from by omega, show (E : Int) % 18446744073709551616 = E from by omega]
  rw [f_product (by omega) (by omega) (by omega) (by omega), f_product (by omega) (by omega) (by omega) (by omega)]
  simp only [Option.bind_some]
  rw [← Int.natCast_mul, ← Int.natCast_mul]
  have hs : an * bn ≠ 0 → (!((decide (an < 0)) == (decide (bn < 0)))) = decide (an * bn < 0) := by
    intro h
    have h1 : an ≠ 0 := by rintro rfl; simp at h
    have h2 : bn ≠ 0 := by rintro rfl; simp at h
    by_cases c1 : an < 0 <;> by_cases c2 : bn < 0
    · have := Int.mul_pos_of_neg_of_neg c1 c2; simp [c1, c2]; omega
    · have := Int.mul_neg_of_neg_of_pos c1 (show 0 < bn by omega); simp [c1, c2, this]
    · have := Int.mul_neg_of_pos_of_neg (show 0 < an by omega) c2; simp [c1, c2, this]
    · have := Int.mul_pos (show 0 < an by omega) (show 0 < bn by omega); simp [c1, c2]; omega
  generalize A * B = p at *
  generalize C * E = q at *
  by_cases c1 : (p : Int) / 18446744073709551616 > 0
  · rw [decide_eq_true c1, if_neg (by omega)]
    simp only [cond_true, Option.bind_some]
  · rw [decide_eq_false c1]
    simp only [cond_false, Option.bind_some]
    by_cases c2 : (q : Int) / 18446744073709551616 > 0
    · rw [decide_eq_true c2, if_neg (by omega)]
      simp only [cond_true]
    · rw [decide_eq_false c2, cond_false, show (p : Int) % 18446744073709551616 = p from by omega, show (q : Int) % 18446744073709551616 = q from by omega]
      rw [f_signed (by omega) (by omega) (by omega) (by omega), f_signed (by omega) (by omega) (by omega) (by omega)]
      have hcond : ((p : Int) ≤ 1152921504606846976 ∧ (q : Int) ≤ 1152921504606846976) ↔ (p ≤ 1152921504606846976 ∧ q ≤ 1152921504606846976) := by omega
      by_cases h0 : (p : Int) > 0
      · rw [decide_eq_true h0, hs (by intro h; have := hz.mp h; omega)]
        simp only [cond_true, Option.bind_some, hcond, decide_eq_true_eq]
      · obtain rfl : p = 0 := by omega
        rw [decide_eq_false h0, hz.mpr rfl]
        simp only [cond_false, Option.bind_some, hcond]
        rfl
end Go.Proofs.Ytbamoboldhabjaa

/- Valid fractions by both readers; Check of the program. -/
namespace Go.Proofs.Ytbamoboldhabjaa
set_option linter.unusedVariables false
set_option linter.unusedSimpArgs false

def trnQ (b : TBeam) : Rat := (b.even : Rat) * b.length * b.length / 2000 + sumQ (fun x : Ld => (x.2 : Rat) * x.1) (lds b.loads)
/-- These reactions hold the beam. -/
def holdsR (b : TBeam) (l : List Rat) : Prop := sumQ (fun x => x) l = wgtQ b ∧ sumQ (fun p : Rat × Int => p.1 * p.2) (l.zip b.supports) = trnQ b
end Go.Proofs.Ytbamoboldhabjaa

/- The reactions hold the beam; the bending at the supports is the moment there, and nothing is left at the ends. -/
namespace Go.Proofs.Ytbamoboldhabjaa
set_option linter.unusedVariables false
set_option linter.unusedSimpArgs false

theorem lds_le {b : TBeam} (hb : BeamIn b) : ∀ x ∈ lds b.loads, x.1 ≤ b.length := by
  intro x hx
  unfold lds at hx
  obtain ⟨y, hy, rfl⟩ := List.mem_map.1 hx
  exact (hb.ld y hy).2.1
theorem bend_last {b : TBeam} (hb : BeamIn b) (hs : SupOk b) (ht : ¬ tilt b) : Fk b b.supports.length * (b.length : Rat) - Tk b b.supports.length = overQ b.even (lds b.loads) b.length := by
  have hn := hs.n1
  have h := (equil hb hs ht (b.supports.length - 1) (by omega)).2
  rw [show b.supports.length - 1 + 1 = b.supports.length from by omega] at h
  have hm := mom_end hs
  have hw := all_weight hb hs ht
  have ho := over_end (E := b.even) (lds_le hb) (sp_rg hs (i := b.supports.length - 1) (by omega)).2
  have hmm : momB b (b.supports.length - 1) = 0 - overQ b.even (turnW b.length (lds b.loads)) (b.length - sp b (b.supports.length - 1)) := hm
  have hwq : wgtQ b = (b.even : Rat) * b.length / 1000 + sumQ (fun x : Ld => (x.2 : Rat)) (lds b.loads) := rfl
  rw [← hwq] at ho
  rw [ho, cast_sub']
  rw [hmm] at h
  rw [hw] at h ⊢
  grind
theorem zip_range {f : Nat → Rat} : ∀ (l : List Int) (n : Nat), sumQ (fun p : Rat × Int => p.1 * p.2) (((List.range' n l.length).map f).zip l) = sumQ (fun i => f i * (l.getD (i - n) 0 : Rat)) (List.range' n l.length)
  | [], n => rfl
  | x :: l, n => by
    simp only [List.length_cons, List.range'_succ, List.map_cons, List.zip_cons_cons, sumQ]
    rw [zip_range l (n + 1)]
    have e0 : (x :: l).getD (n - n) 0 = x := by rw [Nat.sub_self]; rfl
    rw [e0]
    congr 1
    apply sumQ_congr
    intro i hi
    have h := List.mem_range'.1 hi
    obtain ⟨j, hj, rfl⟩ := h
    rw [show n + 1 + 1 * j - n = j + 1 from by omega, show n + 1 + 1 * j - (n + 1) = j from by omega]
    rfl
theorem holds_rea {b : TBeam} (hb : BeamIn b) (hs : SupOk b) (ht : ¬ tilt b) : holdsR b (reaL b) := by
  have h1 : sumN (reactB b) b.supports.length = wgtQ b := all_weight hb hs ht
  unfold holdsR reaL
  constructor
  · rw [sumQ_map, sumQ_range]; exact h1
  · rw [List.range_eq_range', zip_range b.supports 0, ← List.range_eq_range', sumQ_range]
    have h2 : sumN (fun i => reactB b i * (b.supports.getD (i - 0) 0 : Rat)) b.supports.length = Tk b b.supports.length := rfl
    rw [h2]
    have h3 := bend_last hb hs ht
    have h4 : Fk b b.supports.length = wgtQ b := h1
    rw [h4] at h3
    have h5 : overQ b.even (lds b.loads) b.length = (b.even : Rat) * b.length * b.length / 2000 + ((b.length : Rat) * sumQ (fun x : Ld => (x.2 : Rat)) (lds b.loads) - sumQ (fun x : Ld => (x.2 : Rat) * x.1) (lds b.loads)) := by
      unfold overQ
      rw [← sumQ_mul, ← sumQ_sub]
      congr 1
      apply sumQ_congr
      intro x hx
      have := lds_le hb x hx
      by_cases h : x.1 < b.length
      · rw [if_pos h]; grind
      · have : x.1 = b.length := by omega
        rw [if_neg h, this]; grind
    rw [h5] at h3
    unfold wgtQ at h3
    unfold trnQ
    grind
end Go.Proofs.Ytbamoboldhabjaa

/- A load at a support; the turned beam. -/
namespace Go.Proofs.Ytbamoboldhabjaa
set_option linter.unusedVariables false
set_option linter.unusedSimpArgs false

/-- The beam with one load more, at a support. -/
def addB (b : TBeam) (i : Nat) (w : Int) : TBeam := ⟨b.name, b.length, b.supports, b.loads ++ [⟨sp b i, w⟩], b.even⟩
theorem sp_outside {b : TBeam} (hs : SupOk b) {i j : Nat} (hi : i < b.supports.length) (hj : j + 1 < b.supports.length) : sp b i ≤ sp b j ∨ sp b (j + 1) ≤ sp b i := by
  rcases Nat.lt_or_ge j i with h | h
  · exact .inr (sp_mono hs (by omega) hi)
  · exact .inl (sp_mono hs h (by omega))
theorem lds_add (b : TBeam) (i : Nat) (w : Int) : lds (addB b i w).loads = lds b.loads ++ [(sp b i, w)] := by
  unfold lds addB
  rw [List.map_append]; rfl
theorem sum_one {α : Type} (f : α → Rat) (l : List α) (x : α) : sumQ f (l ++ [x]) = sumQ f l + f x := by
  rw [sumQ_append]; simp only [sumQ]; grind
theorem over_add {E : Int} {w : List Ld} {p : Ld} {a : Int} (h : a ≤ p.1) : overQ E (w ++ [p]) a = overQ E w a := by
  unfold overQ
  rw [sum_one, if_neg (by omega)]; grind
theorem side_add {E : Int} {w : List Ld} {p : Ld} {fr to : Int} {left : Bool} (h : p.1 ≤ fr ∨ to ≤ p.1) : sideQ E (w ++ [p]) fr to left = sideQ E w fr to left := by
  unfold sideQ
  rw [sum_one, if_pos h]; grind
theorem lever_add {E : Int} {w : List Ld} {p : Ld} {fr to : Int} {left : Bool} (h : p.1 ≤ fr ∨ to ≤ p.1) : leverQ E (w ++ [p]) fr to left = leverQ E w fr to left := by
  unfold leverQ
  rw [sum_one, if_pos h]; grind
theorem beyond_add {E : Int} {w : List Ld} {p : Ld} {a : Int} (h : a ≤ p.1) : beyondQ E (w ++ [p]) a = beyondQ E w a := by
  unfold beyondQ
  rw [sum_one, if_neg (by omega)]; grind
theorem turnW_add (L : Int) (w : List Ld) (p : Ld) : turnW L (w ++ [p]) = turnW L w ++ [(L - p.1, p.2)] := by
  unfold turnW
  rw [List.map_append]; rfl
theorem add_fst {b : TBeam} (hs : SupOk b) {i : Nat} (hi : i < b.supports.length) (w : Int) : fstQ (addB b i w) = fstQ b ∧ lstQ (addB b i w) = lstQ b := by
  have h1 := sp_mono hs (Nat.zero_le i) hi
  have h2 := sp_mono hs (i := i) (j := b.supports.length - 1) (by omega) (by omega)
  constructor
  · unfold fstQ
    rw [lds_add]
    show 0 - overQ b.even (lds b.loads ++ [(sp b i, w)]) (sp b 0) = _
    rw [over_add h1]
  · unfold lstQ
    rw [lds_add]
    show 0 - overQ b.even (turnW b.length (lds b.loads ++ [(sp b i, w)])) (b.length - sp b (b.supports.length - 1)) = _
    rw [turnW_add, over_add (by show b.length - sp b (b.supports.length - 1) ≤ b.length - sp b i; omega)]
theorem add_mom {b : TBeam} (hs : SupOk b) (ht : ¬ tilt b) {i : Nat} (hi : i < b.supports.length) (w : Int) {j : Nat} (hj : j < b.supports.length) : momB (addB b i w) j = momB b j := by
  obtain ⟨h1, h2⟩ := add_fst hs hi w
  symm
  refine mom_unique (n := b.supports.length) (g := gp b) (R := Rp (addB b i w)) (first := fstQ (addB b i w)) (last := lstQ (addB b i w)) (fun k hk => gp_pos hs k hk) (momB b) ?_ ?_ ?_ hj
  · rw [h1]; exact mom_start hs ht
  · rw [h2]; exact mom_end hs
  · intro k hk
    rw [mom_eqs hs hk]
    unfold Rp
    rw [lds_add]
    show _ = 0 - sideQ b.even (lds b.loads ++ [(sp b i, w)]) (sp b k) (sp b (k + 1)) true - sideQ b.even (lds b.loads ++ [(sp b i, w)]) (sp b (k + 1)) (sp b (k + 1 + 1)) false
    rw [side_add (sp_outside hs hi (by omega)), side_add (sp_outside hs hi (by omega))]
    rfl
theorem add_rea {b : TBeam} (hs : SupOk b) (ht : ¬ tilt b) {i : Nat} (hi : i < b.supports.length) (w : Int) {j : Nat} (hj : j < b.supports.length) : reactB (addB b i w) j = reactB b j + if j = i then (w : Rat) else 0 := by
  have e : reactB (addB b i w) j = atQ (lds b.loads ++ [(sp b i, w)]) (sp b j) + (if 0 < j then leverQ b.even (lds b.loads ++ [(sp b i, w)]) (sp b (j - 1)) (sp b j) false + (momB (addB b i w) (j - 1) - momB (addB b i w) j) / ((sp b j - sp b (j - 1) : Int) : Rat) else 0)
    + (if j + 1 < b.supports.length then leverQ b.even (lds b.loads ++ [(sp b i, w)]) (sp b j) (sp b (j + 1)) true + (momB (addB b i w) (j + 1) - momB (addB b i w) j) / ((sp b (j + 1) - sp b j : Int) : Rat) else 0)
    + (if j = 0 then beyondQ b.even (lds b.loads ++ [(sp b i, w)]) (sp b j) else 0) + (if j + 1 = b.supports.length then beyondQ b.even (turnW b.length (lds b.loads ++ [(sp b i, w)])) (b.length - sp b j) else 0) := by
    unfold reactB reactQ
    rw [lds_add]
    rfl
  have hat : atQ (lds b.loads ++ [(sp b i, w)]) (sp b j) = atQ (lds b.loads) (sp b j) + if j = i then (w : Rat) else 0 := by
    unfold atQ
    rw [sum_one]
    congr 1
    by_cases h : j = i
    · subst h; simp
    · rw [if_neg h, if_neg]
      show ¬ sp b i = sp b j
      rcases Nat.lt_or_ge i j with h2 | h2
      · have := sp_lt hs h2 hj; omega
      · have := sp_lt hs (show j < i by omega) hi; omega
  rw [e, hat]
  unfold reactB reactQ
  have hA : (if 0 < j then leverQ b.even (lds b.loads ++ [(sp b i, w)]) (sp b (j - 1)) (sp b j) false + (momB (addB b i w) (j - 1) - momB (addB b i w) j) / ((sp b j - sp b (j - 1) : Int) : Rat) else 0) = (if 0 < j then leverQ b.even (lds b.loads) (sp b (j - 1)) (sp b j) false + (momB b (j - 1) - momB b j) / ((sp b j - sp b (j - 1) : Int) : Rat) else 0) := by
    by_cases h : 0 < j
    · have ho := sp_outside hs hi (j := j - 1) (by omega)
      rw [show j - 1 + 1 = j from by omega] at ho
      rw [if_pos h, if_pos h, lever_add ho, add_mom hs ht hi w hj, add_mom hs ht hi w (by omega)]
    · rw [if_neg h, if_neg h]
  have hB : (if j + 1 < b.supports.length then leverQ b.even (lds b.loads ++ [(sp b i, w)]) (sp b j) (sp b (j + 1)) true + (momB (addB b i w) (j + 1) - momB (addB b i w) j) / ((sp b (j + 1) - sp b j : Int) : Rat) else 0) = (if j + 1 < b.supports.length then leverQ b.even (lds b.loads) (sp b j) (sp b (j + 1)) true + (momB b (j + 1) - momB b j) / ((sp b (j + 1) - sp b j : Int) : Rat) else 0) := by
    by_cases h : j + 1 < b.supports.length
    · rw [if_pos h, if_pos h, lever_add (sp_outside hs hi h), add_mom hs ht hi w hj, add_mom hs ht hi w (by omega)]
    · rw [if_neg h, if_neg h]
  have hC : (if j = 0 then beyondQ b.even (lds b.loads ++ [(sp b i, w)]) (sp b j) else 0) = (if j = 0 then beyondQ b.even (lds b.loads) (sp b j) else 0) := by
    by_cases h : j = 0
    · rw [if_pos h, if_pos h, beyond_add (by rw [h]; exact sp_mono hs (Nat.zero_le i) hi)]
    · rw [if_neg h, if_neg h]
  have hD : (if j + 1 = b.supports.length then beyondQ b.even (turnW b.length (lds b.loads ++ [(sp b i, w)])) (b.length - sp b j) else 0) = (if j + 1 = b.supports.length then beyondQ b.even (turnW b.length (lds b.loads)) (b.length - sp b j) else 0) := by
    by_cases h : j + 1 = b.supports.length
    · have := sp_mono hs (i := i) (j := j) (by omega) hj
      rw [if_pos h, if_pos h, turnW_add, beyond_add (by show b.length - sp b j ≤ b.length - sp b i; omega)]
    · rw [if_neg h, if_neg h]
  rw [hA, hB, hC, hD]
  grind
theorem add_valid {b : TBeam} (hv : validBm b = true) (hl : b.loads.length < 40) {i : Nat} (hi : i < b.supports.length) {w : Int} (hw : 0 ≤ w ∧ w ≤ 67108864) : validBm (addB b i w) = true := by
  obtain ⟨hb, hs⟩ := valid_in hv
  have hi2 := sp_rg hs hi
  unfold validBm at hv ⊢
  rw [Bool.and_eq_true, Bool.and_eq_true, Bool.and_eq_true] at hv ⊢
  obtain ⟨h1, h2, h3, h4⟩ := hv
  refine ⟨h1, ?_, h3, ?_⟩
  · unfold badH2 at h2 ⊢
    simp only [Bool.not_eq_true', Bool.or_eq_false_iff, decide_eq_false_iff_not] at h2 ⊢
    refine ⟨h2.1, h2.2.1, ?_⟩
    show ¬ (((b.loads ++ [(⟨sp b i, w⟩ : TLoad)]).length : Nat) : Int) > 40
    simp; omega
  · show (b.loads ++ [(⟨sp b i, w⟩ : TLoad)]).all _ = true
    rw [List.all_append, Bool.and_eq_true]
    refine ⟨h4, ?_⟩
    simp only [List.all_cons, List.all_nil, Bool.and_true]
    show (!badL b ⟨sp b i, w⟩) = true
    unfold badL
    simp only [Bool.not_eq_true', Bool.or_eq_false_iff, decide_eq_false_iff_not]
    omega
theorem add_tilt {b : TBeam} (hs : SupOk b) (ht : ¬ tilt b) {i : Nat} (hi : i < b.supports.length) (w : Int) : ¬ tilt (addB b i w) := by
  obtain ⟨h1, h2⟩ := add_fst hs hi w
  rintro ⟨h3, h4⟩
  rw [h1, h2] at h4
  exact ht ⟨h3, h4⟩
/-- With two supports the lever decides. -/
theorem two_lever {b : TBeam} (hb : BeamIn b) (hs : SupOk b) (ht : ¬ tilt b) (h2 : b.supports.length = 2) : reactB b 1 * ((sp b 1 - sp b 0 : Int) : Rat) = ((b.even * b.length * (b.length - 2 * sp b 0) : Int) : Rat) / 2000 + sumQ (fun x : TLoad => (x.weight : Rat) * ((x.at_ - sp b 0 : Int) : Rat)) b.loads := by
  have hF : reactB b 0 + reactB b 1 = wgtQ b := by
    have := all_weight hb hs ht
    unfold Fk at this
    rw [h2] at this
    simp only [sumN] at this
    grind
  have hT := (holds_rea hb hs ht).2
  have h3 := bend_last hb hs ht
  unfold Fk Tk at h3
  rw [h2] at h3
  simp only [sumN] at h3
  have hO : overQ b.even (lds b.loads) b.length = (b.even : Rat) * b.length * b.length / 2000 + sumQ (fun x : TLoad => (x.weight : Rat) * ((b.length - x.at_ : Int) : Rat)) b.loads := by
    unfold overQ lds
    rw [sumQ_map]
    congr 1
    apply sumQ_congr
    intro x hx
    have := (hb.ld x hx).2.1
    simp only
    by_cases h : x.at_ < b.length
    · rw [if_pos h, cast_sub']
    · have : b.length - x.at_ = 0 := by omega
      rw [if_neg h, this]
      have : ((0 : Int) : Rat) = 0 := rfl
      rw [this]; grind
  have hS : sumQ (fun x : TLoad => (x.weight : Rat) * ((b.length - x.at_ : Int) : Rat)) b.loads + sumQ (fun x : TLoad => (x.weight : Rat) * ((x.at_ - sp b 0 : Int) : Rat)) b.loads = ((b.length : Rat) - (sp b 0 : Rat)) * sumQ (fun x : TLoad => (x.weight : Rat)) b.loads := by
    rw [← sumQ_mul, ← sumQ_add]
    apply sumQ_congr
    intro x _
    rw [cast_sub', cast_sub']
    grind
  have hW : wgtQ b = (b.even : Rat) * b.length / 1000 + sumQ (fun x : TLoad => (x.weight : Rat)) b.loads := by
    unfold wgtQ lds
    rw [sumQ_map]
  rw [hO] at h3
  rw [hW] at hF
  rw [cast_sub', Rat.intCast_mul, Rat.intCast_mul, cast_sub', Rat.intCast_mul]
  have e2 : ((2 : Int) : Rat) = 2 := rfl
  rw [e2]
  generalize sumQ (fun x : TLoad => (x.weight : Rat) * ((b.length - x.at_ : Int) : Rat)) b.loads = A at *
  generalize sumQ (fun x : TLoad => (x.weight : Rat) * ((x.at_ - sp b 0 : Int) : Rat)) b.loads = B at *
  generalize sumQ (fun x : TLoad => (x.weight : Rat)) b.loads = C at *
  generalize reactB b 0 = p at *
  generalize reactB b 1 = q at *
  generalize (sp b 0 : Rat) = s0 at *
  generalize (sp b 1 : Rat) = s1 at *
  generalize (b.even : Rat) = E at *
  generalize (b.length : Rat) = L at *
  have hp : p = E * L / 1000 + C - q := by grind
  subst hp
  grind
end Go.Proofs.Ytbamoboldhabjaa

/- Exact numbers: Cmp. -/
namespace Go.Proofs.Ytbamoboldhabjaa

theorem wok_prod {x y : Int} (hx : 0 ≤ x) (hx2 : x < 18446744073709551616) (hy : 0 ≤ y) (hy2 : y < 18446744073709551616) : F_ratio_product x y = some (ofV (x * y)) ∧ WOk (ofV (x * y)) := by
  refine ⟨f_product hx hx2 hy hy2, wok_of (Int.mul_nonneg hx hy) ?_⟩
  have : x * y ≤ 18446744073709551615 * 18446744073709551615 := Int.mul_le_mul (by omega) (by omega) hy (by omega)
  omega
end Go.Proofs.Ytbamoboldhabjaa

/- Exact numbers: the sum in its lowest terms. -/
namespace Go.Proofs.Ytbamoboldhabjaa

theorem int_gcd_add {n1 n2 : Int} {e1 e2 : Nat} (h1 : Nat.gcd n1.natAbs e1 = 1) (h : Nat.gcd e2 e1 = 1) : Nat.gcd (n1 * e2 + n2 * e1).natAbs e1 = 1 := by
  have e : Int.gcd (n1 * e2 + n2 * e1) e1 = Int.gcd (n1 * e2) e1 := by
    rw [Int.gcd_add_mul_right_left]
  have e2' : Int.gcd (n1 * e2) e1 = Nat.gcd (n1.natAbs * e2) e1 := by
    show Nat.gcd (n1 * e2).natAbs e1 = _
    rw [Int.natAbs_mul]; rfl
  show Int.gcd (n1 * e2 + n2 * e1) e1 = 1
  rw [e, e2']
  exact Nat.Coprime.mul_left h1 h
theorem add_red {n1 n2 : Int} {e1 e2 g : Nat} (p1 : 0 < e1) (p2 : 0 < e2) (hg : 0 < g) (h1 : Nat.gcd n1.natAbs (e1 * g) = 1) (h2 : Nat.gcd n2.natAbs (e2 * g) = 1) (hc : Nat.gcd e1 e2 = 1) :
    mkRat n1 (e1 * g) + mkRat n2 (e2 * g) = mkRat (n1 * e2 + n2 * e1) (e1 * e2 * g) ∧ Nat.gcd (n1 * e2 + n2 * e1).natAbs (e1 * e2 * g) = Nat.gcd (n1 * e2 + n2 * e1).natAbs g := by
  constructor
  · rw [Rat.mkRat_add_mkRat _ _ (Nat.ne_of_gt (Nat.mul_pos p1 hg)) (Nat.ne_of_gt (Nat.mul_pos p2 hg))]
    rw [show n1 * ((e2 * g : Nat) : Int) + n2 * ((e1 * g : Nat) : Int) = (n1 * e2 + n2 * e1) * (g : Int) from by rw [Int.natCast_mul, Int.natCast_mul]; grind, show e1 * g * (e2 * g) = e1 * e2 * g * g from by grind]
    exact Rat.mkRat_mul_right (by omega)
  · have a1 : Nat.Coprime n1.natAbs e1 := Nat.Coprime.coprime_dvd_right (Nat.dvd_mul_right _ _) h1
    have a2 : Nat.Coprime n2.natAbs e2 := Nat.Coprime.coprime_dvd_right (Nat.dvd_mul_right _ _) h2
    have b1 : Nat.Coprime (n1 * e2 + n2 * e1).natAbs e1 := int_gcd_add a1 (by rw [Nat.gcd_comm]; exact hc)
    have b2 : Nat.Coprime (n1 * e2 + n2 * e1).natAbs e2 := by rw [Int.add_comm]; exact int_gcd_add a2 hc
    exact Nat.Coprime.gcd_mul_left_cancel_right _ (Nat.Coprime.mul_right b1 b2).symm
end Go.Proofs.Ytbamoboldhabjaa

/- Exact numbers: Add. -/
namespace Go.Proofs.Ytbamoboldhabjaa

/-- The sign and the size of a sum of two numbers given by sign and size. -/
theorem sum_sign {x y : Int} {p q : Twide} (hp : WOk p) (hq : WOk q) (ep : wv p = x.natAbs) (eq : wv q = y.natAbs) (hb : (x.natAbs : Int) + y.natAbs < 340282366920938463463374607431768211456)
    {u v : Bool} (hu : x ≠ 0 → u = decide (x < 0)) (hv : y ≠ 0 → v = decide (y < 0)) :
    ∃ n : Bool, (((bif (u == v) then (F_ratio_plus p q).bind fun r16 => some (u, r16, ()) else (F_ratio_less p q).bind fun r17 => (bif r17 then (F_ratio_minus q p).bind fun r18 => some ((!u), r18, ()) else (F_ratio_minus p q).bind fun r19 => some (u, r19, ()))) : Option (Bool × Twide × Unit))) = some (n, ofV ((x + y).natAbs : Int), ()) ∧ (x + y ≠ 0 → n = decide (x + y < 0)) := by
  rw [f_less hp hq, ep, eq]
  by_cases huv : u = v
  · subst huv
    rw [beq_self_eq_true, cond_true, f_plus hp hq (by rw [ep, eq]; exact hb), ep, eq]
    by_cases hx : x = 0
    · subst hx
      exact ⟨u, by rw [show ((0 : Int).natAbs : Int) + y.natAbs = ((0 + y).natAbs : Int) from by omega]; rfl, fun h => by rw [hv (by omega)]; simp⟩
    · have hu := hu hx
      by_cases hy : y = 0
      · subst hy
        exact ⟨u, by rw [show (x.natAbs : Int) + (0 : Int).natAbs = ((x + 0).natAbs : Int) from by omega]; rfl, fun h => by rw [hu]; simp⟩
      · have hv := hv hy
        have hs : decide (x < 0) = decide (y < 0) := by rw [← hu, hv]
        have hs := decide_eq_decide.mp hs
        refine ⟨u, by rw [show (x.natAbs : Int) + y.natAbs = ((x + y).natAbs : Int) from by omega]; rfl, fun h => ?_⟩
        rw [hu]
        apply decide_eq_decide.mpr
        omega
  · rw [beq_eq_false_iff_ne.mpr huv, cond_false, Option.bind_some]
    by_cases hl : (x.natAbs : Int) < y.natAbs
    · rw [decide_eq_true hl, cond_true, f_minus hq hp (by rw [ep, eq]; omega), ep, eq]
      have hv := hv (by omega)
      have hnu : (!u) = v := by cases u <;> cases v <;> simp at huv ⊢
      by_cases hx : x = 0
      · subst hx
        refine ⟨!u, by rw [show (y.natAbs : Int) - (0 : Int).natAbs = ((0 + y).natAbs : Int) from by omega]; rfl, fun h => ?_⟩
        rw [hnu, hv]; simp
      · have hu := hu hx
        have hs : (!decide (x < 0)) = decide (y < 0) := by rw [← hu, ← hv]; exact hnu
        have hs : ¬ x < 0 ↔ y < 0 := by rw [← decide_not] at hs; exact decide_eq_decide.mp hs
        refine ⟨!u, by rw [show (y.natAbs : Int) - x.natAbs = ((x + y).natAbs : Int) from by omega]; rfl, fun h => ?_⟩
        rw [hnu, hv]
        apply decide_eq_decide.mpr
        omega
    · rw [decide_eq_false hl, cond_false, f_minus hp hq (by rw [ep, eq]; omega), ep, eq]
      by_cases hx : x = 0
      · subst hx
        have : y = 0 := by omega
        subst this
        exact ⟨u, rfl, fun h => absurd rfl h⟩
      · have hu := hu hx
        by_cases hy : y = 0
        · subst hy
          exact ⟨u, by rw [show (x.natAbs : Int) - (0 : Int).natAbs = ((x + 0).natAbs : Int) from by omega]; rfl, fun h => by rw [hu]; simp⟩
        · have hv := hv hy
          have hnu : (!u) = v := by cases u <;> cases v <;> simp at huv ⊢
          have hs : (!decide (x < 0)) = decide (y < 0) := by rw [← hu, ← hv]; exact hnu
          have hs : ¬ x < 0 ↔ y < 0 := by rw [← decide_not] at hs; exact decide_eq_decide.mp hs
          refine ⟨u, by rw [show (x.natAbs : Int) - y.natAbs = ((x + y).natAbs : Int) from by omega]; rfl, fun h => ?_⟩
          rw [hu]
          apply decide_eq_decide.mpr
          omega
end Go.Proofs.Ytbamoboldhabjaa

/- Exact numbers: Add, Sub. -/
namespace Go.Proofs.Ytbamoboldhabjaa

theorem ofv_nat (n : Nat) : ofV (n : Int) = ⟨((n / 18446744073709551616 : Nat) : Int), ((n % 18446744073709551616 : Nat) : Int)⟩ := by
  unfold ofV
  congr 1
theorem f_radd {a b : TFrac} (ha : RV a) (hb : RV b) : F_ratio_Add a b = some (outQ (qOf a + qOf b)) := by
  obtain ⟨n1, ad⟩ := a
  obtain ⟨n2, bd⟩ := b
  obtain ⟨x0, x1, x2, x3, x4⟩ := id ha
  obtain ⟨y0, y1, y2, y3, y4⟩ := id hb
  dsimp only at *
  obtain ⟨d1, rfl⟩ := Int.eq_ofNat_of_zero_le (show 0 ≤ ad by omega)
  obtain ⟨d2, rfl⟩ := Int.eq_ofNat_of_zero_le (show 0 ≤ bd by omega)
  rw [Int.toNat_natCast] at x4 y4
  unfold F_ratio_Add
  rw [rv_true ha, rv_true hb]
  simp only [Option.bind_some, Bool.not_true, cond_false, wrapu]
  rw [show (d2 : Int) % 18446744073709551616 = d2 from by omega, show (d1 : Int) % 18446744073709551616 = d1 from by omega, f_gcd _ _ (by unfold big; omega)]
  simp only [Option.bind_some]
  have hg : 0 < Nat.gcd d1 d2 := Nat.gcd_pos_of_pos_right _ (by omega)
  have hc : Nat.gcd (d1 / Nat.gcd d1 d2) (d2 / Nat.gcd d1 d2) = 1 := Nat.gcd_div_gcd_div_gcd_of_pos_right (by omega)
  have hd1 := Nat.div_mul_cancel (Nat.gcd_dvd_left d1 d2)
  have hd2 := Nat.div_mul_cancel (Nat.gcd_dvd_right d1 d2)
  have hq1 := Nat.div_le_self d1 (Nat.gcd d1 d2)
  have hq2 := Nat.div_le_self d2 (Nat.gcd d1 d2)
  have hgle : Nat.gcd d1 d2 ≤ d1 := Nat.gcd_le_left _ (by omega)
  have tm (u v : Nat) : (u : Int).tdiv (v : Int) = ((u / v : Nat) : Int) := by rw [Int.tdiv_eq_ediv_of_nonneg (by omega), Int.natCast_ediv]
  have hp1 : 0 < d1 / Nat.gcd d1 d2 := Nat.div_pos hgle hg
  have hp2 : 0 < d2 / Nat.gcd d1 d2 := Nat.div_pos (Nat.gcd_le_right _ (by omega)) hg
  have ea : qOf ⟨n1, d1⟩ + qOf ⟨n2, d2⟩ = mkRat n1 d1 + mkRat n2 d2 := rfl
  rw [ea]
  simp only [tm]
  generalize Nat.gcd d1 d2 = g at *
  generalize he1 : d1 / g = e1 at *
  generalize he2 : d2 / g = e2 at *
  have hi : ((g : Nat) : Int) ≠ 0 := by omega
  simp only [if_neg hi]
  rw [f_size (by omega) (by omega), f_size (by omega) (by omega)]
  simp only [Option.bind_some]
  rw [show (e1 : Int) % 18446744073709551616 = e1 from by omega, show (e2 : Int) % 18446744073709551616 = e2 from by omega]
  obtain ⟨p1, k1⟩ := wok_prod (x := (n1.natAbs : Int)) (y := (e2 : Int)) (by omega) (by omega) (by omega) (by omega)
  obtain ⟨p2, k2⟩ := wok_prod (x := (n2.natAbs : Int)) (y := (e1 : Int)) (by omega) (by omega) (by omega) (by omega)
  rw [p1, p2]
  simp only [Option.bind_some]
  rw [← hd1] at x4
  rw [← hd2] at y4
  obtain ⟨es, eg⟩ := add_red (n1 := n1) (n2 := n2) hp1 hp2 hg x4 y4 hc
  rw [show mkRat n1 d1 + mkRat n2 d2 = mkRat (n1 * e2 + n2 * e1) (e1 * e2 * g) from by rw [← hd1, ← hd2]; exact es]
  have ab1 : ((n1.natAbs : Int) * (e2 : Int)) = ((n1 * e2).natAbs : Int) := by rw [Int.natAbs_mul]; rfl
  have ab2 : ((n2.natAbs : Int) * (e1 : Int)) = ((n2 * e1).natAbs : Int) := by rw [Int.natAbs_mul]; rfl
  have b1 : ((n1 * e2).natAbs : Int) ≤ 1329227995784915872903807060280344576 := by
    rw [← ab1]; exact Int.le_trans (Int.mul_le_mul (show (n1.natAbs : Int) ≤ 1152921504606846976 by omega) (show (e2 : Int) ≤ 1152921504606846976 by omega) (by omega) (by omega)) (by decide)
  have b2 : ((n2 * e1).natAbs : Int) ≤ 1329227995784915872903807060280344576 := by
    rw [← ab2]; exact Int.le_trans (Int.mul_le_mul (show (n2.natAbs : Int) ≤ 1152921504606846976 by omega) (show (e1 : Int) ≤ 1152921504606846976 by omega) (by omega) (by omega)) (by decide)
  have sg (n : Int) (e : Nat) (he : 0 < e) : decide (n < 0) = decide (n * e < 0) := by
    apply decide_eq_decide.mpr
    constructor
    · intro h; exact Int.mul_neg_of_neg_of_pos h (by omega)
    · intro h
      rcases Int.lt_or_le n 0 with h1 | h1
      · exact h1
      · have := Int.mul_nonneg h1 (show (0 : Int) ≤ e by omega); omega
  obtain ⟨n, hsum, hn⟩ := sum_sign (x := n1 * e2) (y := n2 * e1) k1 k2 (by rw [wv_of, ab1]) (by rw [wv_of, ab2]) (by omega) (u := decide (n1 < 0)) (v := decide (n2 < 0)) (fun _ => sg n1 e2 hp2) (fun _ => sg n2 e1 hp1)
  rw [hsum]
  simp only [Option.bind_some]
  have hg18 : g ≤ 1152921504606846976 := by omega
  have hM : ((n1 * e2 + n2 * e1).natAbs : Int) ≤ 2658455991569831745807614120560689152 := by omega
  by_cases h0 : n1 * e2 + n2 * e1 = 0
  · rw [h0]
    rw [show (((ofV ((0 : Int).natAbs : Int)).hi == 0) && ((ofV ((0 : Int).natAbs : Int)).lo == 0)) = true from by decide, cond_true, Rat.zero_mkRat]
    rfl
  · have hMp : 0 < (n1 * e2 + n2 * e1).natAbs := by omega
    have hn' := hn h0
    subst hn'
    rw [out_red (n := n1 * e2 + n2 * e1) (d := e1 * e2 * g) (g := Nat.gcd (n1 * e2 + n2 * e1).natAbs g) (Nat.ne_of_gt (Nat.mul_pos (Nat.mul_pos hp1 hp2) hg)) eg]
    have hcg : Nat.gcd (n1 * e2 + n2 * e1).natAbs g ∣ g := Nat.gcd_dvd_right _ _
    have hcp : 0 < Nat.gcd (n1 * e2 + n2 * e1).natAbs g := Nat.gcd_pos_of_pos_right _ hg
    have hcle := Nat.le_of_dvd hg hcg
    have hrec : Nat.gcd g ((n1 * e2 + n2 * e1).natAbs % g) = Nat.gcd (n1 * e2 + n2 * e1).natAbs g := by
      rw [Nat.gcd_comm g, ← Nat.gcd_rec, Nat.gcd_comm]
    generalize hMd : (n1 * e2 + n2 * e1).natAbs = M at *
    generalize hC : Nat.gcd M g = c at *
    have hnz : (((ofV (M : Int)).hi == 0) && ((ofV (M : Int)).lo == 0)) = false := by
      rw [ofv_nat]
      simp only [Bool.and_eq_false_iff, beq_eq_false_iff_ne]
      omega
    rw [hnz, cond_false, f_over (wok_of (by omega) (by omega)) (by omega) (by omega), wv_of]
    simp only [Option.bind_some]
    rw [show (M : Int) % (g : Int) = ((M % g : Nat) : Int) from (Int.natCast_emod _ _).symm, f_gcd _ _ (by have := Nat.mod_lt M hg; unfold big; omega), hrec]
    simp only [Option.bind_some]
    rw [f_over (wok_of (by omega) (by omega)) (by omega) (by omega), wv_of]
    simp only [Option.bind_some]
    have hcI : ((c : Nat) : Int) ≠ 0 := by omega
    rw [if_neg hcI]
    have hd2c : d2 / c ≤ d2 := Nat.div_le_self _ _
    have hden : e1 * e2 * g / c = e1 * (d2 / c) := by
      rw [Nat.mul_assoc, hd2, Nat.mul_div_assoc]
      exact Nat.dvd_trans hcg ⟨e2, by rw [← hd2, Nat.mul_comm]⟩
    rw [tm, hden]
    generalize d2 / c = q at *
    rw [show ((q : Nat) : Int) % 18446744073709551616 = ((q : Nat) : Int) from by omega]
    rw [f_product (by omega) (by omega) (by omega) (by omega)]
    simp only [Option.bind_some]
    rw [show (M : Int) / (c : Int) = ((M / c : Nat) : Int) from (Int.natCast_ediv _ _).symm, ← Int.natCast_mul, ofv_nat]
    generalize M / c = u at *
    generalize e1 * q = v at *
    by_cases c1 : ((u / 18446744073709551616 : Nat) : Int) > 0
    · rw [decide_eq_true c1, if_neg (by omega)]
      simp only [cond_true, Option.bind_some]
    · rw [decide_eq_false c1]
      simp only [cond_false, Option.bind_some]
      by_cases c2 : (v : Int) / 18446744073709551616 > 0
      · rw [decide_eq_true c2, if_neg (by omega)]
        simp only [cond_true]
      · rw [decide_eq_false c2, cond_false, f_signed (by omega) (by omega) (by omega) (by omega)]
        rw [show ((u % 18446744073709551616 : Nat) : Int) = u from by omega, show (v : Int) % 18446744073709551616 = v from by omega]
        have hcond : ((u : Int) ≤ 1152921504606846976 ∧ (v : Int) ≤ 1152921504606846976) ↔ (u ≤ 1152921504606846976 ∧ v ≤ 1152921504606846976) := by omega
        simp only [Option.bind_some, hcond, decide_eq_true_eq]
end Go.Proofs.Ytbamoboldhabjaa

/- Exact numbers of the reference: magnitudes of two words. -/
namespace Go.Proofs.Ytbamoboldhabjaa
set_option linter.unusedSimpArgs false
set_option linter.unusedVariables false

theorem iter_run_inv {σ ρ : Type} {F : σ → Option (σ ⊕ ρ)} {Q : ρ → Prop} (I : Nat → σ → Prop) (n : Nat) (hn : n < big)
    (step : ∀ k s, I k s → (∃ s', F s = some (.inl s') ∧ k < n ∧ I (k + 1) s') ∨ ∃ r, F s = some (.inr r) ∧ Q r) {s : σ} (h : I 0 s) : ∃ r, iterF F big s = some r ∧ Q r :=
  iter_inv I n hn (fun k s _ hi => step k s hi) h
def ofU (n : Nat) : TU := ⟨((n / 18446744073709551616 : Nat) : Int), ((n % 18446744073709551616 : Nat) : Int)⟩
theorem ofU_small {n : Nat} (h : n < 18446744073709551616) : ofU n = ⟨0, (n : Int)⟩ := by
  unfold ofU
  congr 1 <;> omega
theorem ofU_zero (n : Nat) : (((ofU n).h == 0) && ((ofU n).l == 0)) = decide (n = 0) := by
  unfold ofU
  by_cases h : n = 0
  · subst h; rfl
  · rw [decide_eq_false h]
    simp only [Bool.and_eq_false_iff, beq_eq_false_iff_ne]
    omega
theorem g_size {n : Int} (h : -9223372036854775808 ≤ n) (h2 : n ≤ 9223372036854775807) : F_ref02_Size n = some (n.natAbs : Int) := by
  unfold F_ref02_Size
  rw [wrapu, wrapu]
  by_cases hn : n < 0
  · rw [decide_eq_true hn, cond_true]; congr 1; omega
  · rw [decide_eq_false hn, cond_false]; congr 1; omega
theorem g_less (m n : Nat) : F_ref02_Less (ofU m) (ofU n) = some (decide (m < n)) := by
  unfold F_ref02_Less ofU
  dsimp only
  by_cases h : ((m / 18446744073709551616 : Nat) : Int) < ((n / 18446744073709551616 : Nat) : Int)
  · rw [decide_eq_true h]
    simp only [cond_true, Option.bind_some]
    congr 1; symm; apply decide_eq_true; omega
  · rw [decide_eq_false h]
    by_cases h2 : ((m / 18446744073709551616 : Nat) : Int) = ((n / 18446744073709551616 : Nat) : Int)
    · rw [beq_iff_eq.mpr h2]
      simp only [cond_true, cond_false, Option.bind_some]
      congr 1; apply decide_eq_decide.mpr; omega
    · rw [beq_eq_false_iff_ne.mpr h2]
      simp only [cond_false, Option.bind_some]
      congr 1; symm; apply decide_eq_false; omega
theorem g_plus {m n : Nat} (h : m + n < 340282366920938463463374607431768211456) : F_ref02_Plus (ofU m) (ofU n) = some (ofU (m + n)) := by
  unfold F_ref02_Plus ofU
  simp only [wrapu]
  by_cases c : (((m % 18446744073709551616 : Nat) : Int) + ((n % 18446744073709551616 : Nat) : Int)) % 18446744073709551616 < ((m % 18446744073709551616 : Nat) : Int)
  · rw [decide_eq_true c]
    simp only [cond_true, Option.bind_some]
    congr 2 <;> omega
  · rw [decide_eq_false c]
    simp only [cond_false, Option.bind_some]
    congr 2 <;> omega
theorem g_minus {m n : Nat} (hm : m < 340282366920938463463374607431768211456) (h : n ≤ m) : F_ref02_Minus (ofU m) (ofU n) = some (ofU (m - n)) := by
  unfold F_ref02_Minus ofU
  simp only [wrapu]
  by_cases c : ((m % 18446744073709551616 : Nat) : Int) < ((n % 18446744073709551616 : Nat) : Int)
  · rw [decide_eq_true c]
    simp only [cond_true, Option.bind_some]
    congr 2 <;> omega
  · rw [decide_eq_false c]
    simp only [cond_false, Option.bind_some]
    congr 2 <;> omega
theorem sh63 (x : Int) : x.fdiv (2 ^ min (Int.toNat 63) IntKind.u64.bits) = x / 9223372036854775808 := by
  rw [show (2 ^ min (Int.toNat 63) IntKind.u64.bits : Int) = 9223372036854775808 from by decide, Int.fdiv_eq_ediv_of_nonneg _ (by omega)]
theorem sh1 (x : Int) : x.fdiv (2 ^ min (Int.toNat 1) IntKind.u64.bits) = x / 2 := by
  rw [show (2 ^ min (Int.toNat 1) IntKind.u64.bits : Int) = 2 from by decide, Int.fdiv_eq_ediv_of_nonneg _ (by omega)]
theorem sl63 (x : Int) : x * 2 ^ min (Int.toNat 63) IntKind.u64.bits = x * 9223372036854775808 := by
  rw [show (2 ^ min (Int.toNat 63) IntKind.u64.bits : Int) = 9223372036854775808 from by decide]
theorem sl1 (x : Int) : x * 2 ^ min (Int.toNat 1) IntKind.u64.bits = x * 2 := by
  rw [show (2 ^ min (Int.toNat 1) IntKind.u64.bits : Int) = 2 from by decide]
theorem g_half {m : Nat} (h : m < 340282366920938463463374607431768211456) : F_ref02_Half (ofU m) = some (ofU (m / 2)) := by
  unfold F_ref02_Half ofU
  simp only [wrapu, sh1, sl63]
  congr 2 <;> omega
theorem lo1 (n : Nat) : ((bitsOf .and .u64 ((n % 18446744073709551616 : Nat) : Int) 1) == 0) = decide (n % 2 = 0) := by
  have e : bitsOf .and .u64 ((n % 18446744073709551616 : Nat) : Int) 1 = ((n % 2 : Nat) : Int) := by
    show IntKind.u64.wrap (((BitVec.ofInt 64 ((n % 18446744073709551616 : Nat) : Int) &&& BitVec.ofInt 64 1).toNat : Nat) : Int) = _
    rw [wrapu, BitVec.toNat_and, show (1 : Int) = ((2 ^ 1 - 1 : Nat) : Int) from rfl, BitVec.ofInt_natCast, BitVec.ofInt_natCast, BitVec.toNat_ofNat, BitVec.toNat_ofNat, Nat.mod_eq_of_lt (show 2 ^ 1 - 1 < 2 ^ 64 by decide), Nat.and_two_pow_sub_one_eq_mod]
    omega
  rw [e]
  by_cases h : n % 2 = 0
  · rw [decide_eq_true h, h]; rfl
  · rw [decide_eq_false h, beq_eq_false_iff_ne]; omega
end Go.Proofs.Ytbamoboldhabjaa

/- Exact numbers of the reference: the greatest common divisor, by halves. -/
namespace Go.Proofs.Ytbamoboldhabjaa
set_option linter.unusedSimpArgs false
set_option linter.unusedVariables false

theorem pw257 (k : Nat) (h : k ≤ 1) : 2 ^ 256 ≤ 2 ^ (257 - k) := Nat.pow_le_pow_right (by decide) (by omega)
theorem pow_lt128 {a k m : Nat} (ha : 0 < a) (h : a * 2 ^ k = m) (hm : m < 340282366920938463463374607431768211456) : k < 128 := by
  rcases Nat.lt_or_ge k 128 with h1 | h1
  · exact h1
  · have h2 : 2 ^ 128 ≤ 2 ^ k := Nat.pow_le_pow_right (by decide) h1
    have h3 : 1 * 2 ^ k ≤ a * 2 ^ k := Nat.mul_le_mul_right _ ha
    have h4 : (2 : Nat) ^ 128 = 340282366920938463463374607431768211456 := by decide
    omega
/-- Halves, until it is odd. -/
theorem halves (F : TU × Unit → Option ((TU × Unit) ⊕ (TU × Unit)))
    (hF : ∀ a : Nat, a < 340282366920938463463374607431768211456 → F (ofU a, ()) = if a % 2 = 0 then some (.inl (ofU (a / 2), ())) else some (.inr (ofU a, ()))) {a : Nat} (ha : 0 < a) (h : a < 340282366920938463463374607431768211456) :
    ∃ A k : Nat, iterF F big (ofU a, ()) = some (ofU A, ()) ∧ A % 2 = 1 ∧ A * 2 ^ k = a := by
  obtain ⟨r, h1, A, k, h2, h3, h4⟩ := iter_run_inv (F := F) (Q := fun r => ∃ A k : Nat, r = (ofU A, ()) ∧ A % 2 = 1 ∧ A * 2 ^ k = a) (fun k s => ∃ A : Nat, s = (ofU A, ()) ∧ 0 < A ∧ A * 2 ^ k = a) 128 (by unfold big; omega) (by
    rintro k s ⟨A, rfl, hA, he⟩
    have hAl : A < 340282366920938463463374607431768211456 := by
      have : A * 1 ≤ A * 2 ^ k := Nat.mul_le_mul_left _ (Nat.pow_pos (by decide))
      omega
    rw [hF A hAl]
    by_cases hc : A % 2 = 0
    · rw [if_pos hc]
      refine .inl ⟨_, rfl, pow_lt128 hA he h, A / 2, rfl, by omega, ?_⟩
      rw [Nat.pow_succ, ← he, Nat.mul_comm (2 ^ k), ← Nat.mul_assoc, Nat.div_mul_cancel (Nat.dvd_of_mod_eq_zero hc)]
    · rw [if_neg hc]
      exact .inr ⟨_, rfl, A, k, rfl, by omega, he⟩) (s := (ofU a, ())) ⟨a, rfl, ha, by simp⟩
  subst h2
  exact ⟨A, k, h1, h3, h4⟩
theorem gcd_halves {a A b k : Nat} (he : A * 2 ^ k = a) (hab : a % 2 = 1 ∨ b % 2 = 1) : Nat.gcd A b = Nat.gcd a b := by
  cases k with
  | zero => rw [← he]; simp
  | succ k =>
    have hb : b % 2 = 1 := by
      rcases hab with h | h
      · rw [← he, Nat.pow_succ, ← Nat.mul_assoc, Nat.mul_mod_left] at h; omega
      · exact h
    have hc : Nat.Coprime (2 ^ (k + 1)) b := Nat.Coprime.pow_left _ (by
      show Nat.gcd 2 b = 1
      rw [Nat.gcd_rec, hb]; rfl)
    rw [← he]
    exact (Nat.Coprime.gcd_mul_right_cancel A hc).symm
def gcdL (F1 F2 : TU × Unit → Option ((TU × Unit) ⊕ (TU × Unit))) : TU × TU × Unit → Option ((TU × TU × Unit) ⊕ (TU × TU × Unit)) :=
  fun s38 => (bif (!((s38.1.h == 0) && (s38.1.l == 0))) then (iterF (σ := TU × Unit) (ρ := TU × Unit) F1 big (s38.1, ())).bind fun y41 => (iterF (σ := TU × Unit) (ρ := TU × Unit) F2 big (s38.2.1, ())).bind fun y44 => ((F_ref02_Less y41.1 y44.1).bind fun r45 => (bif r45 then some (y44.1, y41.1, ()) else some (y41.1, y44.1, ())) : Option (TU × TU × Unit)).bind fun y46 => (F_ref02_Minus y46.1 y46.2.1).bind fun r47 => some (.inl (r47, y46.2.1, ())) else some (.inr (s38.1, s38.2.1, ())))
theorem halfF (a : Nat) (ha : a < 340282366920938463463374607431768211456) : ((bif ((bitsOf .and .u64 (ofU a).l 1) == 0) then (F_ref02_Half (ofU a)).bind fun r40 => some (.inl (r40, ())) else some (.inr (ofU a, ()))) : Option ((TU × Unit) ⊕ (TU × Unit))) = if a % 2 = 0 then some (.inl (ofU (a / 2), ())) else some (.inr (ofU a, ())) := by
  rw [show (ofU a).l = ((a % 18446744073709551616 : Nat) : Int) from rfl, lo1, g_half ha]
  by_cases h : a % 2 = 0
  · rw [decide_eq_true h, if_pos h]; rfl
  · rw [decide_eq_false h, if_neg h]; rfl
/-- The main loop: odd parts, the difference. -/
theorem gcd_main {F1 F2 : TU × Unit → Option ((TU × Unit) ⊕ (TU × Unit))}
    (h1 : ∀ a : Nat, a < 340282366920938463463374607431768211456 → F1 (ofU a, ()) = if a % 2 = 0 then some (.inl (ofU (a / 2), ())) else some (.inr (ofU a, ())))
    (h2 : ∀ a : Nat, a < 340282366920938463463374607431768211456 → F2 (ofU a, ()) = if a % 2 = 0 then some (.inl (ofU (a / 2), ())) else some (.inr (ofU a, ())))
    {a b : Nat} (ha : a < 340282366920938463463374607431768211456) (hb : 0 < b) (hb2 : b < 340282366920938463463374607431768211456) (hodd : a % 2 = 1 ∨ b % 2 = 1) :
    ∃ z, iterF (gcdL F1 F2) big (ofU a, ofU b, ()) = some (z, ofU (Nat.gcd a b), ()) := by
  obtain ⟨r, e, z, rfl⟩ := iter_run_inv (F := gcdL F1 F2) (Q := fun r => ∃ z, r = (z, ofU (Nat.gcd a b), ()))
    (fun k s => ∃ A B : Nat, s = (ofU A, ofU B, ()) ∧ A < 340282366920938463463374607431768211456 ∧ 0 < B ∧ B < 340282366920938463463374607431768211456 ∧ (A % 2 = 1 ∨ B % 2 = 1) ∧ Nat.gcd A B = Nat.gcd a b ∧ k ≤ 257 ∧ (if A % 2 = 0 then A / 2 else A) * B < 2 ^ (257 - k)) 257 (by unfold big; omega) (by
    rintro k s ⟨A, B, rfl, hA, hB, hB2, ho, hg, hk, hP⟩
    unfold gcdL
    dsimp only
    rw [ofU_zero]
    by_cases h0 : A = 0
    · subst h0
      rw [decide_eq_true rfl]
      simp only [Bool.not_true, cond_false]
      refine .inr ⟨_, rfl, ofU 0, ?_⟩
      rw [← hg, Nat.gcd_zero_left]
    · rw [decide_eq_false h0]
      simp only [Bool.not_false, cond_true]
      obtain ⟨A1, p, e1, o1, f1⟩ := halves F1 h1 (show 0 < A by omega) hA
      obtain ⟨B1, q, e2, o2, f2⟩ := halves F2 h2 hB hB2
      rw [e1, e2]
      simp only [Option.bind_some]
      rw [g_less]
      simp only [Option.bind_some]
      have g1 : Nat.gcd A1 B1 = Nat.gcd a b := by
        rw [gcd_halves (b := B1) f1 (by right; exact o2), Nat.gcd_comm, gcd_halves (b := A) f2 (by rcases ho with h | h; exact .inr h; exact .inl h), Nat.gcd_comm, hg]
      have hA1 : A1 ≤ (if A % 2 = 0 then A / 2 else A) := by
        cases p with
        | zero => rw [← f1]; simp only [Nat.pow_zero, Nat.mul_one]; rw [if_neg (by omega)]; exact Nat.le_refl _
        | succ p =>
          have h3 : 2 * A1 ≤ A := by
            rw [← f1, Nat.pow_succ, Nat.mul_comm (2 ^ p), ← Nat.mul_assoc, Nat.mul_comm 2]
            exact Nat.le_mul_of_pos_right _ (Nat.pow_pos (by decide))
          split <;> omega
      have hB1 : B1 ≤ B := by rw [← f2]; exact Nat.le_mul_of_pos_right _ (Nat.pow_pos (by decide))
      have hprod : A1 * B1 < 2 ^ (257 - k) := Nat.lt_of_le_of_lt (Nat.mul_le_mul hA1 hB1) hP
      have hpos : 0 < A1 * B1 := Nat.mul_pos (by omega) (by omega)
      have hk2 : k < 257 := by
        rcases Nat.lt_or_ge k 257 with h | h
        · exact h
        · have : 257 - k = 0 := by omega
          rw [this] at hprod
          omega
      have hpow : 2 ^ (257 - k) = 2 * 2 ^ (257 - (k + 1)) := by
        rw [show 257 - k = (257 - (k + 1)) + 1 from by omega, Nat.pow_succ, Nat.mul_comm]
      have hA1l : A1 < 340282366920938463463374607431768211456 := by
        have : A1 ≤ A := by rw [← f1]; exact Nat.le_mul_of_pos_right _ (Nat.pow_pos (by decide))
        omega
      have key : ∀ X Y : Nat, Y ≤ X → X * Y = A1 * B1 → X % 2 = 1 → Y % 2 = 1 → (if (X - Y) % 2 = 0 then (X - Y) / 2 else X - Y) * Y < 2 ^ (257 - (k + 1)) := by
        intro X Y hYX he hX hY
        rw [if_pos (by omega)]
        have h5 : 2 * ((X - Y) / 2 * Y) ≤ X * Y := by
          rw [← Nat.mul_assoc]
          exact Nat.mul_le_mul_right _ (by omega)
        omega
      by_cases hlt : A1 < B1
      · rw [decide_eq_true hlt]
        simp only [cond_true, Option.bind_some]
        rw [g_minus (by omega) (by omega)]
        simp only [Option.bind_some]
        refine .inl ⟨_, rfl, hk2, B1 - A1, A1, rfl, by omega, by omega, by omega, .inr o1, ?_, by omega, key B1 A1 (by omega) (Nat.mul_comm _ _) o2 o1⟩
        rw [Nat.gcd_sub_self_left (by omega), Nat.gcd_comm]
        exact g1
      · rw [decide_eq_false hlt]
        simp only [cond_false, Option.bind_some]
        rw [g_minus (by omega) (by omega)]
        simp only [Option.bind_some]
        refine .inl ⟨_, rfl, hk2, A1 - B1, B1, rfl, by omega, by omega, by omega, .inr o2, ?_, by omega, key A1 B1 (by omega) rfl o1 o2⟩
        rw [Nat.gcd_sub_self_left (by omega)]
        exact g1) (s := (ofU a, ofU b, ())) ⟨a, b, rfl, ha, hb, hb2, hodd, rfl, by omega, by
      have h3 : (if a % 2 = 0 then a / 2 else a) * b ≤ 340282366920938463463374607431768211455 * 340282366920938463463374607431768211455 := Nat.mul_le_mul (by split <;> omega) (by omega)
      have h4 : (340282366920938463463374607431768211455 * 340282366920938463463374607431768211455 : Nat) < 2 ^ 256 := by decide
      exact Nat.lt_of_le_of_lt h3 (Nat.lt_of_lt_of_le h4 (pw257 0 (by decide)))⟩
  exact ⟨z, e⟩
theorem g_gcd {a b : Nat} (ha : a < 340282366920938463463374607431768211456) (hb : 0 < b) (hb2 : b < 340282366920938463463374607431768211456) : F_ref02_Gcd (ofU a) (ofU b) = some (ofU (Nat.gcd a b)) := by
  unfold F_ref02_Gcd
  rw [ofU_zero]
  by_cases h0 : a = 0
  · subst h0
    rw [decide_eq_true rfl, cond_true, Nat.gcd_zero_left]
  · rw [decide_eq_false h0, cond_false]
    obtain ⟨r, e, k, A, B, rfl, hAk, hBk, hodd⟩ := iter_run_inv (F := (fun s10 => ((bif ((bitsOf .and .u64 s10.2.1.l 1) == 0) then some (((bitsOf .and .u64 s10.2.2.1.l 1) == 0), ()) else some (false, ())) : Option (Bool × Unit)).bind fun y11 => (bif y11.1 then (F_ref02_Half s10.2.1).bind fun r12 => (F_ref02_Half s10.2.2.1).bind fun r13 => some (.inl ((IntKind.i64.wrap (s10.1 + 1)), r12, r13, ())) else some (.inr (s10.1, s10.2.1, s10.2.2.1, ())))))
      (Q := fun r : Int × TU × TU × Unit => ∃ k A B : Nat, r = ((k : Int), ofU A, ofU B, ()) ∧ A * 2 ^ k = a ∧ B * 2 ^ k = b ∧ (A % 2 = 1 ∨ B % 2 = 1))
      (fun k s => ∃ A B : Nat, s = ((k : Int), ofU A, ofU B, ()) ∧ 0 < A ∧ 0 < B ∧ A * 2 ^ k = a ∧ B * 2 ^ k = b) 128 (by unfold big; omega) (by
      rintro k s ⟨A, B, rfl, hA, hB, ea, eb⟩
      have hk := pow_lt128 hA ea ha
      have hAl : A < 340282366920938463463374607431768211456 := by
        have : A * 1 ≤ A * 2 ^ k := Nat.mul_le_mul_left _ (Nat.pow_pos (by decide))
        omega
      have hBl : B < 340282366920938463463374607431768211456 := by
        have : B * 1 ≤ B * 2 ^ k := Nat.mul_le_mul_left _ (Nat.pow_pos (by decide))
        omega
      dsimp only
      rw [show (ofU A).l = ((A % 18446744073709551616 : Nat) : Int) from rfl, show (ofU B).l = ((B % 18446744073709551616 : Nat) : Int) from rfl, lo1, lo1]
      have stop : A % 2 = 1 ∨ B % 2 = 1 → ∃ r : Int × TU × TU × Unit, ((some (.inr ((k : Int), ofU A, ofU B, ())) : Option ((Int × TU × TU × Unit) ⊕ (Int × TU × TU × Unit)))) = some (.inr r) ∧ ∃ k A B : Nat, r = ((k : Int), ofU A, ofU B, ()) ∧ A * 2 ^ k = a ∧ B * 2 ^ k = b ∧ (A % 2 = 1 ∨ B % 2 = 1) := fun h => ⟨_, rfl, k, A, B, rfl, ea, eb, h⟩
      by_cases c1 : A % 2 = 0
      · by_cases c2 : B % 2 = 0
        · rw [decide_eq_true c1, decide_eq_true c2]
          simp only [cond_true, Option.bind_some]
          rw [g_half hAl, g_half hBl]
          simp only [Option.bind_some]
          refine .inl ⟨_, rfl, hk, A / 2, B / 2, by rw [wrap64 (by omega) (by omega)]; rfl, by omega, by omega, ?_, ?_⟩
          · rw [Nat.pow_succ, ← ea, Nat.mul_comm (2 ^ k), ← Nat.mul_assoc, Nat.div_mul_cancel (Nat.dvd_of_mod_eq_zero c1)]
          · rw [Nat.pow_succ, ← eb, Nat.mul_comm (2 ^ k), ← Nat.mul_assoc, Nat.div_mul_cancel (Nat.dvd_of_mod_eq_zero c2)]
        · rw [decide_eq_true c1, decide_eq_false c2]
          simp only [cond_true, cond_false, Option.bind_some]
          exact .inr (stop (.inr (by omega)))
      · rw [decide_eq_false c1]
        simp only [cond_false, Option.bind_some]
        exact .inr (stop (.inl (by omega)))) (s := (0, ofU a, ofU b, ())) ⟨a, b, rfl, by omega, hb, by simp, by simp⟩
    rw [e]
    simp only [Option.bind_some]
    have hpk : 0 < 2 ^ k := Nat.pow_pos (by decide)
    have hBp : 0 < B := by
      rcases Nat.eq_zero_or_pos B with h | h
      · rw [h, Nat.zero_mul] at hBk; omega
      · exact h
    have hAl : A < 340282366920938463463374607431768211456 := by
      have : A * 1 ≤ A * 2 ^ k := Nat.mul_le_mul_left _ hpk
      omega
    have hBl : B < 340282366920938463463374607431768211456 := by
      have : B * 1 ≤ B * 2 ^ k := Nat.mul_le_mul_left _ hpk
      omega
    obtain ⟨z, e2⟩ := gcd_main (F1 := (fun s39 => (bif ((bitsOf .and .u64 s39.1.l 1) == 0) then (F_ref02_Half s39.1).bind fun r40 => some (.inl (r40, ())) else some (.inr (s39.1, ()))))) (F2 := (fun s42 => (bif ((bitsOf .and .u64 s42.1.l 1) == 0) then (F_ref02_Half s42.1).bind fun r43 => some (.inl (r43, ())) else some (.inr (s42.1, ()))))) halfF halfF hAl hBp hBl hodd
    unfold gcdL at e2
    rw [e2]
    simp only [Option.bind_some]
    have hG : Nat.gcd A B * 2 ^ k = Nat.gcd a b := by rw [← hAk, ← hBk, Nat.gcd_mul_right]
    have hgl : Nat.gcd a b ≤ b := Nat.gcd_le_right _ hb
    have hk := pow_lt128 hBp hBk hb2
    generalize Nat.gcd A B = g at *
    obtain ⟨r, e3, rfl⟩ := iter_run_inv (F := (fun s51 => (bif (decide (s51.1 > 0)) then (F_ref02_Plus s51.2.1 s51.2.1).bind fun r52 => some (.inl ((IntKind.i64.wrap (s51.1 - 1)), r52, ())) else some (.inr (s51.2.1, ())))))
      (Q := fun r : TU × Unit => r = (ofU (Nat.gcd a b), ())) (fun i s => i ≤ k ∧ s = ((k : Int) - i, ofU (g * 2 ^ i), ())) k (by unfold big; omega) (by
      rintro i s ⟨hi, rfl⟩
      dsimp only
      by_cases hlt : i < k
      · have hle : g * 2 ^ (i + 1) ≤ g * 2 ^ k := Nat.mul_le_mul_left _ (Nat.pow_le_pow_right (by decide) hlt)
        have hdb : g * 2 ^ i + g * 2 ^ i = g * 2 ^ (i + 1) := by rw [Nat.pow_succ, ← Nat.mul_assoc]; omega
        rw [decide_eq_true (show (k : Int) - i > 0 by omega), cond_true, g_plus (by omega)]
        simp only [Option.bind_some]
        refine .inl ⟨_, rfl, hlt, hlt, ?_⟩
        rw [hdb, wrap64 (by omega) (by omega)]
        congr 1
        omega
      · obtain rfl : i = k := by omega
        rw [decide_eq_false (show ¬ (i : Int) - i > 0 by omega), cond_false]
        exact .inr ⟨_, rfl, by rw [hG]⟩) (s := ((k : Int), ofU g, ())) ⟨by omega, by simp⟩
    rw [e3]
    rfl
end Go.Proofs.Ytbamoboldhabjaa

/- Exact numbers of the reference: the long division of magnitudes; Made. -/
namespace Go.Proofs.Ytbamoboldhabjaa
set_option linter.unusedSimpArgs false
set_option linter.unusedVariables false

/-- One step of the long division, on plain numbers. -/
theorem div_step {N D i t R : Nat} (_hD : 0 < D) (hi : i < 128) (ht : t = N / 2 ^ (127 - i) % 2) (hR : R = N / 2 ^ (128 - i) % D) :
    (2 * R + t < D → N / 2 ^ (128 - (i + 1)) % D = 2 * R + t ∧ N / 2 ^ (128 - (i + 1)) / D = 2 * (N / 2 ^ (128 - i) / D)) ∧
    (D ≤ 2 * R + t → N / 2 ^ (128 - (i + 1)) % D = 2 * R + t - D ∧ N / 2 ^ (128 - (i + 1)) / D = 2 * (N / 2 ^ (128 - i) / D) + 1) := by
  have e : N / 2 ^ (128 - (i + 1)) = 2 * (N / 2 ^ (128 - i)) + t := by
    rw [ht, show 128 - (i + 1) = 127 - i from by omega, show 128 - i = (127 - i) + 1 from by omega, Nat.pow_succ, ← Nat.div_div_eq_div_mul]
    omega
  have hRD : R < D := by rw [hR]; exact Nat.mod_lt _ _hD
  have hm := Nat.div_add_mod (N / 2 ^ (128 - i)) D
  rw [← hR] at hm
  rw [e]
  generalize N / 2 ^ (128 - i) = M at *
  generalize M / D = q at *
  have e2 : 2 * M + t = D * (2 * q) + (2 * R + t) := by rw [← hm]; grind
  have ht2 : t ≤ 1 := by omega
  refine ⟨fun h => ?_, fun h => ?_⟩
  · rw [e2, Nat.mul_add_mod, Nat.mod_eq_of_lt h, Nat.mul_add_div _hD, Nat.div_eq_of_lt h]
    exact ⟨rfl, rfl⟩
  · have e3 : D * (2 * q) + (2 * R + t) = D * (2 * q + 1) + (2 * R + t - D) := by
      rw [Nat.mul_add, Nat.mul_one]; omega
    have h4 : 2 * R + t - D < D := by omega
    rw [e2, e3, Nat.mul_add_mod, Nat.mod_eq_of_lt h4, Nat.mul_add_div _hD, Nat.div_eq_of_lt h4]
    exact ⟨rfl, rfl⟩
theorem shl_of (R t : Nat) (hR : R < 170141183460469231731687303715884105728) (ht : t ≤ 1) {z : Int} (hz : z = (t : Int)) :
    TU.mk (IntKind.u64.wrap ((IntKind.u64.wrap ((ofU R).h * 2 ^ min (Int.toNat 1) IntKind.u64.bits)) + ((ofU R).l.fdiv (2 ^ min (Int.toNat 63) IntKind.u64.bits)))) (IntKind.u64.wrap ((IntKind.u64.wrap ((ofU R).l * 2 ^ min (Int.toNat 1) IntKind.u64.bits)) + z)) = ofU (2 * R + t) := by
  subst hz
  unfold ofU
  simp only [wrapu, sh63, sl1]
  congr 1 <;> omega
theorem shl_mod (A : Nat) (_hA : A < 340282366920938463463374607431768211456) :
    TU.mk (IntKind.u64.wrap ((IntKind.u64.wrap ((ofU A).h * 2 ^ min (Int.toNat 1) IntKind.u64.bits)) + ((ofU A).l.fdiv (2 ^ min (Int.toNat 63) IntKind.u64.bits)))) (IntKind.u64.wrap ((ofU A).l * 2 ^ min (Int.toNat 1) IntKind.u64.bits)) = ofU (2 * A % 340282366920938463463374607431768211456) := by
  unfold ofU
  simp only [wrapu, sh63, sl1]
  congr 1 <;> omega
theorem top_of (A : Nat) (_hA : A < 340282366920938463463374607431768211456) : (ofU A).h.fdiv (2 ^ min (Int.toNat 63) IntKind.u64.bits) = ((A / 170141183460469231731687303715884105728 : Nat) : Int) := by
  unfold ofU
  simp only [sh63]
  omega
theorem pow_split (N i : Nat) (hi : i ≤ 128) : N * 2 ^ i % 2 ^ 128 = N % 2 ^ (128 - i) * 2 ^ i := by
  conv => lhs; rw [show (2 : Nat) ^ 128 = 2 ^ (128 - i) * 2 ^ i from by rw [← Nat.pow_add, show 128 - i + i = 128 from by omega]]
  rw [Nat.mul_mod_mul_right]
theorem g_div {N D : Nat} (hN : N < 340282366920938463463374607431768211456) (hD : 0 < D) (hD2 : D < 170141183460469231731687303715884105728) : ∃ z, F_ref02_Div (ofU N) (ofU D) = some (ofU (N / D), z) := by
  unfold F_ref02_Div
  have hshort : ∀ b : Bool, (((bif ((ofU N).h == 0) then some (((ofU D).h == 0), ()) else some (false, ())) : Option (Bool × Unit))) = some (((ofU N).h == 0) && ((ofU D).h == 0), ()) := by
    intro _
    cases ((ofU N).h == 0) <;> rfl
  rw [hshort true]
  simp only [Option.bind_some]
  by_cases hs : ((ofU N).h == 0) && ((ofU D).h == 0)
  · rw [hs, cond_true]
    simp only [Bool.and_eq_true, beq_iff_eq] at hs
    have n1 : N < 18446744073709551616 := by have := hs.1; unfold ofU at this; dsimp only at this; omega
    have n2 : D < 18446744073709551616 := by have := hs.2; unfold ofU at this; dsimp only at this; omega
    rw [ofU_small n1, ofU_small n2]
    dsimp only
    rw [if_neg (by omega), if_neg (by omega), wrapu, Int.tdiv_eq_ediv_of_nonneg (by omega), ← Int.natCast_ediv]
    have := Nat.div_le_self N D
    generalize N / D = q at *
    rw [ofU_small (show q < 18446744073709551616 by omega), show (q : Int) % 18446744073709551616 = q from by omega]
    exact ⟨_, rfl⟩
  · rw [show (((ofU N).h == 0) && ((ofU D).h == 0)) = false from by simpa using hs, cond_false]
    have p128 : (2 : Nat) ^ 128 = 340282366920938463463374607431768211456 := by decide
    have p127 : (2 : Nat) ^ 127 = 170141183460469231731687303715884105728 := by decide
    obtain ⟨r, e, a, z, rfl⟩ := iter_run_inv (F := (fun s10 : Int × TU × TU × TU × Unit => (bif (decide (s10.1 < 128)) then (((bif (decide ((s10.2.2.2.1.h.fdiv (2 ^ min (Int.toNat 63) IntKind.u64.bits)) > 0)) then some (true, ()) else (F_ref02_Less (TU.mk (IntKind.u64.wrap ((IntKind.u64.wrap (s10.2.2.2.1.h * 2 ^ min (Int.toNat 1) IntKind.u64.bits)) + (s10.2.2.2.1.l.fdiv (2 ^ min (Int.toNat 63) IntKind.u64.bits)))) (IntKind.u64.wrap ((IntKind.u64.wrap (s10.2.2.2.1.l * 2 ^ min (Int.toNat 1) IntKind.u64.bits)) + (s10.2.1.h.fdiv (2 ^ min (Int.toNat 63) IntKind.u64.bits))))) (ofU D)).bind fun r11 => some ((!r11), ())) : Option (Bool × Unit)).bind fun y12 => (bif y12.1 then (F_ref02_Minus (TU.mk (IntKind.u64.wrap ((IntKind.u64.wrap (s10.2.2.2.1.h * 2 ^ min (Int.toNat 1) IntKind.u64.bits)) + (s10.2.2.2.1.l.fdiv (2 ^ min (Int.toNat 63) IntKind.u64.bits)))) (IntKind.u64.wrap ((IntKind.u64.wrap (s10.2.2.2.1.l * 2 ^ min (Int.toNat 1) IntKind.u64.bits)) + (s10.2.1.h.fdiv (2 ^ min (Int.toNat 63) IntKind.u64.bits))))) (ofU D)).bind fun r13 => some ((TU.mk (IntKind.u64.wrap ((IntKind.u64.wrap (s10.2.1.h * 2 ^ min (Int.toNat 1) IntKind.u64.bits)) + (s10.2.1.l.fdiv (2 ^ min (Int.toNat 63) IntKind.u64.bits)))) (IntKind.u64.wrap (s10.2.1.l * 2 ^ min (Int.toNat 1) IntKind.u64.bits))), (TU.mk (IntKind.u64.wrap ((IntKind.u64.wrap (s10.2.2.1.h * 2 ^ min (Int.toNat 1) IntKind.u64.bits)) + (s10.2.2.1.l.fdiv (2 ^ min (Int.toNat 63) IntKind.u64.bits)))) (IntKind.u64.wrap ((IntKind.u64.wrap (s10.2.2.1.l * 2 ^ min (Int.toNat 1) IntKind.u64.bits)) + 1))), r13, ()) else some ((TU.mk (IntKind.u64.wrap ((IntKind.u64.wrap (s10.2.1.h * 2 ^ min (Int.toNat 1) IntKind.u64.bits)) + (s10.2.1.l.fdiv (2 ^ min (Int.toNat 63) IntKind.u64.bits)))) (IntKind.u64.wrap (s10.2.1.l * 2 ^ min (Int.toNat 1) IntKind.u64.bits))), (TU.mk (IntKind.u64.wrap ((IntKind.u64.wrap (s10.2.2.1.h * 2 ^ min (Int.toNat 1) IntKind.u64.bits)) + (s10.2.2.1.l.fdiv (2 ^ min (Int.toNat 63) IntKind.u64.bits)))) (IntKind.u64.wrap (s10.2.2.1.l * 2 ^ min (Int.toNat 1) IntKind.u64.bits))), (TU.mk (IntKind.u64.wrap ((IntKind.u64.wrap (s10.2.2.2.1.h * 2 ^ min (Int.toNat 1) IntKind.u64.bits)) + (s10.2.2.2.1.l.fdiv (2 ^ min (Int.toNat 63) IntKind.u64.bits)))) (IntKind.u64.wrap ((IntKind.u64.wrap (s10.2.2.2.1.l * 2 ^ min (Int.toNat 1) IntKind.u64.bits)) + (s10.2.1.h.fdiv (2 ^ min (Int.toNat 63) IntKind.u64.bits))))), ())) : Option (TU × TU × TU × Unit)).bind fun y14 => some (.inl ((IntKind.i64.wrap (s10.1 + 1)), y14.1, y14.2.1, y14.2.2.1, ())) else some (.inr (s10.2.1, s10.2.2.1, s10.2.2.2.1, ())))))
      (Q := fun r : TU × TU × TU × Unit => ∃ a z, r = (a, ofU (N / D), z, ()))
      (fun i s => i ≤ 128 ∧ s = ((i : Int), ofU (N * 2 ^ i % 2 ^ 128), ofU (N / 2 ^ (128 - i) / D), ofU (N / 2 ^ (128 - i) % D), ())) 128 (by unfold big; omega) (by
      rintro i s ⟨hi, rfl⟩
      dsimp only
      by_cases hlt : i < 128
      · rw [decide_eq_true (show (i : Int) < 128 by omega), cond_true]
        have hRD : N / 2 ^ (128 - i) % D < D := Nat.mod_lt _ hD
        have hA : N * 2 ^ i % 2 ^ 128 < 340282366920938463463374607431768211456 := by rw [p128]; exact Nat.mod_lt _ (by decide)
        have htop : N * 2 ^ i % 2 ^ 128 / 170141183460469231731687303715884105728 = N / 2 ^ (127 - i) % 2 := by
          rw [pow_split N i hi, ← p127, show (2 : Nat) ^ 127 = 2 ^ (127 - i) * 2 ^ i from by rw [← Nat.pow_add, show 127 - i + i = 127 from by omega]]
          rw [Nat.mul_div_mul_right _ _ (Nat.pow_pos (by decide)), show 128 - i = (127 - i) + 1 from by omega, Nat.pow_succ, Nat.mod_mul, Nat.add_mul_div_left _ _ (Nat.pow_pos (by decide)), Nat.div_eq_of_lt (Nat.mod_lt _ (Nat.pow_pos (by decide)))]
          omega
        have hstep := div_step (N := N) (t := N * 2 ^ i % 2 ^ 128 / 170141183460469231731687303715884105728) hD hlt htop rfl
        have hnext : 2 * (N * 2 ^ i % 2 ^ 128) % 340282366920938463463374607431768211456 = N * 2 ^ (i + 1) % 2 ^ 128 := by
          rw [p128, Nat.pow_succ, ← Nat.mul_assoc, Nat.mul_comm 2]
          omega
        have hqb : 2 * (N / 2 ^ (128 - i) / D) + 1 < 340282366920938463463374607431768211456 := by
          have h1 : N / 2 ^ (128 - i) / D ≤ N / 2 ^ (128 - i) := Nat.div_le_self _ _
          have h2 : N / 2 ^ (128 - i) ≤ N / 2 := Nat.div_le_div_left (by have := Nat.pow_le_pow_right (n := 2) (by decide) (show 1 ≤ 128 - i by omega); omega) (by decide)
          omega
        rw [top_of _ hA]
        generalize hAg : N * 2 ^ i % 2 ^ 128 = A at *
        generalize htg : A / 170141183460469231731687303715884105728 = t at *
        generalize hRg : N / 2 ^ (128 - i) % D = R at *
        generalize hqg : N / 2 ^ (128 - i) / D = q at *
        have ht1 : t ≤ 1 := by omega
        rw [shl_of R t (by omega) ht1 rfl, shl_mod A hA, shl_of q 1 (by omega) (by omega) (z := 1) rfl, top_of R (by omega), hnext]
        have hq0 := shl_of q 0 (by omega) (by omega) (z := 0) rfl
        rw [shl_mod q (by omega), show 2 * q % 340282366920938463463374607431768211456 = 2 * q from by omega]
        rw [show ((R / 170141183460469231731687303715884105728 : Nat) : Int) = 0 from by omega]
        simp only [show decide ((0 : Int) > 0) = false from rfl, cond_false, g_less, Option.bind_some]
        by_cases hc : 2 * R + t < D
        · obtain ⟨h1, h2⟩ := hstep.1 hc
          rw [decide_eq_true hc]
          simp only [Bool.not_true, cond_false, Option.bind_some]
          refine .inl ⟨_, rfl, hlt, hlt, ?_⟩
          rw [h1, h2, wrap64 (by omega) (by omega)]
          rfl
        · obtain ⟨h1, h2⟩ := hstep.2 (by omega)
          rw [decide_eq_false hc]
          simp only [Bool.not_false, cond_true, Option.bind_some]
          rw [g_minus (by omega) (by omega)]
          simp only [Option.bind_some]
          refine .inl ⟨_, rfl, hlt, hlt, ?_⟩
          rw [h1, h2, wrap64 (by omega) (by omega)]
          rfl
      · obtain rfl : i = 128 := by omega
        rw [decide_eq_false (by omega), cond_false]
        refine .inr ⟨_, rfl, ofU (N * 2 ^ 128 % 2 ^ 128), ofU (N / 2 ^ (128 - 128) % D), ?_⟩
        rw [show N / 2 ^ (128 - 128) / D = N / D from by simp]) (s := (0, ofU N, TU.mk 0 0, TU.mk 0 0, ())) ⟨by omega, by
        have h0 : N / 2 ^ 128 = 0 := Nat.div_eq_of_lt (by omega)
        rw [show 128 - 0 = 128 from rfl, h0, Nat.pow_zero, Nat.mul_one, Nat.mod_eq_of_lt (by omega), Nat.zero_div, Nat.zero_mod]
        rfl⟩
    rw [e]
    exact ⟨_, rfl⟩
theorem g_made {num den : Nat} {neg : Bool} (hn : num < 340282366920938463463374607431768211456) (hd2 : den < 170141183460469231731687303715884105728) :
    F_ref02_Made (ofU num) neg (ofU den) = some (if den = 0 then (⟨0, 0⟩, 16) else outQ (mkRat (if neg then -(num : Int) else num) den)) := by
  unfold F_ref02_Made
  rw [ofU_zero]
  by_cases hd : den = 0
  · rw [decide_eq_true hd, if_pos hd, cond_true]
  · rw [decide_eq_false hd, if_neg hd, cond_false, g_gcd hn (by omega) (by omega)]
    simp only [Option.bind_some]
    have hab : (if neg = true then -(num : Int) else num).natAbs = num := by split <;> omega
    rw [out_red (n := if neg = true then -(num : Int) else num) (d := den) (g := Nat.gcd num den) hd (by rw [hab]), hab]
    have hgp : 0 < Nat.gcd num den := Nat.gcd_pos_of_pos_right _ (by omega)
    have hgl : Nat.gcd num den ≤ den := Nat.gcd_le_right _ (by omega)
    have hz : num = 0 → num / Nat.gcd num den = 0 := by rintro rfl; simp
    have q1 : num / Nat.gcd num den ≤ num := Nat.div_le_self _ _
    have q2 : den / Nat.gcd num den ≤ den := Nat.div_le_self _ _
    obtain ⟨z1, e1⟩ := g_div hn hgp (by omega)
    obtain ⟨z2, e2⟩ := g_div (show den < 340282366920938463463374607431768211456 by omega) hgp (by omega)
    rw [e1]
    simp only [Option.bind_some]
    rw [e2]
    simp only [Option.bind_some]
    generalize num / Nat.gcd num den = p at *
    generalize den / Nat.gcd num den = q at *
    by_cases hp : p ≤ 1152921504606846976
    · rw [ofU_small (show p < 18446744073709551616 by omega)]
      simp only [show decide ((0 : Int) > 0) = false from rfl, cond_false]
      rw [decide_eq_false (show ¬ ((p : Int) > 1152921504606846976) by omega), cond_false]
      by_cases hq : q ≤ 1152921504606846976
      · rw [ofU_small (show q < 18446744073709551616 by omega)]
        simp only [show decide ((0 : Int) > 0) = false from rfl, cond_false]
        rw [decide_eq_false (show ¬ ((q : Int) > 1152921504606846976) by omega), if_pos ⟨hp, hq⟩]
        simp only [Option.bind_some, cond_false]
        rw [wrap64 (n := (p : Int)) (by omega) (by omega), wrap64 (n := (q : Int)) (by omega) (by omega), wrap64 (by omega) (by omega)]
        cases neg
        · simp only [cond_false, Bool.false_eq_true, if_false]
          rw [if_neg (by omega)]
        · simp only [cond_true, if_true]
          by_cases h0 : num = 0
          · rw [hz h0, h0]; rfl
          · rw [if_pos (by omega), show (0 : Int) - p = -p from by omega]
      · rw [if_neg (by omega)]
        unfold ofU
        dsimp only
        by_cases hh : ((q / 18446744073709551616 : Nat) : Int) > 0
        · rw [decide_eq_true hh]; rfl
        · rw [decide_eq_false hh, decide_eq_true (show ((q % 18446744073709551616 : Nat) : Int) > 1152921504606846976 by omega)]; rfl
    · rw [if_neg (by omega)]
      have : (((bif (decide ((ofU p).h > 0)) then some (true, ()) else (bif (decide ((ofU p).l > 1152921504606846976)) then some (true, ()) else (bif (decide ((ofU q).h > 0)) then some (true, ()) else some ((decide ((ofU q).l > 1152921504606846976)), ())))) : Option (Bool × Unit))) = some (true, ()) := by
        unfold ofU
        dsimp only
        by_cases hh : ((p / 18446744073709551616 : Nat) : Int) > 0
        · rw [decide_eq_true hh]; rfl
        · rw [decide_eq_false hh, decide_eq_true (show ((p % 18446744073709551616 : Nat) : Int) > 1152921504606846976 by omega)]; rfl
      rw [this]
      rfl
end Go.Proofs.Ytbamoboldhabjaa

/- Exact numbers of the reference: its operations are those of the rational numbers. -/
namespace Go.Proofs.Ytbamoboldhabjaa
set_option linter.unusedSimpArgs false
set_option linter.unusedVariables false

theorem g_make {n d : Int} (n0 : -9223372036854775808 ≤ n) (n1 : n ≤ 9223372036854775807) (d0 : -9223372036854775808 ≤ d) (d1 : d ≤ 9223372036854775807) :
    F_ref02_Make n d = some (if d = 0 then (⟨0, 0⟩, 16) else outQ (mkRat (if d < 0 then -n else n) d.natAbs)) := by
  unfold F_ref02_Make
  rw [g_size n0 n1, g_size d0 d1]
  simp only [Option.bind_some]
  rw [← ofU_small (show n.natAbs < 18446744073709551616 by omega), ← ofU_small (show d.natAbs < 18446744073709551616 by omega), g_made (by omega) (by omega)]
  simp only [Option.bind_some]
  by_cases hd : d = 0
  · rw [if_pos (by omega), if_pos hd]
  · rw [if_neg (by omega), if_neg hd]
    have e : (if (!((decide (n < 0)) == (decide (d < 0)))) = true then -(n.natAbs : Int) else (n.natAbs : Int)) = (if d < 0 then -n else n) := by
      by_cases c1 : n < 0 <;> by_cases c2 : d < 0 <;> simp [c1, c2] <;> omega
    rw [e]
end Go.Proofs.Ytbamoboldhabjaa

/- What several sentences on beams use. -/
namespace Go.Proofs.Ytbamoboldhabjaa
set_option linter.unusedVariables false
set_option linter.unusedSimpArgs false

theorem wfI {k : IntKind} {n : Int} (h : (Lit.int k n).wf = true) : k.min ≤ n ∧ n ≤ k.max := by
  simpa [Lit.wf] using h
theorem f_right (b : TBeam) : Gs (F_law20_right b) fun v => v = true ↔ longBm b = false ∧ validBm b = true ∧ ¬ tilt b := by
  unfold F_law20_right
  refine goo (f_long b) ?_
  cases hl : longBm b with
  | true => exact gbf rfl (gs (gend (by simp)))
  | false =>
    obtain ⟨hw, _, _⟩ := long_small hl
    refine gbt rfl (gcalll (h_given hw) fun r hr => gs (gend ?_))
    rcases hr with ⟨h1, h2⟩ | ⟨h1, h2, h3⟩ | ⟨h1, h2, h3⟩
    · subst h2
      show false = true ↔ _
      simp [h1]
    · subst h3
      show false = true ↔ _
      simp [h1, h2]
    · subst h3
      show true = true ↔ _
      simp [h1, h2]
theorem f_of20 (n : Int) : F_law20_of n = some ⟨n, 1⟩ := rfl
theorem outL_cases (l : List Rat) : (outL l = (l.map frQ, 0) ∧ ∀ q ∈ l, fitQ q) ∨ outL l = ([], 5) := by
  by_cases h : ∀ q ∈ l, fitQ q
  · exact .inl ⟨outL_fit h, h⟩
  · exact .inr (outL_big h)
theorem u8_of {n : Int} (h : (Lit.int .u8 n).wf = true) : 0 ≤ n ∧ n ≤ 255 := wfI h
theorem u32_of {n : Int} (h : (Lit.int .u32 n).wf = true) : 0 ≤ n ∧ n ≤ 4294967295 := wfI h
end Go.Proofs.Ytbamoboldhabjaa

/- awake. -/
namespace Go.Proofs.Ytbamoboldhabjaa
theorem awake20 : F_law20_awake = some true := by kernel_rfl
end Go.Proofs.Ytbamoboldhabjaa

/- BeamSupported. -/
namespace Go.Proofs.Ytbamoboldhabjaa
set_option linter.unusedVariables false
set_option linter.unusedSimpArgs false

theorem f_cloneL (l : List TLoad) (h : l.length ≤ 1000000) : F_slices_Clone_api_Load l = some l := by
  unfold F_slices_Clone_api_Load
  rw [if_pos (by simp; omega)]; rfl
theorem rea_get {b : TBeam} {j : Nat} (hj : j < b.supports.length) : ((reaL b).map frQ)[j]? = some (frQ (reactB b j)) := by
  unfold reaL
  rw [List.getElem?_map, List.getElem?_map, List.getElem?_range hj]; rfl
theorem rea_mem {b : TBeam} {j : Nat} (hj : j < b.supports.length) : reactB b j ∈ reaL b := List.mem_map.2 ⟨j, List.mem_range.2 hj, rfl⟩
theorem rea_len (b : TBeam) : ((reaL b).map frQ).length = b.supports.length := by unfold reaL; simp
/-- The turn in int: no overflow. -/
theorem turn_sum {b : TBeam} (hb : BeamIn b) {lo : Int} (h0 : 0 ≤ lo) (h1 : lo ≤ b.length) (hl : b.loads.length ≤ 8) : ∃ z : Int, (iterF (σ := Int × Int × Unit) (ρ := Int × Unit) (fun s68 => (bif (decide (s68.2.1 < ((b.loads.length : Nat) : Int))) then (idx b.loads s68.2.1).bind fun x69 => some (.inl ((IntKind.i64.wrap (s68.1 + (IntKind.i64.wrap ((IntKind.i64.wrap (2000 * x69.weight)) * (IntKind.i64.wrap (x69.at_ - lo)))))), (IntKind.i64.wrap (s68.2.1 + 1)), ())) else some (.inr (s68.1, ())))) big (0, 0, ())) = some (z, ()) ∧ z.natAbs ≤ 8 * 140737488355328000 ∧ (z : Rat) = 2000 * sumQ (fun x : TLoad => (x.weight : Rat) * ((x.at_ - lo : Int) : Rat)) b.loads := by
  have hlb := hb.l1
  obtain ⟨r, g1, g2⟩ := iter_inv (F := (fun s68 : Int × Int × Unit => (bif (decide (s68.2.1 < ((b.loads.length : Nat) : Int))) then (idx b.loads s68.2.1).bind fun x69 => some (.inl ((IntKind.i64.wrap (s68.1 + (IntKind.i64.wrap ((IntKind.i64.wrap (2000 * x69.weight)) * (IntKind.i64.wrap (x69.at_ - lo)))))), (IntKind.i64.wrap (s68.2.1 + 1)), ())) else some (.inr (s68.1, ())) : Option ((Int × Int × Unit) ⊕ (Int × Unit)))))
    (Q := fun r => ∃ z : Int, r = (z, ()) ∧ z.natAbs ≤ 8 * 140737488355328000 ∧ (z : Rat) = 2000 * sumQ (fun x : TLoad => (x.weight : Rat) * ((x.at_ - lo : Int) : Rat)) b.loads)
    (fun k s => k ≤ b.loads.length ∧ ∃ z : Int, s = (z, (k : Int), ()) ∧ z.natAbs ≤ k * 140737488355328000 ∧ (z : Rat) = 2000 * sumQ (fun x : TLoad => (x.weight : Rat) * ((x.at_ - lo : Int) : Rat)) (b.loads.take k)) b.loads.length (by unfold big; omega) (fun k s hk hi => by
      obtain ⟨_, z, rfl, hz, hq⟩ := hi
      rcases Nat.lt_or_ge k b.loads.length with hlt | hge
      · obtain ⟨x0, x1, x2, x3⟩ := hb.ld _ (List.getElem_mem hlt)
        have hst := sumQ_take (fun x : TLoad => (x.weight : Rat) * ((x.at_ - lo : Int) : Rat)) hlt
        have e0 : decide ((k : Int) < ((b.loads.length : Nat) : Int)) = true := decide_eq_true (by omega)
        obtain ⟨w, hwe⟩ : ∃ w, b.loads[k].weight = w := ⟨_, rfl⟩
        obtain ⟨d, hde⟩ : ∃ d, b.loads[k].at_ - lo = d := ⟨_, rfl⟩
        have hd : -1048576 ≤ d ∧ d ≤ 1048576 := by omega
        rw [hwe] at x2 x3
        have hm : (2000 * w * d).natAbs ≤ 140737488355328000 := by
          rw [Int.natAbs_mul]
          have h1 : (2000 * w).natAbs ≤ 134217728000 := by omega
          have h2 : d.natAbs ≤ 1048576 := by omega
          exact Nat.le_trans (Nat.mul_le_mul h1 h2) (by decide)
        have hkz : k * 140737488355328000 ≤ 7 * 140737488355328000 := Nat.mul_le_mul_right _ (by omega)
        refine .inl ⟨(z + 2000 * w * d, ((k + 1 : Nat) : Int), ()), ?_, hlt, hlt, _, rfl, ?_, ?_⟩
        · simp only [e0, cond_true, idx_nat hlt, Option.bind_some]
          rw [hwe, hde, wrap64 (n := 2000 * w) (by omega) (by omega), wrap64 (n := d) (by omega) (by omega), wrap64 (n := 2000 * w * d) (by omega) (by omega), wrap64 (n := z + 2000 * w * d) (by omega) (by omega), wrap64 (n := (k : Int) + 1) (by omega) (by omega)]
          rfl
        · rw [Nat.add_mul]; omega
        · rw [hst, Rat.intCast_add, hq, hwe, hde, Rat.intCast_mul, Rat.intCast_mul]
          have : ((2000 : Int) : Rat) = 2000 := rfl
          rw [this]; grind
      · have e0 : decide ((k : Int) < ((b.loads.length : Nat) : Int)) = false := decide_eq_false (by omega)
        rw [List.take_of_length_le hge] at hq
        refine .inr ⟨(z, ()), by simp only [e0, cond_false], z, rfl, ?_, hq⟩
        have : k * 140737488355328000 ≤ 8 * 140737488355328000 := Nat.mul_le_mul_right _ (by omega)
        exact Nat.le_trans hz this) (s := (0, 0, ())) ⟨Nat.zero_le _, 0, rfl, by simp, by simp only [List.take_zero, sumQ]; grind⟩
  obtain ⟨z, rfl, h1, h2⟩ := g2
  exact ⟨z, g1, h1, h2⟩
set_option maxHeartbeats 1000000 in
theorem main_BeamSupported (x0 : TBeam) (x1 : Int) (x2 : Int) (w0 : W_Beam x0) (w1 : W_u8 x1) (w2 : W_u32 x2) : F_law20_BeamSupported x0 x1 x2 = some true := by
  apply gs_eq
  unfold F_law20_BeamSupported
  refine go awake20 (gf rfl (gcalll (f_right x0) fun v hv0 => ?_))
  cases hvv : v with
  | false => exact gbt rfl (gs (gt rfl (gend rfl)))
  | true =>
    obtain ⟨hl, hv, ht⟩ := hv0.1 hvv
    obtain ⟨hw, _, _⟩ := long_small hl
    obtain ⟨hb, hs⟩ := valid_in hv
    have hn := hs.n10
    have hn1 := hs.n1
    have hlb := hb.l1
    have hl0 := hb.l0
    have he0 := hb.e0
    have he1 := hb.e1
    refine gbf rfl (gs ?_)
    by_cases h8 : ((x0.loads.length : Nat) : Int) ≥ 8
    · exact gt (decide_eq_true h8) (gend rfl)
    refine gf (decide_eq_false h8) ?_
    have hu8 := u8_of w1
    have hu32 := u32_of w2
    obtain ⟨i, hie, hi⟩ : ∃ i : Nat, (IntKind.i64.wrap x1).tmod ((x0.supports.length : Nat) : Int) = (i : Int) ∧ i < x0.supports.length := by
      refine ⟨x1.toNat % x0.supports.length, ?_, Nat.mod_lt _ (by omega)⟩
      rw [wrap64 (by omega) (by omega), Int.tmod_eq_emod_of_nonneg (by omega), Int.natCast_emod, Int.toNat_of_nonneg hu8.1]
    obtain ⟨w, hwe, hw0, hw1⟩ : ∃ w : Int, (IntKind.i64.wrap x2).tmod 67108865 = w ∧ 0 ≤ w ∧ w ≤ 67108864 := by
      rw [wrap64 (by omega) (by omega), Int.tmod_eq_emod_of_nonneg (by omega)]
      exact ⟨_, rfl, by omega, by omega⟩
    rw [hie, hwe]
    have hnz : ¬ (((x0.supports.length : Nat) : Int) = 0) := by omega
    rw [if_neg hnz]
    have hlen : (x0.loads ++ [TLoad.mk (sp x0 i) w]).length ≤ 2147483648 := by simp; omega
    refine goo (sp_idx hi) (goo (f_cloneL _ (by omega)) ?_)
    rw [if_pos (show x0.loads.length + ([TLoad.mk (sp x0 i) w] : List TLoad).length ≤ 2147483648 by simp; omega)]
    refine gs ?_
    have hmore : (⟨x0.name, x0.length, x0.supports, x0.loads ++ [TLoad.mk (sp x0 i) w], x0.even⟩ : TBeam) = addB x0 i w := rfl
    have hv2 := add_valid hv (by omega) hi ⟨hw0, hw1⟩
    have ht2 := add_tilt hs ht hi w
    have hw2 : SmallB (addB x0 i w) := ⟨hw.name, hw.sup, by show (x0.loads ++ [TLoad.mk (sp x0 i) w]).length ≤ 1000000; simp; omega⟩
    have hR2 : F_beam_Reactions (⟨x0.name, x0.length, x0.supports, x0.loads ++ [TLoad.mk (sp x0 i) w], x0.even⟩ : TBeam) = some (outL (reaL (addB x0 i w))) := f_Reactions hw2 hv2 ht2
    refine go (f_Reactions hw hv ht) (go hR2 ?_)
    have hsn : (addB x0 i w).supports.length = x0.supports.length := rfl
    refine gcall (Q := fun y : (Bool × Unit) ⊕ Unit => (∃ u, y = .inl (true, u)) ∨ y = .inr ()) ?_ ?_
    · rcases outL_cases (reaL x0) with ⟨h1, hf1⟩ | h1 <;> rcases outL_cases (reaL (addB x0 i w)) with ⟨h2, hf2⟩ | h2 <;> rw [h1, h2]
      · have hl1 := rea_len x0
        have hl2 := rea_len (addB x0 i w)
        rw [hsn] at hl2
        refine go rfl (gt rfl (go (a := (false, ())) ?_ (gf rfl ?_)))
        · rw [bif_or, hl1, hl2]; simp
        refine gloop (fun r : (Bool × Unit) ⊕ Unit => (∃ u, r = .inl (true, u)) ∨ r = .inr ()) (fun k s => s = ((k : Int), ())) x0.supports.length (by unfold big; omega) rfl ?_ ?_
        · rintro k s hk rfl
          rcases Nat.lt_or_ge k x0.supports.length with hlt | hge
          · have g1 := rea_get hlt
            have g2 := rea_get (b := addB x0 i w) (j := k) hlt
            rw [add_rea hs ht hi w hlt] at g2
            have hf2k := hf2 _ (rea_mem (b := addB x0 i w) (j := k) hlt)
            rw [add_rea hs ht hi w hlt] at hf2k
            refine gt (decide_eq_true (by show (k : Int) < ((((reaL x0).map frQ).length : Nat) : Int); rw [hl1]; omega)) (go (idx_q g1) (go (at_w rfl g1) ?_))
            by_cases hki : k = i
            · have hrv := fr_rv (hf1 _ (rea_mem hlt))
              have hone := fr_rvint (n := w) (by omega)
              have hadd := f_radd hrv.1 hone.1
              rw [hrv.2, hone.2] at hadd
              rw [if_pos hki] at g2 hf2k
              rw [fr_fit hf2k] at hadd
              refine gbt (by show ((k : Int) == (i : Int)) = true; rw [beq_iff_eq]; omega) (goo (f_of20 w) (goo hadd (gbf rfl (gs ?_))))
              refine go (idx_q g2) (go (at_w rfl g2) (gf (by simp) (gend ⟨hlt, ?_⟩)))
              show (IntKind.i64.wrap ((k : Int) + 1), ()) = _
              rw [wrap64 (by omega) (by omega)]; rfl
            · rw [if_neg hki, Rat.add_zero] at g2
              refine gbf (by show ((k : Int) == (i : Int)) = false; rw [beq_eq_false_iff_ne]; omega) (gs ?_)
              refine go (idx_q g2) (go (at_w rfl g2) (gf (by simp) (gend ⟨hlt, ?_⟩)))
              show (IntKind.i64.wrap ((k : Int) + 1), ()) = _
              rw [wrap64 (by omega) (by omega)]; rfl
          · exact gf (decide_eq_false (by show ¬ (k : Int) < ((((reaL x0).map frQ).length : Nat) : Int); rw [hl1]; omega)) (gend (.inr rfl))
        · rintro r (⟨u, rfl⟩ | rfl)
          · exact gend (.inl ⟨u, rfl⟩)
          · exact gend (.inr rfl)
      · exact go rfl (gf rfl (go rfl (gf rfl (gend (.inr rfl)))))
      · exact go rfl (gf rfl (go rfl (gf rfl (gend (.inr rfl)))))
      · exact go rfl (gf rfl (go rfl (gf rfl (gend (.inr rfl)))))
    rintro y (⟨u, rfl⟩ | rfl)
    · exact gend rfl
    by_cases h2 : x0.supports.length = 2
    · rcases outL_cases (reaL x0) with ⟨h1, hf1⟩ | h1
      · rw [h1]
        refine go (a := (false, ())) ?_ (gf rfl ?_)
        · rw [bif_or, h2]; rfl
        have q0 := sp_idx (b := x0) (i := 0) (by omega)
        have q1 := sp_idx (b := x0) (i := 1) (by omega)
        have r0 := sp_rg hs (i := 0) (by omega)
        have r1 := sp_rg hs (i := 1) (by omega)
        have hlt : sp x0 0 < sp x0 1 := hs.inc 0 (by omega)
        obtain ⟨z, z1, z2, z3⟩ := turn_sum hb r0.1 r0.2 (by omega)
        have g1 := rea_get (b := x0) (j := 1) (by omega)
        have hEL : (x0.even * x0.length).natAbs ≤ 1099511627776 := by
          rw [Int.natAbs_mul]
          exact Nat.le_trans (Nat.mul_le_mul (show x0.even.natAbs ≤ 1048576 by omega) (show x0.length.natAbs ≤ 1048576 by omega)) (by decide)
        obtain ⟨EL, hELe⟩ : ∃ EL, x0.even * x0.length = EL := ⟨_, rfl⟩
        have hprod : (EL * (x0.length - 2 * sp x0 0)).natAbs ≤ 1152921504606846976 := by
          rw [Int.natAbs_mul]
          rw [hELe] at hEL
          exact Nat.le_trans (Nat.mul_le_mul hEL (show (x0.length - 2 * sp x0 0).natAbs ≤ 1048576 by omega)) (by decide)
        have hwr : IntKind.i64.wrap (z + IntKind.i64.wrap (IntKind.i64.wrap (x0.even * x0.length) * IntKind.i64.wrap (x0.length - IntKind.i64.wrap (2 * sp x0 0)))) = z + EL * (x0.length - 2 * sp x0 0) := by
          rw [hELe] at hEL ⊢
          rw [wrap64 (n := 2 * sp x0 0) (by omega) (by omega), wrap64 (n := x0.length - 2 * sp x0 0) (by omega) (by omega), wrap64 (n := EL) (by omega) (by omega), wrap64 (n := EL * (x0.length - 2 * sp x0 0)) (by omega) (by omega), wrap64 (by omega) (by omega)]
        obtain ⟨Z, hZ⟩ : ∃ Z, z + EL * (x0.length - 2 * sp x0 0) = Z := ⟨_, rfl⟩
        have hmk := g_make (n := Z) (d := 2000) (by omega) (by omega) (by omega) (by omega)
        have hq : mkRat (if (2000 : Int) < 0 then -Z else Z) (Int.natAbs 2000) = reactB x0 1 * ((sp x0 1 - sp x0 0 : Int) : Rat) := by
          rw [if_neg (by decide), two_lever hb hs ht h2, show Int.natAbs 2000 = 2000 from rfl, Rat.mkRat_eq_div, ← hZ, ← hELe, Rat.intCast_add, z3]
          have : ((2000 : Nat) : Rat) = 2000 := rfl
          rw [this]
          grind
        rw [if_neg (by decide), hq] at hmk
        have hrv := fr_rv (hf1 _ (rea_mem (b := x0) (j := 1) (by omega)))
        have hone := fr_rvint (n := sp x0 1 - sp x0 0) (by omega)
        have hmul := f_rmul hrv.1 hone.1
        rw [hrv.2, hone.2] at hmul
        have hgap : IntKind.i64.wrap (sp x0 1 - sp x0 0) = sp x0 1 - sp x0 0 := wrap64 (by omega) (by omega)
        refine go q0 (go q1 (go z1 (go (by rw [hwr, hZ]; exact hmk) (go (idx_q (k := 1) g1) (go g1 (go (by rw [hgap]; exact f_of20 _) (go hmul ?_)))))))
        generalize reactB x0 1 * ((sp x0 1 - sp x0 0 : Int) : Rat) = t
        by_cases hf : fitQ t
        · rw [fr_fit hf]
          exact gbf rfl (gbf rfl (gs (gend (by simp))))
        · rw [fr_big hf]
          exact gbt rfl (gs (gend rfl))
      · rw [h1]
        exact go (a := (true, ())) (by rw [bif_or]; simp) (gt rfl (gend rfl))
    · refine go (a := (true, ())) ?_ (gt rfl (gend rfl))
      rw [bif_or]
      congr 2
      rw [Bool.or_eq_true]
      left
      rw [bne_iff_ne]; omega
end Go.Proofs.Ytbamoboldhabjaa
