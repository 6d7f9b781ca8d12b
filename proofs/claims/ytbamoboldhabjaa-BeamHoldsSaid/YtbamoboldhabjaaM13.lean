/- Joined by merge.py: Pl3, Pl4, Pl5, PlQ7, PlG1, PlRw, PlG2, PlG3, PlG4, PlG5, PlH1, PlJ1, PlJ1c, PlK3, PlQ8a, PlR8, PlR9, PlR10, PlK1, PlQ8, PlR11, PlR12, PlR13, PlR14, PlR15, PlK0, PlJ0, PlK5. -/
import Derived.Test.YtbamoboldhabjaaM12
/- What the small functions come to, in plain terms. -/
namespace Go.Proofs.Ytbamoboldhabjaa
set_option linter.unusedSimpArgs false

theorem cond_some {α : Type} (c : Bool) (a b : α) : (cond c (some a) (some b) : Option α) = some (cond c a b) := by cases c <;> rfl
theorem decide_and_cond (p q : Prop) [Decidable p] [Decidable q] : decide (p ∧ q) = (bif decide p then decide q else false) := by by_cases h : p <;> by_cases h' : q <;> simp [h, h']
theorem f_slices_IndexFunc_api_Frac (s : List TFrac) (hs : s.length < 9223372036854775807) (f : TFrac → Option Bool) (g : TFrac → Bool) (hf : ∀ x ∈ s, f x = some (g x)) : F_slices_IndexFunc_api_Frac s f = some (match s.findIdx? g with | some i => (i : Int) | none => -1) := by
  unfold F_slices_IndexFunc_api_Frac
  rw [iter_find s hs (fun k x => bif g x then some (Sum.inl ((k : Int), ())) else none) (.inr ()) ?hin ?hout]
  · have e : ∀ (l : List TFrac) (j : Nat), ((l.zipIdx j).findSome? fun x => bif g x.1 then some (Sum.inl ((x.2 : Int), ()) : (Int × Unit) ⊕ Unit) else none) = (l.findIdx? g).map fun i => .inl (((i + j : Nat) : Int), ()) := by
      intro l
      induction l with
      | nil => intro j; rfl
      | cons x l ih =>
        intro j
        rw [List.zipIdx_cons, List.findSome?_cons, List.findIdx?_cons]
        cases hg : g x with
        | true => simp
        | false =>
          simp only [cond_false]
          rw [ih (j + 1)]
          cases l.findIdx? g with
          | none => rfl
          | some i => simp; omega
    rw [e s 0]
    cases s.findIdx? g with
    | none => rfl
    | some i => rfl
  case hin =>
    intro k hk
    have hlt : decide ((k : Int) < ((s.length : Nat) : Int)) = true := decide_eq_true (by omega)
    simp only [hlt, cond_true, idx_at hk, Option.bind_some, hf _ (List.getElem_mem hk)]
    cases g s[k] with
    | true => rfl
    | false => simp only [cond_false]; rw [wrap64 (by omega) (by omega)]
  case hout =>
    have hlt : decide (((s.length : Nat) : Int) < ((s.length : Nat) : Int)) = false := decide_eq_false (by omega)
    simp only [hlt, cond_false]
theorem f_slices_ContainsFunc_api_Frac (s : List TFrac) (hs : s.length < 9223372036854775807) (f : TFrac → Option Bool) (g : TFrac → Bool) (hf : ∀ x ∈ s, f x = some (g x)) : F_slices_ContainsFunc_api_Frac s f = some (s.any g) := by
  unfold F_slices_ContainsFunc_api_Frac
  rw [f_slices_IndexFunc_api_Frac s hs f g hf, Option.bind_some]
  congr 1
  cases h : s.findIdx? g with
  | none =>
    rw [List.findIdx?_eq_none_iff] at h
    have : s.any g = false := by rw [List.any_eq_false]; intro x hx; rw [h x hx]; simp
    rw [this]; rfl
  | some i =>
    obtain ⟨hi, hg, _⟩ := List.findIdx?_eq_some_iff_getElem.1 h
    have : s.any g = true := List.any_eq_true.2 ⟨_, List.getElem_mem hi, hg⟩
    rw [this]
    exact decide_eq_true (by show (i : Int) ≥ 0; omega)
theorem f_slices_IndexFunc_api_Load (s : List TLoad) (hs : s.length < 9223372036854775807) (f : TLoad → Option Bool) (g : TLoad → Bool) (hf : ∀ x ∈ s, f x = some (g x)) : F_slices_IndexFunc_api_Load s f = some (match s.findIdx? g with | some i => (i : Int) | none => -1) := by
  unfold F_slices_IndexFunc_api_Load
  rw [iter_find s hs (fun k x => bif g x then some (Sum.inl ((k : Int), ())) else none) (.inr ()) ?hin ?hout]
  · have e : ∀ (l : List TLoad) (j : Nat), ((l.zipIdx j).findSome? fun x => bif g x.1 then some (Sum.inl ((x.2 : Int), ()) : (Int × Unit) ⊕ Unit) else none) = (l.findIdx? g).map fun i => .inl (((i + j : Nat) : Int), ()) := by
      intro l
      induction l with
      | nil => intro j; rfl
      | cons x l ih =>
        intro j
        rw [List.zipIdx_cons, List.findSome?_cons, List.findIdx?_cons]
        cases hg : g x with
        | true => simp
        | false =>
          simp only [cond_false]
          rw [ih (j + 1)]
          cases l.findIdx? g with
          | none => rfl
          | some i => simp; omega
    rw [e s 0]
    cases s.findIdx? g with
    | none => rfl
    | some i => rfl
  case hin =>
    intro k hk
    have hlt : decide ((k : Int) < ((s.length : Nat) : Int)) = true := decide_eq_true (by omega)
    simp only [hlt, cond_true, idx_at hk, Option.bind_some, hf _ (List.getElem_mem hk)]
    cases g s[k] with
    | true => rfl
    | false => simp only [cond_false]; rw [wrap64 (by omega) (by omega)]
  case hout =>
    have hlt : decide (((s.length : Nat) : Int) < ((s.length : Nat) : Int)) = false := decide_eq_false (by omega)
    simp only [hlt, cond_false]
theorem f_slices_ContainsFunc_api_Load (s : List TLoad) (hs : s.length < 9223372036854775807) (f : TLoad → Option Bool) (g : TLoad → Bool) (hf : ∀ x ∈ s, f x = some (g x)) : F_slices_ContainsFunc_api_Load s f = some (s.any g) := by
  unfold F_slices_ContainsFunc_api_Load
  rw [f_slices_IndexFunc_api_Load s hs f g hf, Option.bind_some]
  congr 1
  cases h : s.findIdx? g with
  | none =>
    rw [List.findIdx?_eq_none_iff] at h
    have : s.any g = false := by rw [List.any_eq_false]; intro x hx; rw [h x hx]; simp
    rw [this]; rfl
  | some i =>
    obtain ⟨hi, hg, _⟩ := List.findIdx?_eq_some_iff_getElem.1 h
    have : s.any g = true := List.any_eq_true.2 ⟨_, List.getElem_mem hi, hg⟩
    rw [this]
    exact decide_eq_true (by show (i : Int) ≥ 0; omega)
end Go.Proofs.Ytbamoboldhabjaa

/- Names: what the two readers of names come to. -/
namespace Go.Proofs.Ytbamoboldhabjaa

theorem takeWhile_len {α : Type} (p : α → Bool) : ∀ (l : List α) (k : Nat), k ≤ l.length → (∀ i (h : i < l.length), i < k → p l[i] = true) → (∀ h : k < l.length, p l[k] = false) → (l.takeWhile p).length = k
  | [], k, hk, _, _ => by simp at hk; subst hk; rfl
  | x :: l, 0, _, _, h2 => by
    have := h2 (by simp)
    rw [List.takeWhile_cons]
    simp only [List.getElem_cons_zero] at this
    rw [this]; rfl
  | x :: l, k + 1, hk, h1, h2 => by
    have hx := h1 0 (by simp) (by omega)
    simp only [List.getElem_cons_zero] at hx
    rw [List.takeWhile_cons, hx]
    simp only [if_true, List.length_cons]
    rw [takeWhile_len p l k (by simpa using hk) (fun i h hi => by have := h1 (i + 1) (by simpa using h) (by omega); simpa using this) (fun h => by have := h2 (by simpa using h); simpa using this)]
theorem f_letter (c : Int) : F_decimal_letter c = some (letterB c) := by
  unfold F_decimal_letter letterB
  by_cases h1 : c ≥ 97 <;> by_cases h2 : c ≤ 122 <;> by_cases h3 : c ≥ 65 <;> by_cases h4 : c ≤ 90 <;> simp [h1, h2, h3, h4] <;> omega
theorem f_digit (c : Int) : F_decimal_digit c = some (digitB c) := by
  unfold F_decimal_digit digitB
  by_cases h1 : c ≥ 48 <;> by_cases h2 : c ≤ 57 <;> simp [h1, h2] <;> omega
theorem f_rletter (c : Int) : F_ref01_Letter c = some (letterB c) := f_letter c
theorem f_rdigit (c : Int) : F_ref01_Digit c = some (digitB c) := f_digit c
theorem f_word (s : ByteArray) (hs : s.size ≤ 9223372036854775806) : F_decimal_word s = some (wordN s : Int) := by
  unfold F_decimal_word
  have hlen : s.data.toList.length = s.size := rfl
  obtain ⟨r, h1, h2⟩ := iter_inv (F := fun s12 : Int × Unit => (((bif (decide (s12.1 < ((s.size : Nat) : Int))) then (idxB s s12.1).bind fun b13 => (F_decimal_letter ((b13.toNat : Nat) : Int)).bind fun r14 => (bif r14 then some (true, ()) else (idxB s s12.1).bind fun b15 => (F_decimal_digit ((b15.toNat : Nat) : Int)).bind fun r16 => (bif r16 then some (true, ()) else (idxB s s12.1).bind fun b17 => some ((((b17.toNat : Nat) : Int) == 95), ()))) else some (false, ())) : Option (Bool × Unit)).bind fun y18 => (bif y18.1 then some (.inl ((IntKind.i64.wrap (s12.1 + 1)), ())) else some (.inr (s12.1, ()))) : Option ((Int × Unit) ⊕ (Int × Unit))))
    (Q := fun r => r = ((wordN s : Int), ())) (fun k x => x = ((k : Int), ()) ∧ ∀ i (h : i < s.data.toList.length), i < k → wcB s.data.toList[i] = true) s.size (by unfold big; omega) (fun k x hk hi => by
      obtain ⟨rfl, hi⟩ := hi
      by_cases hlt : k < s.size
      · have hd : decide ((k : Int) < ((s.size : Nat) : Int)) = true := decide_eq_true (by omega)
        simp only [hd, cond_true, idxB_at hlt, Option.bind_some, f_letter, f_digit]
        rw [wrap64 (by omega) (by omega)]
        have hsel : (((bif letterB ((s[k].toNat : Nat) : Int) then some (true, ()) else (bif digitB ((s[k].toNat : Nat) : Int) then some (true, ()) else some ((((s[k].toNat : Nat) : Int) == 95), ()))) : Option (Bool × Unit))) = some (wcB s[k], ()) := by
          unfold wcB
          cases letterB s[k].toNat <;> cases digitB s[k].toNat <;> rfl
        rw [hsel]
        simp only [Option.bind_some]
        cases hw : wcB s[k] with
        | true =>
          refine .inl ⟨((k : Int) + 1, ()), rfl, hlt, rfl, fun i h hik => ?_⟩
          by_cases hik' : i < k
          · exact hi i h hik'
          · obtain rfl : i = k := by omega
            exact hw
        | false =>
          refine .inr ⟨((k : Int), ()), rfl, ?_⟩
          have := takeWhile_len wcB s.data.toList k (by omega) hi (fun _ => hw)
          unfold wordN
          rw [this]
      · obtain rfl : k = s.size := by omega
        have hd : decide (((s.size : Nat) : Int) < ((s.size : Nat) : Int)) = false := decide_eq_false (by omega)
        simp only [hd, cond_false, Option.bind_some]
        refine .inr ⟨_, rfl, ?_⟩
        have := takeWhile_len wcB s.data.toList s.size (by omega) hi (fun h => by omega)
        unfold wordN
        rw [this]) (s := (0, ())) ⟨rfl, fun i _ h => by omega⟩
  rw [h1, h2]
  rfl
theorem takeWhile_all {α : Type} (p : α → Bool) : ∀ (l : List α), ((l.takeWhile p).length == l.length) = l.all p
  | [] => rfl
  | x :: l => by
    rw [List.takeWhile_cons, List.all_cons]
    cases p x with
    | true =>
      simp only [if_true, List.length_cons, Bool.true_and]
      rw [← takeWhile_all p l]
      rw [Bool.eq_iff_iff, beq_iff_eq, beq_iff_eq]
      omega
    | false => simp
theorem f_name (s : ByteArray) (hs : s.size ≤ 9223372036854775806) : F_decimal_IsName s = some (nameB s) := by
  unfold F_decimal_IsName nameB
  have hlen : s.data.toList.length = s.size := rfl
  have hw : ∀ (c : UInt8) (l : List UInt8), s.data.toList = c :: l → ((wordN s : Int) == ((s.size : Nat) : Int)) = (c :: l).all wcB := by
    intro c l h
    rw [← h, ← takeWhile_all, hlen]
    unfold wordN
    rw [Bool.eq_iff_iff, beq_iff_eq, beq_iff_eq]
    omega
  simp only [f_word s hs, ByteArray.toList_eq]
  show Option.bind (bif (!(s.data.toList == [])) then _ else _) _ = _
  cases hl : s.data.toList with
  | nil => rfl
  | cons c l =>
    rw [hl] at hlen
    have h0 : idxB s 0 = some c := by
      have h1 : 0 < s.size := by rw [← hlen]; simp
      have := idxB_at (s := s) (k := 0) h1
      have e : s[0] = s.data.toList[0]'(by rw [hl]; simp) := rfl
      rw [e] at this
      simp only [hl, List.getElem_cons_zero] at this
      exact this
    have h1 : (!(c :: l == ([] : List UInt8))) = true := rfl
    simp only [h1, cond_true, h0, Option.bind_some, f_letter]
    have h2 : decide (((s.size : Nat) : Int) ≤ 20) = decide (l.length < 20) := by
      rw [← hlen]
      simp only [List.length_cons]
      by_cases h : l.length < 20
      · rw [decide_eq_true h]; exact decide_eq_true (by omega)
      · rw [decide_eq_false h]; exact decide_eq_false (by omega)
    rw [h2, hw c l hl]
    cases decide (l.length < 20) <;> cases letterB ((c.toNat : Nat) : Int) <;> rfl
end Go.Proofs.Ytbamoboldhabjaa

/- Names by the reference; items by themselves. -/
namespace Go.Proofs.Ytbamoboldhabjaa

theorem f_rname (s : ByteArray) (hs : s.size ≤ 9223372036854775806) : F_ref01_IsName s = some (nameB s) := by
  have hlen : s.data.toList.length = s.size := rfl
  have hrw : F_ref01_word s 0 = F_decimal_word s := rfl
  have h0 := f_name s hs
  unfold F_ref01_IsName
  unfold F_decimal_IsName at h0
  rw [hrw]
  simp only [f_word s hs, ByteArray.toList_eq, f_letter, f_rletter] at h0 ⊢
  rw [← h0]
  cases hl : s.data.toList with
  | nil =>
    have : s.size = 0 := by rw [← hlen, hl]; rfl
    rw [this]; rfl
  | cons c l =>
    rw [hl] at hlen
    have hpos : 0 < s.size := by rw [← hlen]; simp
    have e1 : (((s.size : Nat) : Int) == 0) = false := by rw [beq_eq_false_iff_ne]; omega
    have e2 : (!(c :: l == (⟨#[]⟩ : ByteArray).data.toList)) = true := rfl
    have e3 : decide (((s.size : Nat) : Int) > 20) = !decide (((s.size : Nat) : Int) ≤ 20) := by
      by_cases h : ((s.size : Nat) : Int) ≤ 20
      · rw [decide_eq_true h]; exact decide_eq_false (by omega)
      · rw [decide_eq_false h]; exact decide_eq_true (by omega)
    have h1 := idxB_at (s := s) (k := 0) hpos
    have h1' : idxB s 0 = some s[0] := h1
    rw [e1, e2, e3, h1']
    cases decide (((s.size : Nat) : Int) ≤ 20) with
    | false => rfl
    | true =>
      simp only [Bool.not_true, cond_false, cond_true, Option.bind_some]
      cases letterB ((s[0].toNat : Nat) : Int) <;> rfl
end Go.Proofs.Ytbamoboldhabjaa

/- Valid beams. -/
namespace Go.Proofs.Ytbamoboldhabjaa
set_option linter.unusedVariables false
set_option linter.unusedSimpArgs false

def badH1 (b : TBeam) : Bool := !nameB b.name || (decide (b.length < 1) || (decide (b.length > 1048576) || (decide (b.even < 0) || decide (b.even > 1048576))))
def badH2 (b : TBeam) : Bool := decide (((b.supports.length : Nat) : Int) < 1) || (decide (((b.supports.length : Nat) : Int) > 10) || decide (((b.loads.length : Nat) : Int) > 40))
def badS (b : TBeam) (i : Nat) : Bool := decide (sp b i < 0) || (decide (sp b i > b.length) || (decide (0 < i) && decide (sp b i ≤ sp b (i - 1))))
def badL (b : TBeam) (x : TLoad) : Bool := decide (x.at_ < 0) || (decide (x.at_ > b.length) || (decide (x.weight < 0) || decide (x.weight > 67108864)))
def validBm (b : TBeam) : Bool := !badH1 b && (!badH2 b && ((List.range b.supports.length).all (fun i => !badS b i) && b.loads.all (fun x => !badL b x)))
theorem bif_or (c d : Bool) : ((bif c then some (true, ()) else some (d, ())) : Option (Bool × Unit)) = some (c || d, ()) := by cases c <;> rfl
theorem gs_eq {γ : Type} {X : Option γ} {a : γ} (h : Gs X fun r => r = a) : X = some a := by
  obtain ⟨y, h1, rfl⟩ := h
  exact h1
theorem all_of {n : Nat} {p : Nat → Bool} (h : ∀ j, j < n → p j = true) : (List.range n).all p = true := by
  rw [List.all_eq_true]
  intro j hj
  exact h j (List.mem_range.1 hj)
theorem all_not {n : Nat} {p : Nat → Bool} {k : Nat} (hk : k < n) (h : p k = false) : (List.range n).all p = false := by
  rw [List.all_eq_false]
  exact ⟨k, List.mem_range.2 hk, by rw [h]; simp⟩
theorem f_badload (b : TBeam) (x : TLoad) : F_beam_Valid_1 x b = some (badL b x) := by
  unfold F_beam_Valid_1 badL
  simp only [bif_or, Option.bind_some]
theorem bad_sup {b : TBeam} {k : Nat} (hk : k < b.supports.length) (hn : b.supports.length ≤ 1000000) (x : Int) (hx : x = sp b k) :
    ((bif (decide (x < 0)) then some (true, ()) else (bif (decide (x > b.length)) then some (true, ()) else (bif (decide ((k : Int) > 0)) then (idx b.supports (IntKind.i64.wrap ((k : Int) - 1))).bind fun x10 => some ((decide (x ≤ x10)), ()) else some (false, ()))) : Option (Bool × Unit))) = some (badS b k, ()) := by
  subst hx
  have h : ((bif (decide ((k : Int) > 0)) then (idx b.supports (IntKind.i64.wrap ((k : Int) - 1))).bind fun x10 => some ((decide (sp b k ≤ x10)), ()) else some (false, ())) : Option (Bool × Unit)) = some (decide (0 < k) && decide (sp b k ≤ sp b (k - 1)), ()) := by
    rcases Nat.eq_zero_or_pos k with h | h
    · subst h; rfl
    · rw [decide_eq_true (show (k : Int) > 0 by omega), decide_eq_true h, wrap64 (by omega) (by omega), show (k : Int) - 1 = ((k - 1 : Nat) : Int) from by omega, sp_idx (by omega)]
      rfl
  rw [h, bif_or, bif_or]
  rfl
theorem f_bvalid {b : TBeam} (hname : b.name.size ≤ 1000000) (hn : b.supports.length ≤ 1000000) (hl : b.loads.length ≤ 1000000) : F_beam_Valid b = some (validBm b) := by
  apply gs_eq
  unfold F_beam_Valid
  rw [f_name _ (by omega)]
  simp only [Option.bind_some, bif_or]
  have hh : (!nameB b.name || (decide (b.length < 1) || (decide (b.length > 1048576) || (decide (b.even < 0) || (decide (b.even > 1048576) || (decide (((b.supports.length : Nat) : Int) < 1) || (decide (((b.supports.length : Nat) : Int) > 10) || decide (((b.loads.length : Nat) : Int) > 40)))))))) = (badH1 b || badH2 b) := by
    unfold badH1 badH2
    simp only [Bool.or_assoc]
  rw [hh]
  cases h1 : (badH1 b || badH2 b) with
  | true =>
    refine gt rfl (gend ?_)
    unfold validBm
    rw [Bool.or_eq_true] at h1
    rcases h1 with h | h <;> simp [h]
  | false =>
    rw [Bool.or_eq_false_iff] at h1
    refine gf rfl ?_
    refine gloop (fun r : (Bool × Unit) ⊕ Unit => match r with
        | .inl y => y.1 = false ∧ (List.range b.supports.length).all (fun i => !badS b i) = false
        | .inr _ => (List.range b.supports.length).all (fun i => !badS b i) = true)
      (fun k s => s = ((k : Int), ()) ∧ ∀ j, j < k → (!badS b j) = true) b.supports.length (by unfold big; omega) ⟨rfl, fun j hj => absurd hj (Nat.not_lt_zero j)⟩ ?_ ?_
    · rintro k s hk ⟨rfl, hj⟩
      rcases Nat.lt_or_ge k b.supports.length with hlt | hge
      · refine gt (decide_eq_true (by show (k : Int) < ((b.supports.length : Nat) : Int); omega)) (go (sp_idx hlt) (go (bad_sup hlt hn _ rfl) ?_))
        cases hb : badS b k with
        | true => exact gt rfl (gend ⟨rfl, all_not hlt (by rw [hb]; rfl)⟩)
        | false =>
          refine gf rfl (gend ⟨hlt, by show (IntKind.i64.wrap ((k : Int) + 1), ()) = (((k + 1 : Nat) : Int), ()); rw [wrap64 (by omega) (by omega)]; rfl, fun j hj2 => ?_⟩)
          rcases Decidable.em (j = k) with h | h
          · subst h; rw [hb]; rfl
          · exact hj j (by omega)
      · have : k = b.supports.length := by omega
        subst this
        exact gf (decide_eq_false (by show ¬ ((b.supports.length : Nat) : Int) < ((b.supports.length : Nat) : Int); omega)) (gend (all_of hj))
    · rintro (y | y) hr
      · obtain ⟨h2, h3⟩ := hr
        refine gend ?_
        unfold validBm
        rw [h3, h2]
        simp
      · simp only at hr ⊢
        refine go (f_slices_ContainsFunc_api_Load b.loads (by omega) (fun z16 => F_beam_Valid_1 z16 b) (fun x => badL b x) (fun x _ => f_badload b x)) (gend ?_)
        unfold validBm
        rw [hr, h1.1, h1.2]
        simp only [Bool.not_false, Bool.true_and]
        rw [Bool.eq_iff_iff]
        simp
theorem f_rvalid20 {b : TBeam} (hname : b.name.size ≤ 1000000) (hn : b.supports.length ≤ 1000000) (hl : b.loads.length ≤ 1000000) : F_ref20_Valid b = some (validBm b) := by
  apply gs_eq
  unfold F_ref20_Valid
  rw [f_rname _ (by omega)]
  simp only [Option.bind_some, bif_or]
  have e1 : (!nameB b.name || (decide (b.length < 1) || (decide (b.length > 1048576) || (decide (b.even < 0) || decide (b.even > 1048576))))) = badH1 b := rfl
  have e2 : (decide (((b.supports.length : Nat) : Int) < 1) || (decide (((b.supports.length : Nat) : Int) > 10) || decide (((b.loads.length : Nat) : Int) > 40))) = badH2 b := rfl
  rw [e1, e2]
  cases h1 : badH1 b with
  | true => exact gt rfl (gend (by unfold validBm; simp [h1]))
  | false =>
    cases h2 : badH2 b with
    | true => exact gf rfl (gt rfl (gend (by unfold validBm; simp [h2])))
    | false =>
      refine gf rfl (gf rfl ?_)
      refine gloop (fun r : (Bool × Unit) ⊕ Unit => match r with
          | .inl y => y.1 = false ∧ (List.range b.supports.length).all (fun i => !badS b i) = false
          | .inr _ => (List.range b.supports.length).all (fun i => !badS b i) = true)
        (fun k s => s = ((k : Int), ()) ∧ ∀ j, j < k → (!badS b j) = true) b.supports.length (by unfold big; omega) ⟨rfl, fun j hj => absurd hj (Nat.not_lt_zero j)⟩ ?_ ?_
      · rintro k s hk ⟨rfl, hj⟩
        rcases Nat.lt_or_ge k b.supports.length with hlt | hge
        · have hsel := bad_sup hlt hn _ rfl
          have pk := sp_idx hlt
          simp only [pk, Option.bind_some]
          refine gt (decide_eq_true (by omega)) (go hsel ?_)
          cases hb : badS b k with
          | true => exact gt rfl (gend ⟨rfl, all_not hlt (by rw [hb]; rfl)⟩)
          | false =>
            refine gf rfl (gend ⟨hlt, by show (IntKind.i64.wrap ((k : Int) + 1), ()) = (((k + 1 : Nat) : Int), ()); rw [wrap64 (by omega) (by omega)]; rfl, fun j hj2 => ?_⟩)
            rcases Decidable.em (j = k) with h | h
            · subst h; rw [hb]; rfl
            · exact hj j (by omega)
        · have : k = b.supports.length := by omega
          subst this
          exact gf (decide_eq_false (by show ¬ ((b.supports.length : Nat) : Int) < ((b.supports.length : Nat) : Int); omega)) (gend (all_of hj))
      · rintro (y | y) hr
        · obtain ⟨h3, h4⟩ := hr
          refine gend ?_
          unfold validBm
          rw [h4, h3]
          simp
        · simp only at hr ⊢
          refine gloop (fun r : (Bool × Unit) ⊕ Unit => match r with
              | .inl y => y.1 = false ∧ b.loads.all (fun x => !badL b x) = false
              | .inr _ => b.loads.all (fun x => !badL b x) = true)
            (fun k s => s = ((k : Int), ()) ∧ (b.loads.take k).all (fun x => !badL b x) = true) b.loads.length (by unfold big; omega) ⟨rfl, rfl⟩ ?_ ?_
          · rintro k s hk ⟨rfl, hj⟩
            rcases Nat.lt_or_ge k b.loads.length with hlt | hge
            · have pk := idx_nat hlt
              refine gt (decide_eq_true (by show (k : Int) < ((b.loads.length : Nat) : Int); omega)) (go pk ?_)
              cases hb : badL b b.loads[k] with
              | true =>
                refine gt hb (gend ⟨rfl, ?_⟩)
                rw [List.all_eq_false]
                exact ⟨_, List.getElem_mem hlt, by rw [hb]; simp⟩
              | false =>
                refine gf hb (gend ⟨hlt, by show (IntKind.i64.wrap ((k : Int) + 1), ()) = (((k + 1 : Nat) : Int), ()); rw [wrap64 (by omega) (by omega)]; rfl, ?_⟩)
                rw [List.take_succ_eq_append_getElem hlt, List.all_append, hj]
                simp [hb]
            · have : k = b.loads.length := by omega
              subst this
              rw [List.take_length] at hj
              exact gf (decide_eq_false (by show ¬ ((b.loads.length : Nat) : Int) < ((b.loads.length : Nat) : Int); omega)) (gend hj)
          · rintro (y | y) hr2
            · obtain ⟨h5, h6⟩ := hr2
              refine gend ?_
              unfold validBm
              rw [h6, h5]
              simp
            · simp only at hr2
              refine gend ?_
              unfold validBm
              rw [hr, hr2, h1, h2]
              rfl
theorem valid_in {b : TBeam} (h : validBm b = true) : BeamIn b ∧ SupOk b := by
  unfold validBm at h
  rw [Bool.and_eq_true, Bool.and_eq_true, Bool.and_eq_true] at h
  obtain ⟨h1, h2, h3, h4⟩ := h
  unfold badH1 at h1
  unfold badH2 at h2
  simp only [Bool.not_eq_true', Bool.or_eq_false_iff, decide_eq_false_iff_not] at h1 h2
  obtain ⟨_, a1, a2, a3, a4⟩ := h1
  obtain ⟨b1, b2, b3⟩ := h2
  rw [List.all_eq_true] at h3 h4
  have hS : ∀ i, i < b.supports.length → 0 ≤ sp b i ∧ sp b i ≤ b.length ∧ (0 < i → sp b (i - 1) < sp b i) := by
    intro i hi
    have := h3 i (List.mem_range.2 hi)
    unfold badS at this
    simp only [Bool.not_eq_true', Bool.or_eq_false_iff, Bool.and_eq_false_iff, decide_eq_false_iff_not] at this
    omega
  refine ⟨⟨by omega, by omega, by omega, by omega, ?_, by omega⟩, ⟨by omega, by omega, ?_, ?_⟩⟩
  · intro x hx
    have := h4 x hx
    unfold badL at this
    simp only [Bool.not_eq_true', Bool.or_eq_false_iff, decide_eq_false_iff_not] at this
    unfold LoadOk
    omega
  · intro x hx
    obtain ⟨i, hi, rfl⟩ := List.getElem_of_mem hx
    have := hS i hi
    have e : sp b i = b.supports[i] := by unfold sp; rw [List.getD_eq_getElem?_getD, List.getElem?_eq_getElem hi]; rfl
    omega
  · intro i hi
    have := (hS (i + 1) hi).2.2 (by omega)
    simpa [sp] using this
end Go.Proofs.Ytbamoboldhabjaa

/- The reference's numbers of many digits (base 2^24): trim, larger, digit, plus, minus. -/
namespace Go.Proofs.Ytbamoboldhabjaa
set_option linter.unusedVariables false
set_option linter.unusedSimpArgs false

theorem tight_snoc {d : List Int} {x : Int} (h : x ≠ 0) : tight (d ++ [x]) := by
  unfold tight; simpa using h
theorem dg_out {l : List Int} {k : Nat} (h : l.length ≤ k) : dg l k = 0 := by simp [dg, h]
theorem tight_take {l : List Int} {m : Nat} (h : m < l.length) (hx : dg l m ≠ 0) : tight (l.take (m + 1)) := by
  rw [take_snoc h]
  rw [dg_get h] at hx
  exact tight_snoc hx
theorem g_trim {neg : Bool} {l : List Int} (hd : dig (16777216 : Int) l) (hl : l.length ≤ 16500000) : ∃ r : TBig, F_ref08_trim ⟨neg, l⟩ = some r ∧ (bv (16777216 : Int) r.d = bv (16777216 : Int) l ∧ dig (16777216 : Int) r.d ∧ tight r.d ∧ r.d.length ≤ l.length ∧ (r.neg = true ↔ neg = true ∧ bv (16777216 : Int) l ≠ 0)) := by
  unfold F_ref08_trim
  refine iter_bind (Q := fun r : Int × Unit => ∃ m : Nat, r = ((m : Int), ()) ∧ m ≤ l.length ∧ bv (16777216 : Int) (l.take m) = bv (16777216 : Int) l ∧ tight (l.take m))
    (fun k s => ∃ m : Nat, s = ((m : Int), ()) ∧ m + k = l.length ∧ bv (16777216 : Int) (l.take m) = bv (16777216 : Int) l) l.length (by unfold big; omega) ?_ ⟨l.length, rfl, rfl, by rw [List.take_length]⟩ ?_
  · rintro k s hk ⟨m, rfl, hm, hv⟩
    cases m with
    | zero =>
      have e0 : decide (((0 : Nat) : Int) > 0) = false := by decide
      refine .inr ⟨_, ?_, 0, rfl, Nat.zero_le _, hv, by simp [tight]⟩
      simp only [e0, cond_false, Option.bind_some]
    | succ m =>
      have e0 : decide (((m + 1 : Nat) : Int) > 0) = true := by simp
      have e1 : IntKind.i64.wrap (((m + 1 : Nat) : Int) - 1) = (m : Int) := by rw [wrap64 (by omega) (by omega)]; omega
      have hlt : m < l.length := by omega
      simp only [e0, cond_true, e1]
      rw [idx_nat hlt, ← dg_get hlt]
      simp only [Option.bind_some]
      rcases Decidable.em (dg l m = 0) with h | h
      · have e2 : (dg l m == 0) = true := by rw [h]; rfl
        rw [e2, cond_true]
        refine .inl ⟨_, rfl, by omega, m, rfl, by omega, ?_⟩
        rw [bv_take_succ, h] at hv
        simpa using hv
      · have e2 : (dg l m == 0) = false := by simpa using h
        rw [e2, cond_false]
        exact .inr ⟨_, rfl, m + 1, rfl, by omega, hv, tight_take hlt h⟩
  · rintro _ ⟨m, rfl, hm, hv, ht⟩
    simp only [Int.toNat_natCast]
    rw [if_pos ⟨by omega, by omega, by omega⟩]
    have hd2 := dig_take hd m
    have hz := bv_zero (by decide) hd2 ht
    rw [hv] at hz
    have hd0 : List.drop (Int.toNat 0) (l.take m) = l.take m := rfl
    rw [hd0]
    rcases Decidable.em (m = 0) with h | h
    · have e2 : ((m : Int) == 0) = true := by simp [h]
      rw [e2, cond_true]
      refine ⟨_, rfl, hv, hd2, ht, by simp; omega, ?_⟩
      have : bv (16777216 : Int) l = 0 := hz.2 (by rw [h]; rfl)
      simp [this]
    · have e2 : ((m : Int) == 0) = false := by simp; omega
      rw [e2, cond_false]
      refine ⟨_, rfl, hv, hd2, ht, by simp; omega, ?_⟩
      have : bv (16777216 : Int) l ≠ 0 := fun e => by
        have hl2 : (l.take m).length = m := by simp; omega
        rw [hz.1 e] at hl2
        simp at hl2
        omega
      simp [this]
theorem g_larger (a b : List Int) (ha : dig (16777216 : Int) a) (hb : dig (16777216 : Int) b) (hta : tight a) (htb : tight b) (hla : a.length ≤ 16500000) (hlb : b.length ≤ 16500000) :
    F_ref08_larger a b = some (decide (bv (16777216 : Int) b < bv (16777216 : Int) a)) := by
  suffices h : ∃ r, F_ref08_larger a b = some r ∧ r = decide (bv (16777216 : Int) b < bv (16777216 : Int) a) by
    obtain ⟨r, h1, rfl⟩ := h
    exact h1
  unfold F_ref08_larger
  rcases Decidable.em (a.length = b.length) with he | hne
  · have e0 : (((a.length : Nat) : Int) != ((b.length : Nat) : Int)) = false := by rw [he]; simp
    rw [e0, cond_false]
    refine iter_bind (Q := fun r : (Bool × Unit) ⊕ Unit => match r with
        | .inl y => y.1 = decide (bv (16777216 : Int) b < bv (16777216 : Int) a)
        | .inr _ => false = decide (bv (16777216 : Int) b < bv (16777216 : Int) a))
      (fun k s => ∃ m, m + k = a.length ∧ s = ((m : Int) - 1, ()) ∧ a.drop m = b.drop m) a.length (by unfold big; omega) ?_ ⟨a.length, by omega, by rw [wrap64 (by omega) (by omega)], by rw [List.drop_length, he, List.drop_length]⟩ ?_
    · rintro k s hk ⟨m, hm, rfl, hdr⟩
      cases m with
      | zero =>
        have e1 : decide ((((0 : Nat) : Int) - 1) ≥ 0) = false := by decide
        refine .inr ⟨.inr (), by simp only [e1, cond_false], ?_⟩
        simp only [List.drop_zero] at hdr
        subst hdr
        exact (decide_eq_false (by omega)).symm
      | succ m =>
        have e1 : decide ((((m + 1 : Nat) : Int) - 1) ≥ 0) = true := by simp
        have e2 : (((m + 1 : Nat) : Int) - 1) = (m : Int) := by omega
        have hma : m < a.length := by omega
        have hmb : m < b.length := by omega
        have ga : dg a m = a[m] := by simp [dg, hma]
        have gb : dg b m = b[m] := by simp [dg, hmb]
        simp only [e1, cond_true]
        rw [e2, idx_nat hma, idx_nat hmb]
        simp only [Option.bind_some]
        rw [← ga, ← gb]
        rcases Decidable.em (dg a m = dg b m) with h | h
        · have e3 : (dg a m != dg b m) = false := by rw [h]; simp
          rw [e3, cond_false]
          refine .inl ⟨_, rfl, by omega, m, by omega, ?_, ?_⟩
          · rw [wrap64 (by omega) (by omega)]
          · rw [List.drop_eq_getElem_cons hma, List.drop_eq_getElem_cons hmb, hdr, ← ga, ← gb, h]
        · have e3 : (dg a m != dg b m) = true := by simpa using h
          rw [e3, cond_true]
          rcases Int.lt_or_le (dg a m) (dg b m) with h2 | h2
          · have e4 : decide (dg a m > dg b m) = false := by simp; omega
            have := bv_lt_of (by decide) ha hb he hma hdr h2
            refine .inr ⟨_, rfl, ?_⟩
            show decide (dg a m > dg b m) = _
            rw [e4]; exact (decide_eq_false (by omega)).symm
          · have e4 : decide (dg a m > dg b m) = true := by simp; omega
            have := bv_lt_of (by decide) hb ha he.symm hmb hdr.symm (by omega)
            refine .inr ⟨_, rfl, ?_⟩
            show decide (dg a m > dg b m) = _
            rw [e4]; exact (decide_eq_true (by omega)).symm
    · rintro (y | y) h
      · exact ⟨y.1, rfl, h⟩
      · exact ⟨false, rfl, h⟩
  · have e0 : (((a.length : Nat) : Int) != ((b.length : Nat) : Int)) = true := by simp; omega
    rw [e0, cond_true]
    refine ⟨_, rfl, ?_⟩
    rcases Nat.lt_or_ge a.length b.length with h | h
    · have := bv_lt_len (by decide) ha hb htb h
      rw [decide_eq_false (by omega), decide_eq_false (by omega)]
    · have := bv_lt_len (by decide) hb ha hta (by omega)
      rw [decide_eq_true (by omega), decide_eq_true (by omega)]
theorem g_digit (l : List Int) (k : Nat) : F_ref08_digit l (k : Int) = some (dg l k) := by
  unfold F_ref08_digit
  rcases Nat.lt_or_ge k l.length with h | h
  · have e0 : decide ((k : Int) < ((l.length : Nat) : Int)) = true := by simp; omega
    rw [e0, cond_true, idx_nat h, dg_get h]; rfl
  · have e0 : decide ((k : Int) < ((l.length : Nat) : Int)) = false := by simp; omega
    rw [e0, cond_false]
    have : dg l k = 0 := by simp [dg, h]
    rw [this]
theorem bv_take_all {l : List Int} {k : Nat} (h : l.length ≤ k) : bv (16777216 : Int) (l.take k) = bv (16777216 : Int) l := by rw [List.take_of_length_le h]
/-- What a sum leaves: its last digit is not 0. -/
theorem h_plus (a b : List Int) (ha : dig (16777216 : Int) a) (hb : dig (16777216 : Int) b) (hta : tight a) (htb : tight b) (hla : a.length ≤ 16500000) (hlb : b.length ≤ 16500000) :
    ∃ r, F_ref08_plus a b = some r ∧ (bv (16777216 : Int) r = bv (16777216 : Int) a + bv (16777216 : Int) b ∧ dig (16777216 : Int) r ∧ tight r ∧ r.length ≤ max a.length b.length + 1) := by
  unfold F_ref08_plus
  obtain ⟨m, hm⟩ : ∃ m, max a.length b.length = m := ⟨_, rfl⟩
  rw [hm]
  refine iter_bind (Q := fun r : List Int × Unit => bv (16777216 : Int) r.1 = bv (16777216 : Int) a + bv (16777216 : Int) b ∧ dig (16777216 : Int) r.1 ∧ tight r.1 ∧ r.1.length ≤ m + 1)
    (fun k s => ∃ c out, s = (c, (k : Int), out, ()) ∧ out.length = k ∧ dig (16777216 : Int) out ∧ 0 ≤ c ∧ c ≤ 1 ∧ bv (16777216 : Int) out + (16777216 : Int) ^ k * c = bv (16777216 : Int) (a.take k) + bv (16777216 : Int) (b.take k) ∧ (m < k → c = 0) ∧ (m ≤ k → c = 0 → tight out)) (m + 1) (by unfold big; omega) ?_ ⟨0, [], rfl, rfl, (fun x hx => nomatch hx), by omega, by omega, by simp [bv], fun _ => rfl, fun _ _ => by simp [tight]⟩ ?_
  · rintro k s hk ⟨c, out, rfl, hlo, hdo, hc0, hc1, hv, hcm, htm⟩
    simp only
    obtain ⟨t, ht1, ht2⟩ : ∃ t : Bool, ((bif (decide ((k : Int) < ((a.length : Nat) : Int))) then some (true, ()) else (bif (decide ((k : Int) < ((b.length : Nat) : Int))) then some (true, ()) else some ((decide (c > 0)), ()))) : Option (Bool × Unit)) = some (t, ()) ∧ (t = true ↔ k < m ∨ 0 < c) := by
      rcases Nat.lt_or_ge k a.length with h | h
      · have e0 : decide ((k : Int) < ((a.length : Nat) : Int)) = true := by simp; omega
        rw [e0]; exact ⟨true, rfl, by simp; omega⟩
      · have e0 : decide ((k : Int) < ((a.length : Nat) : Int)) = false := by simp; omega
        rw [e0, cond_false]
        rcases Nat.lt_or_ge k b.length with h2 | h2
        · have e0 : decide ((k : Int) < ((b.length : Nat) : Int)) = true := by simp; omega
          rw [e0]; exact ⟨true, rfl, by simp; omega⟩
        · have e0 : decide ((k : Int) < ((b.length : Nat) : Int)) = false := by simp; omega
          rw [e0, cond_false]
          exact ⟨_, rfl, by simp; omega⟩
    rw [ht1]
    simp only [Option.bind_some]
    rcases Bool.eq_false_or_eq_true t with h | h
    · have hor := ht2.1 h
      subst h
      have hkm : k < m + 1 := by
        rcases hor with h | h
        · omega
        · rcases Nat.lt_or_ge m k with h2 | h2
          · have := hcm h2; omega
          · omega
      simp only [cond_true]
      rw [g_digit, g_digit]
      simp only [Option.bind_some]
      have hx := dg_range (by decide) ha k
      have hy := dg_range (by decide) hb k
      have h1 := bv_take_succ (16777216 : Int) a k
      have h2 := bv_take_succ (16777216 : Int) b k
      obtain ⟨x, hxe⟩ : ∃ x, dg a k = x := ⟨_, rfl⟩
      obtain ⟨y, hye⟩ : ∃ y, dg b k = y := ⟨_, rfl⟩
      rw [hxe] at hx h1 ⊢
      rw [hye] at hy h2 ⊢
      have w1 : IntKind.i64.wrap (IntKind.i64.wrap (x + y) + c) = x + y + c := by rw [wrap64 (n := x + y) (by omega) (by omega), wrap64 (by omega) (by omega)]
      rw [w1, if_pos (by simp; omega), Int.tmod_eq_emod_of_nonneg (by omega), Int.tdiv_eq_ediv_of_nonneg (by omega), wrap64 (n := (x + y + c) / 16777216) (by omega) (by omega), wrap64 (n := (k : Int) + 1) (by omega) (by omega)]
      refine .inl ⟨_, rfl, hkm, _, _, rfl, by simp [hlo], dig_snoc hdo (by omega) (by omega), by omega, by omega, ?_, ?_, ?_⟩
      · rw [bv_append, hlo, h1, h2]
        simp only [bv, Int.mul_zero, Int.add_zero]
        have h3 : (16777216 : Int) ^ (k + 1) = (16777216 : Int) ^ k * (16777216 : Int) := Int.pow_succ _ _
        have h4 := Int.emod_add_mul_ediv (x + y + c) (16777216 : Int)
        rw [h3]
        generalize (x + y + c) % (16777216 : Int) = q at h4 ⊢
        generalize (x + y + c) / (16777216 : Int) = t at h4 ⊢
        generalize bv (16777216 : Int) (a.take k) = A at *
        generalize bv (16777216 : Int) (b.take k) = D at *
        grind
      · intro hlt
        have hk2 : m = k := by omega
        have : x = 0 := by rw [← hxe]; exact dg_out (by omega)
        have : y = 0 := by rw [← hye]; exact dg_out (by omega)
        omega
      · intro hle hz
        rcases Nat.lt_or_ge k m with h | h
        · -- the last digit of the longer one
          have hk2 : m = k + 1 := by omega
          have hone : x ≠ 0 ∨ y ≠ 0 := by
            rcases Nat.lt_or_ge k a.length with h3 | h3
            · left
              intro e
              have : a = a.take k ++ [a[k]] := by rw [← take_snoc h3, List.take_of_length_le (by omega)]
              apply hta
              rw [this, ← dg_get h3, hxe, e]; simp
            · right
              intro e
              have h4 : k < b.length := by omega
              have : b = b.take k ++ [b[k]] := by rw [← take_snoc h4, List.take_of_length_le (by omega)]
              apply htb
              rw [this, ← dg_get h4, hye, e]; simp
          exact tight_snoc (by omega)
        · have : x = 0 := by rw [← hxe]; exact dg_out (by omega)
          have : y = 0 := by rw [← hye]; exact dg_out (by omega)
          exact tight_snoc (by omega)
    · have hor : ¬(k < m ∨ 0 < c) := by rw [← ht2, h]; simp
      subst h
      have hc : c = 0 := by omega
      refine .inr ⟨(out, ()), by simp only [cond_false], ?_, hdo, htm (by omega) hc, by show out.length ≤ _; omega⟩
      rw [hc, bv_take_all (by omega), bv_take_all (by omega)] at hv
      show bv (16777216 : Int) out = _
      rw [← hv]; simp
  · rintro ⟨r, u⟩ ⟨q1, q2, q3, q4⟩
    exact ⟨r, rfl, q1, q2, q3, q4⟩
theorem h_minus (a b : List Int) (ha : dig (16777216 : Int) a) (hb : dig (16777216 : Int) b) (hla : a.length ≤ 16500000) (hle : b.length ≤ a.length) (hv0 : bv (16777216 : Int) b ≤ bv (16777216 : Int) a) :
    ∃ r, F_ref08_minus a b = some r ∧ (bv (16777216 : Int) r = bv (16777216 : Int) a - bv (16777216 : Int) b ∧ dig (16777216 : Int) r ∧ r.length = a.length) := by
  unfold F_ref08_minus
  refine iter_bind (Q := fun r : List Int × Unit => bv (16777216 : Int) r.1 = bv (16777216 : Int) a - bv (16777216 : Int) b ∧ dig (16777216 : Int) r.1 ∧ r.1.length = a.length)
    (fun k s => ∃ c out, s = (c, (k : Int), out, ()) ∧ k ≤ a.length ∧ out.length = k ∧ dig (16777216 : Int) out ∧ 0 ≤ c ∧ c ≤ 1 ∧ bv (16777216 : Int) out - (16777216 : Int) ^ k * c = bv (16777216 : Int) (a.take k) - bv (16777216 : Int) (b.take k)) a.length (by unfold big; omega) ?_ ⟨0, [], rfl, Nat.zero_le _, rfl, (fun x hx => nomatch hx), by omega, by omega, by simp [bv]⟩ ?_
  · rintro k s hk ⟨c, out, rfl, _, hlo, hdo, hc0, hc1, hv⟩
    rcases Nat.lt_or_ge k a.length with hlt | hge
    · have e0 : decide ((k : Int) < ((a.length : Nat) : Int)) = true := by simp; omega
      simp only [e0, cond_true]
      rw [idx_nat hlt, ← dg_get hlt, g_digit]
      simp only [Option.bind_some]
      have hx := dg_range (by decide) ha k
      have hy := dg_range (by decide) hb k
      have h1 := bv_take_succ (16777216 : Int) a k
      have h2 := bv_take_succ (16777216 : Int) b k
      obtain ⟨x, hxe⟩ : ∃ x, dg a k = x := ⟨_, rfl⟩
      obtain ⟨y, hye⟩ : ∃ y, dg b k = y := ⟨_, rfl⟩
      rw [hxe] at hx h1 ⊢
      rw [hye] at hy h2 ⊢
      have w1 : IntKind.i64.wrap (IntKind.i64.wrap (x - y) - c) = x - y - c := by rw [wrap64 (n := x - y) (by omega) (by omega), wrap64 (by omega) (by omega)]
      rw [w1]
      refine .inl (step_of hlt ?_)
      have hp : ∃ c' z, ((bif (decide (x - y - c < 0)) then some (1, (IntKind.i64.wrap (x - y - c + 16777216)), ()) else some (0, (x - y - c), ()) : Option (Int × Int × Unit))) = some (c', z, ()) ∧ 0 ≤ c' ∧ c' ≤ 1 ∧ 0 ≤ z ∧ z < 16777216 ∧ z - 16777216 * c' = x - y - c := by
        rcases Int.lt_or_le (x - y - c) 0 with h | h
        · have e : decide (x - y - c < 0) = true := by simpa using h
          rw [e]
          exact ⟨1, x - y - c + 16777216, by rw [wrap64 (by omega) (by omega)]; rfl, by omega, by omega, by omega, by omega, by omega⟩
        · have e : decide (x - y - c < 0) = false := by simpa using h
          rw [e]
          exact ⟨0, x - y - c, rfl, by omega, by omega, by omega, by omega, by omega⟩
      obtain ⟨c', z, p1, p2, p3, p4, p5, p6⟩ := hp
      rw [p1]
      simp only [Option.bind_some]
      rw [if_pos (by simp; omega), wrap64 (n := (k : Int) + 1) (by omega) (by omega)]
      refine ⟨_, rfl, _, rfl, c', _, rfl, hlt, by simp [hlo], dig_snoc hdo p4 p5, p2, p3, ?_⟩
      rw [bv_append, hlo, h1, h2]
      simp only [bv, Int.mul_zero, Int.add_zero]
      have h3 : (16777216 : Int) ^ (k + 1) = (16777216 : Int) ^ k * (16777216 : Int) := Int.pow_succ _ _
      rw [h3]
      generalize bv (16777216 : Int) (a.take k) = A at *
      generalize bv (16777216 : Int) (b.take k) = D at *
      grind
    · have hk' : k = a.length := by omega
      subst hk'
      have e0 : decide (((a.length : Nat) : Int) < ((a.length : Nat) : Int)) = false := by simp
      refine .inr ⟨(out, ()), by simp only [e0, cond_false], ?_, hdo, hlo⟩
      rw [List.take_length, bv_take_all hle] at hv
      have hr := bv_range (by decide) hdo
      rw [hlo] at hr
      show bv (16777216 : Int) out = _
      have hc : c = 0 := by
        rcases Int.lt_or_le c 1 with h | h
        · omega
        · have : c = 1 := by omega
          rw [this, Int.mul_one] at hv
          omega
      rw [hc, Int.mul_zero, Int.sub_zero] at hv
      exact hv
  · rintro ⟨r, u⟩ ⟨q1, q2, q3⟩
    exact ⟨r, rfl, q1, q2, q3⟩
end Go.Proofs.Ytbamoboldhabjaa

/- Turning a row round, as the library does it. -/
namespace Go.Proofs.Ytbamoboldhabjaa
set_option linter.unusedVariables false

theorem at_someW {α : Type} {l : List α} {k : Nat} (h : k < l.length) : l[Int.toNat (k : Int)]? = some l[k] := by
  rw [Int.toNat_natCast, List.getElem?_eq_getElem h]
theorem iter_revW {α : Type} (l : List α) (hl : l.length ≤ 2147483648) :
    (iterF (σ := Int × Int × List α × Unit) (ρ := List α × Unit) (fun s61 => (bif (decide (s61.1 < s61.2.1)) then (idx s61.2.2.1 s61.2.1).bind fun _x62 => (s61.2.2.1[(Int.toNat s61.2.1)]?).bind fun x63 => (idx s61.2.2.1 s61.1).bind fun _x64 => (s61.2.2.1[(Int.toNat s61.1)]?).bind fun x65 => (idx s61.2.2.1 s61.1).bind fun _x66 => (s61.2.2.1[(Int.toNat s61.1)]?).bind fun x67 => (idx (s61.2.2.1.set (Int.toNat s61.1) x63) s61.2.1).bind fun _x68 => ((s61.2.2.1.set (Int.toNat s61.1) x63)[(Int.toNat s61.2.1)]?).bind fun x69 => some (.inl ((IntKind.i64.wrap (s61.1 + 1)), (IntKind.i64.wrap (s61.2.1 - 1)), ((s61.2.2.1.set (Int.toNat s61.1) x63).set (Int.toNat s61.2.1) x65), ())) else some (.inr (s61.2.2.1, ())))) big (0, (IntKind.i64.wrap (((l.length : Nat) : Int) - 1)), l, ())) = some (l.reverse, ()) := by
  rw [wrap64 (by omega) (by omega)]
  obtain ⟨r, g1, g2⟩ := iter_inv (F := fun s61 : Int × Int × List α × Unit => (bif (decide (s61.1 < s61.2.1)) then (idx s61.2.2.1 s61.2.1).bind fun _x62 => (s61.2.2.1[(Int.toNat s61.2.1)]?).bind fun x63 => (idx s61.2.2.1 s61.1).bind fun _x64 => (s61.2.2.1[(Int.toNat s61.1)]?).bind fun x65 => (idx s61.2.2.1 s61.1).bind fun _x66 => (s61.2.2.1[(Int.toNat s61.1)]?).bind fun x67 => (idx (s61.2.2.1.set (Int.toNat s61.1) x63) s61.2.1).bind fun _x68 => ((s61.2.2.1.set (Int.toNat s61.1) x63)[(Int.toNat s61.2.1)]?).bind fun x69 => some (.inl ((IntKind.i64.wrap (s61.1 + 1)), (IntKind.i64.wrap (s61.2.1 - 1)), ((s61.2.2.1.set (Int.toNat s61.1) x63).set (Int.toNat s61.2.1) x65), ())) else some (.inr (s61.2.2.1, ())) : Option ((Int × Int × List α × Unit) ⊕ (List α × Unit))))
    (Q := fun r => r = (l.reverse, ())) (fun k s => ∃ t : List α, s = ((k : Int), (l.length : Int) - 1 - (k : Int), t, ()) ∧ t.length = l.length ∧ ∀ i, i < l.length → t[i]? = if i < k ∨ l.length ≤ i + k then l[l.length - 1 - i]? else l[i]?) l.length (by unfold big; omega) (fun k s hk hs => by
      obtain ⟨t, rfl, ht, hg⟩ := hs
      by_cases hlt : (k : Int) < (l.length : Int) - 1 - (k : Int)
      · have hj : ∃ j : Nat, (l.length : Int) - 1 - (k : Int) = (j : Int) ∧ j = l.length - 1 - k := ⟨l.length - 1 - k, by omega, rfl⟩
        obtain ⟨j, ej, hj⟩ := hj
        rw [ej] at hlt ⊢
        have hkt : k < t.length := by omega
        have hjt : j < t.length := by omega
        have hk2 : k < (t.set k t[j]).length := by rw [List.length_set]; exact hkt
        have hj2 : j < (t.set k t[j]).length := by rw [List.length_set]; exact hjt
        refine .inl ⟨((k : Int) + 1, (j : Int) - 1, (t.set k t[j]).set j t[k], ()), ?_, by omega, (t.set k t[j]).set j t[k], ?_, ?_, ?_⟩
        · simp only [decide_eq_true hlt, cond_true, idx_at hkt, idx_at hjt, Option.bind_some, Int.toNat_natCast, List.getElem?_eq_getElem hkt, List.getElem?_eq_getElem hjt, idx_at hj2, List.getElem?_eq_getElem hj2]
          rw [wrap64 (by omega) (by omega), wrap64 (by omega) (by omega)]
        · congr 1
          · congr 1; omega
        · simp [ht]
        · intro i hi
          have h1 := hg i hi
          rw [List.getElem?_set, List.length_set]
          by_cases e1 : j = i
          · subst e1
            have h2 := hg k (by omega)
            rw [if_pos rfl, if_pos hjt, if_pos (by omega), ← List.getElem?_eq_getElem hkt, h2, if_neg (by omega)]
            congr 1; omega
          · rw [if_neg e1, List.getElem?_set]
            by_cases e2 : k = i
            · subst e2
              have h2 := hg j (by omega)
              rw [if_pos rfl, if_pos hkt, if_pos (by omega), ← List.getElem?_eq_getElem hjt, h2, if_neg (by omega), hj]
            · rw [if_neg e2, h1]
              by_cases c : i < k ∨ l.length ≤ i + k
              · rw [if_pos c, if_pos (by omega)]
              · rw [if_neg c, if_neg (by omega)]
      · refine .inr ⟨(t, ()), by simp only [decide_eq_false hlt, cond_false], ?_⟩
        congr 1
        apply List.ext_getElem?
        intro i
        by_cases hi : i < l.length
        · rw [hg i hi, List.getElem?_reverse hi]
          by_cases c : i < k ∨ l.length ≤ i + k
          · rw [if_pos c]
          · rw [if_neg c]
            congr 1; omega
        · rw [List.getElem?_eq_none (by omega), List.getElem?_eq_none (by simp; omega)]) (s := (0, (l.length : Int) - 1, l, ())) ⟨l, by simp, rfl, fun i hi => by rw [if_neg (by omega)]⟩
  subst g2
  exact g1
end Go.Proofs.Ytbamoboldhabjaa

/- The reference's numbers of many digits: Int, Neg, Product, Sum, half, even. -/
namespace Go.Proofs.Ytbamoboldhabjaa
set_option linter.unusedVariables false
set_option linter.unusedSimpArgs false

theorem r_size {n : Int} (h : -9223372036854775808 ≤ n) (h2 : n ≤ 9223372036854775807) : F_ref02_Size n = some (n.natAbs : Int) := by
  unfold F_ref02_Size
  rw [wrap_u, wrap_u]
  by_cases hn : n < 0
  · rw [decide_eq_true hn, cond_true]; congr 1; omega
  · rw [decide_eq_false hn, cond_false]; congr 1; omega
/-- Digits of the reference: their value is a natural number. -/
structure Wg (l : List Int) (v : Nat) : Prop where
  dig : dig (16777216 : Int) l
  tight : tight l
  len : l.length ≤ 16000000
  val : bv (16777216 : Int) l = v
/-- An integer of the reference. -/
structure Nb (a : TBig) (v : Int) : Prop where
  w : Wg a.d v.natAbs
  neg : a.neg = true ↔ v < 0
  len : a.d.length ≤ 8000000
theorem Wg.zero {l : List Int} {v : Nat} (h : Wg l v) : l = [] ↔ v = 0 := by
  rw [← bv_zero (by decide) h.dig h.tight, h.val]; omega
theorem Wg.lt {l : List Int} {v : Nat} (h : Wg l v) : v < 2 ^ (24 * l.length) := by
  have h1 := (bv_range (by decide) h.dig).2
  rw [h.val] at h1
  have e : (16777216 : Int) ^ l.length = ((2 ^ (24 * l.length) : Nat) : Int) := by
    rw [Nat.pow_mul, Int.natCast_pow]; rfl
  rw [e] at h1
  exact_mod_cast h1
theorem Wg.le {a b : List Int} {u v : Nat} (ha : Wg a u) (hb : Wg b v) (h : u ≤ v) : a.length ≤ b.length := by
  rcases Nat.lt_or_ge b.length a.length with hl | hl
  · have := bv_lt_len (by decide) hb.dig ha.dig ha.tight hl
    rw [ha.val, hb.val] at this
    omega
  · exact hl
theorem Wg.add {a b : List Int} {u v : Nat} (ha : Wg a u) (hb : Wg b v) (hl : max a.length b.length + 1 ≤ 16000000) : ∃ r, F_ref08_plus a b = some r ∧ Wg r (u + v) ∧ r.length ≤ max a.length b.length + 1 := by
  obtain ⟨r, r1, r2, r3, r4, r5⟩ := h_plus a b ha.dig hb.dig ha.tight hb.tight (by have := ha.len; omega) (by have := hb.len; omega)
  exact ⟨r, r1, ⟨r3, r4, by omega, by rw [r2, ha.val, hb.val]; omega⟩, r5⟩
theorem Wg.larger {a b : List Int} {u v : Nat} (ha : Wg a u) (hb : Wg b v) : F_ref08_larger a b = some (decide (v < u)) := by
  rw [g_larger a b ha.dig hb.dig ha.tight hb.tight (by have := ha.len; omega) (by have := hb.len; omega), ha.val, hb.val]
  congr 1; apply decide_eq_decide.mpr; omega
/-- minus, and trim after it. -/
theorem Wg.sub {a b : List Int} {u v : Nat} (neg : Bool) (ha : Wg a u) (hb : Wg b v) (h : v ≤ u) : ∃ r t, F_ref08_minus a b = some r ∧ F_ref08_trim ⟨neg, r⟩ = some t ∧ Wg t.d (u - v) ∧ t.d.length ≤ a.length ∧ (t.neg = true ↔ neg = true ∧ u - v ≠ 0) := by
  obtain ⟨r, r1, r2, r3, r4⟩ := h_minus a b ha.dig hb.dig (by have := ha.len; omega) (hb.le ha h) (by rw [ha.val, hb.val]; omega)
  obtain ⟨t, t1, t2, t3, t4, t5, t6⟩ := g_trim (neg := neg) r3 (by rw [r4]; have := ha.len; omega)
  have hv : bv (16777216 : Int) r = ((u - v : Nat) : Int) := by rw [r2, ha.val, hb.val]; omega
  refine ⟨r, t, r1, t1, ⟨t3, t4, by have := ha.len; omega, by rw [t2, hv]⟩, by omega, ?_⟩
  rw [t6, hv]
  exact and_congr_right fun _ => by omega
theorem g_int (n : Int) (h1 : -9223372036854775808 ≤ n) (h2 : n ≤ 9223372036854775807) : ∃ r, F_ref08_Int n = some r ∧ Nb r n ∧ r.d.length ≤ 3 := by
  unfold F_ref08_Int
  rw [r_size h1 h2]
  simp only [Option.bind_some]
  refine iter_bind (Q := fun r : TBig × Unit => Nb r.1 n ∧ r.1.d.length ≤ 3)
    (fun k s => ∃ (m : Nat) (out : List Int), s = ((m : Int), ⟨decide (n < 0), out⟩, ()) ∧ out.length = k ∧ dig (16777216 : Int) out ∧ bv (16777216 : Int) out + (16777216 : Int) ^ k * m = n.natAbs ∧ (m = 0 → tight out)) 3 (by unfold big; omega) ?_ ⟨n.natAbs, [], rfl, rfl, (fun x hx => nomatch hx), by simp [bv], fun _ => by simp [tight]⟩ ?_
  · rintro k s hk ⟨m, out, rfl, hlo, hdo, hv, ht⟩
    have hr := (bv_range (by decide) hdo).1
    have hp : 0 < (16777216 : Int) ^ k := Int.pow_pos (by decide)
    have hmb : (m : Int) ≤ n.natAbs := by
      have := Int.mul_le_mul_of_nonneg_right (show 1 ≤ (16777216 : Int) ^ k from hp) (show 0 ≤ (m : Int) by omega)
      omega
    rcases Nat.eq_zero_or_pos m with h | h
    · subst h
      have e0 : decide (((0 : Nat) : Int) > 0) = false := by decide
      refine .inr ⟨(⟨decide (n < 0), out⟩, ()), by simp only [e0, cond_false], ⟨⟨hdo, ht rfl, by show out.length ≤ _; omega, ?_⟩, by simp, by show out.length ≤ _; omega⟩, by show out.length ≤ _; omega⟩
      show bv (16777216 : Int) out = _
      rw [← hv]; simp
    · have e0 : decide ((m : Int) > 0) = true := by simp; omega
      have hk3 : k < 3 := by
        rcases Nat.lt_or_ge k 3 with h3 | h3
        · exact h3
        · have : k = 3 := by omega
          subst this
          omega
      have w1 : IntKind.u64.wrap ((m : Int).tdiv 16777216) = ((m / 16777216 : Nat) : Int) := by
        rw [Int.tdiv_eq_ediv_of_nonneg (by omega), wrap_u]; omega
      have w2 : IntKind.i64.wrap ((m : Int).tmod 16777216) = ((m % 16777216 : Nat) : Int) := by
        rw [Int.tmod_eq_emod_of_nonneg (by omega), wrap64 (by omega) (by omega)]; omega
      refine .inl ⟨_, ?_, hk3, m / 16777216, out ++ [((m % 16777216 : Nat) : Int)], rfl, by simp [hlo], dig_snoc hdo (by omega) (by omega), ?_, fun hz => tight_snoc (by omega)⟩
      · simp only [e0, cond_true]
        rw [w1, w2, if_pos (by simp; omega)]
      · rw [bv_append, hlo, ← hv]
        simp only [bv, Int.mul_zero, Int.add_zero]
        have h3 : (16777216 : Int) ^ (k + 1) = (16777216 : Int) ^ k * (16777216 : Int) := Int.pow_succ _ _
        have h4 : (m : Int) = ((m % 16777216 : Nat) : Int) + 16777216 * ((m / 16777216 : Nat) : Int) := by omega
        rw [h3]
        generalize ((m % 16777216 : Nat) : Int) = q at h4 ⊢
        generalize ((m / 16777216 : Nat) : Int) = t at h4 ⊢
        rw [h4]
        grind
  · rintro ⟨r, u⟩ ⟨q1, q2⟩
    exact ⟨r, rfl, q1, q2⟩
theorem g_neg {a : TBig} {v : Int} (h : Nb a v) : ∃ r, F_ref08_Neg a = some r ∧ Nb r (-v) ∧ r.d = a.d := by
  unfold F_ref08_Neg
  have hz := h.w.zero
  have hw : Wg a.d (-v).natAbs := by rw [Int.natAbs_neg]; exact h.w
  cases hn : a.neg with
  | false =>
    have h2 := h.neg
    rw [hn] at h2
    refine ⟨_, rfl, ⟨hw, ?_, h.len⟩, rfl⟩
    show decide (((a.d.length : Nat) : Int) > 0) = true ↔ -v < 0
    rw [decide_eq_true_iff]
    have : 0 < a.d.length ↔ a.d ≠ [] := List.length_pos_iff
    rw [ne_eq, hz] at this
    simp at h2
    omega
  | true =>
    have h2 := h.neg
    rw [hn] at h2
    refine ⟨_, rfl, ⟨hw, ?_, h.len⟩, rfl⟩
    simp at h2 ⊢; omega
theorem g_even {l : List Int} {v : Nat} (h : Wg l v) : F_ref08_even l = some (decide (v % 2 = 0)) := by
  unfold F_ref08_even
  cases hl : l with
  | nil =>
    have := h.zero.1 hl
    subst this
    rfl
  | cons x t =>
    have hv := h.val
    have hx := h.dig x (by rw [hl]; exact List.mem_cons_self)
    rw [hl] at hv
    simp only [bv] at hv
    have e0 : ((((x :: t).length : Nat) : Int) == 0) = false := by simp; omega
    rw [e0, cond_false]
    have : idx (x :: t) 0 = some x := rfl
    rw [this]
    simp only [Option.bind_some]
    congr 1
    rw [Int.tmod_eq_emod_of_nonneg hx.1]
    rcases Nat.mod_two_eq_zero_or_one v with e | e
    · rw [decide_eq_true e]; simp; omega
    · rw [decide_eq_false (by omega)]; simp; omega
theorem h_half {l : List Int} {v : Nat} (h : Wg l v) (he : v % 2 = 0) : ∃ r, F_ref08_half l = some r ∧ Wg r (v / 2) ∧ r.length ≤ l.length := by
  unfold F_ref08_half
  have hla := h.len
  have hda := h.dig
  refine iter_bind (Q := fun r : List Int × Unit => 2 * bv (16777216 : Int) r.1.reverse = v ∧ dig (16777216 : Int) r.1 ∧ r.1.length = l.length)
    (fun k s => ∃ (c : Int) (m : Nat) (out : List Int), s = (c, (m : Int) - 1, out, ()) ∧ m + k = l.length ∧ out.length = k ∧ dig (16777216 : Int) out ∧ 0 ≤ c ∧ c ≤ 1 ∧ 2 * bv (16777216 : Int) out.reverse + c = bv (16777216 : Int) (l.drop m)) l.length (by unfold big; omega) ?_ ⟨0, l.length, [], by rw [wrap64 (by omega) (by omega)], by omega, rfl, (fun x hx => nomatch hx), by omega, by omega, by simp [bv]⟩ ?_
  · rintro k s hk ⟨c, m, out, rfl, hm, hlo, hdo, hc0, hc1, hv⟩
    cases m with
    | zero =>
      have e1 : decide ((((0 : Nat) : Int) - 1) ≥ 0) = false := by decide
      refine .inr ⟨(out, ()), by simp only [e1, cond_false], ?_, hdo, by show out.length = _; omega⟩
      rw [List.drop_zero, h.val] at hv
      show 2 * bv (16777216 : Int) out.reverse = v
      omega
    | succ m =>
      have e1 : decide ((((m + 1 : Nat) : Int) - 1) ≥ 0) = true := by simp
      have e2 : (((m + 1 : Nat) : Int) - 1) = (m : Int) := by omega
      have hlt : m < l.length := by omega
      have hx := dg_range (by decide) hda m
      have hdr : l.drop m = dg l m :: l.drop (m + 1) := by rw [dg_get hlt, List.drop_eq_getElem_cons hlt]
      simp only [e1, cond_true]
      rw [e2, idx_nat hlt, ← dg_get hlt]
      simp only [Option.bind_some]
      obtain ⟨x, hxe⟩ : ∃ x, dg l m = x := ⟨_, rfl⟩
      rw [hxe] at hx hdr ⊢
      have w1 : IntKind.i64.wrap (x + IntKind.i64.wrap (c * 16777216)) = x + c * 16777216 := by rw [wrap64 (n := c * 16777216) (by omega) (by omega), wrap64 (by omega) (by omega)]
      rw [w1, Int.tmod_eq_emod_of_nonneg (by omega), Int.tdiv_eq_ediv_of_nonneg (by omega), wrap64 (n := (x + c * 16777216) / 2) (by omega) (by omega), if_pos (by simp; omega)]
      refine .inl ⟨_, rfl, by omega, (x + c * 16777216) % 2, m, out ++ [(x + c * 16777216) / 2], ?_, by omega, by simp [hlo], dig_snoc hdo (by omega) (by omega), by omega, by omega, ?_⟩
      · rw [wrap64 (by omega) (by omega)]
      · rw [hdr, List.reverse_append]
        simp only [List.reverse_cons, List.reverse_nil, List.nil_append, List.cons_append, bv]
        rw [← hv]
        omega
  · rintro ⟨r, u⟩ ⟨q1, q2, q3⟩
    simp only at q1 q2 q3 ⊢
    rw [iter_revW r (by omega)]
    simp only [Option.bind_some]
    have hdr : dig (16777216 : Int) r.reverse := fun x hx => q2 x (List.mem_reverse.1 hx)
    obtain ⟨t, t1, t2, t3, t4, t5, t6⟩ := g_trim (neg := false) hdr (by rw [List.length_reverse]; omega)
    rw [t1]
    rw [List.length_reverse] at t5
    exact ⟨t.d, rfl, ⟨t3, t4, by omega, by rw [t2]; omega⟩, by omega⟩
set_option maxHeartbeats 1000000 in
theorem g_product {a b : TBig} {v w : Int} (ha : Nb a v) (hb : Nb b w) (hl : a.d.length + b.d.length + 1 ≤ 8000000) : ∃ r, F_ref08_Product a b = some r ∧ Nb r (v * w) ∧ r.d.length ≤ a.d.length + b.d.length + 1 := by
  unfold F_ref08_Product
  have hw : IntKind.i64.wrap ((IntKind.i64.wrap (((a.d.length : Nat) : Int) + ((b.d.length : Nat) : Int))) + 1) = ((a.d.length + b.d.length + 1 : Nat) : Int) := by rw [wrap64 (n := ((a.d.length : Nat) : Int) + ((b.d.length : Nat) : Int)) (by omega) (by omega), wrap64 (by omega) (by omega)]; omega
  rw [hw, if_pos ⟨by omega, by omega⟩]
  simp only [Int.toNat_natCast]
  have hda := ha.w.dig
  have hdb := hb.w.dig
  obtain ⟨x, hx⟩ : ∃ x, a.d = x := ⟨_, rfl⟩
  obtain ⟨y, hy⟩ : ∃ y, b.d = y := ⟨_, rfl⟩
  rw [hx] at hda hl ⊢
  rw [hy] at hdb hl ⊢
  refine iter_bind (Q := fun r : List Int × Unit => bv (16777216 : Int) r.1 = bv (16777216 : Int) x * bv (16777216 : Int) y ∧ dig (16777216 : Int) r.1 ∧ r.1.length = x.length + y.length + 1)
    (fun i s => ∃ out, s = ((i : Int), out, ()) ∧ i ≤ x.length ∧ out.length = x.length + y.length + 1 ∧ dig (16777216 : Int) out ∧ bv (16777216 : Int) out = bv (16777216 : Int) (x.take i) * bv (16777216 : Int) y ∧ ∀ q, i + y.length ≤ q → dg out q = 0)
    x.length (by unfold big; omega) ?_ ⟨List.replicate (x.length + y.length + 1) 0, rfl, Nat.zero_le _, by simp, ?_, ?_, ?_⟩ ?_
  · rintro i s hi ⟨out, rfl, _, hlen, hdo, hv, hz⟩
    rcases Nat.lt_or_ge i x.length with hlt | hge
    · refine .inl (step_of hlt ?_)
      have e0 : decide ((i : Int) < ((x.length : Nat) : Int)) = true := by simp; omega
      simp only [e0, cond_true]
      have hxi := dg_range (by decide) hda i
      obtain ⟨p, hp⟩ : ∃ p, dg x i = p := ⟨_, rfl⟩
      rw [hp] at hxi
      refine iter_bind (Q := fun r : List Int × Unit => r.1.length = x.length + y.length + 1 ∧ dig (16777216 : Int) r.1 ∧ bv (16777216 : Int) r.1 = bv (16777216 : Int) out + p * bv (16777216 : Int) y * (16777216 : Int) ^ i ∧ ∀ q, i + 1 + y.length ≤ q → dg r.1 q = 0)
        (fun k s => ∃ c o2, s = (c, (k : Int), o2, ()) ∧ k ≤ y.length + 1 ∧ o2.length = x.length + y.length + 1 ∧ dig (16777216 : Int) o2 ∧ 0 ≤ c ∧ c < (16777216 : Int) ∧ bv (16777216 : Int) o2 + (16777216 : Int) ^ (i + k) * c = bv (16777216 : Int) out + p * bv (16777216 : Int) (y.take k) * (16777216 : Int) ^ i ∧ (y.length < k → c = 0) ∧ ∀ q, i + k ≤ q → dg o2 q = dg out q)
        (y.length + 1) (by unfold big; omega) ?_ ⟨0, out, rfl, Nat.zero_le _, hlen, hdo, by omega, by omega, by simp [bv], fun _ => rfl, fun _ _ => rfl⟩ ?_
      · rintro k s hk ⟨c, o2, rfl, _, hl2, hd2, hc0, hc1, hv2, hcz, hz2⟩
        simp only
        obtain ⟨t, ht1, ht2⟩ : ∃ t : Bool, ((bif (decide ((k : Int) < ((y.length : Nat) : Int))) then some (true, ()) else some ((decide (c > 0)), ())) : Option (Bool × Unit)) = some (t, ()) ∧ (t = true ↔ k < y.length ∨ 0 < c) := by
          rcases Nat.lt_or_ge k y.length with h | h
          · have e0 : decide ((k : Int) < ((y.length : Nat) : Int)) = true := by simp; omega
            rw [e0]; exact ⟨true, rfl, by simp; omega⟩
          · have e0 : decide ((k : Int) < ((y.length : Nat) : Int)) = false := by simp; omega
            rw [e0, cond_false]
            exact ⟨_, rfl, by simp; omega⟩
        rw [ht1]
        simp only [Option.bind_some]
        rcases Bool.eq_false_or_eq_true t with ht | ht
        · have hor := ht2.1 ht
          subst ht
          have hkl : k < y.length + 1 := by
            rcases hor with h | h
            · omega
            · rcases Nat.lt_or_ge y.length k with h2 | h2
              · have := hcz h2; omega
              · omega
          have hyk := dg_range (by decide) hdb k
          have hok := dg_range (by decide) hd2 (i + k)
          have hik : i + k < o2.length := by omega
          have e2 : IntKind.i64.wrap ((i : Int) + (k : Int)) = ((i + k : Nat) : Int) := by rw [wrap64 (by omega) (by omega)]; omega
          simp only [cond_true]
          rw [e2, idx_nat hik]
          simp only [Option.bind_some, Int.toNat_natCast]
          rw [List.getElem?_eq_getElem hik, ← dg_get hik]
          simp only [Option.bind_some]
          rw [idx_nat hlt, ← dg_get hlt, hp, g_digit]
          simp only [Option.bind_some]
          have htk := bv_take_succ (16777216 : Int) y k
          obtain ⟨g, hg⟩ : ∃ g, dg y k = g := ⟨_, rfl⟩
          obtain ⟨z, hzz⟩ : ∃ z, dg o2 (i + k) = z := ⟨_, rfl⟩
          rw [hg] at hyk htk ⊢
          rw [hzz] at hok ⊢
          have hpg0 : 0 ≤ p * g := Int.mul_nonneg hxi.1 hyk.1
          have hpg1 : p * g ≤ 16777215 * 16777215 := Int.mul_le_mul (by omega) (by omega) hyk.1 (by omega)
          obtain ⟨pg, hpg⟩ : ∃ pg, p * g = pg := ⟨_, rfl⟩
          rw [hpg] at hpg0 hpg1 ⊢
          have w1 : IntKind.i64.wrap (IntKind.i64.wrap (z + IntKind.i64.wrap pg) + c) = c + (pg + z) := by
            rw [wrap64 (n := pg) (by omega) (by omega), wrap64 (n := z + pg) (by omega) (by omega), wrap64 (by omega) (by omega)]; omega
          rw [w1, Int.tmod_eq_emod_of_nonneg (by omega), Int.tdiv_eq_ediv_of_nonneg (by omega), wrap64 (n := (c + (pg + z)) / 16777216) (by omega) (by omega), wrap64 (n := (k : Int) + 1) (by omega) (by omega)]
          refine .inl ⟨_, rfl, hkl, _, _, rfl, hkl, by simp [hl2], dig_set hd2 (by omega) (by omega), by omega, by omega, ?_, ?_, ?_⟩
          · rw [bv_set _ _ _ _ hik, htk, hzz]
            have he := Int.emod_add_mul_ediv (c + (pg + z)) (16777216 : Int)
            generalize (c + (pg + z)) % (16777216 : Int) = q at he ⊢
            generalize (c + (pg + z)) / (16777216 : Int) = t at he ⊢
            have h1 : (16777216 : Int) ^ (i + (k + 1)) = (16777216 : Int) ^ (i + k) * (16777216 : Int) := by rw [← Nat.add_assoc]; exact Int.pow_succ _ _
            have h2 : (16777216 : Int) ^ (i + k) = (16777216 : Int) ^ i * (16777216 : Int) ^ k := Int.pow_add _ _ _
            rw [h1]
            have h3 : p * (bv (16777216 : Int) (y.take k) + (16777216 : Int) ^ k * g) * (16777216 : Int) ^ i = p * bv (16777216 : Int) (y.take k) * (16777216 : Int) ^ i + (16777216 : Int) ^ (i + k) * pg := by rw [h2, ← hpg]; grind
            rw [h3]
            grind
          · intro hlt2
            have hky : k = y.length := by omega
            have hg0 : g = 0 := by rw [← hg]; exact dg_out (by omega)
            have hz0 : z = 0 := by rw [← hzz, hz2 _ (Nat.le_refl _)]; exact hz _ (by omega)
            have : pg = 0 := by rw [← hpg, hg0]; simp
            omega
          · intro q hq
            rw [dg_set (by omega)]
            exact hz2 q (by omega)
        · have hor : ¬(k < y.length ∨ 0 < c) := by rw [← ht2, ht]; simp
          subst ht
          have hc : c = 0 := by omega
          refine .inr ⟨(o2, ()), by simp only [cond_false], hl2, hd2, ?_, fun q hq => (hz2 q (by omega)).trans (hz q (by omega))⟩
          rw [hc, bv_take_all (by omega)] at hv2
          show bv (16777216 : Int) o2 = _
          rw [← hv2]; simp
      · rintro ⟨o2, u⟩ ⟨q1, q2, q3, q4⟩
        simp only at q1 q2 q3 q4 ⊢
        rw [wrap64 (n := (i : Int) + 1) (by omega) (by omega)]
        refine ⟨_, rfl, _, rfl, _, rfl, hlt, q1, q2, ?_, q4⟩
        rw [bv_take_succ, hp, q3, hv]
        grind
    · have hi' : i = x.length := by omega
      subst hi'
      have e0 : decide (((x.length : Nat) : Int) < ((x.length : Nat) : Int)) = false := by simp
      refine .inr ⟨(out, ()), by simp only [e0, cond_false], ?_, hdo, hlen⟩
      rw [List.take_length] at hv
      exact hv
  · intro z hz
    have := List.eq_of_mem_replicate hz
    omega
  · rw [bv_zeros]; simp [bv]
  · intro q _
    unfold dg
    simp only [List.getD_eq_getElem?_getD, List.getElem?_replicate]
    split <;> rfl
  · rintro ⟨r, u⟩ ⟨q1, q2, q3⟩
    simp only at q1 q2 q3 ⊢
    obtain ⟨t, t1, t2, t3, t4, t5, t6⟩ := g_trim (neg := !(a.neg == b.neg)) q2 (by omega)
    rw [t1]
    have va := ha.w.val
    have vb := hb.w.val
    rw [hx] at va
    rw [hy] at vb
    have hv : bv (16777216 : Int) r = (((v * w).natAbs : Nat) : Int) := by rw [q1, va, vb, Int.natAbs_mul]; simp
    refine ⟨_, rfl, ⟨⟨t3, t4, by omega, by rw [t2, hv]⟩, ?_, by omega⟩, by omega⟩
    rw [t6, hv]
    have na := ha.neg
    have nb := hb.neg
    have hsg : v * w < 0 ↔ (v < 0 ∧ 0 < w) ∨ (0 < v ∧ w < 0) := by
      constructor
      · intro h
        rcases Int.lt_trichotomy v 0 with h1 | h1 | h1
        · rcases Int.lt_or_le 0 w with h2 | h2
          · exact .inl ⟨h1, h2⟩
          · have := Int.mul_nonneg_of_nonpos_of_nonpos (Int.le_of_lt h1) h2
            omega
        · subst h1; simp at h
        · rcases Int.lt_or_le w 0 with h2 | h2
          · exact .inr ⟨h1, h2⟩
          · have := Int.mul_nonneg (Int.le_of_lt h1) h2
            omega
      · rintro (⟨h1, h2⟩ | ⟨h1, h2⟩)
        · exact Int.mul_neg_of_neg_of_pos h1 h2
        · exact Int.mul_neg_of_pos_of_neg h1 h2
    have hnz : (((v * w).natAbs : Nat) : Int) ≠ 0 ↔ v ≠ 0 ∧ w ≠ 0 := by
      rw [show ((((v * w).natAbs : Nat) : Int) ≠ 0 ↔ v * w ≠ 0) from by omega]
      simp [Int.mul_eq_zero]
    rw [hsg, hnz]
    cases hna : a.neg <;> cases hnb : b.neg <;> rw [hna] at na <;> rw [hnb] at nb <;> simp at na nb ⊢ <;> omega
theorem g_sum {a b : TBig} {v w : Int} (ha : Nb a v) (hb : Nb b w) (hl : max a.d.length b.d.length + 1 ≤ 8000000) : ∃ r, F_ref08_Sum a b = some r ∧ Nb r (v + w) ∧ r.d.length ≤ max a.d.length b.d.length + 1 := by
  unfold F_ref08_Sum
  have na := ha.neg
  have nb := hb.neg
  rcases Decidable.em (a.neg = b.neg) with he | hne
  · have e0 : (a.neg == b.neg) = true := by simpa using he
    rw [e0, cond_true]
    obtain ⟨r, r1, r2, r3⟩ := ha.w.add hb.w (by omega)
    rw [r1]
    have hs : (v < 0 ↔ w < 0) := by rw [← na, ← nb, he]
    refine ⟨_, rfl, ⟨?_, ?_, by show r.length ≤ _; omega⟩, r3⟩
    · rw [show (v + w).natAbs = v.natAbs + w.natAbs from by omega]; exact r2
    · show a.neg = true ↔ _
      rw [na]; omega
  · have e0 : (a.neg == b.neg) = false := by simpa using hne
    rw [e0, cond_false, hb.w.larger ha.w]
    simp only [Option.bind_some]
    have hs : ¬(v < 0 ↔ w < 0) := by
      rw [← na, ← nb]
      cases ha2 : a.neg <;> cases hb2 : b.neg <;> simp [ha2, hb2] at hne ⊢
    rcases Nat.lt_or_ge v.natAbs w.natAbs with h | h
    · rw [decide_eq_true h]
      simp only [cond_true, Option.bind_some]
      obtain ⟨r, t, r1, t1, t2, t3, t4⟩ := hb.w.sub b.neg ha.w (Nat.le_of_lt h)
      rw [r1]
      simp only [Option.bind_some]
      rw [t1]
      refine ⟨t, rfl, ⟨?_, ?_, by omega⟩, by omega⟩
      · rw [show (v + w).natAbs = w.natAbs - v.natAbs from by omega]; exact t2
      · rw [t4, nb]; omega
    · rw [decide_eq_false (by omega)]
      simp only [cond_false, Option.bind_some]
      obtain ⟨r, t, r1, t1, t2, t3, t4⟩ := ha.w.sub a.neg hb.w h
      rw [r1]
      simp only [Option.bind_some]
      rw [t1]
      refine ⟨t, rfl, ⟨?_, ?_, by omega⟩, by omega⟩
      · rw [show (v + w).natAbs = v.natAbs - w.natAbs from by omega]; exact t2
      · rw [t4, na]; omega
end Go.Proofs.Ytbamoboldhabjaa

/- The reference's numbers of many digits: Gcd. -/
namespace Go.Proofs.Ytbamoboldhabjaa
set_option linter.unusedVariables false
set_option linter.unusedSimpArgs false

theorem Wg.ne {l : List Int} {v : Nat} (h : Wg l v) (hv : 0 < v) : 0 < l.length := by
  apply List.length_pos_iff.2
  intro e
  have := h.zero.1 e
  omega
/-- What is halved till it is odd. -/
theorem odd_loopG {γ : Type} {F : List Int × Unit → Option ((List Int × Unit) ⊕ (List Int × Unit))} {K : List Int × Unit → Option γ} {P : γ → Prop} {l : List Int} {v : Nat} (h : Wg l v) (hv : 0 < v)
    (hin : ∀ (r : List Int) (u : Nat), Wg r u → 0 < u → u % 2 = 0 → ∃ t, F (r, ()) = some (.inl (t, ())) ∧ Wg t (u / 2) ∧ t.length ≤ r.length) (hout : ∀ (r : List Int) (u : Nat), Wg r u → u % 2 = 1 → F (r, ()) = some (.inr (r, ())))
    (hK : ∀ (r : List Int) (u j : Nat), Wg r u → u % 2 = 1 → v = 2 ^ j * u → r.length ≤ l.length → ∃ y, K (r, ()) = some y ∧ P y) : ∃ y, (iterF F big (l, ())).bind K = some y ∧ P y := by
  refine iter_bind (Q := fun s => ∃ u j, Wg s.1 u ∧ u % 2 = 1 ∧ v = 2 ^ j * u ∧ s.1.length ≤ l.length)
    (fun k s => ∃ r u, s = (r, ()) ∧ Wg r u ∧ 0 < u ∧ v = 2 ^ k * u ∧ r.length ≤ l.length) (24 * l.length) (by have := h.len; unfold big; omega) ?_ ⟨l, v, rfl, h, hv, by simp, Nat.le_refl _⟩ ?_
  · rintro k s hk ⟨r, u, rfl, hw, hu, he, hl⟩
    rcases Nat.mod_two_eq_zero_or_one u with hm | hm
    · obtain ⟨t, t1, t2, t3⟩ := hin r u hw hu hm
      refine .inl ⟨_, t1, ?_, t, u / 2, rfl, t2, by omega, ?_, by omega⟩
      · have hlt := h.lt
        rw [he] at hlt
        apply Classical.byContradiction
        intro hge
        have hkk : k = 24 * l.length := by omega
        subst hkk
        have : 2 ^ (24 * l.length) * 1 ≤ 2 ^ (24 * l.length) * u := Nat.mul_le_mul_left _ hu
        omega
      · rw [he, Nat.pow_succ, Nat.mul_assoc]
        congr 1
        omega
    · exact .inr ⟨_, hout r u hw hm, u, k, hw, hm, he, hl⟩
  · rintro ⟨r, x⟩ ⟨u, j, h1, h2, h3, h4⟩
    exact hK r u j h1 h2 h3 h4
set_option maxHeartbeats 1000000 in
theorem h_gcd {a b : List Int} {u v : Nat} (ha : Wg a u) (hb : Wg b v) (hu : 0 < u) (hv : 0 < v) (hla : a.length ≤ 8000000) (hlb : b.length ≤ 8000000) : ∃ r, F_ref08_Gcd a b = some r ∧ Wg r (Nat.gcd u v) := by
  unfold F_ref08_Gcd
  refine iter_bind (Q := fun s : List Int × List Int × Int × Unit => ∃ u' v' k : Nat, Wg s.1 u' ∧ Wg s.2.1 v' ∧ 0 < u' ∧ 0 < v' ∧ s.2.2.1 = (k : Int) ∧ u = 2 ^ k * u' ∧ v = 2 ^ k * v' ∧ ¬(u' % 2 = 0 ∧ v' % 2 = 0) ∧ k ≤ 24 * a.length)
    (fun k s => ∃ a' b' u' v', s = (a', b', (k : Int), ()) ∧ Wg a' u' ∧ Wg b' v' ∧ 0 < u' ∧ 0 < v' ∧ u = 2 ^ k * u' ∧ v = 2 ^ k * v') (24 * a.length) (by unfold big; omega) ?_ ⟨a, b, u, v, rfl, ha, hb, hu, hv, by simp, by simp⟩ ?_
  · rintro k s hk ⟨a', b', u', v', rfl, wa, wb, pu, pv, eu, ev⟩
    simp only
    rw [g_even wa]
    simp only [Option.bind_some]
    rcases Nat.mod_two_eq_zero_or_one u' with mu | mu
    · rw [decide_eq_true mu]
      simp only [cond_true, Option.bind_some]
      rw [g_even wb]
      simp only [Option.bind_some]
      rcases Nat.mod_two_eq_zero_or_one v' with mv | mv
      · obtain ⟨p, p1, p2, p3⟩ := h_half wa mu
        obtain ⟨q, q1, q2, q3⟩ := h_half wb mv
        rw [decide_eq_true mv, p1, q1]
        simp only [cond_true, Option.bind_some]
        have hlt : k < 24 * a.length := by
          have h1 := ha.lt
          rw [eu] at h1
          apply Classical.byContradiction
          intro hge
          have hkk : k = 24 * a.length := by omega
          subst hkk
          have : 2 ^ (24 * a.length) * 1 ≤ 2 ^ (24 * a.length) * u' := Nat.mul_le_mul_left _ pu
          omega
        refine .inl ⟨_, rfl, hlt, p, q, u' / 2, v' / 2, ?_, p2, q2, by omega, by omega, ?_, ?_⟩
        · rw [wrap64 (by omega) (by omega)]; rfl
        · rw [eu, Nat.pow_succ, Nat.mul_assoc]; congr 1; omega
        · rw [ev, Nat.pow_succ, Nat.mul_assoc]; congr 1; omega
      · rw [decide_eq_false (by omega)]
        simp only [cond_false]
        exact .inr ⟨_, rfl, u', v', k, wa, wb, pu, pv, rfl, eu, ev, by omega, hk⟩
    · rw [decide_eq_false (by omega)]
      simp only [cond_false, Option.bind_some]
      exact .inr ⟨_, rfl, u', v', k, wa, wb, pu, pv, rfl, eu, ev, by omega, hk⟩
  rintro ⟨a', b', z, uu⟩ ⟨u', v', n, wa, wb, pu, pv, hz, eu, ev, hodd, hn⟩
  simp only at wa wb hz ⊢
  subst hz
  have hg := gcd_mod hodd
  have la' : a'.length ≤ 8000000 := Nat.le_trans (wa.le ha (by rw [eu]; exact Nat.le_mul_of_pos_left _ (Nat.pow_pos (by decide)))) hla
  have lb' : b'.length ≤ 8000000 := Nat.le_trans (wb.le hb (by rw [ev]; exact Nat.le_mul_of_pos_left _ (Nat.pow_pos (by decide)))) hlb
  obtain ⟨M, hM⟩ : ∃ M, 24 * a'.length + 24 * b'.length = M := ⟨_, rfl⟩
  have huv : u' * v' < 2 ^ M := by
    have h1 := wa.lt
    have h2 := wb.lt
    have h3 : u' * v' < 2 ^ (24 * a'.length) * 2 ^ (24 * b'.length) := Nat.mul_lt_mul'' h1 h2
    rw [← Nat.pow_add, hM] at h3
    exact h3
  refine iter_bind (Q := fun s : List Int × Unit => Wg s.1 (Nat.gcd u' v'))
    (fun k s => ∃ x y X Y, s = (x, y, ()) ∧ Wg x X ∧ Wg y Y ∧ 0 < Y ∧ Nat.gcd X Y = Nat.gcd u' v' ∧ ((k = 0 ∧ X * Y ≤ u' * v') ∨ (0 < k ∧ X % 2 = 0 ∧ X * Y * 2 ^ (k - 1) ≤ u' * v'))) (M + 1) (by unfold big; omega) ?_ ⟨a', b', u', v', rfl, wa, wb, pv, rfl, .inl ⟨rfl, Nat.le_refl _⟩⟩ ?_
  · rintro k s hk ⟨x, y, X, Y, rfl, wx, wy, pY, hgg, hb⟩
    rcases Nat.eq_zero_or_pos X with hX | hX
    · subst hX
      have hx0 : x = [] := wx.zero.2 rfl
      subst hx0
      refine .inr ⟨(y, ()), by simp, ?_⟩
      rw [Nat.gcd_zero_left] at hgg
      rw [← hgg]; exact wy
    · have hxl := wx.ne hX
      have hkM : k < M + 1 := by
        rcases hb with ⟨rfl, _⟩ | ⟨h0, _, h2⟩
        · omega
        · apply Classical.byContradiction
          intro hge
          have h3 : 2 ^ M ≤ 2 ^ (k - 1) := Nat.pow_le_pow_right (by decide) (by omega)
          have h4 : 1 * 2 ^ (k - 1) ≤ X * Y * 2 ^ (k - 1) := Nat.mul_le_mul_right _ (Nat.mul_pos hX pY)
          omega
      refine .inl (step_of hkM ?_)
      have e0 : decide (((x.length : Nat) : Int) > 0) = true := by simp; omega
      simp only [e0, cond_true]
      refine odd_loopG wx hX (fun r u hw hu hm => ?_) (fun r u hw hm => ?_) fun x1 X1 i w1 o1 ex l1 => ?_
      · obtain ⟨t, t1, t2, t3⟩ := h_half hw hm
        refine ⟨t, ?_, t2, t3⟩
        simp only
        rw [g_even hw]
        simp only [Option.bind_some]
        rw [decide_eq_true hm, cond_true, t1]
        rfl
      · simp only
        rw [g_even hw]
        simp only [Option.bind_some]
        rw [decide_eq_false (by omega)]
        rfl
      simp only
      refine odd_loopG wy pY (fun r u hw hu hm => ?_) (fun r u hw hm => ?_) fun y1 Y1 j w2 o2 ey l2 => ?_
      · obtain ⟨t, t1, t2, t3⟩ := h_half hw hm
        refine ⟨t, ?_, t2, t3⟩
        simp only
        rw [g_even hw]
        simp only [Option.bind_some]
        rw [decide_eq_true hm, cond_true, t1]
        rfl
      · simp only
        rw [g_even hw]
        simp only [Option.bind_some]
        rw [decide_eq_false (by omega)]
        rfl
      simp only
      rw [w2.larger w1]
      simp only [Option.bind_some]
      have hg1 : Nat.gcd X1 Y1 = Nat.gcd u' v' := by
        rw [← hgg, ex, ey]
        refine (gcd_odd ?_).symm
        rw [← ex, ← ey, hgg]; exact hg
      have hXX : X1 ≤ X := by rw [ex]; exact Nat.le_mul_of_pos_left _ (Nat.pow_pos (by decide))
      have hYY : Y1 ≤ Y := by rw [ey]; exact Nat.le_mul_of_pos_left _ (Nat.pow_pos (by decide))
      have hbound : X1 * Y1 * 2 ^ k ≤ u' * v' := by
        rcases hb with ⟨rfl, h⟩ | ⟨h0, h1, h2⟩
        · have := Nat.mul_le_mul hXX hYY
          simp only [Nat.pow_zero, Nat.mul_one]
          omega
        · have h5 : 2 * X1 ≤ X := by
            rcases Nat.eq_zero_or_pos i with hi | hi
            · subst hi; simp at ex; omega
            · rw [ex]
              have : 2 ^ 1 ≤ 2 ^ i := Nat.pow_le_pow_right (by decide) hi
              exact Nat.mul_le_mul_right _ this
          have h6 : 2 ^ k = 2 * 2 ^ (k - 1) := by
            obtain ⟨q, rfl⟩ : ∃ q, k = q + 1 := ⟨k - 1, by omega⟩
            rw [Nat.add_sub_cancel, Nat.pow_succ, Nat.mul_comm]
          have h7 := Nat.mul_le_mul_right (2 ^ (k - 1)) (Nat.mul_le_mul h5 hYY)
          rw [h6]
          have h8 : X1 * Y1 * (2 * 2 ^ (k - 1)) = 2 * X1 * Y1 * 2 ^ (k - 1) := by grind
          rw [h8]
          omega
      rcases Nat.lt_or_ge X1 Y1 with hlt | hge
      · obtain ⟨t, t', t1, t2, t3, t4, _⟩ := w2.sub false w1 (Nat.le_of_lt hlt)
        rw [decide_eq_true hlt]
        simp only [cond_true, Option.bind_some]
        rw [t1]
        simp only [Option.bind_some]
        rw [t2]
        refine ⟨_, rfl, _, rfl, t'.d, x1, Y1 - X1, X1, rfl, t3, w1, by omega, ?_, .inr ⟨by omega, by omega, ?_⟩⟩
        · rw [gcd_sub (Nat.le_of_lt hlt), Nat.gcd_comm]; exact hg1
        · have := Nat.mul_le_mul_right (2 ^ k) (sub_bound (Nat.le_of_lt hlt))
          rw [Nat.add_sub_cancel]
          rw [Nat.mul_comm Y1 X1] at this
          omega
      · obtain ⟨t, t', t1, t2, t3, t4, _⟩ := w1.sub false w2 hge
        rw [decide_eq_false (by omega)]
        simp only [cond_false, Option.bind_some]
        rw [t1]
        simp only [Option.bind_some]
        rw [t2]
        refine ⟨_, rfl, _, rfl, t'.d, y1, X1 - Y1, Y1, rfl, t3, w2, by omega, ?_, .inr ⟨by omega, by omega, ?_⟩⟩
        · rw [gcd_sub hge]; exact hg1
        · have := Nat.mul_le_mul_right (2 ^ k) (sub_bound hge)
          rw [Nat.add_sub_cancel]
          omega
  · rintro ⟨g', gu⟩ hg'
    simp only at hg' ⊢
    have hguv : Nat.gcd u v = 2 ^ n * Nat.gcd u' v' := by rw [eu, ev, Nat.gcd_mul_left]
    have pg : 0 < Nat.gcd u' v' := Nat.gcd_pos_of_pos_left _ pu
    refine iter_bind (Q := fun s : List Int × Unit => Wg s.1 (Nat.gcd u v)) (fun k s => ∃ r, s = (r, (k : Int), ()) ∧ k ≤ n ∧ Wg r (2 ^ k * Nat.gcd u' v')) n (by unfold big; omega) ?_ ⟨g', rfl, Nat.zero_le _, by simpa using hg'⟩ ?_
    · rintro k s hk ⟨r, rfl, hkn, hw⟩
      rcases Nat.lt_or_ge k n with hlt | hge
      · have e0 : decide ((k : Int) < (n : Int)) = true := by simp; omega
        have hle : 2 ^ k * Nat.gcd u' v' ≤ u := by
          rw [eu]
          exact Nat.mul_le_mul (Nat.pow_le_pow_right (by decide) hkn) (Nat.gcd_le_left _ pu)
        have hrl := hw.le ha hle
        obtain ⟨t, t1, t2, _⟩ := hw.add hw (by omega)
        simp only [e0, cond_true]
        rw [t1]
        refine .inl ⟨_, rfl, hlt, t, ?_, hlt, ?_⟩
        · rw [wrap64 (by omega) (by omega)]; rfl
        · have : 2 ^ (k + 1) * Nat.gcd u' v' = 2 ^ k * Nat.gcd u' v' + 2 ^ k * Nat.gcd u' v' := by rw [Nat.pow_succ]; grind
          rw [this]; exact t2
      · have hk' : k = n := by omega
        subst hk'
        have e0 : decide ((k : Int) < (k : Int)) = false := by simp
        refine .inr ⟨(r, ()), by simp only [e0, cond_false], ?_⟩
        rw [hguv]; exact hw
    · rintro ⟨r, x⟩ h
      exact ⟨r, rfl, h⟩
end Go.Proofs.Ytbamoboldhabjaa

/- The reference's exact numbers: Quotient, Lower; Plus, Less, Times, Over, Sign, Cmp as rational numbers. -/
namespace Go.Proofs.Ytbamoboldhabjaa
set_option linter.unusedVariables false
set_option linter.unusedSimpArgs false

theorem wg_one : Wg [1] 1 := ⟨by intro x hx; simp at hx; subst hx; omega, by simp [tight], by decide, by simp [bv]⟩
theorem wg_nil : Wg [] 0 := ⟨(fun x hx => nomatch hx), by simp [tight], by decide, by simp [bv]⟩
set_option maxHeartbeats 1000000 in
theorem g_quotient {a b : List Int} {u v : Nat} (ha : Wg a u) (hb : Wg b v) (hv : 0 < v) (hla : a.length ≤ 8000000) (hlb : b.length ≤ 8000000) : ∃ r, F_ref08_Quotient a b = some r ∧ Wg r (u / v) ∧ r.length ≤ a.length := by
  unfold F_ref08_Quotient
  obtain ⟨N, hN⟩ : ∃ N, 24 * a.length = N := ⟨_, rfl⟩
  have hul : u < 2 ^ N := by rw [← hN]; exact ha.lt
  refine iter_bind (Q := fun s : List (List Int) × Unit => ∃ K, s.1.length = K + 1 ∧ K ≤ N ∧ (∀ (j : Nat) (hj : j < s.1.length), Wg s.1[j] (v * 2 ^ j)) ∧ u < v * 2 ^ K ∧ ∀ (j : Nat) (hj : j < s.1.length), s.1[j].length ≤ 8000001)
    (fun k s => ∃ P : List (List Int), s = (P, ()) ∧ P.length = k + 1 ∧ (∀ (j : Nat) (hj : j < P.length), Wg P[j] (v * 2 ^ j)) ∧ ∀ (j : Nat) (hj : j < P.length), P[j].length ≤ 8000001) N (by unfold big; omega) ?_ ⟨[b], rfl, rfl, ?_, ?_⟩ ?_
  · rintro k s hk ⟨P, rfl, hP, hw, hlen⟩
    have e1 : IntKind.i64.wrap (((P.length : Nat) : Int) - 1) = (k : Int) := by rw [wrap64 (by omega) (by omega)]; omega
    have hkP : k < P.length := by omega
    have hwk := hw k hkP
    simp only [e1, Int.toNat_natCast]
    rw [idx_nat hkP]
    simp only [Option.bind_some]
    rw [List.getElem?_eq_getElem hkP]
    simp only [Option.bind_some]
    rw [hwk.larger ha]
    simp only [Option.bind_some]
    rcases Nat.lt_or_ge u (v * 2 ^ k) with h | h
    · rw [decide_eq_true h]
      exact .inr ⟨_, rfl, k, hP, hk, hw, h, hlen⟩
    · have hkl := hwk.le ha h
      obtain ⟨t, t1, t2, t3⟩ := hwk.add hwk (by omega)
      rw [decide_eq_false (by omega), t1]
      simp only [Bool.not_false, cond_true, Option.bind_some]
      rw [if_pos (by simp; omega)]
      have hkN : k < N := by
        rcases Nat.lt_or_ge k N with h2 | h2
        · exact h2
        · have : k = N := by omega
          subst this
          have : 1 * 2 ^ k ≤ v * 2 ^ k := Nat.mul_le_mul_right _ hv
          omega
      refine .inl ⟨_, rfl, hkN, P ++ [t], rfl, by simp [hP], fun j hj => ?_, fun j hj => ?_⟩
      · rcases Nat.lt_or_ge j P.length with h2 | h2
        · rw [List.getElem_append_left h2]; exact hw j h2
        · have hj2 : j = P.length := by simp at hj; omega
          subst hj2
          rw [List.getElem_append_right (Nat.le_refl _)]
          simp only [Nat.sub_self, List.getElem_cons_zero]
          rw [hP, Nat.pow_succ, ← Nat.mul_assoc, Nat.mul_two]
          exact t2
      · rcases Nat.lt_or_ge j P.length with h2 | h2
        · rw [List.getElem_append_left h2]; exact hlen j h2
        · have hj2 : j = P.length := by simp at hj; omega
          subst hj2
          rw [List.getElem_append_right (Nat.le_refl _)]
          simp only [Nat.sub_self, List.getElem_cons_zero]
          omega
  · intro j hj
    have : j = 0 := by simp at hj; exact hj
    subst this
    simpa using hb
  · intro j hj
    have : j = 0 := by simp at hj; exact hj
    subst this
    simp; omega
  rintro ⟨P, x⟩ ⟨K, hP, hKN, hw, hlt, hlen⟩
  simp only at hP hw hlen ⊢
  have e0 : IntKind.i64.wrap (((P.length : Nat) : Int) - 1) = ((K + 1 : Nat) : Int) - 1 := by rw [wrap64 (by omega) (by omega)]; omega
  rw [e0]
  refine iter_bind (Q := fun s : List Int × Unit => Wg s.1 (u / v) ∧ s.1.length ≤ a.length)
    (fun k s => ∃ (a' out : List Int) (m u' q : Nat), s = (a', out, (m : Int) - 1, ()) ∧ m + k = K + 1 ∧ Wg a' u' ∧ Wg out q ∧ u = q * (v * 2 ^ m) + u' ∧ u' < v * 2 ^ m) (K + 1) (by unfold big; omega) ?_ ⟨a, [], K + 1, u, 0, rfl, by omega, ha, wg_nil, by simp, ?_⟩ ?_
  · rintro k s hk ⟨a', out, m, u', q, rfl, hm, wa, wo, hu, hul'⟩
    have hqu : q * 1 ≤ q * (v * 2 ^ m) := Nat.mul_le_mul_left _ (Nat.mul_pos hv (Nat.pow_pos (by decide)))
    cases m with
    | zero =>
      have e1 : decide ((((0 : Nat) : Int) - 1) ≥ 0) = false := by decide
      refine .inr ⟨(out, ()), by simp only [e1, cond_false], ?_, wo.le ha (by omega)⟩
      rw [Nat.pow_zero, Nat.mul_one] at hu hul'
      have : u / v = q := by
        rw [hu, Nat.mul_comm, Nat.mul_add_div hv, Nat.div_eq_of_lt hul', Nat.add_zero]
      rw [this]; exact wo
    | succ m =>
      have e1 : decide ((((m + 1 : Nat) : Int) - 1) ≥ 0) = true := by simp
      have e2 : (((m + 1 : Nat) : Int) - 1) = (m : Int) := by omega
      have hmP : m < P.length := by omega
      have hol := wo.le ha (by omega)
      obtain ⟨r, r1, r2, r3⟩ := wo.add wo (by omega)
      have hwm := hw m hmP
      have hpw : v * 2 ^ (m + 1) = 2 * (v * 2 ^ m) := by rw [Nat.pow_succ]; grind
      have hrl := r2.le ha (by
        have : (q + q) * 1 ≤ (q + q) * (v * 2 ^ m) := Nat.mul_le_mul_left _ (Nat.mul_pos hv (Nat.pow_pos (by decide)))
        rw [hpw] at hu
        have : (q + q) * (v * 2 ^ m) = q * (2 * (v * 2 ^ m)) := by grind
        omega)
      have e3 : IntKind.i64.wrap ((m : Int) - 1) = (m : Int) - 1 := wrap64 (by omega) (by omega)
      simp only [e1, cond_true]
      rw [e2, r1]
      simp only [Option.bind_some]
      rw [idx_nat hmP]
      simp only [Option.bind_some, Int.toNat_natCast]
      rw [List.getElem?_eq_getElem hmP]
      simp only [Option.bind_some]
      rw [hwm.larger wa]
      simp only [Option.bind_some]
      rcases Nat.lt_or_ge u' (v * 2 ^ m) with h | h
      · rw [decide_eq_true h, e3]
        refine .inl ⟨_, rfl, by omega, a', r, m, u', q + q, rfl, by omega, wa, r2, ?_, h⟩
        rw [hu, hpw]; grind
      · rw [decide_eq_false (by omega), e3]
        simp only [Bool.not_false, cond_true]
        obtain ⟨s, t, s1, t1, t2, t3, _⟩ := wa.sub false hwm h
        obtain ⟨o, o1, o2, o3⟩ := r2.add wg_one (by simp; omega)
        rw [s1]
        simp only [Option.bind_some]
        rw [t1]
        simp only [Option.bind_some]
        rw [o1]
        refine .inl ⟨_, rfl, by omega, t.d, o, m, u' - v * 2 ^ m, q + q + 1, rfl, by omega, t2, o2, ?_, by omega⟩
        rw [hu, hpw]
        have : (q + q + 1) * (v * 2 ^ m) = q * (2 * (v * 2 ^ m)) + v * 2 ^ m := by grind
        omega
  · have : v * 2 ^ (K + 1) = 2 * (v * 2 ^ K) := by rw [Nat.pow_succ]; grind
    omega
  · rintro ⟨o, x⟩ ⟨q1, q2⟩
    simp only at q1 q2 ⊢
    obtain ⟨t, t1, t2, t3, t4, t5, t6⟩ := g_trim (neg := false) q1.dig (by have := q1.len; omega)
    rw [t1]
    exact ⟨t.d, rfl, ⟨t3, t4, by omega, by rw [t2, q1.val]⟩, by omega⟩
/-- An exact number of the reference, with at most c digits. -/
structure Gq (x : TExact) (q : Rat) (c : Nat) : Prop where
  ex : ∃ v w : Int, Nb x.n v ∧ Nb x.d w ∧ 0 < w ∧ q * (w : Rat) = (v : Rat)
  ln : x.n.d.length ≤ c
  ld : x.d.d.length ≤ c
theorem Gq.mono {x : TExact} {q : Rat} {c e : Nat} (h : Gq x q c) (hc : c ≤ e) : Gq x q e := ⟨h.ex, Nat.le_trans h.ln hc, Nat.le_trans h.ld hc⟩
theorem Gq.cast {x : TExact} {q r : Rat} {c : Nat} (h : Gq x q c) (e : q = r) : Gq x r c := e ▸ h
theorem g_plusq {x y : TExact} {q r : Rat} {c e : Nat} (hx : Gq x q c) (hy : Gq y r e) (hm : c + e + 2 ≤ 8000000) : ∃ z, F_ref08_Plus x y = some z ∧ Gq z (q + r) (c + e + 2) := by
  unfold F_ref08_Plus
  have l1 := hx.ln
  have l2 := hx.ld
  have l3 := hy.ln
  have l4 := hy.ld
  obtain ⟨v1, w1, n1, d1, p1, h1⟩ := hx.ex
  obtain ⟨v2, w2, n2, d2, p2, h2⟩ := hy.ex
  obtain ⟨a, a1, a2, a3⟩ := g_product n1 d2 (by omega)
  obtain ⟨b, b1, b2, b3⟩ := g_product n2 d1 (by omega)
  obtain ⟨s, s1, s2, s3⟩ := g_sum a2 b2 (by omega)
  obtain ⟨d, d1', d2', d3'⟩ := g_product d1 d2 (by omega)
  rw [a1, b1]
  simp only [Option.bind_some]
  rw [s1, d1']
  refine ⟨_, rfl, ⟨_, _, s2, d2', Int.mul_pos p1 p2, ?_⟩, by show s.d.length ≤ _; omega, by show d.d.length ≤ _; omega⟩
  simp only [Rat.intCast_mul, Rat.intCast_add]
  grind
theorem g_lessq {x y : TExact} {q r : Rat} {c e : Nat} (hx : Gq x q c) (hy : Gq y r e) (hm : c + e + 2 ≤ 8000000) : ∃ z, F_ref08_Less x y = some z ∧ Gq z (q - r) (c + e + 2) := by
  unfold F_ref08_Less
  obtain ⟨v2, w2, n2, d2, p2, h2⟩ := hy.ex
  obtain ⟨a, a1, a2, a3⟩ := g_neg n2
  rw [a1]
  simp only [Option.bind_some]
  obtain ⟨z, z1, z2⟩ := g_plusq (y := ⟨a, y.d⟩) (r := -r) hx ⟨⟨_, _, a2, d2, p2, by simp only [Rat.intCast_neg]; grind⟩, by rw [a3]; exact hy.ln, hy.ld⟩ hm
  rw [z1]
  exact ⟨z, rfl, z2.cast (by rw [Rat.sub_eq_add_neg])⟩
theorem g_timesq {x y : TExact} {q r : Rat} {c e : Nat} (hx : Gq x q c) (hy : Gq y r e) (hm : c + e + 1 ≤ 8000000) : ∃ z, F_ref08_Times x y = some z ∧ Gq z (q * r) (c + e + 1) := by
  unfold F_ref08_Times
  have l1 := hx.ln
  have l2 := hx.ld
  have l3 := hy.ln
  have l4 := hy.ld
  obtain ⟨v1, w1, n1, d1, p1, h1⟩ := hx.ex
  obtain ⟨v2, w2, n2, d2, p2, h2⟩ := hy.ex
  obtain ⟨a, a1, a2, a3⟩ := g_product n1 n2 (by omega)
  obtain ⟨d, d1', d2', d3'⟩ := g_product d1 d2 (by omega)
  rw [a1, d1']
  refine ⟨_, rfl, ⟨_, _, a2, d2', Int.mul_pos p1 p2, ?_⟩, by show a.d.length ≤ _; omega, by show d.d.length ≤ _; omega⟩
  simp only [Rat.intCast_mul]
  grind
theorem pos_of_num {r : Rat} {v w : Int} (hw : 0 < w) (h : r * (w : Rat) = (v : Rat)) : 0 < v ↔ 0 < r := by
  have hw2 : (0 : Rat) < (w : Rat) := by
    have := Rat.intCast_lt_intCast.2 hw
    exact this
  constructor
  · intro hv
    have hv2 : (0 : Rat) < (v : Rat) := Rat.intCast_lt_intCast.2 hv
    rcases (Rat.le_total : r ≤ 0 ∨ 0 ≤ r) with h1 | h1
    · have := Rat.mul_le_mul_of_nonneg_right h1 (Rat.le_of_lt hw2)
      grind
    · have hr0 : r ≠ 0 := by
        rintro rfl
        rw [Rat.zero_mul] at h
        grind
      grind
  · intro hr
    have := Rat.mul_pos hr hw2
    rw [h] at this
    exact Rat.intCast_lt_intCast.1 this
theorem g_overq {x y : TExact} {q r : Rat} {c e : Nat} (hx : Gq x q c) (hy : Gq y r e) (hr : 0 < r) (hm : c + e + 1 ≤ 8000000) : ∃ z, F_ref08_Over x y = some z ∧ Gq z (q / r) (c + e + 1) := by
  unfold F_ref08_Over
  have l1 := hx.ln
  have l2 := hx.ld
  have l3 := hy.ln
  have l4 := hy.ld
  obtain ⟨v1, w1, n1, d1, p1, h1⟩ := hx.ex
  obtain ⟨v2, w2, n2, d2, p2, h2⟩ := hy.ex
  have hv2 := (pos_of_num p2 h2).2 hr
  obtain ⟨a, a1, a2, a3⟩ := g_product n1 d2 (by omega)
  obtain ⟨d, d1', d2', d3'⟩ := g_product d1 n2 (by omega)
  rw [a1, d1']
  refine ⟨_, rfl, ⟨_, _, a2, d2', Int.mul_pos p1 hv2, ?_⟩, by show a.d.length ≤ _; omega, by show d.d.length ≤ _; omega⟩
  simp only [Rat.intCast_mul]
  have : r ≠ 0 := by grind
  grind
theorem g_sign {x : TExact} {q : Rat} {c : Nat} (hx : Gq x q c) : ∃ s, F_ref08_Sign x = some s ∧ (s = 0 ↔ q = 0) := by
  unfold F_ref08_Sign
  obtain ⟨v, w, n, d, p, h⟩ := hx.ex
  have hz : q = 0 ↔ v = 0 := by
    have hw := int_ne (show w ≠ 0 by omega)
    constructor
    · intro e
      subst e
      rw [Rat.zero_mul] at h
      exact Rat.intCast_inj.1 h.symm
    · intro e
      subst e
      rcases Rat.mul_eq_zero.1 h with e | e
      · exact e
      · exact absurd e hw
  rw [hz]
  have hn := n.neg
  have h0 := n.w.zero
  cases hb : x.n.neg with
  | true =>
    rw [hb] at hn
    exact ⟨_, rfl, by simp at hn ⊢; omega⟩
  | false =>
    rw [hb] at hn
    simp at hn
    cases hd : x.n.d with
    | nil => exact ⟨0, rfl, by have := h0.1 hd; omega⟩
    | cons a l =>
      refine ⟨1, ?_, ?_⟩
      · have e0 : ((((a :: l).length : Nat) : Int) == 0) = false := by simp; omega
        simp only [cond_false]
        rw [e0]; rfl
      · have : ¬ v.natAbs = 0 := fun e => by
          have := h0.2 e
          rw [hd] at this
          cases this
        omega
theorem g_cmpq {x y : TExact} {q r : Rat} {c e : Nat} (hx : Gq x q c) (hy : Gq y r e) (hm : c + e + 2 ≤ 8000000) : ∃ s, F_ref08_Cmp x y = some s ∧ (s = 0 ↔ q = r) := by
  unfold F_ref08_Cmp
  obtain ⟨z, z1, z2⟩ := g_lessq hx hy hm
  obtain ⟨s, s1, s2⟩ := g_sign z2
  rw [z1]
  simp only [Option.bind_some]
  rw [s1]
  exact ⟨s, rfl, by rw [s2]; constructor <;> intro h <;> grind⟩
theorem g_lower {x : TExact} {q : Rat} {c : Nat} (hx : Gq x q c) (hc : 3 ≤ c) (hm : c ≤ 8000000) : ∃ r, F_ref08_Lower x = some r ∧ Nb r.n q.num ∧ Nb r.d q.den ∧ r.n.d.length ≤ c ∧ r.d.d.length ≤ c := by
  unfold F_ref08_Lower
  obtain ⟨v, w, n, d, p, h⟩ := hx.ex
  obtain ⟨e1, e2, e3, e4, e5⟩ := low_gcd (by omega) h
  rcases Decidable.em (v = 0) with hv | hv
  · have hd : x.n.d = [] := n.w.zero.2 (by omega)
    obtain ⟨a, a1, a2, a3⟩ := g_int 0 (by omega) (by omega)
    obtain ⟨b, b1, b2, b3⟩ := g_int 1 (by omega) (by omega)
    rw [hd, a1, b1]
    have := e5.1 hv
    subst this
    exact ⟨_, rfl, a2, b2, by show a.d.length ≤ _; omega, by show b.d.length ≤ _; omega⟩
  · have hl : 0 < x.n.d.length := n.w.ne (by omega)
    have e0 : (((x.n.d.length : Nat) : Int) == 0) = false := by rw [beq_eq_false_iff_ne]; omega
    rw [e0, cond_false]
    obtain ⟨g, g1, g2⟩ := h_gcd n.w d.w (by omega) (by omega) n.len d.len
    have hgp : 0 < Nat.gcd v.natAbs w.natAbs := Nat.gcd_pos_of_pos_left _ (by omega)
    have hgl : g.length ≤ 8000000 := Nat.le_trans (g2.le n.w (Nat.gcd_le_left _ (by omega))) n.len
    obtain ⟨a, a1, a2, a3⟩ := g_quotient n.w g2 hgp n.len hgl
    obtain ⟨b, b1, b2, b3⟩ := g_quotient d.w g2 hgp d.len hgl
    rw [g1]
    simp only [Option.bind_some]
    rw [a1, b1]
    rw [e1] at a2
    rw [e2] at b2
    refine ⟨_, rfl, ⟨a2, ?_, Nat.le_trans a3 n.len⟩, ⟨b2, ?_, Nat.le_trans b3 d.len⟩, Nat.le_trans a3 hx.ln, Nat.le_trans b3 hx.ld⟩
    · show x.n.neg = true ↔ _
      rw [n.neg]; exact e3 p
    · show false = true ↔ _
      simp
theorem g_lowq {x : TExact} {q : Rat} {c : Nat} (hx : Gq x q c) (hc : 3 ≤ c) (hm : c ≤ 8000000) : ∃ r, F_ref08_Lower x = some r ∧ Gq r q c := by
  obtain ⟨r, r1, r2, r3, r4, r5⟩ := g_lower hx hc hm
  exact ⟨r, r1, ⟨_, _, r2, r3, by have := q.den_nz; omega, q_mul q⟩, r4, r5⟩
end Go.Proofs.Ytbamoboldhabjaa

/- The reference's exact numbers: Fraction, Told, part, Of. -/
namespace Go.Proofs.Ytbamoboldhabjaa
set_option linter.unusedVariables false
set_option linter.unusedSimpArgs false

theorem bv_drop {l : List Int} {m : Nat} (hm : m < l.length) : bv (16777216 : Int) (l.drop m) = dg l m + 16777216 * bv (16777216 : Int) (l.drop (m + 1)) := by
  rw [List.drop_eq_getElem_cons hm, dg_get hm]; rfl
theorem bv_drop_le {l : List Int} (hd : dig (16777216 : Int) l) (m : Nat) : bv (16777216 : Int) (l.drop m) ≤ bv (16777216 : Int) l := by
  have h := bv_append (16777216 : Int) (l.take m) (l.drop m)
  rw [List.take_append_drop] at h
  have h1 := (bv_range (by decide) (dig_take hd m)).1
  have h2 := (bv_range (B := (16777216 : Int)) (by decide) (l := l.drop m) fun x hx => hd x (List.mem_of_mem_drop hx)).1
  have h3 : 0 < (16777216 : Int) ^ (l.take m).length := Int.pow_pos (by decide)
  have h4 := Int.mul_le_mul_of_nonneg_right (show 1 ≤ (16777216 : Int) ^ (l.take m).length from h3) h2
  rw [h]; omega
set_option maxHeartbeats 1000000 in
theorem g_fraction {x : TExact} {q : Rat} {c : Nat} (hx : Gq x q c) (hc : 3 ≤ c) (hm : c ≤ 8000000) : F_ref08_Fraction x = some (outQ q) := by
  suffices hs : ∃ r, F_ref08_Fraction x = some r ∧ r = outQ q by
    obtain ⟨r, h1, rfl⟩ := hs
    exact h1
  unfold F_ref08_Fraction
  obtain ⟨a, a1, a2, a3, _, _⟩ := g_lower hx hc hm
  obtain ⟨b, b1, b2, b3⟩ := g_int 1152921504606846976 (by omega) (by omega)
  have hbn : Int.natAbs (1152921504606846976 : Int) = 1152921504606846976 := by decide
  have hbw : Wg b.d 1152921504606846976 := by have := b2.w; rwa [hbn] at this
  rw [a1, b1]
  simp only [Option.bind_some]
  rw [a2.w.larger hbw, a3.w.larger hbw]
  simp only [Option.bind_some]
  by_cases f1 : 1152921504606846976 < q.num.natAbs
  · rw [decide_eq_true f1]
    refine ⟨_, rfl, ?_⟩
    rw [fr_big]
    unfold fitQ; omega
  rw [decide_eq_false f1, cond_false]
  by_cases f2 : 1152921504606846976 < (q.den : Int).natAbs
  · rw [decide_eq_true f2]
    refine ⟨_, rfl, ?_⟩
    rw [fr_big]
    unfold fitQ; omega
  rw [decide_eq_false f2]
  simp only [Option.bind_some, cond_false]
  have hnv := a2.w.val
  have hdv := a3.w.val
  have hnd := a2.w.dig
  have hdd := a3.w.dig
  have hnl := a2.len
  have hdl := a3.len
  have hneg := a2.neg
  obtain ⟨⟨neg, wn⟩, ⟨dneg, wd⟩⟩ := a
  simp only at hnv hdv hnd hdd hnl hdl hneg ⊢
  refine iter_bind (Q := fun r : TFrac × Unit => r.1 = ⟨(q.num.natAbs : Int), 0⟩) (fun k s => ∃ m : Nat, m + k = wn.length ∧ s = ((m : Int) - 1, ⟨bv (16777216 : Int) (wn.drop m), 0⟩, ())) wn.length (by unfold big; omega) ?_ ⟨wn.length, rfl, by rw [wrap64 (by omega) (by omega), List.drop_length]; rfl⟩ ?_
  · rintro k s hk ⟨m, hmk, rfl⟩
    cases m with
    | zero =>
      have e1 : decide ((((0 : Nat) : Int) - 1) ≥ 0) = false := by decide
      exact .inr ⟨(⟨bv (16777216 : Int) wn, 0⟩, ()), by simp only [e1, cond_false, List.drop_zero], by rw [hnv]⟩
    | succ m =>
      have e1 : decide ((((m + 1 : Nat) : Int) - 1) ≥ 0) = true := decide_eq_true (by omega)
      have e2 : (((m + 1 : Nat) : Int) - 1) = (m : Int) := by omega
      have hlt : m < wn.length := by omega
      have hdr := bv_drop hlt
      have hle := bv_drop_le hnd m
      have hr := dg_range (by decide) hnd m
      have h0 := (bv_range (B := (16777216 : Int)) (by decide) (l := wn.drop (m + 1)) fun x hx => hnd x (List.mem_of_mem_drop hx)).1
      refine .inl ⟨((m : Int) - 1, ⟨bv (16777216 : Int) (wn.drop m), 0⟩, ()), ?_, by omega, m, by omega, rfl⟩
      simp only [e1, cond_true]
      rw [e2, idx_nat hlt, ← dg_get hlt]
      simp only [Option.bind_some]
      rw [wrap64 (n := (m : Int) - 1) (by omega) (by omega), wrap64 (n := 16777216 * bv (16777216 : Int) (wn.drop (m + 1))) (by omega) (by omega), wrap64 (n := 16777216 * bv (16777216 : Int) (wn.drop (m + 1)) + dg wn m) (by omega) (by omega), hdr, Int.add_comm]
  · rintro ⟨y, u⟩ hy
    simp only at hy ⊢
    subst hy
    refine iter_bind (Q := fun r : TFrac × Unit => r.1 = ⟨(q.num.natAbs : Int), (q.den : Int)⟩) (fun k s => ∃ m : Nat, m + k = wd.length ∧ s = ((m : Int) - 1, ⟨(q.num.natAbs : Int), bv (16777216 : Int) (wd.drop m)⟩, ())) wd.length (by unfold big; omega) ?_ ⟨wd.length, rfl, by rw [wrap64 (by omega) (by omega), List.drop_length]; rfl⟩ ?_
    · rintro k s hk ⟨m, hmk, rfl⟩
      cases m with
      | zero =>
        have e1 : decide ((((0 : Nat) : Int) - 1) ≥ 0) = false := by decide
        exact .inr ⟨(⟨(q.num.natAbs : Int), bv (16777216 : Int) wd⟩, ()), by simp only [e1, cond_false, List.drop_zero], by rw [hdv]; rfl⟩
      | succ m =>
        have e1 : decide ((((m + 1 : Nat) : Int) - 1) ≥ 0) = true := decide_eq_true (by omega)
        have e2 : (((m + 1 : Nat) : Int) - 1) = (m : Int) := by omega
        have hlt : m < wd.length := by omega
        have hdr := bv_drop hlt
        have hle := bv_drop_le hdd m
        have hr := dg_range (by decide) hdd m
        have h0 := (bv_range (B := (16777216 : Int)) (by decide) (l := wd.drop (m + 1)) fun x hx => hdd x (List.mem_of_mem_drop hx)).1
        refine .inl ⟨((m : Int) - 1, ⟨(q.num.natAbs : Int), bv (16777216 : Int) (wd.drop m)⟩, ()), ?_, by omega, m, by omega, rfl⟩
        simp only [e1, cond_true]
        rw [e2, idx_nat hlt, ← dg_get hlt]
        simp only [Option.bind_some]
        rw [wrap64 (n := (m : Int) - 1) (by omega) (by omega), wrap64 (n := 16777216 * bv (16777216 : Int) (wd.drop (m + 1))) (by omega) (by omega), wrap64 (n := 16777216 * bv (16777216 : Int) (wd.drop (m + 1)) + dg wd m) (by omega) (by omega), hdr, Int.add_comm]
    · rintro ⟨y, u⟩ hy
      simp only at hy ⊢
      subst hy
      rw [fr_fit (by unfold fitQ; omega)]
      unfold frQ
      cases neg with
      | true =>
        have := hneg.1 rfl
        refine ⟨_, rfl, ?_⟩
        dsimp only
        rw [wrap64 (by omega) (by omega), show (0 : Int) - (q.num.natAbs : Int) = q.num from by omega]
      | false =>
        refine ⟨_, rfl, ?_⟩
        have : ¬ q.num < 0 := fun h => by
          have := hneg.2 h
          cases this
        dsimp only
        rw [show ((q.num.natAbs : Nat) : Int) = q.num from by omega]
theorem g_told {l : List TExact} {qs : List Rat} {c : Nat} (hl : l.length ≤ 1000000) (hq : l.length = qs.length) (hc : 3 ≤ c) (hm : c ≤ 8000000) (hR : ∀ (i : Nat) (h : i < l.length) (h2 : i < qs.length), Gq l[i] qs[i] c) : F_ref20_Told l = some (outL qs) := by
  unfold F_ref20_Told
  exact iter_told (T := F_ref08_Fraction) (R := fun a q => Gq a q c) (fun a q h => g_fraction h hc hm) hl hq hR
theorem g_part (d : Int) (l : List Int) (h4 : d ≤ 9223372036854775807) (hd : 0 < d) (hl : ∀ x ∈ l, -9223372036854775808 ≤ x ∧ x ≤ 9223372036854775807) (hll : l.length ≤ 1000) :
    ∃ r, F_ref20_part l d = some r ∧ Gq r ((prodZ l : Rat) / (d : Rat)) (4 * l.length + 3) := by
  unfold F_ref20_part
  obtain ⟨o, o1, o2, o3⟩ := g_int 1 (by omega) (by omega)
  rw [o1]
  simp only [Option.bind_some]
  refine iter_bind (Q := fun r : TBig × Unit => Nb r.1 (prodZ l) ∧ r.1.d.length ≤ 4 * l.length + 3) (fun k s => ∃ t, s = ((k : Int), t, ()) ∧ k ≤ l.length ∧ Nb t (prodZ (l.take k)) ∧ t.d.length ≤ 4 * k + 3) l.length (by unfold big; omega) ?_ ⟨o, rfl, Nat.zero_le _, o2, by omega⟩ ?_
  · rintro k s hk ⟨t, rfl, _, ht, htl⟩
    rcases Nat.lt_or_ge k l.length with hlt | hge
    · have hx := hl l[k] (List.getElem_mem _)
      obtain ⟨a, a1, a2, a3⟩ := g_int l[k] hx.1 hx.2
      obtain ⟨p, p1, p2, p3⟩ := g_product ht a2 (by omega)
      have e0 : decide ((k : Int) < ((l.length : Nat) : Int)) = true := decide_eq_true (by omega)
      refine .inl ⟨_, ?_, hlt, p, rfl, hlt, ?_, by omega⟩
      · simp only [e0, cond_true]
        rw [idx_nat hlt]
        simp only [Option.bind_some]
        rw [a1]
        simp only [Option.bind_some]
        rw [p1, wrap64 (by omega) (by omega)]
        rfl
      · rw [List.take_succ_eq_append_getElem hlt, prodZ_append]
        simpa [prodZ] using p2
    · have hk' : k = l.length := by omega
      subst hk'
      have e0 : decide (((l.length : Nat) : Int) < ((l.length : Nat) : Int)) = false := by simp
      rw [List.take_length] at ht
      exact .inr ⟨(t, ()), by simp only [e0, cond_false], ht, htl⟩
  · rintro ⟨t, u⟩ ⟨t1, t2⟩
    simp only at t1 t2 ⊢
    obtain ⟨b, b1, b2, b3⟩ := g_int d (by omega) h4
    rw [b1]
    exact ⟨_, rfl, ⟨_, _, t1, b2, hd, by have := int_ne (show d ≠ 0 by omega); grind⟩, t2, by show b.d.length ≤ _; omega⟩
theorem g_of {f : TFrac} (h : RV f) : ∃ r, F_ref08_Of f = some r ∧ Gq r (qOf f) 3 := by
  unfold F_ref08_Of
  have h0 := h.d0; have h1 := h.d1; have h2 := h.n0; have h3 := h.n1
  obtain ⟨a, a1, a2, a3⟩ := g_int f.num (by omega) (by omega)
  obtain ⟨b, b1, b2, b3⟩ := g_int f.den (by omega) (by omega)
  rw [a1, b1]
  obtain ⟨e1, e2⟩ := q_num h
  exact ⟨_, rfl, ⟨_, _, a2, b2, by omega, by rw [← e1, ← e2]; exact q_mul _⟩, a3, b3⟩
end Go.Proofs.Ytbamoboldhabjaa

/- The reference's beams as rational numbers: Turned, Left, Right, far. -/
namespace Go.Proofs.Ytbamoboldhabjaa
set_option linter.unusedVariables false
set_option linter.unusedSimpArgs false

theorem Gq.skip {x : TExact} {q : Rat} {c e : Nat} (h : Gq x q c) : Gq x (q + 0) (c + e) := (h.mono (Nat.le_add_right _ _)).cast (by grind)
theorem prod1 (a : Int) : (prodZ [a] : Rat) = (a : Rat) := by simp only [prodZ, Int.mul_one]
theorem g_zero : ∃ r, F_ref20_zero = some r ∧ Gq r 0 7 := by
  unfold F_ref20_zero
  obtain ⟨r, r1, r2⟩ := g_part 1 [0] (by omega) (by omega) (by intro x hx; simp at hx; omega) (by simp)
  rw [r1]
  exact ⟨r, rfl, r2.cast (by rw [prod1, div_one']; rfl)⟩
theorem h_turned {b : TBeam} (hb : BeamIn b) (hs : SupOk b) : F_ref20_Turned b = some (turnB b) := by
  have hl0 := hb.l0
  have hl1 := hb.l1
  have hln := hb.ln
  have hn := hs.n10
  have hn1 := hs.n1
  apply gs_eq
  unfold F_ref20_Turned
  refine gloop (fun s : TBeam × Unit => s.1 = ⟨b.name, b.length, b.supports.reverse.map (fun s => b.length - s), [], b.even⟩)
    (fun k s => ∃ m : Nat, m + k = b.supports.length ∧ s = ((m : Int) - 1, ⟨b.name, b.length, (b.supports.drop m).reverse.map (fun s => b.length - s), [], b.even⟩, ())) b.supports.length (by unfold big; omega)
    ⟨b.supports.length, rfl, by rw [wrap64 (by omega) (by omega), List.drop_length]; rfl⟩ ?_ ?_
  · rintro k s hk ⟨m, hm, rfl⟩
    cases m with
    | zero =>
      exact gf (decide_eq_false (by show ¬ (((0 : Nat) : Int) - 1 ≥ 0); omega)) (gend (by show (⟨_, _, _, _, _⟩ : TBeam) = _; rw [List.drop_zero]))
    | succ m =>
      have e2 : (((m + 1 : Nat) : Int) - 1) = (m : Int) := by omega
      have hlt : m < b.supports.length := by omega
      have pm := sp_get hlt
      have rm := sp_rg hs hlt
      refine gt (decide_eq_true (by show (((m + 1 : Nat) : Int) - 1 ≥ 0); omega)) (go (idx_w e2 pm) (gif (by simp; omega) (gend ⟨by omega, m, by omega, ?_⟩)))
      have hdr : b.supports.drop m = sp b m :: b.supports.drop (m + 1) := by
        rw [List.drop_eq_getElem_cons hlt]
        congr 1
        unfold sp; rw [List.getD_eq_getElem?_getD, List.getElem?_eq_getElem hlt]; rfl
      rw [hdr, List.reverse_cons, List.map_append]
      show (IntKind.i64.wrap (((m + 1 : Nat) : Int) - 1 - 1), (⟨b.name, b.length, (b.supports.drop (m + 1)).reverse.map (fun s => b.length - s) ++ [IntKind.i64.wrap (b.length - sp b m)], [], b.even⟩ : TBeam), ()) = _
      rw [e2, wrap64 (n := (m : Int) - 1) (by omega) (by omega), wrap64 (n := b.length - sp b m) (by omega) (by omega)]
      rfl
  · rintro ⟨t, u⟩ ht
    simp only at ht
    subst ht
    refine gloop (fun s : TBeam × Unit => s.1 = turnB b) (fun k s => k ≤ b.loads.length ∧ s = ((k : Int), ⟨b.name, b.length, b.supports.reverse.map (fun s => b.length - s), (b.loads.take k).map (fun x => ⟨b.length - x.at_, x.weight⟩), b.even⟩, ())) b.loads.length (by unfold big; omega) ⟨Nat.zero_le _, rfl⟩ ?_ ?_
    · rintro k s hk ⟨_, rfl⟩
      rcases Nat.lt_or_ge k b.loads.length with hlt | hge
      · obtain ⟨x0, x1, x2, x3⟩ := hb.ld _ (List.getElem_mem hlt)
        have pk := idx_nat hlt
        refine gt (decide_eq_true (by show (k : Int) < ((b.loads.length : Nat) : Int); omega)) (go pk (go pk (gif (by simp; omega) (gend ⟨hlt, hlt, ?_⟩))))
        rw [List.take_succ_eq_append_getElem hlt, List.map_append]
        show (IntKind.i64.wrap ((k : Int) + 1), (⟨b.name, b.length, _, (b.loads.take k).map (fun x => ⟨b.length - x.at_, x.weight⟩) ++ [⟨IntKind.i64.wrap (b.length - b.loads[k].at_), b.loads[k].weight⟩], b.even⟩ : TBeam), ()) = _
        rw [wrap64 (n := b.length - b.loads[k].at_) (by omega) (by omega), wrap64 (n := (k : Int) + 1) (by omega) (by omega)]
        rfl
      · refine gf (decide_eq_false (by show ¬ (k : Int) < ((b.loads.length : Nat) : Int); omega)) (gend ?_)
        show (⟨b.name, b.length, b.supports.reverse.map (fun s => b.length - s), (b.loads.take k).map (fun x => ⟨b.length - x.at_, x.weight⟩), b.even⟩ : TBeam) = turnB b
        rw [List.take_of_length_le hge]
        rfl
    · rintro ⟨t, u⟩ h
      exact gend h
theorem gfe {γ : Type} {c : Bool} {X Y : γ} (h : c = false) : (bif c then X else Y) = Y := by subst h; rfl
theorem h_left {b : TBeam} (hb : BeamIn b) {a : Int} (h0 : 0 ≤ a) (h1 : a ≤ b.length) : Gs (F_ref20_Left b a) fun r => Gq r (overQ b.even (lds b.loads) a) 600 := by
  unfold F_ref20_Left
  have hl := hb.l1
  have he0 := hb.e0
  have he1 := hb.e1
  have hln := hb.ln
  obtain ⟨p, p1, p2⟩ := g_part 2000 [b.even, a, a] (by omega) (by omega) (by intro x hx; simp at hx; omega) (by simp)
  refine go p1 ?_
  refine gcall (loop_sumG (w := b.loads) (fun t q c => Gq t q c) (fun x => if x.at_ < a then (x.weight : Rat) * (a - x.at_) else 0) 13 (by omega) p2 ?_ (fun t => gfe (decide_eq_false (by show ¬ (((b.loads.length : Nat) : Int) < ((b.loads.length : Nat) : Int)); omega)))) ?_
  · intro k h t q ht
    obtain ⟨x0, x1, x2, x3⟩ := hb.ld _ (List.getElem_mem h)
    have w1 : IntKind.i64.wrap ((k : Int) + 1) = ((k + 1 : Nat) : Int) := by rw [wrap64 (by omega) (by omega)]; omega
    have hx := idx_nat h
    refine gt (decide_eq_true (by show (k : Int) < ((b.loads.length : Nat) : Int); omega)) (goo hx ?_)
    generalize b.loads[k] = x at *
    by_cases hc : x.at_ < a
    · have hw : IntKind.i64.wrap (a - x.at_) = a - x.at_ := wrap64 (by omega) (by omega)
      obtain ⟨z, z1, z2⟩ := g_part 1 [x.weight, a - x.at_] (by omega) (by omega) (by intro y hy; simp at hy; omega) (by simp)
      obtain ⟨s, s1, s2⟩ := g_plusq ht z2 (by simp only [List.length_cons, List.length_nil]; omega)
      refine gbt (decide_eq_true hc) (goo hx (goo hx (goo (by rw [hw]; exact z1) (goo s1 (gs (gend ⟨s, by simp only [w1], (s2.mono (by simp only [List.length_cons, List.length_nil]; omega)).cast ?_⟩))))))
      rw [div_one', prod2, Rat.intCast_sub, if_pos hc]
    · refine gbf (decide_eq_false hc) (gs (gend ⟨t, by simp only [w1], ?_⟩))
      rw [if_neg hc]
      exact ht.skip
  · rintro ⟨t, u⟩ ht
    refine gend ((ht.mono (by simp only [List.length_cons, List.length_nil]; omega)).cast ?_)
    unfold overQ lds
    rw [sumQ_map, prod3]
    rfl
theorem h_right {b : TBeam} (hb : BeamIn b) (hs : SupOk b) {a : Int} (h0 : 0 ≤ a) (h1 : a ≤ b.length) : Gs (F_ref20_Right b a) fun r => Gq r (overQ b.even (turnW b.length (lds b.loads)) (b.length - a)) 600 := by
  unfold F_ref20_Right
  have hl := hb.l1
  have hw : IntKind.i64.wrap (b.length - a) = b.length - a := wrap64 (by omega) (by omega)
  refine go (h_turned hb hs) (gcall (by rw [hw]; exact h_left (turn_in hb) (by omega) (by show b.length - a ≤ b.length; omega)) fun r hr => gend ?_)
  rw [turn_lds] at hr
  exact hr
theorem h_far {b : TBeam} (hb : BeamIn b) {at_ other : Int} (h0 : 0 ≤ at_) (h1 : at_ ≤ b.length) (h2 : 0 ≤ other) (h3 : other ≤ b.length) (h4 : at_ ≠ other) :
    Gs (F_ref20_far b at_ other) fun r => Gq r (if other < at_ then sideQ b.even (lds b.loads) other at_ true else sideQ b.even (lds b.loads) at_ other false) 700 := by
  unfold F_ref20_far
  have hl := hb.l1
  have he0 := hb.e0
  have he1 := hb.e1
  have hln := hb.ln
  have w1 : IntKind.i64.wrap (at_ - other) = at_ - other := wrap64 (by omega) (by omega)
  have w2 : IntKind.i64.wrap (other - at_) = other - at_ := wrap64 (by omega) (by omega)
  obtain ⟨fr, to, left, hq, hfr, hto, hlt, hlow, hhi⟩ : ∃ fr to left, (if other < at_ then sideQ b.even (lds b.loads) other at_ true else sideQ b.even (lds b.loads) at_ other false) = sideQ b.even (lds b.loads) fr to left ∧ fr = min at_ other ∧ to = max at_ other ∧ fr < to ∧ (left = true ↔ other < at_) ∧ (left = false ↔ at_ < other) := by
    rcases Int.lt_or_le other at_ with h | h
    · exact ⟨other, at_, true, by rw [if_pos h], by omega, by omega, h, by simp [h], by simp; omega⟩
    · exact ⟨at_, other, false, by rw [if_neg (by omega)], by omega, by omega, by omega, by simp; omega, by simp; omega⟩
  rw [hq]
  have hsel : ((bif (decide ((IntKind.i64.wrap (at_ - other)) < 0)) then some ((IntKind.i64.wrap (other - at_)), ()) else some ((IntKind.i64.wrap (at_ - other)), ())) : Option (Int × Unit)) = some (to - fr, ()) := by
    rw [w1, w2]
    by_cases h : at_ - other < 0
    · rw [decide_eq_true h, cond_true]; congr 2; omega
    · rw [decide_eq_false h, cond_false]; congr 2; omega
  obtain ⟨p, p1, p2⟩ := g_part 4000 [b.even, to - fr, to - fr, to - fr] (by omega) (by omega) (by intro x hx; simp at hx; omega) (by simp)
  refine go hsel (go p1 ?_)
  refine gcall (loop_sumG (w := b.loads) (fun t q c => Gq t q c) (fun x => if x.at_ ≤ fr ∨ to ≤ x.at_ then 0 else
    (x.weight : Rat) * ((if left then x.at_ - fr else to - x.at_ : Int) : Rat) * (((to - fr) * (to - fr) - (if left then x.at_ - fr else to - x.at_) * (if left then x.at_ - fr else to - x.at_) : Int) : Rat) / ((to - fr : Int) : Rat)) 17 (by omega) p2 ?_ (fun t => gfe (decide_eq_false (by show ¬ (((b.loads.length : Nat) : Int) < ((b.loads.length : Nat) : Int)); omega)))) ?_
  · intro k h t q ht
    obtain ⟨x0, x1, x2, x3⟩ := hb.ld _ (List.getElem_mem h)
    have wk : IntKind.i64.wrap ((k : Int) + 1) = ((k + 1 : Nat) : Int) := by rw [wrap64 (by omega) (by omega)]; omega
    have hx := idx_nat h
    refine gt (decide_eq_true (by show (k : Int) < ((b.loads.length : Nat) : Int); omega)) (goo hx ?_)
    generalize b.loads[k] = x at *
    obtain ⟨a, ha⟩ : ∃ a, (if left then x.at_ - fr else to - x.at_ : Int) = a := ⟨_, rfl⟩
    have hsa : ((bif (decide (at_ < other)) then (idx b.loads ((k : Nat) : Int)).bind fun x37 => some ((IntKind.i64.wrap (other - x37.at_)), ()) else some ((IntKind.i64.wrap (x.at_ - other)), ())) : Option (Int × Unit)) = some (a, ()) := by
      rw [hx]
      simp only [Option.bind_some]
      rw [wrap64 (n := other - x.at_) (by omega) (by omega), wrap64 (n := x.at_ - other) (by omega) (by omega)]
      cases left with
      | true =>
        have := hlow.1 rfl
        rw [decide_eq_false (by omega), cond_false, ← ha]
        simp only [if_true]
        congr 2; omega
      | false =>
        have := hhi.1 rfl
        rw [decide_eq_true this, cond_true, ← ha]
        simp only [Bool.false_eq_true, if_false]
        congr 2; omega
    refine goo hsa ?_
    have hin : ((bif (decide (a > 0)) then some ((decide (a < to - fr)), ()) else some (false, ())) : Option (Bool × Unit)) = some (!decide (x.at_ ≤ fr ∨ to ≤ x.at_), ()) := by
      by_cases hc : x.at_ ≤ fr ∨ to ≤ x.at_
      · rw [decide_eq_true hc]
        by_cases h1 : a > 0
        · rw [decide_eq_true h1, cond_true, decide_eq_false (by cases left <;> simp at ha <;> omega)]; rfl
        · rw [decide_eq_false h1]; rfl
      · rw [decide_eq_false hc, decide_eq_true (by rw [← ha]; split <;> omega), cond_true, decide_eq_true (by rw [← ha]; split <;> omega)]; rfl
    refine goo hin ?_
    by_cases hc : x.at_ ≤ fr ∨ to ≤ x.at_
    · refine gbf (by rw [decide_eq_true hc]; rfl) (gs (gend ⟨t, by simp only [wk], ?_⟩))
      rw [if_pos hc]
      exact ht.skip
    · have hab : 0 < a ∧ a < to - fr := by rw [← ha]; split <;> omega
      have hsq1 : (to - fr) * (to - fr) ≤ 1048576 * 1048576 := Int.mul_le_mul (by omega) (by omega) (by omega) (by omega)
      have hsq2 : a * a ≤ (to - fr) * (to - fr) := Int.mul_le_mul (by omega) (by omega) (by omega) (by omega)
      have hsq0 : 0 ≤ a * a := Int.mul_nonneg (by omega) (by omega)
      have hw : IntKind.i64.wrap (IntKind.i64.wrap ((to - fr) * (to - fr)) - IntKind.i64.wrap (a * a)) = (to - fr) * (to - fr) - a * a := by
        rw [wrap64 (n := (to - fr) * (to - fr)) (by omega) (by omega), wrap64 (n := a * a) (by omega) (by omega), wrap64 (n := (to - fr) * (to - fr) - a * a) (by omega) (by omega)]
      obtain ⟨z, z1, z2⟩ := g_part (to - fr) [x.weight, a, (to - fr) * (to - fr) - a * a] (by omega) (by omega) (by intro y hy; simp at hy; omega) (by simp)
      obtain ⟨s, s1, s2⟩ := g_plusq ht z2 (by simp only [List.length_cons, List.length_nil]; omega)
      refine gbt (by rw [decide_eq_false hc]; rfl) (goo hx (goo (by rw [hw]; exact z1) (goo s1 (gs (gend ⟨s, by simp only [wk], (s2.mono (by simp only [List.length_cons, List.length_nil]; omega)).cast ?_⟩)))))
      rw [if_neg hc, ha, prod3]
  · rintro ⟨t, u⟩ ht
    refine gend ((ht.mono (by simp only [List.length_cons, List.length_nil]; omega)).cast ?_)
    unfold sideQ lds
    rw [sumQ_map, prod4]
    rfl
end Go.Proofs.Ytbamoboldhabjaa

/- What the program and the reference tell of a beam's moments and reactions. -/
namespace Go.Proofs.Ytbamoboldhabjaa
set_option linter.unusedVariables false
set_option linter.unusedSimpArgs false

/-- The beam tilts. -/
def tilt (b : TBeam) : Prop := b.supports.length = 1 ∧ fstQ b ≠ lstQ b
def momL (b : TBeam) : List Rat := (List.range b.supports.length).map (momB b)
def reaL (b : TBeam) : List Rat := (List.range b.supports.length).map (reactB b)
/-- What is small enough for the walks. -/
structure SmallB (b : TBeam) : Prop where
  name : b.name.size ≤ 1000000
  sup : b.supports.length ≤ 1000000
  ld : b.loads.length ≤ 1000000
theorem list_of {α : Type} {R : α → Rat → Prop} {l : List α} {n : Nat} (f : Nat → Rat) (hl : l.length = n) (h : ∀ i, i < n → ∃ x, l[i]? = some x ∧ R x (f i)) : ∀ (i : Nat) (h1 : i < l.length) (h2 : i < ((List.range n).map f).length), R l[i] ((List.range n).map f)[i] := by
  intro i h1 h2
  obtain ⟨x, x1, x2⟩ := h i (by omega)
  rw [List.getElem?_eq_getElem h1] at x1
  injection x1 with x1
  rw [x1]
  simpa using x2
theorem f_given_bad {b : TBeam} (hw : SmallB b) (h : validBm b = false) : F_beam_given b = some ([], 1) := by
  unfold F_beam_given
  rw [f_bvalid hw.name hw.sup hw.ld, h]; rfl
theorem f_given_tilt {b : TBeam} (hw : SmallB b) (h : validBm b = true) (ht : tilt b) : F_beam_given b = some ([], 22) := by
  obtain ⟨hb, hs⟩ := valid_in h
  apply gs_eq
  unfold F_beam_given
  refine go (f_bvalid hw.name hw.sup hw.ld) (gf (by rw [h]; rfl) (gcall (f_moments hb hs) fun r hr => ?_))
  have : r.2 = false := by
    cases h2 : r.2 with
    | false => rfl
    | true => exact absurd (hr.1.1 h2 ht.1) ht.2
  exact gt (by rw [this]; rfl) (gend rfl)
theorem f_given_ok {b : TBeam} (hw : SmallB b) (h : validBm b = true) (ht : ¬ tilt b) : Gs (F_beam_given b) fun r => r.2 = 0 ∧ r.1.length = b.supports.length ∧ ∀ i, i < b.supports.length → ∃ x, r.1[i]? = some x ∧ Xq x (momB b i) 82000 := by
  obtain ⟨hb, hs⟩ := valid_in h
  unfold F_beam_given
  refine go (f_bvalid hw.name hw.sup hw.ld) (gf (by rw [h]; rfl) (gcall (f_moments hb hs) fun r hr => ?_))
  have h2 : r.2 = true := hr.1.2 fun h1 => Classical.byContradiction fun h3 => ht ⟨h1, h3⟩
  refine gf (by rw [h2]; rfl) (gend ⟨rfl, hr.2 h2⟩)
theorem f_Moments {b : TBeam} (hw : SmallB b) (h : validBm b = true) (ht : ¬ tilt b) : F_beam_Moments b = some (outL (momL b)) := by
  apply gs_eq
  have hn : b.supports.length ≤ 10 := (valid_in h).2.n10
  unfold F_beam_Moments
  refine gcall (f_given_ok hw h ht) fun r hr => ?_
  obtain ⟨h1, h2, h3⟩ := hr
  refine gf (by rw [h1]; rfl) (go (f_fractions (qs := momL b) (c := 82000) (by omega) (by rw [h2]; unfold momL; simp) ?_) (gend rfl))
  exact list_of (R := fun x q => Xq x q 82000) (momB b) h2 h3
theorem f_Reactions {b : TBeam} (hw : SmallB b) (h : validBm b = true) (ht : ¬ tilt b) : F_beam_Reactions b = some (outL (reaL b)) := by
  apply gs_eq
  obtain ⟨hb, hs⟩ := valid_in h
  have hn : b.supports.length ≤ 10 := hs.n10
  unfold F_beam_Reactions
  refine gcall (f_given_ok hw h ht) fun r hr => ?_
  obtain ⟨h1, h2, h3⟩ := hr
  refine gf (by rw [h1]; rfl) (gcall (f_reactions hb hs h3) fun t ht => ?_)
  refine go (f_fractions (qs := reaL b) (c := 330000) (by omega) (by rw [ht.1]; unfold reaL; simp) ?_) (gend rfl)
  exact list_of (R := fun x q => Xq x q 330000) (reactB b) ht.1 ht.2
theorem f_Moments_bad {b : TBeam} {e : Int} (he : e ≠ 0) (h : F_beam_given b = some ([], e)) : F_beam_Moments b = some ([], e) := by
  unfold F_beam_Moments
  rw [h]
  have : (e != 0) = true := by simpa using he
  simp only [Option.bind_some, this, cond_true]
theorem f_Reactions_bad {b : TBeam} {e : Int} (he : e ≠ 0) (h : F_beam_given b = some ([], e)) : F_beam_Reactions b = some ([], e) := by
  unfold F_beam_Reactions
  rw [h]
  have : (e != 0) = true := by simpa using he
  simp only [Option.bind_some, this, cond_true]
theorem h_tilts {b : TBeam} (hb : BeamIn b) (hs : SupOk b) : Gs (F_ref20_Tilts b) fun r => r = true ↔ tilt b := by
  unfold F_ref20_Tilts tilt
  have hn := hs.n1
  rcases Decidable.em (b.supports.length = 1) with h | h
  · have q0 := sp_get (b := b) (i := 0) (by omega)
    have r0 := sp_rg hs (i := 0) (by omega)
    refine gbt (by rw [beq_iff_eq]; omega) (goo (idx_q (k := 0) q0) (goo (idx_q (k := 0) q0) (gcalll (h_left hb r0.1 r0.2) fun x hx => gcalll (h_right hb hs r0.1 r0.2) fun y hy => ?_)))
    obtain ⟨s, s1, s2⟩ := g_cmpq hx hy (by omega)
    refine goo s1 (gs (gend ?_))
    show (s != 0) = true ↔ _
    rw [bne_iff_ne, ne_eq, s2]
    have e : b.supports.length - 1 = 0 := by omega
    unfold fstQ lstQ
    rw [e]
    constructor
    · intro h2; exact ⟨h, fun h3 => h2 (by grind)⟩
    · intro h2 h3; exact h2.2 (by rw [h3])
  · refine gbf (by rw [beq_eq_false_iff_ne]; omega) (gs (gend ?_))
    show false = true ↔ _
    simp [h]
theorem h_given {b : TBeam} (hw : SmallB b) : Gs (F_ref20_Given b) fun r => (validBm b = false ∧ r = 1) ∨ (validBm b = true ∧ tilt b ∧ r = 22) ∨ (validBm b = true ∧ ¬ tilt b ∧ r = 0) := by
  unfold F_ref20_Given
  refine go (f_rvalid20 hw.name hw.sup hw.ld) ?_
  cases h : validBm b with
  | false => exact gt rfl (gend (.inl ⟨rfl, rfl⟩))
  | true =>
    obtain ⟨hb, hs⟩ := valid_in h
    refine gf rfl (gcall (h_tilts hb hs) fun r hr => ?_)
    cases hr2 : r with
    | true => exact gt rfl (gend (.inr (.inl ⟨rfl, hr.1 hr2, rfl⟩)))
    | false => exact gf rfl (gend (.inr (.inr ⟨rfl, (fun ht => absurd (hr.2 ht) (by rw [hr2]; simp)), rfl⟩)))
end Go.Proofs.Ytbamoboldhabjaa

/- Lists compared; small beams. -/
namespace Go.Proofs.Ytbamoboldhabjaa
set_option linter.unusedVariables false
set_option linter.unusedSimpArgs false

theorem f_eqFr {a b : List TFrac} (ha : a.length ≤ 1000000) : Gs (F_slices_Equal_api_Frac a b) fun v => v = true ↔ a = b := by
  unfold F_slices_Equal_api_Frac
  by_cases hl : a.length = b.length
  · refine gf (by rw [hl]; simp) ?_
    refine gloop (fun r : (Bool × Unit) ⊕ Unit => (∃ y, r = .inl y ∧ y.1 = false ∧ a ≠ b) ∨ (r = .inr () ∧ a = b)) (fun k s => k ≤ a.length ∧ s = ((k : Int), ()) ∧ a.take k = b.take k) a.length (by unfold big; omega) ⟨by omega, rfl, by simp⟩ ?_ ?_
    · rintro k s hk ⟨_, rfl, hab⟩
      rcases Nat.lt_or_ge k a.length with hlt | hge
      · refine gt (decide_eq_true (by show (k : Int) < ((a.length : Nat) : Int); omega)) (go (idx_nat hlt) (go (idx_nat (l := b) (k := k) (by omega)) ?_))
        by_cases hc : a[k] = b[k]'(by omega)
        · refine gf (by rw [(fr_eq _ _).2 hc]; rfl) (gend ⟨hlt, hlt, ?_, ?_⟩)
          · show (IntKind.i64.wrap ((k : Int) + 1), ()) = _
            rw [wrap64 (by omega) (by omega)]; rfl
          · rw [List.take_succ_eq_append_getElem hlt, List.take_succ_eq_append_getElem (show k < b.length by omega), hab, hc]
        · refine gt ?_ (gend (.inl ⟨_, rfl, rfl, fun e => hc (by subst e; rfl)⟩))
          cases hv : ((a[k].num == (b[k]'(by omega)).num) && (a[k].den == (b[k]'(by omega)).den)) with
          | false => rfl
          | true => exact absurd ((fr_eq _ _).1 hv) hc
      · refine gf (decide_eq_false (by show ¬ (k : Int) < ((a.length : Nat) : Int); omega)) (gend (.inr ⟨rfl, ?_⟩))
        rw [List.take_of_length_le hge, List.take_of_length_le (by omega)] at hab
        exact hab
    · rintro r (⟨y, rfl, h1, h2⟩ | ⟨rfl, h2⟩)
      · refine gend ?_
        rw [h1]; simp [h2]
      · refine gend ?_
        simp [h2]
  · refine gt (by rw [bne_iff_ne]; omega) (gend ?_)
    constructor
    · intro h; cases h
    · intro h; exact absurd (by rw [h]) hl
theorem f_same (a : List TFrac) (ha : a.length ≤ 1000000) : F_slices_Equal_api_Frac a a = some true := by
  obtain ⟨v, h1, h2⟩ := f_eqFr (a := a) (b := a) ha
  rw [h1, h2.2 rfl]
def longBm (b : TBeam) : Bool := (decide (((b.supports.length : Nat) : Int) > 5) && decide (((b.supports.length : Nat) : Int) ≤ 10)) || (decide (((b.supports.length : Nat) : Int) > 15) || ((decide (((b.loads.length : Nat) : Int) > 8) && decide (((b.loads.length : Nat) : Int) ≤ 40)) || (decide (((b.loads.length : Nat) : Int) > 45) || decide (((b.name.size : Nat) : Int) > 60))))
theorem f_long (b : TBeam) : F_law20_long b = some (longBm b) := by
  unfold F_law20_long longBm
  cases decide (((b.supports.length : Nat) : Int) > 5) <;> cases decide (((b.supports.length : Nat) : Int) ≤ 10) <;> cases decide (((b.supports.length : Nat) : Int) > 15) <;> cases decide (((b.loads.length : Nat) : Int) > 8) <;> cases decide (((b.loads.length : Nat) : Int) ≤ 40) <;> cases decide (((b.loads.length : Nat) : Int) > 45) <;> rfl
theorem long_small {b : TBeam} (h : longBm b = false) : SmallB b ∧ b.supports.length ≤ 15 ∧ b.loads.length ≤ 45 := by
  unfold longBm at h
  simp only [Bool.or_eq_false_iff, Bool.and_eq_false_iff, decide_eq_false_iff_not] at h
  exact ⟨⟨by omega, by omega, by omega⟩, by omega, by omega⟩
theorem outL_len {l : List Rat} : (outL l).1.length ≤ l.length := by
  unfold outL
  split <;> simp
theorem momL_len {b : TBeam} (hs : SupOk b) : (momL b).length ≤ 10 := by unfold momL; simp; exact hs.n10
theorem reaL_len {b : TBeam} (hs : SupOk b) : (reaL b).length ≤ 10 := by unfold reaL; simp; exact hs.n10
end Go.Proofs.Ytbamoboldhabjaa

/- Shear and Bending of the program and of the reference. -/
namespace Go.Proofs.Ytbamoboldhabjaa
set_option linter.unusedVariables false
set_option linter.unusedSimpArgs false

def shearQ (b : TBeam) (a : Int) : Rat := 0 - (b.even : Rat) * a / 1000 + sumQ (fun i => if sp b i ≤ a then reactB b i else 0) (List.range b.supports.length) - sumQ (fun x : TLoad => if x.at_ ≤ a then (x.weight : Rat) else 0) b.loads
def bendQ (b : TBeam) (a : Int) : Rat := 0 - overQ b.even (lds b.loads) a + sumQ (fun i => if sp b i < a then reactB b i * ((a - sp b i : Int) : Rat) else 0) (List.range b.supports.length)
theorem sumQ_neg {α : Type} (f : α → Rat) : ∀ (l : List α), sumQ (fun x => 0 - f x) l = 0 - sumQ f l
  | [] => by simp only [sumQ]; grind
  | x :: l => by simp only [sumQ, sumQ_neg f l]; grind
theorem f_placed_bad {b : TBeam} {a : Int} (hw : SmallB b) (h : validBm b = false) : F_beam_placed b a = some ([], 1) := by
  unfold F_beam_placed
  rw [f_bvalid hw.name hw.sup hw.ld, h]; rfl
theorem f_placed_range {b : TBeam} {a : Int} (hw : SmallB b) (h : validBm b = true) (hr : a < 0 ∨ a > b.length) : F_beam_placed b a = some ([], 2) := by
  apply gs_eq
  unfold F_beam_placed
  refine go (f_bvalid hw.name hw.sup hw.ld) (gf (by rw [h]; rfl) ?_)
  rw [bif_or]
  refine gs (gt ?_ (gend rfl))
  show (decide (a < 0) || decide (a > b.length)) = true
  rw [Bool.or_eq_true, decide_eq_true_iff, decide_eq_true_iff]
  exact hr
theorem f_placed_tilt {b : TBeam} {a : Int} (hw : SmallB b) (h : validBm b = true) (h0 : 0 ≤ a) (h1 : a ≤ b.length) (ht : tilt b) : F_beam_placed b a = some ([], 22) := by
  apply gs_eq
  unfold F_beam_placed
  refine go (f_bvalid hw.name hw.sup hw.ld) (gf (by rw [h]; rfl) ?_)
  rw [bif_or]
  refine gs (gf ?_ (go (f_given_tilt hw h ht) (gt rfl (gend rfl))))
  show (decide (a < 0) || decide (a > b.length)) = false
  rw [Bool.or_eq_false_iff, decide_eq_false_iff_not, decide_eq_false_iff_not]
  omega
theorem f_placed {b : TBeam} {a : Int} (hw : SmallB b) (h : validBm b = true) (h0 : 0 ≤ a) (h1 : a ≤ b.length) (ht : ¬ tilt b) : Gs (F_beam_placed b a) fun r => r.2 = 0 ∧ r.1.length = b.supports.length ∧ ∀ i, i < b.supports.length → ∃ x, r.1[i]? = some x ∧ Xq x (reactB b i) 330000 := by
  obtain ⟨hb, hs⟩ := valid_in h
  unfold F_beam_placed
  refine go (f_bvalid hw.name hw.sup hw.ld) (gf (by rw [h]; rfl) ?_)
  rw [bif_or]
  refine gs (gf ?_ (gcall (f_given_ok hw h ht) fun r hr => ?_))
  · show (decide (a < 0) || decide (a > b.length)) = false
    rw [Bool.or_eq_false_iff, decide_eq_false_iff_not, decide_eq_false_iff_not]
    omega
  obtain ⟨g1, g2, g3⟩ := hr
  exact gf (by rw [g1]; rfl) (gcall (f_reactions hb hs g3) fun t ht => gend ⟨rfl, ht⟩)
theorem f_Shear {b : TBeam} {a : Int} (hw : SmallB b) (h : validBm b = true) (h0 : 0 ≤ a) (h1 : a ≤ b.length) (ht : ¬ tilt b) : F_beam_Shear b a = some (outQ (shearQ b a)) := by
  obtain ⟨hb, hs⟩ := valid_in h
  have hlb := hb.l1
  have he0 := hb.e0
  have he1 := hb.e1
  have hln := hb.ln
  have hn := hs.n10
  apply gs_eq
  unfold F_beam_Shear
  refine gcall (f_placed hw h h0 h1 ht) fun r hr => ?_
  obtain ⟨r1, r2, r3⟩ := hr
  obtain ⟨z, z1, z2⟩ := f_whole 0 (by omega) (by omega)
  obtain ⟨p, p1, p2⟩ := f_eproduct 1000 [b.even, a] (by omega) (by omega) (by omega) (by intro x hx; simp at hx; omega) (by simp)
  obtain ⟨q, q1, q2⟩ := f_eless z2 p2 (by omega) (by simp only [List.length_cons, List.length_nil]; omega)
  refine gf (by rw [r1]; rfl) (goo z1 (goo p1 (goo q1 (gs ?_))))
  refine gcall (loop_sumG (w := List.range b.supports.length) (fun t q c => Xq t q c) (fun i => if sp b i ≤ a then reactB b i else 0) 330001 (by simp; omega) q2 ?_ (fun t => gfe (decide_eq_false (by show ¬ ((((List.range b.supports.length).length : Nat) : Int) < ((b.supports.length : Nat) : Int)); rw [List.length_range]; omega)))) ?_
  · intro k hk t q ht
    have hk2 : k < b.supports.length := by simpa using hk
    have hkk : (List.range b.supports.length)[k] = k := by simp
    rw [hkk]
    have hc : k ≤ 9 := by omega
    have w1 : IntKind.i64.wrap ((k : Int) + 1) = ((k + 1 : Nat) : Int) := by rw [wrap64 (by omega) (by omega)]; omega
    refine gt (decide_eq_true (by show (k : Int) < ((b.supports.length : Nat) : Int); omega)) (goo (sp_idx hk2) ?_)
    by_cases hle : sp b k ≤ a
    · obtain ⟨v, v1, v2⟩ := r3 k hk2
      obtain ⟨e, e1, e2⟩ := f_eplus ht v2 (by omega) (by simp only [List.length_cons, List.length_nil]; omega)
      refine gbt (decide_eq_true hle) (goo (idx_q v1) (goo e1 (gs (gend ⟨e, by simp only [w1], ?_⟩))))
      rw [if_pos hle]
      exact e2.mono (by omega)
    · refine gbf (decide_eq_false hle) (gs (gend ⟨t, by simp only [w1], ?_⟩))
      rw [if_neg hle]
      exact ht.skip
  rintro ⟨t, u⟩ ht2
  have ht2 : Xq t (0 - (b.even : Rat) * a / 1000 + sumQ (fun i => if sp b i ≤ a then reactB b i else 0) (List.range b.supports.length)) 3300100 := (ht2.mono (by simp only [List.length_cons, List.length_nil, List.length_range]; omega)).cast (by rw [prod2]; rfl)
  refine gcall (loop_sumG (w := b.loads) (fun t q c => Xq t q c) (fun x => 0 - (if x.at_ ≤ a then (x.weight : Rat) else 0)) 3 (by omega) ht2 ?_ (fun t => gfe (decide_eq_false (by show ¬ (((b.loads.length : Nat) : Int) < ((b.loads.length : Nat) : Int)); omega)))) ?_
  · intro k hk t q ht
    obtain ⟨x0, x1, x2, x3⟩ := hb.ld _ (List.getElem_mem hk)
    have w1 : IntKind.i64.wrap ((k : Int) + 1) = ((k + 1 : Nat) : Int) := by rw [wrap64 (by omega) (by omega)]; omega
    refine gt (decide_eq_true (by show (k : Int) < ((b.loads.length : Nat) : Int); omega)) (goo (idx_nat hk) ?_)
    by_cases hle : b.loads[k].at_ ≤ a
    · obtain ⟨v, v1, v2⟩ := f_whole b.loads[k].weight (by omega) (by omega)
      obtain ⟨e, e1, e2⟩ := f_eless ht v2 (by omega) (by omega)
      refine gbt (decide_eq_true hle) (goo v1 (goo e1 (gs (gend ⟨e, by simp only [w1], e2.cast ?_⟩))))
      rw [if_pos hle]; grind
    · refine gbf (decide_eq_false hle) (gs (gend ⟨t, by simp only [w1], ht.skip.cast ?_⟩))
      rw [if_neg hle]; grind
  rintro ⟨t', u'⟩ ht3
  rw [sumQ_neg] at ht3
  have ht3 : Xq t' (shearQ b a) _ := ht3.cast (by unfold shearQ; grind)
  exact go (f_fraction ht3) (gend rfl)
theorem f_Bending {b : TBeam} {a : Int} (hw : SmallB b) (h : validBm b = true) (h0 : 0 ≤ a) (h1 : a ≤ b.length) (ht : ¬ tilt b) : F_beam_Bending b a = some (outQ (bendQ b a)) := by
  obtain ⟨hb, hs⟩ := valid_in h
  have hlb := hb.l1
  have he0 := hb.e0
  have he1 := hb.e1
  have hln := hb.ln
  have hn := hs.n10
  apply gs_eq
  unfold F_beam_Bending
  refine gcall (f_placed hw h h0 h1 ht) fun r hr => ?_
  obtain ⟨r1, r2, r3⟩ := hr
  obtain ⟨z, z1, z2⟩ := f_whole 0 (by omega) (by omega)
  obtain ⟨p, p1, p2⟩ := f_eproduct 2000 [b.even, a, a] (by omega) (by omega) (by omega) (by intro x hx; simp at hx; omega) (by simp)
  obtain ⟨q, q1, q2⟩ := f_eless z2 p2 (by omega) (by simp only [List.length_cons, List.length_nil]; omega)
  refine gf (by rw [r1]; rfl) (goo z1 (goo p1 (goo q1 (gs ?_))))
  refine gcall (loop_sumG (w := List.range b.supports.length) (fun t q c => Xq t q c) (fun i => if sp b i < a then reactB b i * ((a - sp b i : Int) : Rat) else 0) 330003 (by simp; omega) q2 ?_ (fun t => gfe (decide_eq_false (by show ¬ ((((List.range b.supports.length).length : Nat) : Int) < ((b.supports.length : Nat) : Int)); rw [List.length_range]; omega)))) ?_
  · intro k hk t q ht
    have hk2 : k < b.supports.length := by simpa using hk
    have hkk : (List.range b.supports.length)[k] = k := by simp
    rw [hkk]
    have hc : k ≤ 9 := by omega
    have rk := sp_rg hs hk2
    have w1 : IntKind.i64.wrap ((k : Int) + 1) = ((k + 1 : Nat) : Int) := by rw [wrap64 (by omega) (by omega)]; omega
    have w2 : IntKind.i64.wrap (a - sp b k) = a - sp b k := wrap64 (by omega) (by omega)
    refine gt (decide_eq_true (by show (k : Int) < ((b.supports.length : Nat) : Int); omega)) (goo (sp_idx hk2) ?_)
    by_cases hle : sp b k < a
    · obtain ⟨v, v1, v2⟩ := r3 k hk2
      obtain ⟨y, y1, y2⟩ := f_whole (a - sp b k) (by omega) (by omega)
      obtain ⟨m, m1, m2⟩ := f_etimes v2 y2 (by omega) (by omega)
      obtain ⟨e, e1, e2⟩ := f_eplus ht m2 (by omega) (by simp only [List.length_cons, List.length_nil]; omega)
      refine gbt (decide_eq_true hle) (goo (idx_q v1) (goo (by rw [w2]; exact y1) (goo m1 (goo e1 (gs (gend ⟨e, by simp only [w1], ?_⟩))))))
      rw [if_pos hle]
      exact e2.mono (by omega)
    · refine gbf (decide_eq_false hle) (gs (gend ⟨t, by simp only [w1], ?_⟩))
      rw [if_neg hle]
      exact ht.skip
  rintro ⟨t, u⟩ ht2
  have ht2 : Xq t (0 - (b.even : Rat) * a * a / 2000 + sumQ (fun i => if sp b i < a then reactB b i * ((a - sp b i : Int) : Rat) else 0) (List.range b.supports.length)) 3300200 := (ht2.mono (by simp only [List.length_cons, List.length_nil, List.length_range]; omega)).cast (by rw [prod3]; rfl)
  refine gcall (loop_sumG (w := b.loads) (fun t q c => Xq t q c) (fun x => 0 - (if x.at_ < a then (x.weight : Rat) * (a - x.at_) else 0)) 7 (by omega) ht2 ?_ (fun t => gfe (decide_eq_false (by show ¬ (((b.loads.length : Nat) : Int) < ((b.loads.length : Nat) : Int)); omega)))) ?_
  · intro k hk t q ht
    obtain ⟨x0, x1, x2, x3⟩ := hb.ld _ (List.getElem_mem hk)
    have w1 : IntKind.i64.wrap ((k : Int) + 1) = ((k + 1 : Nat) : Int) := by rw [wrap64 (by omega) (by omega)]; omega
    refine gt (decide_eq_true (by show (k : Int) < ((b.loads.length : Nat) : Int); omega)) (goo (idx_nat hk) ?_)
    by_cases hle : b.loads[k].at_ < a
    · have w2 : IntKind.i64.wrap (a - b.loads[k].at_) = a - b.loads[k].at_ := wrap64 (by omega) (by omega)
      obtain ⟨v, v1, v2⟩ := f_eproduct 1 [b.loads[k].weight, a - b.loads[k].at_] (by omega) (by omega) (by omega) (by intro y hy; simp at hy; omega) (by simp)
      obtain ⟨e, e1, e2⟩ := f_eless ht v2 (by omega) (by simp only [List.length_cons, List.length_nil]; omega)
      refine gbt (decide_eq_true hle) (goo (by rw [w2]; exact v1) (goo e1 (gs (gend ⟨e, by simp only [w1], (e2.mono (by simp only [List.length_cons, List.length_nil]; omega)).cast ?_⟩))))
      rw [if_pos hle, div_one', prod2, Rat.intCast_sub]; grind
    · refine gbf (decide_eq_false hle) (gs (gend ⟨t, by simp only [w1], ht.skip.cast ?_⟩))
      rw [if_neg hle]; grind
  rintro ⟨t', u'⟩ ht3
  rw [sumQ_neg] at ht3
  have ht3 : Xq t' (bendQ b a) _ := ht3.cast (by unfold bendQ overQ lds; rw [sumQ_map]; grind)
  exact go (f_fraction ht3) (gend rfl)
end Go.Proofs.Ytbamoboldhabjaa

/- All weight is borne; the moments of a beam that doesn't tilt. -/
namespace Go.Proofs.Ytbamoboldhabjaa
set_option linter.unusedVariables false
set_option linter.unusedSimpArgs false

def wgtQ (b : TBeam) : Rat := (b.even : Rat) * b.length / 1000 + sumQ (fun x : Ld => (x.2 : Rat)) (lds b.loads)
def leQ (w : List Ld) (a : Int) : Rat := sumQ (fun x => if x.1 ≤ a then (x.2 : Rat) else 0) w
theorem le_split (w : List Ld) (a : Int) : leQ w a = atQ w a + sumQ (fun x => if x.1 < a then (x.2 : Rat) else 0) w := by
  unfold leQ atQ
  rw [← sumQ_add]
  apply sumQ_congr
  intro x _
  rcases Int.lt_trichotomy x.1 a with h | h | h
  · rw [if_pos (by omega), if_neg (by omega), if_pos h]; grind
  · rw [if_pos (by omega), if_pos h, if_neg (by omega)]; grind
  · rw [if_neg (by omega), if_neg (by omega), if_neg (by omega)]; grind
theorem le_next (w : List Ld) {a c : Int} (h : a < c) : leQ w c = leQ w a + sumQ (fun x => if x.1 ≤ a ∨ c ≤ x.1 then 0 else (x.2 : Rat)) w + atQ w c := by
  unfold leQ atQ
  rw [← sumQ_add, ← sumQ_add]
  apply sumQ_congr
  intro x _
  rcases Int.lt_or_le a x.1 with h1 | h1
  · rcases Int.lt_trichotomy x.1 c with h2 | h2 | h2
    · rw [if_pos (by omega), if_neg (by omega), if_neg (by omega), if_neg (by omega)]; grind
    · rw [if_pos (by omega), if_neg (by omega), if_pos (by omega), if_pos h2]; grind
    · rw [if_neg (by omega), if_neg (by omega), if_pos (by omega), if_neg (by omega)]; grind
  · rw [if_pos (by omega), if_pos h1, if_pos (.inl h1), if_neg (by omega)]; grind
theorem le_end {L : Int} {w : List Ld} (s : Int) : leQ w s + sumQ (fun x => if x.1 < L - s then (x.2 : Rat) else 0) (turnW L w) = sumQ (fun x => (x.2 : Rat)) w := by
  unfold leQ turnW
  rw [sumQ_map, ← sumQ_add]
  apply sumQ_congr
  intro x _
  simp only
  by_cases h : x.1 ≤ s
  · rw [if_pos h, if_neg (by omega)]; grind
  · rw [if_neg h, if_pos (by omega)]; grind
theorem sumN_congr {f g : Nat → Rat} : ∀ (n : Nat), (∀ i, i < n → f i = g i) → sumN f n = sumN g n
  | 0, _ => rfl
  | n + 1, h => by simp only [sumN]; rw [sumN_congr n fun i hi => h i (by omega), h n (by omega)]
theorem sumQ_range (f : Nat → Rat) : ∀ (n : Nat), sumQ f (List.range n) = sumN f n
  | 0 => rfl
  | n + 1 => by rw [List.range_succ, sumQ_append, sumQ_range f n]; simp only [sumQ, sumN]; grind
theorem sumN_cut (f : Nat → Rat) (j : Nat) : ∀ (n : Nat), j ≤ n → (∀ i, j ≤ i → i < n → f i = 0) → sumN f n = sumN f j
  | 0, h, _ => by rw [show j = 0 from by omega]
  | n + 1, h, hz => by
    rcases Nat.lt_or_ge n j with h1 | h1
    · rw [show j = n + 1 from by omega]
    · simp only [sumN]
      rw [sumN_cut f j n h1 fun i a b => hz i a (by omega), hz n h1 (by omega)]
      grind
theorem sumN_arm (r s : Nat → Rat) (a : Rat) : ∀ (n : Nat), sumN (fun i => r i * (a - s i)) n = sumN r n * a - sumN (fun i => r i * s i) n
  | 0 => by simp only [sumN]; grind
  | n + 1 => by simp only [sumN]; rw [sumN_arm r s a n]; grind
/-- What all supports to the left bear, and their moments. -/
def Fk (b : TBeam) (k : Nat) : Rat := sumN (reactB b) k
def Tk (b : TBeam) (k : Nat) : Rat := sumN (fun i => reactB b i * (sp b i : Rat)) k
theorem cast_sub' (a c : Int) : ((a - c : Int) : Rat) = (a : Rat) - (c : Rat) := Rat.intCast_sub a c
theorem gp_ne {b : TBeam} (hs : SupOk b) {i : Nat} (h : i + 1 < b.supports.length) : gp b i ≠ 0 := by
  have := gp_pos hs i h
  grind
theorem equil {b : TBeam} (hb : BeamIn b) (hs : SupOk b) (ht : ¬ tilt b) : ∀ (k : Nat), k < b.supports.length →
    (Fk b (k + 1) = if k + 1 < b.supports.length then (b.even : Rat) * (sp b k : Rat) / 1000 + leQ (lds b.loads) (sp b k) + (leverQ b.even (lds b.loads) (sp b k) (sp b (k + 1)) true + (momB b (k + 1) - momB b k) / gp b k) else wgtQ b) ∧
    Fk b (k + 1) * (sp b k : Rat) - Tk b (k + 1) = momB b k + overQ b.even (lds b.loads) (sp b k) := by
  intro k
  have hfin : ∀ k, k + 1 = b.supports.length → (b.even : Rat) * (sp b k : Rat) / 1000 + leQ (lds b.loads) (sp b k) + beyondQ b.even (turnW b.length (lds b.loads)) (b.length - sp b k) = wgtQ b := by
    intro k hk
    have h1 := le_end (L := b.length) (w := lds b.loads) (sp b k)
    unfold beyondQ wgtQ
    rw [cast_sub']
    grind
  induction k with
  | zero =>
    intro h0
    have hr : reactB b 0 = atQ (lds b.loads) (sp b 0) + 0 + (if 0 + 1 < b.supports.length then leverQ b.even (lds b.loads) (sp b 0) (sp b (0 + 1)) true + (momB b (0 + 1) - momB b 0) / gp b 0 else 0) + beyondQ b.even (lds b.loads) (sp b 0) + (if 0 + 1 = b.supports.length then beyondQ b.even (turnW b.length (lds b.loads)) (b.length - sp b 0) else 0) := by
      unfold reactB reactQ
      rw [if_neg (by omega), if_pos rfl]
      rfl
    have hF : Fk b (0 + 1) = reactB b 0 := by unfold Fk; simp only [sumN]; grind
    have hT : Tk b (0 + 1) = reactB b 0 * (sp b 0 : Rat) := by unfold Tk; simp only [sumN]; grind
    have hl := le_split (lds b.loads) (sp b 0)
    have hM : momB b 0 = fstQ b := by
      unfold momB
      by_cases h1 : b.supports.length = 1
      · have := Classical.byContradiction fun h3 => ht ⟨h1, h3⟩
        rw [show (0 : Nat) = b.supports.length - 1 from by omega, mom_last]
        exact this.symm
      · rw [mom_first _ _ _ _ (by omega)]
    constructor
    · rw [hF, hr]
      by_cases h1 : 0 + 1 < b.supports.length
      · rw [if_pos h1, if_pos h1, if_neg (by omega)]
        unfold beyondQ
        grind
      · have h2 : 0 + 1 = b.supports.length := by omega
        have h3 := hfin 0 h2
        rw [if_neg h1, if_neg h1, if_pos h2, ← h3, hl]
        unfold beyondQ
        grind
    · rw [hF, hT, hM]
      unfold fstQ
      grind
  | succ k ih =>
    intro h0
    obtain ⟨h1, h2⟩ := ih (by omega)
    rw [if_pos (by omega)] at h1
    have hlt : sp b k < sp b (k + 1) := hs.inc k (by omega)
    have hr : reactB b (k + 1) = atQ (lds b.loads) (sp b (k + 1)) + (leverQ b.even (lds b.loads) (sp b k) (sp b (k + 1)) false + (momB b k - momB b (k + 1)) / gp b k) + (if k + 1 + 1 < b.supports.length then leverQ b.even (lds b.loads) (sp b (k + 1)) (sp b (k + 1 + 1)) true + (momB b (k + 1 + 1) - momB b (k + 1)) / gp b (k + 1) else 0) + 0 + (if k + 1 + 1 = b.supports.length then beyondQ b.even (turnW b.length (lds b.loads)) (b.length - sp b (k + 1)) else 0) := by
      unfold reactB reactQ
      rw [if_pos (show 0 < k + 1 by omega), if_neg (show ¬ k + 1 = 0 by omega)]
      rfl
    have hF : Fk b (k + 1 + 1) = Fk b (k + 1) + reactB b (k + 1) := rfl
    have hT : Tk b (k + 1 + 1) = Tk b (k + 1) + reactB b (k + 1) * (sp b (k + 1) : Rat) := rfl
    have hbo := lever_both (E := b.even) (w := lds b.loads) hlt
    have hln := le_next (lds b.loads) hlt
    have hov := over_next (E := b.even) (w := lds b.loads) hlt
    have hg := gp_ne hs (i := k) (by omega)
    have hgd : ((sp b (k + 1) - sp b k : Int) : Rat) = gp b k := rfl
    have hgs : gp b k = (sp b (k + 1) : Rat) - (sp b k : Rat) := cast_sub' _ _
    rw [hgd] at hbo hov
    have hcut : (b.even : Rat) * (sp b (k + 1) : Rat) / 1000 + leQ (lds b.loads) (sp b (k + 1)) = Fk b (k + 1) + (atQ (lds b.loads) (sp b (k + 1)) + (leverQ b.even (lds b.loads) (sp b k) (sp b (k + 1)) false + (momB b k - momB b (k + 1)) / gp b k)) := by
      rw [h1, hln]
      have e : (momB b (k + 1) - momB b k) / gp b k + (momB b k - momB b (k + 1)) / gp b k = 0 := by grind
      grind
    constructor
    · rw [hF, hr]
      by_cases h3 : k + 1 + 1 < b.supports.length
      · rw [if_pos h3, if_pos h3, if_neg (by omega)]
        grind
      · have h4 : k + 1 + 1 = b.supports.length := by omega
        have h5 := hfin (k + 1) h4
        rw [if_neg h3, if_neg h3, if_pos h4, ← h5]
        grind
    · rw [hF, hT]
      have e1 : gp b k * ((momB b (k + 1) - momB b k) / gp b k) = momB b (k + 1) - momB b k := by grind
      have e2 : (Fk b (k + 1) + reactB b (k + 1)) * (sp b (k + 1) : Rat) - (Tk b (k + 1) + reactB b (k + 1) * (sp b (k + 1) : Rat)) = (Fk b (k + 1) * (sp b k : Rat) - Tk b (k + 1)) + gp b k * Fk b (k + 1) := by
        rw [hgs]; grind
      rw [e2, h2, hov]
      have e3 : leQ (lds b.loads) (sp b k) = sumQ (fun x : Ld => if x.1 ≤ sp b k then (x.2 : Rat) else 0) (lds b.loads) := rfl
      rw [← e3]
      have e4 : gp b k * Fk b (k + 1) = gp b k * ((b.even : Rat) * (sp b k : Rat) / 1000 + leQ (lds b.loads) (sp b k)) + gp b k * leverQ b.even (lds b.loads) (sp b k) (sp b (k + 1)) true + gp b k * ((momB b (k + 1) - momB b k) / gp b k) := by
        rw [h1]; grind
      rw [e4, e1]
      grind
theorem all_weight {b : TBeam} (hb : BeamIn b) (hs : SupOk b) (ht : ¬ tilt b) : Fk b b.supports.length = wgtQ b := by
  have hn := hs.n1
  have h := (equil hb hs ht (b.supports.length - 1) (by omega)).1
  rw [if_neg (by omega), show b.supports.length - 1 + 1 = b.supports.length from by omega] at h
  exact h
theorem mom_end {b : TBeam} (hs : SupOk b) : momB b (b.supports.length - 1) = lstQ b := by
  unfold momB; rw [mom_last]
theorem sp_mono {b : TBeam} (hs : SupOk b) {i : Nat} : ∀ {j : Nat}, i ≤ j → j < b.supports.length → sp b i ≤ sp b j := by
  intro j
  induction j with
  | zero => intro h _; rw [show i = 0 from by omega]; omega
  | succ j ih =>
    intro h hj
    rcases Nat.lt_or_ge i (j + 1) with h1 | h1
    · have := ih (by omega) (by omega)
      have : sp b j < sp b (j + 1) := hs.inc j hj
      omega
    · rw [show i = j + 1 from by omega]; omega
theorem mom_start {b : TBeam} (hs : SupOk b) (ht : ¬ tilt b) : momB b 0 = fstQ b := by
  have hn := hs.n1
  unfold momB
  by_cases h1 : b.supports.length = 1
  · have := Classical.byContradiction fun h3 => ht ⟨h1, h3⟩
    rw [show (0 : Nat) = b.supports.length - 1 from by omega, mom_last]
    exact this.symm
  · rw [mom_first _ _ _ _ (by omega)]
theorem mom_eqs {b : TBeam} (hs : SupOk b) {i : Nat} (h : i + 2 < b.supports.length) : gp b i * momB b i + 2 * (gp b i + gp b (i + 1)) * momB b (i + 1) + gp b (i + 1) * momB b (i + 2) = Rp b (i + 1) :=
  mom_three (fun j hj => gp_pos hs j hj) h
theorem sp_lt {b : TBeam} (hs : SupOk b) {i j : Nat} (h : i < j) (hj : j < b.supports.length) : sp b i < sp b j := by
  have h1 := sp_mono hs (i := i) (j := j - 1) (by omega) (by omega)
  have h2 : sp b (j - 1) < sp b j := by
    obtain ⟨k, rfl⟩ : ∃ k, j = k + 1 := ⟨j - 1, by omega⟩
    exact hs.inc k hj
  omega
end Go.Proofs.Ytbamoboldhabjaa

/- Exact numbers: Make. -/
namespace Go.Proofs.Ytbamoboldhabjaa

end Go.Proofs.Ytbamoboldhabjaa

/- Exact numbers: the product is in its lowest terms. -/
namespace Go.Proofs.Ytbamoboldhabjaa

theorem cop_mul {n1 d1 n2 d2 : Nat} (h1 : Nat.gcd n1 d1 = 1) (h2 : Nat.gcd n2 d2 = 1) (p1 : 0 < d1) (p2 : 0 < d2) :
    Nat.gcd ((n1 / Nat.gcd n1 d2) * (n2 / Nat.gcd n2 d1)) ((d1 / Nat.gcd n2 d1) * (d2 / Nat.gcd n1 d2)) = 1 := by
  have a1 : Nat.Coprime (n1 / Nat.gcd n1 d2) (d2 / Nat.gcd n1 d2) := Nat.gcd_div_gcd_div_gcd_of_pos_right p2
  have a2 : Nat.Coprime (n2 / Nat.gcd n2 d1) (d1 / Nat.gcd n2 d1) := Nat.gcd_div_gcd_div_gcd_of_pos_right p1
  have a3 : Nat.Coprime (n1 / Nat.gcd n1 d2) (d1 / Nat.gcd n2 d1) := Nat.Coprime.coprime_dvd_left (Nat.div_dvd_of_dvd (Nat.gcd_dvd_left _ _)) (Nat.Coprime.coprime_dvd_right (Nat.div_dvd_of_dvd (Nat.gcd_dvd_right _ _)) h1)
  have a4 : Nat.Coprime (n2 / Nat.gcd n2 d1) (d2 / Nat.gcd n1 d2) := Nat.Coprime.coprime_dvd_left (Nat.div_dvd_of_dvd (Nat.gcd_dvd_left _ _)) (Nat.Coprime.coprime_dvd_right (Nat.div_dvd_of_dvd (Nat.gcd_dvd_right _ _)) h2)
  exact Nat.Coprime.mul_left (Nat.Coprime.mul_right a3 a1) (Nat.Coprime.mul_right a2 a4)
theorem mul_red {n1 n2 : Int} {d1 d2 : Nat} (p1 : 0 < d1) (p2 : 0 < d2) (h1 : Nat.gcd n1.natAbs d1 = 1) (h2 : Nat.gcd n2.natAbs d2 = 1) {p q : Nat}
    (hp : p = (n1.natAbs / Nat.gcd n1.natAbs d2) * (n2.natAbs / Nat.gcd n2.natAbs d1)) (hq : q = (d1 / Nat.gcd n2.natAbs d1) * (d2 / Nat.gcd n1.natAbs d2)) :
    Nat.gcd (n1 * n2).natAbs (d1 * d2) = Nat.gcd n1.natAbs d2 * Nat.gcd n2.natAbs d1 ∧ (n1 * n2).natAbs / (Nat.gcd n1.natAbs d2 * Nat.gcd n2.natAbs d1) = p ∧ d1 * d2 / (Nat.gcd n1.natAbs d2 * Nat.gcd n2.natAbs d1) = q := by
  have hc := cop_mul h1 h2 p1 p2
  have g1 : 0 < Nat.gcd n1.natAbs d2 := Nat.gcd_pos_of_pos_right _ p2
  have g2 : 0 < Nat.gcd n2.natAbs d1 := Nat.gcd_pos_of_pos_right _ p1
  have e1 := Nat.div_mul_cancel (Nat.gcd_dvd_left n1.natAbs d2)
  have e2 := Nat.div_mul_cancel (Nat.gcd_dvd_left n2.natAbs d1)
  have e3 := Nat.div_mul_cancel (Nat.gcd_dvd_right n1.natAbs d2)
  have e4 := Nat.div_mul_cancel (Nat.gcd_dvd_right n2.natAbs d1)
  rw [← hp, ← hq] at hc
  have en : (n1 * n2).natAbs = p * (Nat.gcd n1.natAbs d2 * Nat.gcd n2.natAbs d1) := by
    rw [Int.natAbs_mul, hp]
    generalize Nat.gcd n1.natAbs d2 = u at *
    generalize Nat.gcd n2.natAbs d1 = v at *
    conv => lhs; rw [← e1, ← e2]
    grind
  have ed : d1 * d2 = q * (Nat.gcd n1.natAbs d2 * Nat.gcd n2.natAbs d1) := by
    rw [hq]
    generalize Nat.gcd n1.natAbs d2 = u at *
    generalize Nat.gcd n2.natAbs d1 = v at *
    conv => lhs; rw [← e3, ← e4]
    grind
  have gg := Nat.mul_pos g1 g2
  rw [en, ed]
  refine ⟨?_, Nat.mul_div_cancel _ gg, Nat.mul_div_cancel _ gg⟩
  rw [Nat.gcd_mul_right, hc, Nat.one_mul]
end Go.Proofs.Ytbamoboldhabjaa

/- Exact numbers: Mul. -/
namespace Go.Proofs.Ytbamoboldhabjaa

theorem RV.w {a : TFrac} (h : RV a) : RW a := ⟨by have := h.d0; omega, by have := h.d1; omega, by have := h.n0; omega, by have := h.n1; omega⟩
theorem rv_true {a : TFrac} (h : RV a) : F_ratio_Valid a = some true := by
  obtain ⟨v, e, i⟩ := f_qvalid h.w
  rw [e, i.mpr h]
theorem rv_false {a : TFrac} (w : RW a) (h : ¬ RV a) : F_ratio_Valid a = some false := by
  obtain ⟨v, e, i⟩ := f_qvalid w
  cases v
  · exact e
  · exact absurd (i.mp rfl) h
theorem f_rmul_bad {a b : TFrac} (wa : RW a) (wb : RW b) (h : ¬ (RV a ∧ RV b)) : F_ratio_Mul a b = some (⟨0, 0⟩, 1) := by
  unfold F_ratio_Mul
  by_cases ha : RV a
  · rw [rv_true ha, rv_false wb (fun hb => h ⟨ha, hb⟩)]
    simp only [Option.bind_some, Bool.not_true, Bool.not_false, cond_true, cond_false]
  · rw [rv_false wa ha]
    simp only [Option.bind_some, Bool.not_false, cond_true]
theorem f_rmul {a b : TFrac} (ha : RV a) (hb : RV b) : F_ratio_Mul a b = some (outQ (qOf a * qOf b)) := by
  obtain ⟨an, ad⟩ := a
  obtain ⟨bn, bd⟩ := b
  obtain ⟨x0, x1, x2, x3, x4⟩ := id ha
  obtain ⟨y0, y1, y2, y3, y4⟩ := id hb
  dsimp only at *
  obtain ⟨d1, rfl⟩ := Int.eq_ofNat_of_zero_le (show 0 ≤ ad by omega)
  obtain ⟨d2, rfl⟩ := Int.eq_ofNat_of_zero_le (show 0 ≤ bd by omega)
  rw [Int.toNat_natCast] at x4 y4
  unfold F_ratio_Mul
  rw [rv_true ha, rv_true hb]
  simp only [Option.bind_some, Bool.not_true, cond_false]
  rw [f_size (by omega) (by omega), f_size (by omega) (by omega)]
  simp only [Option.bind_some, wrapu]
  rw [show (d2 : Int) % 18446744073709551616 = d2 from by omega, show (d1 : Int) % 18446744073709551616 = d1 from by omega, f_gcd _ _ (by unfold big; omega), f_gcd _ _ (by unfold big; omega)]
  simp only [Option.bind_some]
  have g1 : 0 < Nat.gcd an.natAbs d2 := Nat.gcd_pos_of_pos_right _ (by omega)
  have g2 : 0 < Nat.gcd bn.natAbs d1 := Nat.gcd_pos_of_pos_right _ (by omega)
  obtain ⟨hg, hp, hq⟩ := mul_red (n1 := an) (n2 := bn) (d1 := d1) (d2 := d2) (by omega) (by omega) x4 y4 rfl rfl
  have hout := out_red (n := an * bn) (d := d1 * d2) (Nat.ne_of_gt (Nat.mul_pos (by omega) (by omega))) hg
  rw [hp, hq] at hout
  rw [show qOf ⟨an, d1⟩ * qOf ⟨bn, d2⟩ = mkRat (an * bn) (d1 * d2) from by unfold qOf; exact Rat.mkRat_mul_mkRat _ _ _ _, hout]
  have dv (u v w : Nat) (hw : u ≤ w) : u / v ≤ w := Nat.le_trans (Nat.div_le_self _ _) hw
  have k1 := dv an.natAbs (Nat.gcd an.natAbs d2) 1152921504606846976 (by omega)
  have k2 := dv bn.natAbs (Nat.gcd bn.natAbs d1) 1152921504606846976 (by omega)
  have k3 := dv d1 (Nat.gcd bn.natAbs d1) 1152921504606846976 (by omega)
  have k4 := dv d2 (Nat.gcd an.natAbs d2) 1152921504606846976 (by omega)
  have tm (u v : Nat) : (u : Int).tdiv (v : Int) = ((u / v : Nat) : Int) := by rw [Int.tdiv_eq_ediv_of_nonneg (by omega), Int.natCast_ediv]
  simp only [tm]
  have hz : an * bn = 0 ↔ an.natAbs / Nat.gcd an.natAbs d2 * (bn.natAbs / Nat.gcd bn.natAbs d1) = 0 := by
    have e := Nat.div_mul_cancel (show Nat.gcd an.natAbs d2 * Nat.gcd bn.natAbs d1 ∣ (an * bn).natAbs from by rw [← hg]; exact Nat.gcd_dvd_left _ _)
    rw [hp] at e
    rw [← Int.natAbs_eq_zero, ← e]
    simp [Nat.mul_eq_zero, Nat.ne_of_gt g1, Nat.ne_of_gt g2]
  generalize an.natAbs / Nat.gcd an.natAbs d2 = A at *
  generalize bn.natAbs / Nat.gcd bn.natAbs d1 = B at *
  generalize d1 / Nat.gcd bn.natAbs d1 = C at *
  generalize d2 / Nat.gcd an.natAbs d2 = E at *
  have i1 : ((Nat.gcd an.natAbs d2 : Nat) : Int) ≠ 0 := by omega
  have i2 : ((Nat.gcd bn.natAbs d1 : Nat) : Int) ≠ 0 := by omega
  rw [if_neg i2, if_neg i1, if_neg i1, if_neg i2]
  rw [show (A : Int) % 18446744073709551616 = A from by omega, show (B : Int) % 18446744073709551616 = B from by omega, show (C : Int) % 18446744073709551616 = C from by omega, show (E : Int) % 18446744073709551616 = E from by omega]
  rw [f_product (by omega) (by omega) (by omega) (by omega), f_product (by omega) (by omega) (by omega) (by omega)]
  simp only [Option.bind_some]
  rw [← Int.natCast_mul, ← Int.natCast_mul]
  have hs : an * bn ≠ 0 → (!((decide (an < 0)) == (decide (bn < 0)))) = decide (an * bn < 0) := by
    intro h
    have h1 : an ≠ 0 := by rintro rfl; simp at h
    have h2 : bn ≠ 0 := by rintro rfl; simp at h
    by_cases c1 : an < 0 <;> by_cases c2 : bn < 0
    · have := Int.mul_pos_of_neg_of_neg c1 c2; simp [c1, c2]; omega
    · have := Int.mul_neg_of_neg_of_pos c1 (show 0 < bn by omega); simp [c1, c2, this]
    · have := Int.mul_neg_of_pos_of_neg (show 0 < an by omega) c2; simp [c1, c2, this]
    · have := Int.mul_pos (show 0 < an by omega) (show 0 < bn by omega); simp [c1, c2]; omega
  generalize A * B = p at *
  generalize C * E = q at *
  by_cases c1 : (p : Int) / 18446744073709551616 > 0
  · rw [decide_eq_true c1, if_neg (by omega)]
    simp only [cond_true, Option.bind_some]
  · rw [decide_eq_false c1]
    simp only [cond_false, Option.bind_some]
    by_cases c2 : (q : Int) / 18446744073709551616 > 0
    · rw [decide_eq_true c2, if_neg (by omega)]
      simp only [cond_true]
    · rw [decide_eq_false c2, cond_false, show (p : Int) % 18446744073709551616 = p from by omega, show (q : Int) % 18446744073709551616 = q from by omega]
      rw [f_signed (by omega) (by omega) (by omega) (by omega), f_signed (by omega) (by omega) (by omega) (by omega)]
      have hcond : ((p : Int) ≤ 1152921504606846976 ∧ (q : Int) ≤ 1152921504606846976) ↔ (p ≤ 1152921504606846976 ∧ q ≤ 1152921504606846976) := by omega
      by_cases h0 : (p : Int) > 0
      · rw [decide_eq_true h0, hs (by intro h; have := hz.mp h; omega)]
        simp only [cond_true, Option.bind_some, hcond, decide_eq_true_eq]
      · obtain rfl : p = 0 := by omega
        rw [decide_eq_false h0, hz.mpr rfl]
        simp only [cond_false, Option.bind_some, hcond]
        rfl
end Go.Proofs.Ytbamoboldhabjaa

/- Valid fractions by both readers; Check of the program. -/
namespace Go.Proofs.Ytbamoboldhabjaa
set_option linter.unusedVariables false
set_option linter.unusedSimpArgs false

noncomputable def validF (a : TFrac) : Bool := @decide (RV a) (Classical.propDecidable _)
theorem validF_iff (a : TFrac) : validF a = true ↔ RV a := by
  unfold validF
  exact @decide_eq_true_iff _ (Classical.propDecidable _)
theorem f_cvalid {a : TFrac} (w : RW a) : F_ratio_Valid a = some (validF a) := by
  obtain ⟨v, h1, h2⟩ := f_qvalid w
  rw [h1]
  congr 1
  rw [Bool.eq_iff_iff, h2, validF_iff]
def trnQ (b : TBeam) : Rat := (b.even : Rat) * b.length * b.length / 2000 + sumQ (fun x : Ld => (x.2 : Rat) * x.1) (lds b.loads)
/-- These reactions hold the beam. -/
def holdsR (b : TBeam) (l : List Rat) : Prop := sumQ (fun x => x) l = wgtQ b ∧ sumQ (fun p : Rat × Int => p.1 * p.2) (l.zip b.supports) = trnQ b
theorem zip_q (r : List TFrac) (l : List Int) : sumQ (fun p : Rat × Int => p.1 * p.2) ((r.map qOf).zip l) = sumQ (fun p : TFrac × Int => qOf p.1 * p.2) (r.zip l) := by
  rw [List.zip_map_left, sumQ_map]; rfl
theorem q_div {a : TFrac} (h : RV a) : qOf a = (a.num : Rat) / (a.den : Rat) := by
  obtain ⟨e1, e2⟩ := q_num h
  have := q_mul (qOf a)
  rw [e1, e2] at this
  have := int_ne (show a.den ≠ 0 by have := h.d0; omega)
  grind
theorem f_check_bad {b : TBeam} {r : List TFrac} (hw : SmallB b) (hr : ∀ a ∈ r, RW a) (hl : r.length ≤ 1000000) (h : validBm b = false ∨ r.all validF = false) : F_beam_Check b r = some (false, 1) := by
  apply gs_eq
  unfold F_beam_Check
  refine goo (f_bvalid hw.name hw.sup hw.ld) ?_
  cases hv : validBm b with
  | false => exact gbt rfl (gs (gt rfl (gend rfl)))
  | true =>
    have h2 : r.all validF = false := by
      rcases h with h | h
      · rw [hv] at h; cases h
      · exact h
    refine gbf rfl (goo (f_slices_ContainsFunc_api_Frac r (by omega) (fun z7 => F_beam_Check_1 z7) (fun x => !validF x) (fun x hx => by
      unfold F_beam_Check_1
      rw [f_cvalid (hr x hx)]; rfl)) (gs (gt ?_ (gend rfl))))
    show r.any (fun x => !validF x) = true
    rw [List.all_eq_not_any_not] at h2
    simpa using h2
theorem f_check_size {b : TBeam} {r : List TFrac} (hw : SmallB b) (hr : ∀ a ∈ r, RW a) (hl : r.length ≤ 1000000) (h1 : validBm b = true) (h2 : r.all validF = true) (h3 : r.length ≠ b.supports.length) : F_beam_Check b r = some (false, 3) := by
  apply gs_eq
  unfold F_beam_Check
  refine goo (f_bvalid hw.name hw.sup hw.ld) (gbf (by rw [h1]; rfl) (goo (f_slices_ContainsFunc_api_Frac r (by omega) (fun z7 => F_beam_Check_1 z7) (fun x => !validF x) (fun x hx => by
      unfold F_beam_Check_1
      rw [f_cvalid (hr x hx)]; rfl)) (gs (gf ?_ (gt (by rw [bne_iff_ne]; omega) (gend rfl))))))
  show r.any (fun x => !validF x) = false
  rw [List.all_eq_not_any_not] at h2
  simpa using h2
set_option maxHeartbeats 1000000 in
theorem f_check {b : TBeam} {r : List TFrac} (hw : SmallB b) (hr : ∀ a ∈ r, RW a) (hl : r.length ≤ 1000000) (h1 : validBm b = true) (h2 : r.all validF = true) (h3 : r.length = b.supports.length) : Gs (F_beam_Check b r) fun v => v.2 = 0 ∧ (v.1 = true ↔ holdsR b (r.map qOf)) := by
  obtain ⟨hb, hs⟩ := valid_in h1
  have hlb := hb.l1
  have hl0 := hb.l0
  have he0 := hb.e0
  have he1 := hb.e1
  have hln := hb.ln
  have hn := hs.n10
  unfold F_beam_Check
  refine goo (f_bvalid hw.name hw.sup hw.ld) (gbf (by rw [h1]; rfl) (goo (f_slices_ContainsFunc_api_Frac r (by omega) (fun z7 => F_beam_Check_1 z7) (fun x => !validF x) (fun x hx => by
      unfold F_beam_Check_1
      rw [f_cvalid (hr x hx)]; rfl)) (gs (gf ?_ (gf (by rw [h3]; simp) ?_)))))
  · show r.any (fun x => !validF x) = false
    rw [List.all_eq_not_any_not] at h2
    simpa using h2
  obtain ⟨p, p1, p2⟩ := f_eproduct 1000 [b.even, b.length] (by omega) (by omega) (by omega) (by intro x hx; simp at hx; omega) (by simp)
  obtain ⟨q, q1, q2⟩ := f_eproduct 2000 [b.even, b.length, b.length] (by omega) (by omega) (by omega) (by intro x hx; simp at hx; omega) (by simp)
  refine goo p1 (goo q1 (gs ?_))
  refine gloop (fun s : Texact × Texact × Unit => Xq s.1 (wgtQ b) 126 ∧ Xq s.2.1 (trnQ b) 288)
    (fun k s => k ≤ b.loads.length ∧ ∃ t u, s = ((k : Int), t, u, ()) ∧ Xq t ((b.even : Rat) * b.length / 1000 + sumQ (fun x : TLoad => (x.weight : Rat)) (b.loads.take k)) (6 + 3 * k) ∧ Xq u ((b.even : Rat) * b.length * b.length / 2000 + sumQ (fun x : TLoad => (x.weight : Rat) * x.at_) (b.loads.take k)) (8 + 7 * k)) b.loads.length (by unfold big; omega) ⟨Nat.zero_le _, p, q, rfl, p2.cast ?_, q2.cast ?_⟩ ?_ ?_
  · rw [prod2]; simp only [List.take_zero, sumQ]; rw [Rat.add_zero]; rfl
  · rw [prod3]; simp only [List.take_zero, sumQ]; rw [Rat.add_zero]; rfl
  · rintro k s hk ⟨_, t, u, rfl, ht, hu⟩
    rcases Nat.lt_or_ge k b.loads.length with hlt | hge
    · obtain ⟨x0, x1, x2, x3⟩ := hb.ld _ (List.getElem_mem hlt)
      have hst := sumQ_take (fun x : TLoad => (x.weight : Rat)) hlt
      have hsu := sumQ_take (fun x : TLoad => (x.weight : Rat) * x.at_) hlt
      have hx := idx_nat hlt
      obtain ⟨a, a1, a2⟩ := f_whole b.loads[k].weight (by omega) (by omega)
      obtain ⟨c, c1, c2⟩ := f_eplus ht a2 (by omega) (by omega)
      obtain ⟨d, d1, d2⟩ := f_eproduct 1 [b.loads[k].weight, b.loads[k].at_] (by omega) (by omega) (by omega) (by intro x hx; simp at hx; omega) (by simp)
      obtain ⟨e, e1, e2⟩ := f_eplus hu d2 (by omega) (by simp only [List.length_cons, List.length_nil]; omega)
      refine gt (decide_eq_true (by show (k : Int) < ((b.loads.length : Nat) : Int); omega)) (go hx (go a1 (go c1 (go d1 (go e1 (gend ⟨hlt, hlt, c, e, ?_, (c2.mono (by omega)).cast ?_, (e2.mono (by simp only [List.length_cons, List.length_nil]; omega)).cast ?_⟩))))))
      · show (IntKind.i64.wrap ((k : Int) + 1), c, e, ()) = _
        rw [wrap64 (by omega) (by omega)]; rfl
      · rw [hst]; grind
      · rw [hsu, div_one', prod2]; grind
    · have : k = b.loads.length := by omega
      subst this
      rw [List.take_length] at ht hu
      refine gf (decide_eq_false (by show ¬ ((b.loads.length : Nat) : Int) < ((b.loads.length : Nat) : Int); omega)) (gend ⟨(ht.mono (by omega)).cast ?_, (hu.mono (by omega)).cast ?_⟩)
      · unfold wgtQ lds; rw [sumQ_map]
      · unfold trnQ lds; rw [sumQ_map]
  · rintro ⟨t0, u0, x⟩ ⟨ht0, hu0⟩
    have hz : (r.zip b.supports).length = r.length := by rw [List.length_zip]; omega
    refine gloop (fun s : Texact × Texact × Unit => Xq s.1 (wgtQ b - sumQ (fun p : TFrac × Int => qOf p.1) (r.zip b.supports)) 156 ∧ Xq s.2.1 (trnQ b - sumQ (fun p : TFrac × Int => qOf p.1 * p.2) (r.zip b.supports)) 338)
      (fun k s => k ≤ r.length ∧ ∃ t u, s = ((k : Int), t, u, ()) ∧ Xq t (wgtQ b - sumQ (fun p : TFrac × Int => qOf p.1) ((r.zip b.supports).take k)) (126 + 3 * k) ∧ Xq u (trnQ b - sumQ (fun p : TFrac × Int => qOf p.1 * p.2) ((r.zip b.supports).take k)) (288 + 5 * k)) r.length (by unfold big; omega) ⟨Nat.zero_le _, t0, u0, rfl, ht0.cast ?_, hu0.cast ?_⟩ ?_ ?_
    · simp only [List.take_zero, sumQ]; grind
    · simp only [List.take_zero, sumQ]; grind
    · rintro k s hk ⟨_, t, u, rfl, ht, hu⟩
      rcases Nat.lt_or_ge k r.length with hlt | hge
      · have hst := sumQ_take (fun p : TFrac × Int => qOf p.1) (l := r.zip b.supports) (k := k) (by omega)
        have hsu := sumQ_take (fun p : TFrac × Int => qOf p.1 * p.2) (l := r.zip b.supports) (k := k) (by omega)
        have hzk : (r.zip b.supports)[k]'(by omega) = (r[k], b.supports[k]'(by omega)) := List.getElem_zip
        rw [hzk] at hst hsu
        have hx := idx_nat hlt
        have hy := idx_nat (l := b.supports) (k := k) (by omega)
        have hsr := hs.rg _ (List.getElem_mem (l := b.supports) (n := k) (by omega))
        rw [List.all_eq_true] at h2
        have hv := (validF_iff _).1 (h2 _ (List.getElem_mem hlt))
        have v0 := hv.d0; have v1 := hv.d1; have v2 := hv.n0; have v3 := hv.n1
        have hqd := q_div hv
        simp only at hst hsu
        obtain ⟨a, a1, a2⟩ := f_eover r[k].num r[k].den (by omega) (by omega) (by omega) (by omega) (by omega)
        rw [← hqd] at a2
        obtain ⟨c, c1, c2⟩ := f_eless ht a2 (by omega) (by omega)
        obtain ⟨d, d1, d2⟩ := f_whole (b.supports[k]'(by omega)) (by omega) (by omega)
        obtain ⟨e, e1, e2⟩ := f_etimes a2 d2 (by omega) (by omega)
        obtain ⟨f, f1, f2⟩ := f_eless hu e2 (by omega) (by omega)
        refine gt (decide_eq_true (by show (k : Int) < ((r.length : Nat) : Int); omega)) (go hx (go a1 (go hy (go c1 (go d1 (go e1 (go f1 (gend ⟨hlt, hlt, c, f, ?_, (c2.mono (by omega)).cast ?_, (f2.mono (by omega)).cast ?_⟩))))))))
        · show (IntKind.i64.wrap ((k : Int) + 1), c, f, ()) = _
          rw [wrap64 (by omega) (by omega)]; rfl
        · rw [hst]; grind
        · rw [hsu]; grind
      · have : k = r.length := by omega
        subst this
        rw [← hz, List.take_length] at ht hu
        exact gf (decide_eq_false (by show ¬ ((r.length : Nat) : Int) < ((r.length : Nat) : Int); omega)) (gend ⟨ht.mono (by omega), hu.mono (by omega)⟩)
    · rintro ⟨t, u, x⟩ ⟨ht, hu⟩
      obtain ⟨s1, s11, s12, _⟩ := f_sign ht.n
      obtain ⟨s2, s21, s22, _⟩ := f_sign hu.n
      rw [Rat.num_eq_zero] at s12 s22
      have hw1 : sumQ (fun x => x) (r.map qOf) = sumQ (fun p : TFrac × Int => qOf p.1) (r.zip b.supports) := by
        rw [sumQ_map]
        have : (r.zip b.supports).map Prod.fst = r := List.map_fst_zip (by omega)
        conv => lhs; rw [← this, sumQ_map]
      have hH : holdsR b (r.map qOf) ↔ s1 = 0 ∧ s2 = 0 := by
        unfold holdsR
        rw [hw1, zip_q, s12, s22]
        constructor
        · rintro ⟨a, c⟩; exact ⟨by grind, by grind⟩
        · rintro ⟨a, c⟩; exact ⟨by grind, by grind⟩
      refine goo s11 ?_
      by_cases h0 : s1 = 0
      · refine gbt (by rw [h0]; rfl) (goo s21 (gs (gend ⟨rfl, ?_⟩)))
        show (s2 == 0) = true ↔ _
        rw [beq_iff_eq, hH]
        exact ⟨fun h => ⟨h0, h⟩, fun h => h.2⟩
      · refine gbf (by rw [beq_eq_false_iff_ne]; exact h0) (gs (gend ⟨rfl, ?_⟩))
        show false = true ↔ _
        rw [hH]
        simp [h0]
end Go.Proofs.Ytbamoboldhabjaa

/- The reactions hold the beam; the bending at the supports is the moment there, and nothing is left at the ends. -/
namespace Go.Proofs.Ytbamoboldhabjaa
set_option linter.unusedVariables false
set_option linter.unusedSimpArgs false

theorem bend_of {b : TBeam} {a : Int} {k : Nat} (hk : k ≤ b.supports.length) (h1 : ∀ i, i < k → sp b i ≤ a) (h2 : ∀ i, k ≤ i → i < b.supports.length → a ≤ sp b i) : bendQ b a = 0 - overQ b.even (lds b.loads) a + (Fk b k * (a : Rat) - Tk b k) := by
  unfold bendQ Fk Tk
  rw [sumQ_range, sumN_cut _ k _ hk (fun i a1 a2 => by rw [if_neg (by have := h2 i a1 a2; omega)]), ← sumN_arm]
  congr 1
  apply sumN_congr
  intro i hi
  have := h1 i hi
  by_cases h : sp b i < a
  · rw [if_pos h, cast_sub']
  · have : a = sp b i := by omega
    rw [if_neg h, this]; grind
theorem bend_support {b : TBeam} (hb : BeamIn b) (hs : SupOk b) (ht : ¬ tilt b) {j : Nat} (hj : j < b.supports.length) : bendQ b (sp b j) = momB b j := by
  rw [bend_of (k := j + 1) (by omega) (fun i hi => sp_mono hs (by omega) hj) (fun i h1 h2 => sp_mono hs (by omega) h2), (equil hb hs ht j hj).2]
  grind
theorem bend_zero {b : TBeam} (hb : BeamIn b) (hs : SupOk b) : bendQ b 0 = 0 := by
  rw [bend_of (k := 0) (Nat.zero_le _) (fun i hi => absurd hi (Nat.not_lt_zero i)) (fun i _ h => (sp_rg hs h).1)]
  have : overQ b.even (lds b.loads) 0 = 0 := by
    unfold overQ lds
    rw [sumQ_map, sumQ_congr (g := fun _ => (0 : Rat)) (fun x hx => by rw [if_neg (by have := hb.ld x hx; unfold LoadOk at this; simp only; omega)]), sumQ_zero]
    have : ((0 : Int) : Rat) = 0 := rfl
    rw [this]; grind
  rw [this]
  unfold Fk Tk
  simp only [sumN]
  grind
theorem lds_le {b : TBeam} (hb : BeamIn b) : ∀ x ∈ lds b.loads, x.1 ≤ b.length := by
  intro x hx
  unfold lds at hx
  obtain ⟨y, hy, rfl⟩ := List.mem_map.1 hx
  exact (hb.ld y hy).2.1
theorem bend_last {b : TBeam} (hb : BeamIn b) (hs : SupOk b) (ht : ¬ tilt b) : Fk b b.supports.length * (b.length : Rat) - Tk b b.supports.length = overQ b.even (lds b.loads) b.length := by
  have hn := hs.n1
  have h := (equil hb hs ht (b.supports.length - 1) (by omega)).2
  rw [show b.supports.length - 1 + 1 = b.supports.length from by omega] at h
  have hm := mom_end hs
  have hw := all_weight hb hs ht
  have ho := over_end (E := b.even) (lds_le hb) (sp_rg hs (i := b.supports.length - 1) (by omega)).2
  have hmm : momB b (b.supports.length - 1) = 0 - overQ b.even (turnW b.length (lds b.loads)) (b.length - sp b (b.supports.length - 1)) := hm
  have hwq : wgtQ b = (b.even : Rat) * b.length / 1000 + sumQ (fun x : Ld => (x.2 : Rat)) (lds b.loads) := rfl
  rw [← hwq] at ho
  rw [ho, cast_sub']
  rw [hmm] at h
  rw [hw] at h ⊢
  grind
theorem bend_length {b : TBeam} (hb : BeamIn b) (hs : SupOk b) (ht : ¬ tilt b) : bendQ b b.length = 0 := by
  rw [bend_of (k := b.supports.length) (Nat.le_refl _) (fun i hi => (sp_rg hs hi).2) (fun i h1 h2 => absurd h2 (by omega)), bend_last hb hs ht]
  grind
theorem shear_length {b : TBeam} (hb : BeamIn b) (hs : SupOk b) (ht : ¬ tilt b) : shearQ b b.length = 0 := by
  unfold shearQ
  rw [sumQ_range, sumN_congr (g := reactB b) _ (fun i hi => by rw [if_pos (sp_rg hs hi).2])]
  have h1 : sumN (reactB b) b.supports.length = wgtQ b := all_weight hb hs ht
  have h2 : sumQ (fun x : TLoad => if x.at_ ≤ b.length then (x.weight : Rat) else 0) b.loads = sumQ (fun x : Ld => (x.2 : Rat)) (lds b.loads) := by
    unfold lds
    rw [sumQ_map]
    exact sumQ_congr fun x hx => by rw [if_pos (hb.ld x hx).2.1]
  rw [h1, h2]
  unfold wgtQ
  grind
theorem zip_range {f : Nat → Rat} : ∀ (l : List Int) (n : Nat), sumQ (fun p : Rat × Int => p.1 * p.2) (((List.range' n l.length).map f).zip l) = sumQ (fun i => f i * (l.getD (i - n) 0 : Rat)) (List.range' n l.length)
  | [], n => rfl
  | x :: l, n => by
    simp only [List.length_cons, List.range'_succ, List.map_cons, List.zip_cons_cons, sumQ]
    rw [zip_range l (n + 1)]
    have e0 : (x :: l).getD (n - n) 0 = x := by rw [Nat.sub_self]; rfl
    rw [e0]
    congr 1
    apply sumQ_congr
    intro i hi
    have h := List.mem_range'.1 hi
    obtain ⟨j, hj, rfl⟩ := h
    rw [show n + 1 + 1 * j - n = j + 1 from by omega, show n + 1 + 1 * j - (n + 1) = j from by omega]
    rfl
theorem holds_rea {b : TBeam} (hb : BeamIn b) (hs : SupOk b) (ht : ¬ tilt b) : holdsR b (reaL b) := by
  have h1 : sumN (reactB b) b.supports.length = wgtQ b := all_weight hb hs ht
  unfold holdsR reaL
  constructor
  · rw [sumQ_map, sumQ_range]; exact h1
  · rw [List.range_eq_range', zip_range b.supports 0, ← List.range_eq_range', sumQ_range]
    have h2 : sumN (fun i => reactB b i * (b.supports.getD (i - 0) 0 : Rat)) b.supports.length = Tk b b.supports.length := rfl
    rw [h2]
    have h3 := bend_last hb hs ht
    have h4 : Fk b b.supports.length = wgtQ b := h1
    rw [h4] at h3
    have h5 : overQ b.even (lds b.loads) b.length = (b.even : Rat) * b.length * b.length / 2000 + ((b.length : Rat) * sumQ (fun x : Ld => (x.2 : Rat)) (lds b.loads) - sumQ (fun x : Ld => (x.2 : Rat) * x.1) (lds b.loads)) := by
      unfold overQ
      rw [← sumQ_mul, ← sumQ_sub]
      congr 1
      apply sumQ_congr
      intro x hx
      have := lds_le hb x hx
      by_cases h : x.1 < b.length
      · rw [if_pos h]; grind
      · have : x.1 = b.length := by omega
        rw [if_neg h, this]; grind
    rw [h5] at h3
    unfold wgtQ at h3
    unfold trnQ
    grind
end Go.Proofs.Ytbamoboldhabjaa

/- Exact numbers: Div. -/
namespace Go.Proofs.Ytbamoboldhabjaa

theorem q_inv {b c : TFrac} (hb : RV b) (hc : c.den = b.num ∧ c.num = b.den ∧ 0 < b.num ∨ c.den = -b.num ∧ c.num = -b.den ∧ b.num < 0) : RV c ∧ qOf c = (qOf b)⁻¹ := by
  obtain ⟨n, d⟩ := b
  obtain ⟨x, y⟩ := c
  obtain ⟨y0, y1, y2, y3, y4⟩ := id hb
  dsimp only at *
  have e : (qOf ⟨n, d⟩)⁻¹ = Rat.divInt d n := by
    unfold qOf
    rw [← Rat.divInt_ofNat, Rat.inv_divInt]
    congr 1
    show ((d.toNat : Nat) : Int) = d
    omega
  rw [e]
  rcases hc with ⟨rfl, rfl, h⟩ | ⟨rfl, rfl, h⟩
  · refine ⟨⟨by dsimp only; omega, by dsimp only; omega, by dsimp only; omega, by dsimp only; omega, ?_⟩, ?_⟩
    · dsimp only
      rw [Nat.gcd_comm, show y.toNat = y.natAbs from by omega, show x.natAbs = x.toNat from by omega]; exact y4
    · unfold qOf
      rw [← Rat.divInt_ofNat]
      congr 1
      show ((y.toNat : Nat) : Int) = y
      omega
  · refine ⟨⟨by dsimp only; omega, by dsimp only; omega, by dsimp only; omega, by dsimp only; omega, ?_⟩, ?_⟩
    · dsimp only
      rw [Nat.gcd_comm, show (-n).toNat = n.natAbs from by omega, show (-d).natAbs = d.toNat from by omega]; exact y4
    · unfold qOf
      rw [← Rat.divInt_ofNat, ← Rat.neg_divInt_neg d n]
      congr 1
      show (((-n).toNat : Nat) : Int) = -n
      omega
end Go.Proofs.Ytbamoboldhabjaa

/- Exact numbers: Cmp. -/
namespace Go.Proofs.Ytbamoboldhabjaa

theorem q_lt {a b : TFrac} (ha : RV a) (hb : RV b) : qOf a < qOf b ↔ a.num * b.den < b.num * a.den := by
  rw [Rat.lt_iff, (q_num ha).1, (q_num ha).2, (q_num hb).1, (q_num hb).2]
theorem wok_prod {x y : Int} (hx : 0 ≤ x) (hx2 : x < 18446744073709551616) (hy : 0 ≤ y) (hy2 : y < 18446744073709551616) : F_ratio_product x y = some (ofV (x * y)) ∧ WOk (ofV (x * y)) := by
  refine ⟨f_product hx hx2 hy hy2, wok_of (Int.mul_nonneg hx hy) ?_⟩
  have : x * y ≤ 18446744073709551615 * 18446744073709551615 := Int.mul_le_mul (by omega) (by omega) hy (by omega)
  omega
end Go.Proofs.Ytbamoboldhabjaa

/- Exact numbers: the sum in its lowest terms. -/
namespace Go.Proofs.Ytbamoboldhabjaa

theorem int_gcd_add {n1 n2 : Int} {e1 e2 : Nat} (h1 : Nat.gcd n1.natAbs e1 = 1) (h : Nat.gcd e2 e1 = 1) : Nat.gcd (n1 * e2 + n2 * e1).natAbs e1 = 1 := by
  have e : Int.gcd (n1 * e2 + n2 * e1) e1 = Int.gcd (n1 * e2) e1 := by
    rw [Int.gcd_add_mul_right_left]
  have e2' : Int.gcd (n1 * e2) e1 = Nat.gcd (n1.natAbs * e2) e1 := by
    show Nat.gcd (n1 * e2).natAbs e1 = _
    rw [Int.natAbs_mul]; rfl
  show Int.gcd (n1 * e2 + n2 * e1) e1 = 1
  rw [e, e2']
  exact Nat.Coprime.mul_left h1 h
theorem add_red {n1 n2 : Int} {e1 e2 g : Nat} (p1 : 0 < e1) (p2 : 0 < e2) (hg : 0 < g) (h1 : Nat.gcd n1.natAbs (e1 * g) = 1) (h2 : Nat.gcd n2.natAbs (e2 * g) = 1) (hc : Nat.gcd e1 e2 = 1) :
    mkRat n1 (e1 * g) + mkRat n2 (e2 * g) = mkRat (n1 * e2 + n2 * e1) (e1 * e2 * g) ∧ Nat.gcd (n1 * e2 + n2 * e1).natAbs (e1 * e2 * g) = Nat.gcd (n1 * e2 + n2 * e1).natAbs g := by
  constructor
  · rw [Rat.mkRat_add_mkRat _ _ (Nat.ne_of_gt (Nat.mul_pos p1 hg)) (Nat.ne_of_gt (Nat.mul_pos p2 hg))]
    rw [show n1 * ((e2 * g : Nat) : Int) + n2 * ((e1 * g : Nat) : Int) = (n1 * e2 + n2 * e1) * (g : Int) from by rw [Int.natCast_mul, Int.natCast_mul]; grind, show e1 * g * (e2 * g) = e1 * e2 * g * g from by grind]
    exact Rat.mkRat_mul_right (by omega)
  · have a1 : Nat.Coprime n1.natAbs e1 := Nat.Coprime.coprime_dvd_right (Nat.dvd_mul_right _ _) h1
    have a2 : Nat.Coprime n2.natAbs e2 := Nat.Coprime.coprime_dvd_right (Nat.dvd_mul_right _ _) h2
    have b1 : Nat.Coprime (n1 * e2 + n2 * e1).natAbs e1 := int_gcd_add a1 (by rw [Nat.gcd_comm]; exact hc)
    have b2 : Nat.Coprime (n1 * e2 + n2 * e1).natAbs e2 := by rw [Int.add_comm]; exact int_gcd_add a2 hc
    exact Nat.Coprime.gcd_mul_left_cancel_right _ (Nat.Coprime.mul_right b1 b2).symm
end Go.Proofs.Ytbamoboldhabjaa

/- Exact numbers: Add. -/
namespace Go.Proofs.Ytbamoboldhabjaa

theorem f_radd_bad {a b : TFrac} (wa : RW a) (wb : RW b) (h : ¬ (RV a ∧ RV b)) : F_ratio_Add a b = some (⟨0, 0⟩, 1) := by
  unfold F_ratio_Add
  by_cases ha : RV a
  · rw [rv_true ha, rv_false wb (fun hb => h ⟨ha, hb⟩)]
    simp only [Option.bind_some, Bool.not_true, Bool.not_false, cond_true, cond_false]
  · rw [rv_false wa ha]
    simp only [Option.bind_some, Bool.not_false, cond_true]
/-- The sign and the size of a sum of two numbers given by sign and size. -/
theorem sum_sign {x y : Int} {p q : Twide} (hp : WOk p) (hq : WOk q) (ep : wv p = x.natAbs) (eq : wv q = y.natAbs) (hb : (x.natAbs : Int) + y.natAbs < 340282366920938463463374607431768211456)
    {u v : Bool} (hu : x ≠ 0 → u = decide (x < 0)) (hv : y ≠ 0 → v = decide (y < 0)) :
    ∃ n : Bool, (((bif (u == v) then (F_ratio_plus p q).bind fun r16 => some (u, r16, ()) else (F_ratio_less p q).bind fun r17 => (bif r17 then (F_ratio_minus q p).bind fun r18 => some ((!u), r18, ()) else (F_ratio_minus p q).bind fun r19 => some (u, r19, ()))) : Option (Bool × Twide × Unit))) = some (n, ofV ((x + y).natAbs : Int), ()) ∧ (x + y ≠ 0 → n = decide (x + y < 0)) := by
  rw [f_less hp hq, ep, eq]
  by_cases huv : u = v
  · subst huv
    rw [beq_self_eq_true, cond_true, f_plus hp hq (by rw [ep, eq]; exact hb), ep, eq]
    by_cases hx : x = 0
    · subst hx
      exact ⟨u, by rw [show ((0 : Int).natAbs : Int) + y.natAbs = ((0 + y).natAbs : Int) from by omega]; rfl, fun h => by rw [hv (by omega)]; simp⟩
    · have hu := hu hx
      by_cases hy : y = 0
      · subst hy
        exact ⟨u, by rw [show (x.natAbs : Int) + (0 : Int).natAbs = ((x + 0).natAbs : Int) from by omega]; rfl, fun h => by rw [hu]; simp⟩
      · have hv := hv hy
        have hs : decide (x < 0) = decide (y < 0) := by rw [← hu, hv]
        have hs := decide_eq_decide.mp hs
        refine ⟨u, by rw [show (x.natAbs : Int) + y.natAbs = ((x + y).natAbs : Int) from by omega]; rfl, fun h => ?_⟩
        rw [hu]
        apply decide_eq_decide.mpr
        omega
  · rw [beq_eq_false_iff_ne.mpr huv, cond_false, Option.bind_some]
    by_cases hl : (x.natAbs : Int) < y.natAbs
    · rw [decide_eq_true hl, cond_true, f_minus hq hp (by rw [ep, eq]; omega), ep, eq]
      have hv := hv (by omega)
      have hnu : (!u) = v := by cases u <;> cases v <;> simp at huv ⊢
      by_cases hx : x = 0
      · subst hx
        refine ⟨!u, by rw [show (y.natAbs : Int) - (0 : Int).natAbs = ((0 + y).natAbs : Int) from by omega]; rfl, fun h => ?_⟩
        rw [hnu, hv]; simp
      · have hu := hu hx
        have hs : (!decide (x < 0)) = decide (y < 0) := by rw [← hu, ← hv]; exact hnu
        have hs : ¬ x < 0 ↔ y < 0 := by rw [← decide_not] at hs; exact decide_eq_decide.mp hs
        refine ⟨!u, by rw [show (y.natAbs : Int) - x.natAbs = ((x + y).natAbs : Int) from by omega]; rfl, fun h => ?_⟩
        rw [hnu, hv]
        apply decide_eq_decide.mpr
        omega
    · rw [decide_eq_false hl, cond_false, f_minus hp hq (by rw [ep, eq]; omega), ep, eq]
      by_cases hx : x = 0
      · subst hx
        have : y = 0 := by omega
        subst this
        exact ⟨u, rfl, fun h => absurd rfl h⟩
      · have hu := hu hx
        by_cases hy : y = 0
        · subst hy
          exact ⟨u, by rw [show (x.natAbs : Int) - (0 : Int).natAbs = ((x + 0).natAbs : Int) from by omega]; rfl, fun h => by rw [hu]; simp⟩
        · have hv := hv hy
          have hnu : (!u) = v := by cases u <;> cases v <;> simp at huv ⊢
          have hs : (!decide (x < 0)) = decide (y < 0) := by rw [← hu, ← hv]; exact hnu
          have hs : ¬ x < 0 ↔ y < 0 := by rw [← decide_not] at hs; exact decide_eq_decide.mp hs
          refine ⟨u, by rw [show (x.natAbs : Int) - y.natAbs = ((x + y).natAbs : Int) from by omega]; rfl, fun h => ?_⟩
          rw [hu]
          apply decide_eq_decide.mpr
          omega
end Go.Proofs.Ytbamoboldhabjaa

/- Exact numbers: Add, Sub. -/
namespace Go.Proofs.Ytbamoboldhabjaa

theorem ofv_nat (n : Nat) : ofV (n : Int) = ⟨((n / 18446744073709551616 : Nat) : Int), ((n % 18446744073709551616 : Nat) : Int)⟩ := by
  unfold ofV
  congr 1
theorem f_radd {a b : TFrac} (ha : RV a) (hb : RV b) : F_ratio_Add a b = some (outQ (qOf a + qOf b)) := by
  obtain ⟨n1, ad⟩ := a
  obtain ⟨n2, bd⟩ := b
  obtain ⟨x0, x1, x2, x3, x4⟩ := id ha
  obtain ⟨y0, y1, y2, y3, y4⟩ := id hb
  dsimp only at *
  obtain ⟨d1, rfl⟩ := Int.eq_ofNat_of_zero_le (show 0 ≤ ad by omega)
  obtain ⟨d2, rfl⟩ := Int.eq_ofNat_of_zero_le (show 0 ≤ bd by omega)
  rw [Int.toNat_natCast] at x4 y4
  unfold F_ratio_Add
  rw [rv_true ha, rv_true hb]
  simp only [Option.bind_some, Bool.not_true, cond_false, wrapu]
  rw [show (d2 : Int) % 18446744073709551616 = d2 from by omega, show (d1 : Int) % 18446744073709551616 = d1 from by omega, f_gcd _ _ (by unfold big; omega)]
  simp only [Option.bind_some]
  have hg : 0 < Nat.gcd d1 d2 := Nat.gcd_pos_of_pos_right _ (by omega)
  have hc : Nat.gcd (d1 / Nat.gcd d1 d2) (d2 / Nat.gcd d1 d2) = 1 := Nat.gcd_div_gcd_div_gcd_of_pos_right (by omega)
  have hd1 := Nat.div_mul_cancel (Nat.gcd_dvd_left d1 d2)
  have hd2 := Nat.div_mul_cancel (Nat.gcd_dvd_right d1 d2)
  have hq1 := Nat.div_le_self d1 (Nat.gcd d1 d2)
  have hq2 := Nat.div_le_self d2 (Nat.gcd d1 d2)
  have hgle : Nat.gcd d1 d2 ≤ d1 := Nat.gcd_le_left _ (by omega)
  have tm (u v : Nat) : (u : Int).tdiv (v : Int) = ((u / v : Nat) : Int) := by rw [Int.tdiv_eq_ediv_of_nonneg (by omega), Int.natCast_ediv]
  have hp1 : 0 < d1 / Nat.gcd d1 d2 := Nat.div_pos hgle hg
  have hp2 : 0 < d2 / Nat.gcd d1 d2 := Nat.div_pos (Nat.gcd_le_right _ (by omega)) hg
  have ea : qOf ⟨n1, d1⟩ + qOf ⟨n2, d2⟩ = mkRat n1 d1 + mkRat n2 d2 := rfl
  rw [ea]
  simp only [tm]
  generalize Nat.gcd d1 d2 = g at *
  generalize he1 : d1 / g = e1 at *
  generalize he2 : d2 / g = e2 at *
  have hi : ((g : Nat) : Int) ≠ 0 := by omega
  simp only [if_neg hi]
  rw [f_size (by omega) (by omega), f_size (by omega) (by omega)]
  simp only [Option.bind_some]
  rw [show (e1 : Int) % 18446744073709551616 = e1 from by omega, show (e2 : Int) % 18446744073709551616 = e2 from by omega]
  obtain ⟨p1, k1⟩ := wok_prod (x := (n1.natAbs : Int)) (y := (e2 : Int)) (by omega) (by omega) (by omega) (by omega)
  obtain ⟨p2, k2⟩ := wok_prod (x := (n2.natAbs : Int)) (y := (e1 : Int)) (by omega) (by omega) (by omega) (by omega)
  rw [p1, p2]
  simp only [Option.bind_some]
  rw [← hd1] at x4
  rw [← hd2] at y4
  obtain ⟨es, eg⟩ := add_red (n1 := n1) (n2 := n2) hp1 hp2 hg x4 y4 hc
  rw [show mkRat n1 d1 + mkRat n2 d2 = mkRat (n1 * e2 + n2 * e1) (e1 * e2 * g) from by rw [← hd1, ← hd2]; exact es]
  have ab1 : ((n1.natAbs : Int) * (e2 : Int)) = ((n1 * e2).natAbs : Int) := by rw [Int.natAbs_mul]; rfl
  have ab2 : ((n2.natAbs : Int) * (e1 : Int)) = ((n2 * e1).natAbs : Int) := by rw [Int.natAbs_mul]; rfl
  have b1 : ((n1 * e2).natAbs : Int) ≤ 1329227995784915872903807060280344576 := by
    rw [← ab1]; exact Int.le_trans (Int.mul_le_mul (show (n1.natAbs : Int) ≤ 1152921504606846976 by omega) (show (e2 : Int) ≤ 1152921504606846976 by omega) (by omega) (by omega)) (by decide)
  have b2 : ((n2 * e1).natAbs : Int) ≤ 1329227995784915872903807060280344576 := by
    rw [← ab2]; exact Int.le_trans (Int.mul_le_mul (show (n2.natAbs : Int) ≤ 1152921504606846976 by omega) (show (e1 : Int) ≤ 1152921504606846976 by omega) (by omega) (by omega)) (by decide)
  have sg (n : Int) (e : Nat) (he : 0 < e) : decide (n < 0) = decide (n * e < 0) := by
    apply decide_eq_decide.mpr
    constructor
    · intro h; exact Int.mul_neg_of_neg_of_pos h (by omega)
    · intro h
      rcases Int.lt_or_le n 0 with h1 | h1
      · exact h1
      · have := Int.mul_nonneg h1 (show (0 : Int) ≤ e by omega); omega
  obtain ⟨n, hsum, hn⟩ := sum_sign (x := n1 * e2) (y := n2 * e1) k1 k2 (by rw [wv_of, ab1]) (by rw [wv_of, ab2]) (by omega) (u := decide (n1 < 0)) (v := decide (n2 < 0)) (fun _ => sg n1 e2 hp2) (fun _ => sg n2 e1 hp1)
  rw [hsum]
  simp only [Option.bind_some]
  have hg18 : g ≤ 1152921504606846976 := by omega
  have hM : ((n1 * e2 + n2 * e1).natAbs : Int) ≤ 2658455991569831745807614120560689152 := by omega
  by_cases h0 : n1 * e2 + n2 * e1 = 0
  · rw [h0]
    rw [show (((ofV ((0 : Int).natAbs : Int)).hi == 0) && ((ofV ((0 : Int).natAbs : Int)).lo == 0)) = true from by decide, cond_true, Rat.zero_mkRat]
    rfl
  · have hMp : 0 < (n1 * e2 + n2 * e1).natAbs := by omega
    have hn' := hn h0
    subst hn'
    rw [out_red (n := n1 * e2 + n2 * e1) (d := e1 * e2 * g) (g := Nat.gcd (n1 * e2 + n2 * e1).natAbs g) (Nat.ne_of_gt (Nat.mul_pos (Nat.mul_pos hp1 hp2) hg)) eg]
    have hcg : Nat.gcd (n1 * e2 + n2 * e1).natAbs g ∣ g := Nat.gcd_dvd_right _ _
    have hcp : 0 < Nat.gcd (n1 * e2 + n2 * e1).natAbs g := Nat.gcd_pos_of_pos_right _ hg
    have hcle := Nat.le_of_dvd hg hcg
    have hrec : Nat.gcd g ((n1 * e2 + n2 * e1).natAbs % g) = Nat.gcd (n1 * e2 + n2 * e1).natAbs g := by
      rw [Nat.gcd_comm g, ← Nat.gcd_rec, Nat.gcd_comm]
    generalize hMd : (n1 * e2 + n2 * e1).natAbs = M at *
    generalize hC : Nat.gcd M g = c at *
    have hnz : (((ofV (M : Int)).hi == 0) && ((ofV (M : Int)).lo == 0)) = false := by
      rw [ofv_nat]
      simp only [Bool.and_eq_false_iff, beq_eq_false_iff_ne]
      omega
    rw [hnz, cond_false, f_over (wok_of (by omega) (by omega)) (by omega) (by omega), wv_of]
    simp only [Option.bind_some]
    rw [show (M : Int) % (g : Int) = ((M % g : Nat) : Int) from (Int.natCast_emod _ _).symm, f_gcd _ _ (by have := Nat.mod_lt M hg; unfold big; omega), hrec]
    simp only [Option.bind_some]
    rw [f_over (wok_of (by omega) (by omega)) (by omega) (by omega), wv_of]
    simp only [Option.bind_some]
    have hcI : ((c : Nat) : Int) ≠ 0 := by omega
    rw [if_neg hcI]
    have hd2c : d2 / c ≤ d2 := Nat.div_le_self _ _
    have hden : e1 * e2 * g / c = e1 * (d2 / c) := by
      rw [Nat.mul_assoc, hd2, Nat.mul_div_assoc]
      exact Nat.dvd_trans hcg ⟨e2, by rw [← hd2, Nat.mul_comm]⟩
    rw [tm, hden]
    generalize d2 / c = q at *
    rw [show ((q : Nat) : Int) % 18446744073709551616 = ((q : Nat) : Int) from by omega]
    rw [f_product (by omega) (by omega) (by omega) (by omega)]
    simp only [Option.bind_some]
    rw [show (M : Int) / (c : Int) = ((M / c : Nat) : Int) from (Int.natCast_ediv _ _).symm, ← Int.natCast_mul, ofv_nat]
    generalize M / c = u at *
    generalize e1 * q = v at *
    by_cases c1 : ((u / 18446744073709551616 : Nat) : Int) > 0
    · rw [decide_eq_true c1, if_neg (by omega)]
      simp only [cond_true, Option.bind_some]
    · rw [decide_eq_false c1]
      simp only [cond_false, Option.bind_some]
      by_cases c2 : (v : Int) / 18446744073709551616 > 0
      · rw [decide_eq_true c2, if_neg (by omega)]
        simp only [cond_true]
      · rw [decide_eq_false c2, cond_false, f_signed (by omega) (by omega) (by omega) (by omega)]
        rw [show ((u % 18446744073709551616 : Nat) : Int) = u from by omega, show (v : Int) % 18446744073709551616 = v from by omega]
        have hcond : ((u : Int) ≤ 1152921504606846976 ∧ (v : Int) ≤ 1152921504606846976) ↔ (u ≤ 1152921504606846976 ∧ v ≤ 1152921504606846976) := by omega
        simp only [Option.bind_some, hcond, decide_eq_true_eq]
end Go.Proofs.Ytbamoboldhabjaa

/- What several sentences on beams use. -/
namespace Go.Proofs.Ytbamoboldhabjaa
set_option linter.unusedVariables false
set_option linter.unusedSimpArgs false

theorem f_sameB (a : TBeam) (hs : a.supports.length ≤ 1000000) (hl : a.loads.length ≤ 1000000) : F_ref20_Same a a = some true := by
  apply gs_eq
  unfold F_ref20_Same
  have h0 : ((bif (!(a.name.toList == a.name.toList)) then some (true, ()) else (bif (a.length != a.length) then some (true, ()) else (bif (a.even != a.even) then some (true, ()) else (bif (((a.supports.length : Nat) : Int) != ((a.supports.length : Nat) : Int)) then some (true, ()) else some ((((a.loads.length : Nat) : Int) != ((a.loads.length : Nat) : Int)), ()))))) : Option (Bool × Unit)) = some (false, ()) := by
    simp
  refine go h0 (gf rfl ?_)
  refine gloop (fun r : (Bool × Unit) ⊕ Unit => r = .inr ()) (fun k s => s = ((k : Int), ())) a.supports.length (by unfold big; omega) rfl ?_ ?_
  · rintro k s hk rfl
    rcases Nat.lt_or_ge k a.supports.length with hlt | hge
    · refine gt (decide_eq_true (by show (k : Int) < ((a.supports.length : Nat) : Int); omega)) (go (idx_nat hlt) (go (idx_nat hlt) (gf (by simp) (gend ⟨hlt, ?_⟩))))
      show (IntKind.i64.wrap ((k : Int) + 1), ()) = _
      rw [wrap64 (by omega) (by omega)]; rfl
    · exact gf (decide_eq_false (by show ¬ (k : Int) < ((a.supports.length : Nat) : Int); omega)) (gend rfl)
  · rintro r rfl
    refine gloop (fun r : (Bool × Unit) ⊕ Unit => r = .inr ()) (fun k s => s = ((k : Int), ())) a.loads.length (by unfold big; omega) rfl ?_ ?_
    · rintro k s hk rfl
      rcases Nat.lt_or_ge k a.loads.length with hlt | hge
      · refine gt (decide_eq_true (by show (k : Int) < ((a.loads.length : Nat) : Int); omega)) (go (idx_nat hlt) (go (idx_nat hlt) (gf (by simp) (gend ⟨hlt, ?_⟩))))
        show (IntKind.i64.wrap ((k : Int) + 1), ()) = _
        rw [wrap64 (by omega) (by omega)]; rfl
      · exact gf (decide_eq_false (by show ¬ (k : Int) < ((a.loads.length : Nat) : Int); omega)) (gend rfl)
    · rintro r rfl
      exact gend rfl
theorem f_TurnedOk {b : TBeam} (hw : SmallB b) (h : validBm b = true) : F_beam_Turned b = some (turnB b, 0) := by
  obtain ⟨hb, hs⟩ := valid_in h
  unfold F_beam_Turned
  rw [f_bvalid hw.name hw.sup hw.ld, h]
  simp only [Option.bind_some, Bool.not_true, cond_false]
  rw [f_turned hb hs]; rfl
theorem f_TurnedBad {b : TBeam} (hw : SmallB b) (h : validBm b = false) : F_beam_Turned b = some (⟨⟨#[]⟩, 0, [], [], 0⟩, 1) := by
  unfold F_beam_Turned
  rw [f_bvalid hw.name hw.sup hw.ld, h]; rfl
theorem wfI {k : IntKind} {n : Int} (h : (Lit.int k n).wf = true) : k.min ≤ n ∧ n ≤ k.max := by
  simpa [Lit.wf] using h
theorem i64_of {n : Int} (h : (Lit.int .i64 n).wf = true) : -9223372036854775808 ≤ n ∧ n ≤ 9223372036854775807 := wfI h
theorem f_right (b : TBeam) : Gs (F_law20_right b) fun v => v = true ↔ longBm b = false ∧ validBm b = true ∧ ¬ tilt b := by
  unfold F_law20_right
  refine goo (f_long b) ?_
  cases hl : longBm b with
  | true => exact gbf rfl (gs (gend (by simp)))
  | false =>
    obtain ⟨hw, _, _⟩ := long_small hl
    refine gbt rfl (gcalll (h_given hw) fun r hr => gs (gend ?_))
    rcases hr with ⟨h1, h2⟩ | ⟨h1, h2, h3⟩ | ⟨h1, h2, h3⟩
    · subst h2
      show false = true ↔ _
      simp [h1]
    · subst h3
      show false = true ↔ _
      simp [h1, h2]
    · subst h3
      show true = true ↔ _
      simp [h1, h2]
theorem f_of20 (n : Int) : F_law20_of n = some ⟨n, 1⟩ := rfl
theorem fit_zero : fitQ (0 : Rat) := by unfold fitQ; decide
theorem out_zero : outQ (0 : Rat) = (⟨0, 1⟩, 0) := by rw [fr_fit fit_zero]; rfl
theorem outL_cases (l : List Rat) : (outL l = (l.map frQ, 0) ∧ ∀ q ∈ l, fitQ q) ∨ outL l = ([], 5) := by
  by_cases h : ∀ q ∈ l, fitQ q
  · exact .inl ⟨outL_fit h, h⟩
  · exact .inr (outL_big h)
theorem rv_all {l : List Rat} (h : ∀ q ∈ l, fitQ q) : ∀ a ∈ l.map frQ, RV a := by
  intro a ha
  obtain ⟨q, hq, rfl⟩ := List.mem_map.1 ha
  exact (fr_rv (h q hq)).1
theorem frq_all {l : List Rat} (h : ∀ q ∈ l, fitQ q) : (l.map frQ).map qOf = l := by
  rw [List.map_map]
  conv => rhs; rw [← List.map_id l]
  apply List.map_congr_left
  intro q hq
  exact (fr_rv (h q hq)).2
theorem u8_of {n : Int} (h : (Lit.int .u8 n).wf = true) : 0 ≤ n ∧ n ≤ 255 := wfI h
theorem u32_of {n : Int} (h : (Lit.int .u32 n).wf = true) : 0 ≤ n ∧ n ≤ 4294967295 := wfI h
end Go.Proofs.Ytbamoboldhabjaa

/- awake. -/
namespace Go.Proofs.Ytbamoboldhabjaa
theorem awake20 : F_law20_awake = some true := by kernel_rfl
end Go.Proofs.Ytbamoboldhabjaa

/- BeamHolds. -/
namespace Go.Proofs.Ytbamoboldhabjaa
set_option linter.unusedVariables false
set_option linter.unusedSimpArgs false

theorem f_cloneF (l : List TFrac) (h : l.length ≤ 1000000) : F_slices_Clone_api_Frac l = some l := by
  unfold F_slices_Clone_api_Frac
  rw [if_pos (by simp; omega)]; rfl
theorem valid_all {l : List TFrac} (h : ∀ a ∈ l, RV a) : l.all validF = true := by
  rw [List.all_eq_true]
  intro a ha
  exact (validF_iff a).2 (h a ha)
theorem reaL_cons {b : TBeam} (hs : SupOk b) : ∃ t, reaL b = reactB b 0 :: t := by
  have := hs.n1
  obtain ⟨n, hn⟩ : ∃ n, b.supports.length = n + 1 := ⟨b.supports.length - 1, by omega⟩
  unfold reaL
  rw [hn, List.range_succ_eq_map, List.map_cons]
  exact ⟨_, rfl⟩
/-- What holds the beam passes Check; a little more does not. -/
theorem check_rea {b : TBeam} (hw : SmallB b) (hv : validBm b = true) (ht : ¬ tilt b) (hf : ∀ q ∈ reaL b, fitQ q) : F_beam_Check b ((reaL b).map frQ) = some (true, 0) ∧ ∀ x : Rat, fitQ x → x ≠ reactB b 0 → F_beam_Check b (((reaL b).map frQ).set 0 (frQ x)) = some (false, 0) := by
  obtain ⟨hb, hs⟩ := valid_in hv
  have hn := hs.n10
  have hlen : (reaL b).length = b.supports.length := by unfold reaL; simp
  have hH := holds_rea hb hs ht
  constructor
  · obtain ⟨v, v1, v2, v3⟩ := f_check hw (fun a ha => (rv_all hf a ha).w) (by simp; omega) hv (valid_all (rv_all hf)) (by simp; omega)
    rw [frq_all hf] at v3
    rw [v1]
    obtain ⟨va, vb⟩ := v
    simp only at v2 v3
    rw [v2, v3.2 hH]
  · intro x hx hne
    obtain ⟨t, hrt⟩ := reaL_cons hs
    have e : ((reaL b).map frQ).set 0 (frQ x) = (x :: t).map frQ := by rw [hrt]; rfl
    have hf2 : ∀ q ∈ x :: t, fitQ q := by
      intro q hq
      rcases List.mem_cons.1 hq with h | h
      · subst h; exact hx
      · exact hf q (by rw [hrt]; exact List.mem_cons_of_mem _ h)
    have hlen2 : (x :: t).length = b.supports.length := by rw [← hlen, hrt]; rfl
    rw [e]
    obtain ⟨v, v1, v2, v3⟩ := f_check hw (fun a ha => (rv_all hf2 a ha).w) (by simp at hlen2 ⊢; omega) hv (valid_all (rv_all hf2)) (by simp at hlen2 ⊢; omega)
    rw [frq_all hf2] at v3
    rw [v1]
    obtain ⟨va, vb⟩ := v
    simp only at v2 v3
    have hnot : ¬ holdsR b (x :: t) := by
      rintro ⟨h1, _⟩
      have h2 := hH.1
      rw [hrt] at h2
      simp only [sumQ] at h1 h2
      apply hne
      grind
    have : va = false := by
      cases va with
      | false => rfl
      | true => exact absurd (v3.1 rfl) hnot
    rw [v2, this]
theorem main_BeamHolds (x0 : TBeam) (w0 : W_Beam x0) : F_law20_BeamHolds x0 = some true := by
  apply gs_eq
  unfold F_law20_BeamHolds
  refine go awake20 (gf rfl (gcall (f_right x0) fun v hv0 => ?_))
  cases hvv : v with
  | false => exact gt rfl (gend rfl)
  | true =>
    obtain ⟨hl, hv, ht⟩ := hv0.1 hvv
    obtain ⟨hw, _, _⟩ := long_small hl
    obtain ⟨hb, hs⟩ := valid_in hv
    have hn := hs.n10
    have hn1 := hs.n1
    have hl0 := hb.l0
    refine gf rfl (go (f_Reactions hw hv ht) (go (f_Moments hw hv ht) ?_))
    have h5 : ((bif ((outL (reaL x0)).2 != 0) then (bif ((outL (reaL x0)).2 != 5) then some (true, ()) else (bif ((outL (momL x0)).2 != 0) then some (((outL (momL x0)).2 != 5), ()) else some (false, ()))) else (bif ((outL (momL x0)).2 != 0) then some (((outL (momL x0)).2 != 5), ()) else some (false, ()))) : Option (Bool × Unit)) = some (false, ()) := by
      rcases outL_cases (reaL x0) with ⟨h1, _⟩ | h1 <;> rcases outL_cases (momL x0) with ⟨h2, _⟩ | h2 <;> rw [h1, h2] <;> rfl
    refine go h5 (gf rfl ?_)
    refine gcall (Q := fun y : (Bool × Unit) ⊕ Unit => y = .inr ()) ?_ ?_
    · rcases outL_cases (reaL x0) with ⟨h1, hf⟩ | h1
      · rw [h1]
        obtain ⟨c1, c2⟩ := check_rea hw hv ht hf
        obtain ⟨t, hrt⟩ := reaL_cons hs
        have hm : (reactB x0 0) ∈ reaL x0 := by rw [hrt]; exact List.mem_cons_self
        have g0 : ((reaL x0).map frQ)[0]? = some (frQ (reactB x0 0)) := by rw [hrt]; rfl
        have hlen : (reaL x0).length ≤ 10 := reaL_len hs
        have hrv := fr_rv (hf _ hm)
        have hone := fr_rvint (n := 1) (by decide)
        have hadd := f_radd hrv.1 hone.1
        rw [hrv.2, hone.2] at hadd
        refine gt rfl (go c1 (go rfl (gf rfl (go (f_cloneF _ (by simp; omega)) (go (idx_q (k := 0) g0) (go g0 (go (f_of20 1) (go hadd (go (idx_q (k := 0) g0) (go g0 ?_))))))))))
        by_cases hfit : fitQ (reactB x0 0 + ((1 : Int) : Rat))
        · rw [fr_fit hfit]
          have hne : reactB x0 0 + ((1 : Int) : Rat) ≠ reactB x0 0 := by
            have : ((1 : Int) : Rat) = 1 := rfl
            rw [this]
            intro h
            grind
          refine go (c2 _ hfit hne) (go rfl (gf rfl (gend rfl)))
        · rw [fr_big hfit]
          have hbad : F_beam_Check x0 (((reaL x0).map frQ).set 0 ⟨0, 0⟩) = some (false, 1) := by
            refine f_check_bad hw ?_ (by simp; omega) (.inr ?_)
            · intro a ha
              rcases List.mem_or_eq_of_mem_set ha with h | h
              · exact (rv_all hf a h).w
              · subst h; exact ⟨by decide, by decide, by decide, by decide⟩
            · rw [List.all_eq_false]
              refine ⟨⟨0, 0⟩, ?_, ?_⟩
              · rw [hrt]; simp
              · intro h
                have := ((validF_iff _).1 h).d0
                exact absurd this (by decide)
          refine go hbad (go rfl (gf rfl (gend rfl)))
      · rw [h1]
        exact gf rfl (gend rfl)
    rintro _ rfl
    refine gcall (Q := fun y : (Bool × Unit) ⊕ Unit => y = .inr ()) ?_ ?_
    · rcases outL_cases (momL x0) with ⟨h1, hf⟩ | h1
      · rw [h1]
        have hlen : ((momL x0).map frQ).length = x0.supports.length := by unfold momL; simp
        refine gt rfl (gf ?_ ?_)
        · show ((((((momL x0).map frQ).length : Nat) : Int) != ((x0.supports.length : Nat) : Int))) = false
          rw [hlen]; simp
        refine gloop (fun r : (Bool × Unit) ⊕ Unit => r = .inr ()) (fun k s => s = ((k : Int), ())) x0.supports.length (by unfold big; omega) rfl ?_ ?_
        · rintro k s hk rfl
          rcases Nat.lt_or_ge k x0.supports.length with hlt | hge
          · have rk := sp_rg hs hlt
            have hB := f_Bending hw hv rk.1 rk.2 ht
            rw [bend_support hb hs ht hlt, fr_fit (hf _ (by unfold momL; exact List.mem_map.2 ⟨k, List.mem_range.2 hlt, rfl⟩))] at hB
            have gk : ((momL x0).map frQ)[k]? = some (frQ (momB x0 k)) := by
              unfold momL
              rw [List.getElem?_map, List.getElem?_map, List.getElem?_range hlt]; rfl
            refine gt (decide_eq_true (by show (k : Int) < ((x0.supports.length : Nat) : Int); omega)) (go (sp_idx hlt) (go hB (gbf rfl (goo (idx_q gk) (goo (at_w rfl gk) (gs (gf (by simp) (gend ⟨hlt, ?_⟩))))))))
            show (IntKind.i64.wrap ((k : Int) + 1), ()) = _
            rw [wrap64 (by omega) (by omega)]; rfl
          · exact gf (decide_eq_false (by show ¬ (k : Int) < ((x0.supports.length : Nat) : Int); omega)) (gend rfl)
        · rintro r rfl
          exact gend rfl
      · rw [h1]
        exact gf rfl (gend rfl)
    rintro _ rfl
    have hB0 := f_Bending hw hv (a := 0) (by omega) (by omega) ht
    have hBL := f_Bending hw hv (a := x0.length) (by omega) (by omega) ht
    have hSL := f_Shear hw hv (a := x0.length) (by omega) (by omega) ht
    rw [bend_zero hb hs, out_zero] at hB0
    rw [bend_length hb hs ht, out_zero] at hBL
    rw [shear_length hb hs ht, out_zero] at hSL
    exact go hB0 (go hBL (go hSL (gbt rfl (goo (f_of20 0) (gbt rfl (gbt rfl (goo (f_of20 0) (gbt rfl (gbt rfl (goo (f_of20 0) (gs (gend rfl))))))))))))
end Go.Proofs.Ytbamoboldhabjaa
