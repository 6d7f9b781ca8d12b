/- What the small functions come to, in plain terms. -/
import Derived.Test.YtmdghocpelkcoaaPl2
namespace Go.Proofs.Ytmdghocpelkcoaa
set_option linter.unusedSimpArgs false

theorem cond_some {α : Type} (c : Bool) (a b : α) : (cond c (some a) (some b) : Option α) = some (cond c a b) := by cases c <;> rfl
theorem decide_and_cond (p q : Prop) [Decidable p] [Decidable q] : decide (p ∧ q) = (bif decide p then decide q else false) := by by_cases h : p <;> by_cases h' : q <;> simp [h, h']
theorem f_between (n lo hi : Int) : F_batten_between n lo hi = some (betweenB n lo hi) := by
  unfold F_batten_between betweenB
  rw [cond_some, Option.bind_some, decide_and_cond]
  cases h : decide (n ≥ lo) <;> rfl
theorem f_rbetween (n lo hi : Int) : F_ref21_between n lo hi = some (betweenB n lo hi) := f_between n lo hi
theorem f_slices_IndexFunc_int (s : List Int) (hs : s.length < 9223372036854775807) (f : Int → Option Bool) (g : Int → Bool) (hf : ∀ x ∈ s, f x = some (g x)) : F_slices_IndexFunc_int s f = some (match s.findIdx? g with | some i => (i : Int) | none => -1) := by
  unfold F_slices_IndexFunc_int
  rw [iter_find s hs (fun k x => bif g x then some (Sum.inl ((k : Int), ())) else none) (.inr ()) ?hin ?hout]
  · have e : ∀ (l : List Int) (j : Nat), ((l.zipIdx j).findSome? fun x => bif g x.1 then some (Sum.inl ((x.2 : Int), ()) : (Int × Unit) ⊕ Unit) else none) = (l.findIdx? g).map fun i => .inl (((i + j : Nat) : Int), ()) := by
      intro l
      induction l with
      | nil => intro j; rfl
      | cons x l ih =>
        intro j
        rw [List.zipIdx_cons, List.findSome?_cons, List.findIdx?_cons]
        cases hg : g x with
        | true => simp
        | false =>
          simp only [cond_false]
          rw [ih (j + 1)]
          cases l.findIdx? g with
          | none => rfl
          | some i => simp; omega
    rw [e s 0]
    cases s.findIdx? g with
    | none => rfl
    | some i => rfl
  case hin =>
    intro k hk
    have hlt : decide ((k : Int) < ((s.length : Nat) : Int)) = true := decide_eq_true (by omega)
    simp only [hlt, cond_true, idx_at hk, Option.bind_some, hf _ (List.getElem_mem hk)]
    cases g s[k] with
    | true => rfl
    | false => simp only [cond_false]; rw [wrap64 (by omega) (by omega)]
  case hout =>
    have hlt : decide (((s.length : Nat) : Int) < ((s.length : Nat) : Int)) = false := decide_eq_false (by omega)
    simp only [hlt, cond_false]
theorem f_slices_ContainsFunc_int (s : List Int) (hs : s.length < 9223372036854775807) (f : Int → Option Bool) (g : Int → Bool) (hf : ∀ x ∈ s, f x = some (g x)) : F_slices_ContainsFunc_int s f = some (s.any g) := by
  unfold F_slices_ContainsFunc_int
  rw [f_slices_IndexFunc_int s hs f g hf, Option.bind_some]
  congr 1
  cases h : s.findIdx? g with
  | none =>
    rw [List.findIdx?_eq_none_iff] at h
    have : s.any g = false := by rw [List.any_eq_false]; intro x hx; rw [h x hx]; simp
    rw [this]; rfl
  | some i =>
    obtain ⟨hi, hg, _⟩ := List.findIdx?_eq_some_iff_getElem.1 h
    have : s.any g = true := List.any_eq_true.2 ⟨_, List.getElem_mem hi, hg⟩
    rw [this]
    exact decide_eq_true (by show (i : Int) ≥ 0; omega)
theorem f_slices_IndexFunc_api_Item (s : List TItem) (hs : s.length < 9223372036854775807) (f : TItem → Option Bool) (g : TItem → Bool) (hf : ∀ x ∈ s, f x = some (g x)) : F_slices_IndexFunc_api_Item s f = some (match s.findIdx? g with | some i => (i : Int) | none => -1) := by
  unfold F_slices_IndexFunc_api_Item
  rw [iter_find s hs (fun k x => bif g x then some (Sum.inl ((k : Int), ())) else none) (.inr ()) ?hin ?hout]
  · have e : ∀ (l : List TItem) (j : Nat), ((l.zipIdx j).findSome? fun x => bif g x.1 then some (Sum.inl ((x.2 : Int), ()) : (Int × Unit) ⊕ Unit) else none) = (l.findIdx? g).map fun i => .inl (((i + j : Nat) : Int), ()) := by
      intro l
      induction l with
      | nil => intro j; rfl
      | cons x l ih =>
        intro j
        rw [List.zipIdx_cons, List.findSome?_cons, List.findIdx?_cons]
        cases hg : g x with
        | true => simp
        | false =>
          simp only [cond_false]
          rw [ih (j + 1)]
          cases l.findIdx? g with
          | none => rfl
          | some i => simp; omega
    rw [e s 0]
    cases s.findIdx? g with
    | none => rfl
    | some i => rfl
  case hin =>
    intro k hk
    have hlt : decide ((k : Int) < ((s.length : Nat) : Int)) = true := decide_eq_true (by omega)
    simp only [hlt, cond_true, idx_at hk, Option.bind_some, hf _ (List.getElem_mem hk)]
    cases g s[k] with
    | true => rfl
    | false => simp only [cond_false]; rw [wrap64 (by omega) (by omega)]
  case hout =>
    have hlt : decide (((s.length : Nat) : Int) < ((s.length : Nat) : Int)) = false := decide_eq_false (by omega)
    simp only [hlt, cond_false]
theorem f_slices_ContainsFunc_api_Item (s : List TItem) (hs : s.length < 9223372036854775807) (f : TItem → Option Bool) (g : TItem → Bool) (hf : ∀ x ∈ s, f x = some (g x)) : F_slices_ContainsFunc_api_Item s f = some (s.any g) := by
  unfold F_slices_ContainsFunc_api_Item
  rw [f_slices_IndexFunc_api_Item s hs f g hf, Option.bind_some]
  congr 1
  cases h : s.findIdx? g with
  | none =>
    rw [List.findIdx?_eq_none_iff] at h
    have : s.any g = false := by rw [List.any_eq_false]; intro x hx; rw [h x hx]; simp
    rw [this]; rfl
  | some i =>
    obtain ⟨hi, hg, _⟩ := List.findIdx?_eq_some_iff_getElem.1 h
    have : s.any g = true := List.any_eq_true.2 ⟨_, List.getElem_mem hi, hg⟩
    rw [this]
    exact decide_eq_true (by show (i : Int) ≥ 0; omega)
end Go.Proofs.Ytmdghocpelkcoaa
