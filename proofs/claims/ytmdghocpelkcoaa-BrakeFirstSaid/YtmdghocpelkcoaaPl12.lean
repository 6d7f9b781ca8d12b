/- Loops over lists as recursion over the list; small sets; counts. -/
import Derived.Test.YtmdghocpelkcoaaPl11
namespace Go.Proofs.Ytmdghocpelkcoaa

/-- A loop over a list: it goes on with a new state, or stops. -/
def runL {α τ ρ : Type} (step : τ → α → τ ⊕ ρ) (fin : τ → ρ) : List α → τ → ρ
  | [], t => fin t
  | x :: l, t => match step t x with
    | .inl t => runL step fin l t
    | .inr r => r
theorem iter_run {σ τ ρ α : Type} {F : σ → Option (σ ⊕ ρ)} (enc : τ → Int → σ) (l : List α) (hl : l.length < 9223372036854775807) (step : τ → α → τ ⊕ ρ) (fin : τ → ρ) (I : Nat → τ → Prop)
    (hin : ∀ (k : Nat) (h : k < l.length) (t : τ), I k t → F (enc t (k : Int)) = some (match step t l[k] with | .inl t' => .inl (enc t' ((k : Int) + 1)) | .inr r => .inr r) ∧ ∀ t', step t l[k] = .inl t' → I (k + 1) t')
    (hout : ∀ t : τ, I l.length t → F (enc t (l.length : Int)) = some (.inr (fin t))) (t0 : τ) (h0 : I 0 t0) : iterF F big (enc t0 0) = some (runL step fin l t0) := by
  have hb : l.length < big := by unfold big; omega
  obtain ⟨r, h1, h2⟩ := iter_inv (F := F) (Q := fun r => r = runL step fin l t0) (fun k s => ∃ t, s = enc t (k : Int) ∧ I k t ∧ runL step fin l t0 = runL step fin (l.drop k) t) l.length hb (fun k s hk hi => by
    obtain ⟨t, rfl, hI, hr⟩ := hi
    by_cases hlt : k < l.length
    · obtain ⟨h, hn⟩ := hin k hlt t hI
      rw [List.drop_eq_getElem_cons hlt] at hr
      cases hs : step t l[k] with
      | inl t' =>
        rw [hs] at h
        refine .inl ⟨_, h, hlt, t', rfl, hn t' hs, ?_⟩
        rw [hr]; simp only [runL, hs]
      | inr r =>
        rw [hs] at h
        refine .inr ⟨r, h, ?_⟩
        rw [hr]; simp only [runL, hs]
    · obtain rfl : k = l.length := by omega
      refine .inr ⟨_, hout t hI, ?_⟩
      rw [hr, List.drop_length]; rfl) (s := enc t0 0) ⟨t0, rfl, h0, by rw [List.drop_zero]⟩
  rw [h1, h2]
theorem iter_ak {τ ρ α : Type} {F : τ × Int × Unit → Option ((τ × Int × Unit) ⊕ ρ)} (l : List α) (hl : l.length < 9223372036854775807) (step : τ → α → τ ⊕ ρ) (fin : τ → ρ) (I : Nat → τ → Prop) (t0 : τ) (h0 : I 0 t0)
    (hin : ∀ (k : Nat) (h : k < l.length) (t : τ), I k t → F (t, (k : Int), ()) = some (match step t l[k] with | .inl t' => .inl (t', (k : Int) + 1, ()) | .inr r => .inr r) ∧ ∀ t', step t l[k] = .inl t' → I (k + 1) t')
    (hout : ∀ t : τ, I l.length t → F (t, (l.length : Int), ()) = some (.inr (fin t))) : iterF F big (t0, 0, ()) = some (runL step fin l t0) :=
  iter_run (fun t k => (t, k, ())) l hl step fin I hin hout t0 h0
theorem iter_ka {τ ρ α : Type} {F : Int × τ × Unit → Option ((Int × τ × Unit) ⊕ ρ)} (l : List α) (hl : l.length < 9223372036854775807) (step : τ → α → τ ⊕ ρ) (fin : τ → ρ) (I : Nat → τ → Prop) (t0 : τ) (h0 : I 0 t0)
    (hin : ∀ (k : Nat) (h : k < l.length) (t : τ), I k t → F ((k : Int), t, ()) = some (match step t l[k] with | .inl t' => .inl ((k : Int) + 1, t', ()) | .inr r => .inr r) ∧ ∀ t', step t l[k] = .inl t' → I (k + 1) t')
    (hout : ∀ t : τ, I l.length t → F ((l.length : Int), t, ()) = some (.inr (fin t))) : iterF F big (0, t0, ()) = some (runL step fin l t0) :=
  iter_run (fun t k => (k, t, ())) l hl step fin I hin hout t0 h0
/-- A loop over a list that only looks for a first element that says no. -/
theorem iter_no {α ρ : Type} {F : Int × Unit → Option ((Int × Unit) ⊕ ρ)} (l : List α) (hl : l.length < 9223372036854775807) (p : α → Bool) (a d : ρ)
    (hin : ∀ (k : Nat) (h : k < l.length), F ((k : Int), ()) = some (bif p l[k] then .inl ((k : Int) + 1, ()) else .inr a)) (hout : F ((l.length : Int), ()) = some (.inr d)) :
    iterF F big (0, ()) = some (bif l.all p then d else a) := by
  have h := iter_run (F := F) (fun (_ : Unit) k => (k, ())) l hl (fun _ x => bif p x then .inl () else .inr a) (fun _ => d) (fun _ _ => True) (fun k hk t _ => ⟨by
    rw [hin k hk]; cases p l[k] <;> rfl, fun _ _ => trivial⟩) (fun _ _ => hout) () trivial
  rw [h]
  congr 1
  clear h hin hout hl
  induction l with
  | nil => rfl
  | cons x l ih =>
    unfold runL
    rw [List.all_cons]
    cases p x with
    | true => simpa using ih
    | false => rfl
theorem lt_yes {k n : Nat} (h : k < n) : decide ((k : Int) < ((n : Nat) : Int)) = true := decide_eq_true (by omega)
theorem lt_no (n : Nat) : decide (((n : Nat) : Int) < ((n : Nat) : Int)) = false := decide_eq_false (by omega)

def smallH (s : TSet) (most : Int) : Bool := decide (s.name.size ≤ 60 ∧ s.lines.length ≤ 12 ∧ ((s.items.length : Int) ≤ most ∨ 40 < s.items.length) ∧ s.items.length ≤ 45 ∧ s.bricks.length ≤ 10)
def smallB (s : TSet) (most : Int) : Bool := smallH s most && (s.items.all (fun x => decide (x.name.size ≤ 60)) && s.bricks.all fun x => decide (x.name.size ≤ 60))
theorem f_small (s : TSet) (most : Int) : F_ref21_Small s most = some (smallB s most) := by
  unfold F_ref21_Small smallB
  by_cases h1 : s.name.size ≤ 60
  case neg =>
    have : decide (((s.name.size : Nat) : Int) > 60) = true := decide_eq_true (by omega)
    have e : smallH s most = false := decide_eq_false (by omega)
    rw [this, e]; rfl
  have e1 : decide (((s.name.size : Nat) : Int) > 60) = false := decide_eq_false (by omega)
  by_cases h2 : s.lines.length ≤ 12
  case neg =>
    have : decide (((s.lines.length : Nat) : Int) > 12) = true := decide_eq_true (by omega)
    have e : smallH s most = false := decide_eq_false (by omega)
    rw [e1, this, e]; rfl
  have e2 : decide (((s.lines.length : Nat) : Int) > 12) = false := decide_eq_false (by omega)
  rw [e1, e2]
  have hand : ∀ (a : Option (Bool × Unit)) (b : Bool), a = some (!b, ()) → ∀ (K : Bool × Unit → Option Bool), a.bind K = K (!b, ()) := fun a b h K => by rw [h]; rfl
  have hcase : (bif decide (((s.items.length : Nat) : Int) > most) then (bif (decide (((s.items.length : Nat) : Int) ≤ 40)) then some (true, ()) else (bif (decide (((s.items.length : Nat) : Int) > 45)) then some (true, ()) else some ((decide (((s.bricks.length : Nat) : Int) > 10)), ()))) else (bif (decide (((s.items.length : Nat) : Int) > 45)) then some (true, ()) else some ((decide (((s.bricks.length : Nat) : Int) > 10)), ())) : Option (Bool × Unit)) =
      some (!smallH s most, ()) := by
    unfold smallH
    by_cases h3 : ((s.items.length : Nat) : Int) > most <;> by_cases h4 : ((s.items.length : Nat) : Int) ≤ 40 <;> by_cases h5 : ((s.items.length : Nat) : Int) > 45 <;> by_cases h6 : ((s.bricks.length : Nat) : Int) > 10 <;>
      simp only [h3, h4, h5, h6, decide_true, decide_false, cond_true, cond_false, Option.some.injEq, Prod.mk.injEq, and_true] <;> (symm; simp only [Bool.not_eq_true', Bool.not_eq_false', decide_eq_true_eq, decide_eq_false_iff_not]; omega)
  simp only [cond_false]
  rw [hand _ _ hcase]
  cases hb : smallH s most with
  | false => rfl
  | true =>
    have hb := of_decide_eq_true hb
    simp only [Bool.not_true, cond_false, Bool.true_and]
    rw [iter_no s.items (by omega) (fun x => decide (x.name.size ≤ 60)) (.inl (false, ())) (.inr ()) ?h1 ?h2, iter_no s.bricks (by omega) (fun x => decide (x.name.size ≤ 60)) (.inl (false, ())) (.inr ()) ?h3 ?h4]
    · cases s.items.all (fun x => decide (x.name.size ≤ 60)) <;> cases s.bricks.all (fun x => decide (x.name.size ≤ 60)) <;> rfl
    case h1 =>
      intro k hk
      simp only [lt_yes hk, cond_true, idx_at hk, Option.bind_some]
      rw [wrap64 (by omega) (by omega)]
      by_cases h : s.items[k].name.size ≤ 60
      · rw [decide_eq_false (show ¬ (((s.items[k].name.size : Nat) : Int) > 60) by omega), decide_eq_true h]; rfl
      · rw [decide_eq_true (show (((s.items[k].name.size : Nat) : Int) > 60) by omega), decide_eq_false h]; rfl
    case h2 => simp only [lt_no, cond_false]
    case h3 =>
      intro k hk
      simp only [lt_yes hk, cond_true, idx_at hk, Option.bind_some]
      rw [wrap64 (by omega) (by omega)]
      by_cases h : s.bricks[k].name.size ≤ 60
      · rw [decide_eq_false (show ¬ (((s.bricks[k].name.size : Nat) : Int) > 60) by omega), decide_eq_true h]; rfl
      · rw [decide_eq_true (show (((s.bricks[k].name.size : Nat) : Int) > 60) by omega), decide_eq_false h]; rfl
    case h4 => simp only [lt_no, cond_false]
theorem small_fits {s : TSet} {most : Int} (h : smallB s most = true) : Fits s := by
  simp only [smallB, smallH, Bool.and_eq_true, decide_eq_true_eq, List.all_eq_true] at h
  obtain ⟨⟨h1, h2, _, h3, h4⟩, h5, h6⟩ := h
  exact ⟨by omega, by omega, by omega, by omega, fun x hx => by have := h5 x hx; omega, fun x hx => by have := h6 x hx; omega⟩

theorem f_rcopy (s : TSet) (h : Fits s) : F_ref21_Copy s = some s := by
  unfold F_ref21_Copy
  rw [if_pos (by simpa using h.lines), if_pos (by simpa using h.items), if_pos (by simpa using h.bricks)]
  rfl
theorem runL_map {α β : Type} (f : α → β) (l : List α) (a : List β) : runL (ρ := List β × Unit) (fun t x => .inl (t ++ [f x])) (fun t => (t, ())) l a = (a ++ l.map f, ()) := by
  induction l generalizing a with
  | nil => simp [runL]
  | cons x l ih => unfold runL; simp only [ih]; simp
theorem f_counts (l : List TBrick) (h : l.length ≤ 2147483647) : F_ref25_Counts l = some (l.map (·.count)) := by
  unfold F_ref25_Counts
  rw [iter_ka l (by omega) (fun t x => .inl (t ++ [x.count])) (fun t => (t, ())) (fun k t => t.length = k) ([] : List Int) rfl ?hin ?hout]
  · rw [runL_map]; rfl
  case hin =>
    intro k hk t ht
    simp only [lt_yes hk, cond_true, idx_at hk, Option.bind_some]
    refine ⟨?_, fun t' h' => by cases h'; simp [ht]⟩
    rw [if_pos (by simp; omega), wrap64 (by omega) (by omega)]
  case hout => intro t _; simp only [lt_no, cond_false]
end Go.Proofs.Ytmdghocpelkcoaa
