/- Plain lemmas on loops, indices and wrapped integers. No program in sight. -/
import Derived.Test.YtmdghocpelkcoaaEv16
namespace Go.Proofs.Ytmdghocpelkcoaa

theorem wrap64 {n : Int} (h1 : -9223372036854775808 ≤ n) (h2 : n ≤ 9223372036854775807) : IntKind.i64.wrap n = n := by
  simp only [IntKind.wrap, IntKind.bits, IntKind.signed, Bool.true_and]
  split
  · rename_i h
    have h := of_decide_eq_true h
    omega
  · rename_i h
    have h := of_decide_eq_false (by simpa using h : decide (n % 2 ^ 64 ≥ 2 ^ (64 - 1)) = false)
    omega
theorem iter_inv {σ ρ : Type} {F : σ → Option (σ ⊕ ρ)} {Q : ρ → Prop} (I : Nat → σ → Prop) (n : Nat) (hn : n < big)
    (step : ∀ k s, k ≤ n → I k s → (∃ s', F s = some (.inl s') ∧ k < n ∧ I (k + 1) s') ∨ ∃ r, F s = some (.inr r) ∧ Q r) {s : σ} (h : I 0 s) : ∃ r, iterF F big s = some r ∧ Q r := by
  have go : ∀ (fuel k : Nat) (s : σ), k ≤ n → n - k < fuel → I k s → ∃ r, iterF F fuel s = some r ∧ Q r := by
    intro fuel
    induction fuel with
    | zero => intro k s _ h; omega
    | succ fuel ih =>
      intro k s hk hf hi
      unfold iterF
      rcases step k s hk hi with ⟨s', h1, h2, h3⟩ | ⟨r, h1, h2⟩
      · rw [h1]
        exact ih (k + 1) s' h2 (by omega) h3
      · rw [h1]
        exact ⟨r, rfl, h2⟩
  exact go big 0 s (Nat.zero_le _) (by omega) h
theorem idx_at {α : Type} {l : List α} {k : Nat} (h : k < l.length) : idx l (k : Int) = some l[k] := by
  unfold idx
  rw [if_pos (by omega), Int.toNat_natCast, List.getElem?_eq_getElem h]
theorem idxB_at {s : ByteArray} {k : Nat} (h : k < s.size) : idxB s (k : Int) = some s[k] := by
  unfold idxB
  rw [if_pos (by omega), Int.toNat_natCast]
  exact getElem?_pos s k h
/-- A loop over a list that stops at the first element that says so. -/
theorem iter_find {α ρ : Type} {F : Int × Unit → Option ((Int × Unit) ⊕ ρ)} (l : List α) (hl : l.length < 9223372036854775807) (p : Nat → α → Option ρ) (d : ρ)
    (hin : ∀ (k : Nat) (h : k < l.length), F ((k : Int), ()) = match p k l[k] with | some r => some (.inr r) | none => some (.inl ((k : Int) + 1, ()))) (hout : F ((l.length : Int), ()) = some (.inr d)) :
    iterF F big (0, ()) = some (((l.zipIdx.findSome? fun x => p x.2 x.1)).getD d) := by
  have hb : l.length < big := by unfold big; omega
  obtain ⟨r, h1, h2⟩ := iter_inv (F := F) (Q := fun r => r = ((l.zipIdx.findSome? fun x => p x.2 x.1)).getD d) (fun k s => s = ((k : Int), ()) ∧ ((l.take k).zipIdx.findSome? fun x => p x.2 x.1) = none) l.length hb (fun k s hk hi => by
    obtain ⟨rfl, hi⟩ := hi
    by_cases hlt : k < l.length
    · have h := hin k hlt
      have htk : (l.take (k + 1)).zipIdx = (l.take k).zipIdx ++ [(l[k], k)] := by
        rw [List.take_succ_eq_append_getElem hlt, List.zipIdx_append]
        simp; omega
      cases hp : p k l[k] with
      | none =>
        rw [hp] at h
        exact .inl ⟨_, h, hlt, rfl, by rw [htk, List.findSome?_append, hi]; simp [hp]⟩
      | some r =>
        rw [hp] at h
        refine .inr ⟨r, h, ?_⟩
        have hall : l.zipIdx = (l.take (k + 1)).zipIdx ++ (l.drop (k + 1)).zipIdx (k + 1) := by
          have e : l.zipIdx = (l.take (k + 1) ++ l.drop (k + 1)).zipIdx := by rw [List.take_append_drop]
          rw [e, List.zipIdx_append, Nat.zero_add, List.length_take, Nat.min_eq_left (by omega)]
        rw [hall, htk, List.findSome?_append, List.findSome?_append, hi]
        simp [hp]
    · obtain rfl : k = l.length := by omega
      rw [List.take_length] at hi
      exact .inr ⟨d, hout, by rw [hi]; rfl⟩) (s := (0, ())) ⟨rfl, by simp⟩
  rw [h1, h2]
end Go.Proofs.Ytmdghocpelkcoaa
