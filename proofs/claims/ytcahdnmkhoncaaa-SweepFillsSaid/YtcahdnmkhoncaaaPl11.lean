/- Weights: what is needed, what is there, the imbalance. -/
import Derived.Test.YtcahdnmkhoncaaaPl10
namespace Go.Proofs.Ytcahdnmkhoncaaa

/-- A loop that adds up. -/
theorem iter_sum {α : Type} (f : α → Int) (l : List α) (hl : l.length ≤ 2147483648) (M : Int) (hM0 : 0 ≤ M) (hM : M ≤ 1152921504606846976) (a : Int) (ha : 0 ≤ a ∧ a ≤ 1152921504606846976) (hb : ∀ k, k ≤ l.length → 0 ≤ sumTo f l k ∧ sumTo f l k ≤ M) {F : Int × Int × Unit → Option ((Int × Int × Unit) ⊕ (Int × Unit))}
    (hin : ∀ (k : Nat) (hk : k < l.length) (z : Int), z = a + sumTo f l k → F (z, (k : Int), ()) = some (.inl (IntKind.i64.wrap (z + f l[k]), (k : Int) + 1, ()))) (hout : ∀ z : Int, F (z, (l.length : Int), ()) = some (.inr (z, ()))) :
    iterF F big (a, 0, ()) = some (a + sumTo f l l.length, ()) := by
  obtain ⟨r, h1, h2⟩ := iter_inv (F := F) (Q := fun r => r = (a + sumTo f l l.length, ())) (fun k s => s = (a + sumTo f l k, (k : Int), ())) l.length (by unfold big; omega) (fun k s hk hs => by
    subst hs
    by_cases hlt : k < l.length
    · have h3 := hb (k + 1) (by omega)
      have h4 := hb k hk
      have e := hin k hlt _ rfl
      rw [sumTo_succ _ _ _ hlt] at h3
      rw [wrap64 (by omega) (by omega)] at e
      exact .inl ⟨_, e, hlt, by rw [sumTo_succ _ _ _ hlt, Int.add_assoc]; rfl⟩
    · obtain rfl : k = l.length := by omega
      exact .inr ⟨_, hout _, rfl⟩) (s := (a, 0, ())) (by rw [sumTo_zero]; simp)
  rw [h1, h2]
def thereW (l : List TBrick) : Int := sumTo (fun b => b.weight * b.count) l l.length
def thereC (l : List TBrick) : Int := sumTo (·.count) l l.length
theorem brick_mul {x : TBrick} (h : GoodBrick x) : 0 ≤ x.weight * x.count ∧ x.weight * x.count ≤ 62914560 := by
  have h1 := h.w0
  have h2 := h.c0
  refine ⟨Int.mul_nonneg (by omega) h2, ?_⟩
  have := Int.mul_le_mul h.w1 h.c1 h2 (by decide)
  exact Int.le_trans this (by decide)
theorem thereW_bound {l : List TBrick} (hl : l.length ≤ 8) (h : ∀ x ∈ l, GoodBrick x) (k : Nat) (hk : k ≤ l.length) : 0 ≤ sumTo (fun b : TBrick => b.weight * b.count) l k ∧ sumTo (fun b : TBrick => b.weight * b.count) l k ≤ 503316480 := by
  have h1 := sumTo_bound (fun b : TBrick => b.weight * b.count) l 62914560 (fun x hx => brick_mul (h x hx)) k hk
  omega
theorem thereC_bound {l : List TBrick} (hl : l.length ≤ 8) (h : ∀ x ∈ l, GoodBrick x) (k : Nat) (hk : k ≤ l.length) : 0 ≤ sumTo (·.count) l k ∧ sumTo (·.count) l k ≤ 480 := by
  have h1 := sumTo_bound (·.count) l 60 (fun x hx => ⟨(h x hx).c0, (h x hx).c1⟩) k hk
  omega
theorem weight_bound {s : TSet} (h : Good s) : 0 ≤ weightI s ∧ weightI s ≤ 1099553570816 := by
  have h1 := pipe_bound h
  have h2 := weights_bound h s.items.length (Nat.le_refl _)
  unfold weightI
  omega
def neededI (s : TSet) : Int := weightI s * s.purchase - s.arbor
def balanceI (s : TSet) : Int := neededI s - thereW s.bricks
theorem needed_bound {s : TSet} (h : Good s) : -1048576 ≤ neededI s ∧ neededI s ≤ 2199107141632 := by
  have h1 := weight_bound h
  have h2 : 0 ≤ weightI s * s.purchase := Int.mul_nonneg h1.1 (by have := h.u0; omega)
  have h3 : weightI s * s.purchase ≤ 1099553570816 * 2 := Int.mul_le_mul h1.2 h.u1 (by have := h.u0; omega) (by decide)
  have h4 := h.a0
  have h5 := h.a1
  unfold neededI
  omega
end Go.Proofs.Ytcahdnmkhoncaaa
