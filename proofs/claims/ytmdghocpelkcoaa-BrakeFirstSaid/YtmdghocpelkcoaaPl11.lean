/- Weights: what is needed, what is there, the imbalance. -/
import Derived.Test.YtmdghocpelkcoaaPl10
namespace Go.Proofs.Ytmdghocpelkcoaa

/-- A loop that adds up. -/
theorem iter_sum {α : Type} (f : α → Int) (l : List α) (hl : l.length ≤ 2147483648) (M : Int) (hM0 : 0 ≤ M) (hM : M ≤ 1152921504606846976) (a : Int) (ha : 0 ≤ a ∧ a ≤ 1152921504606846976) (hb : ∀ k, k ≤ l.length → 0 ≤ sumTo f l k ∧ sumTo f l k ≤ M) {F : Int × Int × Unit → Option ((Int × Int × Unit) ⊕ (Int × Unit))}
    (hin : ∀ (k : Nat) (hk : k < l.length) (z : Int), z = a + sumTo f l k → F (z, (k : Int), ()) = some (.inl (IntKind.i64.wrap (z + f l[k]), (k : Int) + 1, ()))) (hout : ∀ z : Int, F (z, (l.length : Int), ()) = some (.inr (z, ()))) :
    iterF F big (a, 0, ()) = some (a + sumTo f l l.length, ()) := by
  obtain ⟨r, h1, h2⟩ := iter_inv (F := F) (Q := fun r => r = (a + sumTo f l l.length, ())) (fun k s => s = (a + sumTo f l k, (k : Int), ())) l.length (by unfold big; omega) (fun k s hk hs => by
    subst hs
    by_cases hlt : k < l.length
    · have h3 := hb (k + 1) (by omega)
      have h4 := hb k hk
      have e := hin k hlt _ rfl
      rw [sumTo_succ _ _ _ hlt] at h3
      rw [wrap64 (by omega) (by omega)] at e
      exact .inl ⟨_, e, hlt, by rw [sumTo_succ _ _ _ hlt, Int.add_assoc]; rfl⟩
    · obtain rfl : k = l.length := by omega
      exact .inr ⟨_, hout _, rfl⟩) (s := (a, 0, ())) (by rw [sumTo_zero]; simp)
  rw [h1, h2]
def thereW (l : List TBrick) : Int := sumTo (fun b => b.weight * b.count) l l.length
def thereC (l : List TBrick) : Int := sumTo (·.count) l l.length
theorem brick_mul {x : TBrick} (h : GoodBrick x) : 0 ≤ x.weight * x.count ∧ x.weight * x.count ≤ 62914560 := by
  have h1 := h.w0
  have h2 := h.c0
  refine ⟨Int.mul_nonneg (by omega) h2, ?_⟩
  have := Int.mul_le_mul h.w1 h.c1 h2 (by decide)
  exact Int.le_trans this (by decide)
theorem thereW_bound {l : List TBrick} (hl : l.length ≤ 8) (h : ∀ x ∈ l, GoodBrick x) (k : Nat) (hk : k ≤ l.length) : 0 ≤ sumTo (fun b : TBrick => b.weight * b.count) l k ∧ sumTo (fun b : TBrick => b.weight * b.count) l k ≤ 503316480 := by
  have h1 := sumTo_bound (fun b : TBrick => b.weight * b.count) l 62914560 (fun x hx => brick_mul (h x hx)) k hk
  omega
theorem thereC_bound {l : List TBrick} (hl : l.length ≤ 8) (h : ∀ x ∈ l, GoodBrick x) (k : Nat) (hk : k ≤ l.length) : 0 ≤ sumTo (·.count) l k ∧ sumTo (·.count) l k ≤ 480 := by
  have h1 := sumTo_bound (·.count) l 60 (fun x hx => ⟨(h x hx).c0, (h x hx).c1⟩) k hk
  omega
theorem f_there (s : TSet) (hl : s.bricks.length ≤ 8) (h : ∀ x ∈ s.bricks, GoodBrick x) : F_arbor_there s = some (thereW s.bricks, thereC s.bricks) := by
  unfold F_arbor_there thereW thereC
  obtain ⟨r, h1, h2⟩ := iter_inv (F := fun s2 : Int × Int × Int × Unit => (bif (decide (s2.2.2.1 < ((s.bricks.length : Nat) : Int))) then (idx s.bricks s2.2.2.1).bind fun x3 => some (.inl ((IntKind.i64.wrap (s2.1 + (IntKind.i64.wrap (x3.weight * x3.count)))), (IntKind.i64.wrap (s2.2.1 + x3.count)), (IntKind.i64.wrap (s2.2.2.1 + 1)), ())) else some (.inr (s2.1, s2.2.1, ())) : Option ((Int × Int × Int × Unit) ⊕ (Int × Int × Unit))))
    (Q := fun r => r = (sumTo (fun b : TBrick => b.weight * b.count) s.bricks s.bricks.length, sumTo (·.count) s.bricks s.bricks.length, ())) (fun k z => z = (sumTo (fun b : TBrick => b.weight * b.count) s.bricks k, sumTo (·.count) s.bricks k, (k : Int), ())) s.bricks.length (by unfold big; omega) (fun k z hk hz => by
      subst hz
      by_cases hlt : k < s.bricks.length
      · have hd : decide ((k : Int) < ((s.bricks.length : Nat) : Int)) = true := decide_eq_true (by omega)
        have b1 := thereW_bound hl h k hk
        have b2 := thereC_bound hl h k hk
        have hg := h s.bricks[k] (List.getElem_mem hlt)
        have b3 := brick_mul hg
        have b4 := hg.c0
        have b5 := hg.c1
        simp only [hd, cond_true, idx_at hlt, Option.bind_some]
        rw [wrap64 (n := s.bricks[k].weight * s.bricks[k].count) (by omega) (by omega), wrap64 (by omega) (by omega), wrap64 (by omega) (by omega), wrap64 (by omega) (by omega)]
        exact .inl ⟨_, rfl, hlt, by rw [sumTo_succ _ _ _ hlt, sumTo_succ _ _ _ hlt]; rfl⟩
      · obtain rfl : k = s.bricks.length := by omega
        have hd : decide (((s.bricks.length : Nat) : Int) < ((s.bricks.length : Nat) : Int)) = false := decide_eq_false (by omega)
        simp only [hd, cond_false]
        exact .inr ⟨_, rfl, rfl⟩) (s := (0, 0, 0, ())) rfl
  rw [h1, h2]
  rfl
theorem f_pipe (s : TSet) (h : Good s) : F_batten_pipe s = some (pipeI s) := by
  unfold F_batten_pipe
  have hb := pipe_bound h
  have h0 := h.n0
  have h1 := h.n1
  have e : s.length.tdiv 1000 = s.length / 1000 := Int.tdiv_eq_ediv_of_nonneg (by omega)
  rw [e, wrap64 (n := s.length / 1000) (by omega) (by omega)]
  show some (IntKind.i64.wrap (pipeI s)) = _
  rw [wrap64 (by omega) (by omega)]
theorem f_weight (s : TSet) (h : Good s) : F_batten_weight s = some (weightI s) := by
  unfold F_batten_weight weightI
  rw [f_pipe s h, Option.bind_some]
  have hb := pipe_bound h
  have hni := h.ni
  rw [iter_sum (·.weight) s.items (by omega) 41943040 (by decide) (by decide) (pipeI s) (by omega) (fun k hk => weights_bound h k hk) ?hin ?hout]
  case hin =>
    intro k hk z hz
    have hd : decide ((k : Int) < ((s.items.length : Nat) : Int)) = true := decide_eq_true (by omega)
    simp only [hd, cond_true, idx_at hk, Option.bind_some]
    rw [wrap64 (n := (k : Int) + 1) (by omega) (by omega)]
  case hout =>
    intro z
    have hd : decide (((s.items.length : Nat) : Int) < ((s.items.length : Nat) : Int)) = false := decide_eq_false (by omega)
    simp only [hd, cond_false]
  rfl
theorem weight_bound {s : TSet} (h : Good s) : 0 ≤ weightI s ∧ weightI s ≤ 1099553570816 := by
  have h1 := pipe_bound h
  have h2 := weights_bound h s.items.length (Nat.le_refl _)
  unfold weightI
  omega
def neededI (s : TSet) : Int := weightI s * s.purchase - s.arbor
def balanceI (s : TSet) : Int := neededI s - thereW s.bricks
theorem needed_bound {s : TSet} (h : Good s) : -1048576 ≤ neededI s ∧ neededI s ≤ 2199107141632 := by
  have h1 := weight_bound h
  have h2 : 0 ≤ weightI s * s.purchase := Int.mul_nonneg h1.1 (by have := h.u0; omega)
  have h3 : weightI s * s.purchase ≤ 1099553570816 * 2 := Int.mul_le_mul h1.2 h.u1 (by have := h.u0; omega) (by decide)
  have h4 := h.a0
  have h5 := h.a1
  unfold neededI
  omega
theorem f_needed (s : TSet) (hf : Fits s) : F_arbor_Needed s = some (if validB s = true then (neededI s, 0) else (0, 1)) := by
  unfold F_arbor_Needed F_batten_Weight
  rw [f_valid s hf]
  cases hv : validB s with
  | false => rfl
  | true =>
    have h := Good.of hv
    have b1 := weight_bound h
    have b2 := needed_bound h
    have b3 : 0 ≤ weightI s * s.purchase := Int.mul_nonneg b1.1 (by have := h.u0; omega)
    have b4 : weightI s * s.purchase ≤ 1099553570816 * 2 := Int.mul_le_mul b1.2 h.u1 (by have := h.u0; omega) (by decide)
    simp only [Option.bind_some, Bool.not_true, cond_false, f_weight s h, if_true]
    show (bif ((0 : Int) != 0) then some (0, 0) else some (IntKind.i64.wrap (IntKind.i64.wrap (weightI s * s.purchase) - s.arbor), 0)) = _
    rw [wrap64 (n := weightI s * s.purchase) (by omega) (by omega)]
    show some (IntKind.i64.wrap (neededI s), 0) = _
    rw [wrap64 (by omega) (by omega)]
theorem f_balance (s : TSet) (hf : Fits s) : F_arbor_Balance s = some (if validB s = true then (balanceI s, 0) else (0, 1)) := by
  unfold F_arbor_Balance
  rw [f_needed s hf]
  cases hv : validB s with
  | false => rfl
  | true =>
    have h := Good.of hv
    have b1 := needed_bound h
    have b2 := thereW_bound h.nb h.bricks s.bricks.length (Nat.le_refl _)
    simp only [if_true, Option.bind_some, f_there s h.nb h.bricks]
    show some (IntKind.i64.wrap (neededI s - thereW s.bricks), 0) = _
    have e : balanceI s = neededI s - thereW s.bricks := rfl
    unfold thereW at e ⊢
    rw [wrap64 (by omega) (by omega)]
    rfl
end Go.Proofs.Ytmdghocpelkcoaa
