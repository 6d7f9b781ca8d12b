/- Joined by merge.py: Fn, Pl1, Pl2, Pl3, Pl4, Pl5, Pl6, Pl7, Pl8, Pl9, Pl10, Pl11, Pl12, Pl13, PlB1, PlB2, PlB3, PlL1, PlL2, PlL3, PlL4, PlL5, PlL6, PlL7, PlL8. -/
import Derived.Test.YtmdghocpelkcoaaM10
import Derived.KernelRfl
/- All functions, as plain data. -/

/- Plain lemmas on loops, indices and wrapped integers. No program in sight. -/
namespace Go.Proofs.Ytmdghocpelkcoaa

theorem wrap64 {n : Int} (h1 : -9223372036854775808 ≤ n) (h2 : n ≤ 9223372036854775807) : IntKind.i64.wrap n = n := by
  simp only [IntKind.wrap, IntKind.bits, IntKind.signed, Bool.true_and]
  split
  · rename_i h
    have h := of_decide_eq_true h
    omega
  · rename_i h
    have h := of_decide_eq_false (by simpa using h : decide (n % 2 ^ 64 ≥ 2 ^ (64 - 1)) = false)
    omega
theorem iter_inv {σ ρ : Type} {F : σ → Option (σ ⊕ ρ)} {Q : ρ → Prop} (I : Nat → σ → Prop) (n : Nat) (hn : n < big)
    (step : ∀ k s, k ≤ n → I k s → (∃ s', F s = some (.inl s') ∧ k < n ∧ I (k + 1) s') ∨ ∃ r, F s = some (.inr r) ∧ Q r) {s : σ} (h : I 0 s) : ∃ r, iterF F big s = some r ∧ Q r := by
  have go : ∀ (fuel k : Nat) (s : σ), k ≤ n → n - k < fuel → I k s → ∃ r, iterF F fuel s = some r ∧ Q r := by
    intro fuel
    induction fuel with
    | zero => intro k s _ h; omega
    | succ fuel ih =>
      intro k s hk hf hi
      unfold iterF
      rcases step k s hk hi with ⟨s', h1, h2, h3⟩ | ⟨r, h1, h2⟩
      · rw [h1]
        exact ih (k + 1) s' h2 (by omega) h3
      · rw [h1]
        exact ⟨r, rfl, h2⟩
  exact go big 0 s (Nat.zero_le _) (by omega) h
theorem idx_at {α : Type} {l : List α} {k : Nat} (h : k < l.length) : idx l (k : Int) = some l[k] := by
  unfold idx
  rw [if_pos (by omega), Int.toNat_natCast, List.getElem?_eq_getElem h]
theorem idxB_at {s : ByteArray} {k : Nat} (h : k < s.size) : idxB s (k : Int) = some s[k] := by
  unfold idxB
  rw [if_pos (by omega), Int.toNat_natCast]
  exact getElem?_pos s k h
/-- A loop over a list that stops at the first element that says so. -/
theorem iter_find {α ρ : Type} {F : Int × Unit → Option ((Int × Unit) ⊕ ρ)} (l : List α) (hl : l.length < 9223372036854775807) (p : Nat → α → Option ρ) (d : ρ)
    (hin : ∀ (k : Nat) (h : k < l.length), F ((k : Int), ()) = match p k l[k] with | some r => some (.inr r) | none => some (.inl ((k : Int) + 1, ()))) (hout : F ((l.length : Int), ()) = some (.inr d)) :
    iterF F big (0, ()) = some (((l.zipIdx.findSome? fun x => p x.2 x.1)).getD d) := by
  have hb : l.length < big := by unfold big; omega
  obtain ⟨r, h1, h2⟩ := iter_inv (F := F) (Q := fun r => r = ((l.zipIdx.findSome? fun x => p x.2 x.1)).getD d) (fun k s => s = ((k : Int), ()) ∧ ((l.take k).zipIdx.findSome? fun x => p x.2 x.1) = none) l.length hb (fun k s hk hi => by
    obtain ⟨rfl, hi⟩ := hi
    by_cases hlt : k < l.length
    · have h := hin k hlt
      have htk : (l.take (k + 1)).zipIdx = (l.take k).zipIdx ++ [(l[k], k)] := by
        rw [List.take_succ_eq_append_getElem hlt, List.zipIdx_append]
        simp; omega
      cases hp : p k l[k] with
      | none =>
        rw [hp] at h
        exact .inl ⟨_, h, hlt, rfl, by rw [htk, List.findSome?_append, hi]; simp [hp]⟩
      | some r =>
        rw [hp] at h
        refine .inr ⟨r, h, ?_⟩
        have hall : l.zipIdx = (l.take (k + 1)).zipIdx ++ (l.drop (k + 1)).zipIdx (k + 1) := by
          have e : l.zipIdx = (l.take (k + 1) ++ l.drop (k + 1)).zipIdx := by rw [List.take_append_drop]
          rw [e, List.zipIdx_append, Nat.zero_add, List.length_take, Nat.min_eq_left (by omega)]
        rw [hall, htk, List.findSome?_append, List.findSome?_append, hi]
        simp [hp]
    · obtain rfl : k = l.length := by omega
      rw [List.take_length] at hi
      exact .inr ⟨d, hout, by rw [hi]; rfl⟩) (s := (0, ())) ⟨rfl, by simp⟩
  rw [h1, h2]
end Go.Proofs.Ytmdghocpelkcoaa

/- What a valid line set is, as a function on plain data, and plain lemmas about it. No program in sight. -/
namespace Go.Proofs.Ytmdghocpelkcoaa
open Go.RowKit

def letterB (c : Int) : Bool := decide (97 ≤ c ∧ c ≤ 122 ∨ 65 ≤ c ∧ c ≤ 90)
def digitB (c : Int) : Bool := decide (48 ≤ c ∧ c ≤ 57)
def betweenB (n low high : Int) : Bool := decide (low ≤ n ∧ n ≤ high)
def wcB (c : UInt8) : Bool := letterB c.toNat || (digitB c.toNat || ((c.toNat : Int) == 95))
def wordN (s : ByteArray) : Nat := (s.data.toList.takeWhile wcB).length
def nameB (s : ByteArray) : Bool := match s.data.toList with | [] => false | c :: l => decide (l.length < 20) && (letterB c.toNat && (c :: l).all wcB)
theorem between_iff (n low high : Int) : betweenB n low high = true ↔ low ≤ n ∧ n ≤ high := by simp [betweenB]

/-- Each element is right by itself, and with each one before it. -/
def okAt {α : Type} (one : α → Bool) (two : α → α → Bool) (l : List α) (i : Nat) : Bool := match l[i]? with | none => true | some x => one x && (l.take i).all fun y => two y x
def pairsB {α : Type} (one : α → Bool) (two : α → α → Bool) (l : List α) : Bool := (List.range l.length).all (okAt one two l)
def okTo {α : Type} (one : α → Bool) (two : α → α → Bool) (l : List α) (k : Nat) : Prop := ∀ i, i < k → okAt one two l i = true
section
variable {α : Type} {one one' : α → Bool} {two two' : α → α → Bool} {l : List α}
theorem okAt_eq {i : Nat} (h : i < l.length) : okAt one two l i = (one l[i] && (l.take i).all fun y => two y l[i]) := by unfold okAt; rw [List.getElem?_eq_getElem h]
theorem okTo_zero : okTo one two l 0 := fun _ h => absurd h (by omega)
theorem okTo_succ {k : Nat} (h : okTo one two l k) (h1 : okAt one two l k = true) : okTo one two l (k + 1) := fun i hi => by
  rcases Nat.lt_or_ge i k with h2 | h2
  · exact h i h2
  · obtain rfl : i = k := by omega
    exact h1
theorem pairs_yes (h : okTo one two l l.length) : pairsB one two l = true := List.all_eq_true.2 fun i hi => h i (List.mem_range.1 hi)
theorem pairs_no {k : Nat} (hk : k < l.length) (h : okAt one two l k = false) : pairsB one two l = false := by
  rw [Bool.eq_false_iff]
  intro e
  have := List.all_eq_true.1 e k (List.mem_range.2 hk)
  rw [h] at this
  cases this
theorem pairs_iff : pairsB one two l = true ↔ ∀ i (h : i < l.length), one l[i] = true ∧ ∀ k (hk : k < i), two (l[k]'(Nat.lt_trans hk h)) l[i] = true := by
  constructor
  · intro e i h
    have := List.all_eq_true.1 e i (List.mem_range.2 h)
    rw [okAt_eq h, Bool.and_eq_true, List.all_eq_true] at this
    refine ⟨this.1, fun k hk => this.2 _ ?_⟩
    rw [List.mem_take_iff_getElem]
    exact ⟨k, by omega, rfl⟩
  · intro e
    refine List.all_eq_true.2 fun i hi => ?_
    have h := List.mem_range.1 hi
    obtain ⟨e1, e2⟩ := e i h
    rw [okAt_eq h, Bool.and_eq_true, List.all_eq_true]
    refine ⟨e1, fun y hy => ?_⟩
    rw [List.mem_take_iff_getElem] at hy
    obtain ⟨k, hk, rfl⟩ := hy
    exact e2 k (by omega)
theorem pairs_congr (h : ∀ i (h : i < l.length), (one l[i] = one' l[i]) ∧ ∀ k (hk : k < i), two (l[k]'(Nat.lt_trans hk h)) l[i] = two' (l[k]'(Nat.lt_trans hk h)) l[i]) : pairsB one two l = pairsB one' two' l := by
  rw [Bool.eq_iff_iff, pairs_iff, pairs_iff]
  constructor
  · intro e i hi
    exact ⟨(h i hi).1 ▸ (e i hi).1, fun k hk => ((h i hi).2 k hk) ▸ (e i hi).2 k hk⟩
  · intro e i hi
    exact ⟨(h i hi).1.symm ▸ (e i hi).1, fun k hk => ((h i hi).2 k hk).symm ▸ (e i hi).2 k hk⟩
theorem pairs_and : pairsB one (fun x y => two x y && two' x y) l = (pairsB one two l && pairsB (fun _ => true) two' l) := by
  rw [Bool.eq_iff_iff, Bool.and_eq_true, pairs_iff, pairs_iff, pairs_iff]
  constructor
  · intro e
    exact ⟨fun i hi => ⟨(e i hi).1, fun k hk => (Bool.and_eq_true _ _ ▸ (e i hi).2 k hk).1⟩, fun i hi => ⟨rfl, fun k hk => (Bool.and_eq_true _ _ ▸ (e i hi).2 k hk).2⟩⟩
  · rintro ⟨e1, e2⟩ i hi
    exact ⟨(e1 i hi).1, fun k hk => by rw [(e1 i hi).2 k hk, (e2 i hi).2 k hk]; rfl⟩
end

theorem pairs_split {α : Type} {one : α → Bool} {two : α → α → Bool} {l : List α} : pairsB one two l = (l.all one && pairsB (fun _ => true) two l) := by
  rw [Bool.eq_iff_iff, Bool.and_eq_true, pairs_iff, pairs_iff, List.all_eq_true]
  constructor
  · intro e
    refine ⟨fun x hx => ?_, fun i hi => ⟨rfl, (e i hi).2⟩⟩
    obtain ⟨i, hi, rfl⟩ := List.mem_iff_getElem.1 hx
    exact (e i hi).1
  · rintro ⟨e1, e2⟩ i hi
    exact ⟨e1 _ (List.getElem_mem hi), (e2 i hi).2⟩
theorem all_take_succ {α : Type} (l : List α) (p : α → Bool) (k : Nat) (h : k < l.length) (h0 : (l.take k).all p = true) (h1 : p l[k] = true) : (l.take (k + 1)).all p = true := by
  rw [List.take_succ_eq_append_getElem h, List.all_append, h0]; simp [h1]
theorem all_no {α : Type} (l : List α) (p : α → Bool) (k : Nat) (h : k < l.length) (h1 : p l[k] = false) : l.all p = false := by
  rw [Bool.eq_false_iff]; intro e; rw [List.all_eq_true.1 e _ (List.getElem_mem h)] at h1; cases h1

def aloneB (x : TItem) : Bool := nameB x.name && (betweenB x.weight 0 1048576 && (betweenB x.hang 0 1048576 && (betweenB x.front 0 1048576 && betweenB x.back 0 1048576)))
def insideB (x : TItem) (len : Int) : Bool := decide (0 ≤ x.at_) && (betweenB x.width 1 1048576 && decide (x.at_ ≤ len - x.width))
def apartB (x y : TItem) : Bool := decide (x.at_ + x.width ≤ y.at_) || decide (y.at_ + y.width ≤ x.at_)
theorem apart_comm (x y : TItem) : apartB x y = apartB y x := by unfold apartB; rw [Bool.or_comm]
def sameName (a b : ByteArray) : Bool := a.toList == b.toList
theorem sameName_iff (a b : ByteArray) : sameName a b = true ↔ a = b := by
  unfold sameName
  rw [beq_iff_eq, ByteArray.toList_eq, ByteArray.toList_eq]
  exact ⟨fun h => ByteArray.ext (Array.toList_inj.1 h), fun h => by rw [h]⟩
def itemsB (l : List TItem) (len : Int) : Bool := decide (l.length ≤ 40) && (pairsB (fun x => aloneB x && insideB x len) apartB l && pairsB (fun _ => true) (fun x y => !sameName x.name y.name) l)
def brickB (x : TBrick) : Bool := nameB x.name && (betweenB x.weight 1 1048576 && betweenB x.count 0 60)
def sumTo {α : Type} (f : α → Int) (l : List α) (k : Nat) : Int := ((l.take k).map f).sum
theorem sumTo_zero {α : Type} (f : α → Int) (l : List α) : sumTo f l 0 = 0 := rfl
theorem sumTo_succ {α : Type} (f : α → Int) (l : List α) (k : Nat) (h : k < l.length) : sumTo f l (k + 1) = sumTo f l k + f l[k] := by
  unfold sumTo; rw [List.take_succ_eq_append_getElem h, List.map_append, List.sum_append_int]; simp
theorem sumTo_bound {α : Type} (f : α → Int) (l : List α) (M : Int) (h : ∀ x, x ∈ l → 0 ≤ f x ∧ f x ≤ M) : ∀ k, k ≤ l.length → 0 ≤ sumTo f l k ∧ sumTo f l k ≤ k * M := by
  intro k
  induction k with
  | zero => intro _; rw [sumTo_zero]; omega
  | succ k ih =>
    intro hk
    have h1 := ih (by omega)
    have h2 := h l[k] (List.getElem_mem (by omega))
    rw [sumTo_succ f l k (by omega)]
    have e : ((k + 1 : Nat) : Int) * M = (k : Int) * M + M := by rw [Int.natCast_add, Int.add_mul]; simp
    omega
def bricksB (l : List TBrick) : Bool := decide (l.length ≤ 8) && (pairsB brickB (fun x y => !sameName x.name y.name) l && decide (sumTo (·.count) l l.length ≤ 60))
def lineAt (l : List Int) (len : Int) (i : Nat) : Bool := match l[i]? with | none => true | some x => betweenB x 0 len && (decide (i = 0) || decide (l[i - 1]?.getD 0 < x))
def linesB (l : List Int) (len : Int) : Bool := decide (2 ≤ l.length ∧ l.length ≤ 10) && (List.range l.length).all (lineAt l len)
def headB (S : TSet) : Bool := nameB S.name && (betweenB S.depth 0 1048576 && (decide (0 ≤ S.low) && (decide (S.low ≤ S.high) && (decide (S.high ≤ 1048576) && (betweenB S.length 1000 1048576 && decide (S.length % 1000 = 0))))))
def weightsB (S : TSet) : Bool := betweenB S.pipe 0 1048576 && (betweenB S.arbor 0 1048576 && (betweenB S.purchase 1 2 && (betweenB S.most 1 67108864 && betweenB S.brake 0 67108864)))
def validB (S : TSet) : Bool := headB S && (linesB S.lines S.length && (weightsB S && (itemsB S.items S.length && bricksB S.bricks)))

structure GoodItem (len : Int) (x : TItem) : Prop where
  name : nameB x.name = true
  p0 : 0 ≤ x.at_
  w1 : 1 ≤ x.width
  pw : x.at_ + x.width ≤ len
  m0 : 0 ≤ x.weight
  m1 : x.weight ≤ 1048576
  h0 : 0 ≤ x.hang
  h1 : x.hang ≤ 1048576
  f0 : 0 ≤ x.front
  f1 : x.front ≤ 1048576
  b0 : 0 ≤ x.back
  b1 : x.back ≤ 1048576
theorem GoodItem.of {len : Int} {x : TItem} (h : (aloneB x && insideB x len) = true) : GoodItem len x := by
  simp only [aloneB, insideB, betweenB, Bool.and_eq_true, decide_eq_true_iff] at h
  obtain ⟨⟨h1, h2, h3, h4, h5⟩, h6, h7, h8⟩ := h
  exact ⟨h1, h6, h7.1, by omega, h2.1, h2.2, h3.1, h3.2, h4.1, h4.2, h5.1, h5.2⟩
structure GoodBrick (x : TBrick) : Prop where
  name : nameB x.name = true
  w0 : 1 ≤ x.weight
  w1 : x.weight ≤ 1048576
  c0 : 0 ≤ x.count
  c1 : x.count ≤ 60
theorem GoodBrick.of {x : TBrick} (h : brickB x = true) : GoodBrick x := by
  simp only [brickB, betweenB, Bool.and_eq_true, decide_eq_true_iff] at h
  obtain ⟨h1, h2, h3⟩ := h
  exact ⟨h1, h2.1, h2.2, h3.1, h3.2⟩
structure Good (S : TSet) : Prop where
  name : nameB S.name = true
  d0 : 0 ≤ S.depth
  d1 : S.depth ≤ 1048576
  l0 : 0 ≤ S.low
  l1 : S.low ≤ S.high
  h1 : S.high ≤ 1048576
  n0 : 1000 ≤ S.length
  n1 : S.length ≤ 1048576
  nm : S.length % 1000 = 0
  p0 : 0 ≤ S.pipe
  p1 : S.pipe ≤ 1048576
  a0 : 0 ≤ S.arbor
  a1 : S.arbor ≤ 1048576
  u0 : 1 ≤ S.purchase
  u1 : S.purchase ≤ 2
  m0 : 1 ≤ S.most
  m1 : S.most ≤ 67108864
  b0 : 0 ≤ S.brake
  b1 : S.brake ≤ 67108864
  ln0 : 2 ≤ S.lines.length
  ln1 : S.lines.length ≤ 10
  lat : ∀ i, i < S.lines.length → lineAt S.lines S.length i = true
  ni : S.items.length ≤ 40
  items : ∀ x, x ∈ S.items → GoodItem S.length x
  apart : pairsB (fun _ => true) apartB S.items = true
  inames : pairsB (fun _ => true) (fun x y => !sameName x.name y.name) S.items = true
  nb : S.bricks.length ≤ 8
  bricks : ∀ x, x ∈ S.bricks → GoodBrick x
  bnames : pairsB (fun _ => true) (fun x y => !sameName x.name y.name) S.bricks = true
  bsum : sumTo (·.count) S.bricks S.bricks.length ≤ 60
theorem pairs_two {α : Type} {one : α → Bool} {two : α → α → Bool} {l : List α} (h : pairsB one two l = true) : pairsB (fun _ => true) two l = true := by
  rw [pairs_iff] at h ⊢
  exact fun i hi => ⟨rfl, (h i hi).2⟩
theorem pairs_one {α : Type} {one : α → Bool} {two : α → α → Bool} {l : List α} (h : pairsB one two l = true) (x : α) (hx : x ∈ l) : one x = true := by
  rw [pairs_iff] at h
  obtain ⟨i, hi, rfl⟩ := List.mem_iff_getElem.1 hx
  exact (h i hi).1
theorem Good.of {S : TSet} (h : validB S = true) : Good S := by
  simp only [validB, headB, weightsB, itemsB, bricksB, linesB, Bool.and_eq_true, decide_eq_true_iff, between_iff, List.all_eq_true, List.mem_range] at h
  obtain ⟨⟨h1, h2, h3, h4, h5, h6, h7⟩, ⟨h8, h9⟩, ⟨h10, h11, h12, h13, h14⟩, ⟨h15, h16, h17⟩, h18, h19, h20⟩ := h
  exact ⟨h1, h2.1, h2.2, h3, h4, h5, h6.1, h6.2, h7, h10.1, h10.2, h11.1, h11.2, h12.1, h12.2, h13.1, h13.2, h14.1, h14.2, h8.1, h8.2, h9, h15,
    fun x hx => GoodItem.of (pairs_one h16 x hx), pairs_two h16, h17, h18, fun x hx => GoodBrick.of (pairs_one h19 x hx), pairs_two h19, h20⟩

def pipeI (S : TSet) : Int := S.pipe * (S.length / 1000)
def weightI (S : TSet) : Int := pipeI S + sumTo (·.weight) S.items S.items.length
theorem pipe_bound {S : TSet} (h : Good S) : 0 ≤ pipeI S ∧ pipeI S ≤ 1099511627776 := by
  have h1 : 0 ≤ S.length / 1000 := by have := h.n0; omega
  have h2 : S.length / 1000 ≤ 1048576 := by have := h.n1; omega
  exact ⟨Int.mul_nonneg h.p0 h1, by
    have := Int.mul_le_mul h.p1 h2 h1 (by decide)
    exact Int.le_trans this (by decide)⟩
theorem weights_bound {S : TSet} (h : Good S) (k : Nat) (hk : k ≤ S.items.length) : 0 ≤ sumTo (·.weight) S.items k ∧ sumTo (·.weight) S.items k ≤ 41943040 := by
  have h1 := sumTo_bound (·.weight) S.items 1048576 (fun x hx => ⟨(h.items x hx).m0, (h.items x hx).m1⟩) k hk
  have h2 := h.ni
  omega

end Go.Proofs.Ytmdghocpelkcoaa

/- What the small functions come to, in plain terms. -/
namespace Go.Proofs.Ytmdghocpelkcoaa
set_option linter.unusedSimpArgs false

theorem cond_some {α : Type} (c : Bool) (a b : α) : (cond c (some a) (some b) : Option α) = some (cond c a b) := by cases c <;> rfl
theorem decide_and_cond (p q : Prop) [Decidable p] [Decidable q] : decide (p ∧ q) = (bif decide p then decide q else false) := by by_cases h : p <;> by_cases h' : q <;> simp [h, h']
theorem f_between (n lo hi : Int) : F_batten_between n lo hi = some (betweenB n lo hi) := by
  unfold F_batten_between betweenB
  rw [cond_some, Option.bind_some, decide_and_cond]
  cases h : decide (n ≥ lo) <;> rfl
theorem f_rbetween (n lo hi : Int) : F_ref21_between n lo hi = some (betweenB n lo hi) := f_between n lo hi
theorem f_slices_IndexFunc_int (s : List Int) (hs : s.length < 9223372036854775807) (f : Int → Option Bool) (g : Int → Bool) (hf : ∀ x ∈ s, f x = some (g x)) : F_slices_IndexFunc_int s f = some (match s.findIdx? g with | some i => (i : Int) | none => -1) := by
  unfold F_slices_IndexFunc_int
  rw [iter_find s hs (fun k x => bif g x then some (Sum.inl ((k : Int), ())) else none) (.inr ()) ?hin ?hout]
  · have e : ∀ (l : List Int) (j : Nat), ((l.zipIdx j).findSome? fun x => bif g x.1 then some (Sum.inl ((x.2 : Int), ()) : (Int × Unit) ⊕ Unit) else none) = (l.findIdx? g).map fun i => .inl (((i + j : Nat) : Int), ()) := by
      intro l
      induction l with
      | nil => intro j; rfl
      | cons x l ih =>
        intro j
        rw [List.zipIdx_cons, List.findSome?_cons, List.findIdx?_cons]
        cases hg : g x with
        | true => simp
        | false =>
          simp only [cond_false]
          rw [ih (j + 1)]
          cases l.findIdx? g with
          | none => rfl
          | some i => simp; omega
    rw [e s 0]
    cases s.findIdx? g with
    | none => rfl
    | some i => rfl
  case hin =>
    intro k hk
    have hlt : decide ((k : Int) < ((s.length : Nat) : Int)) = true := decide_eq_true (by omega)
    simp only [hlt, cond_true, idx_at hk, Option.bind_some, hf _ (List.getElem_mem hk)]
    cases g s[k] with
    | true => rfl
    | false => simp only [cond_false]; rw [wrap64 (by omega) (by omega)]
  case hout =>
    have hlt : decide (((s.length : Nat) : Int) < ((s.length : Nat) : Int)) = false := decide_eq_false (by omega)
    simp only [hlt, cond_false]
theorem f_slices_ContainsFunc_int (s : List Int) (hs : s.length < 9223372036854775807) (f : Int → Option Bool) (g : Int → Bool) (hf : ∀ x ∈ s, f x = some (g x)) : F_slices_ContainsFunc_int s f = some (s.any g) := by
  unfold F_slices_ContainsFunc_int
  rw [f_slices_IndexFunc_int s hs f g hf, Option.bind_some]
  congr 1
  cases h : s.findIdx? g with
  | none =>
    rw [List.findIdx?_eq_none_iff] at h
    have : s.any g = false := by rw [List.any_eq_false]; intro x hx; rw [h x hx]; simp
    rw [this]; rfl
  | some i =>
    obtain ⟨hi, hg, _⟩ := List.findIdx?_eq_some_iff_getElem.1 h
    have : s.any g = true := List.any_eq_true.2 ⟨_, List.getElem_mem hi, hg⟩
    rw [this]
    exact decide_eq_true (by show (i : Int) ≥ 0; omega)
theorem f_slices_IndexFunc_api_Item (s : List TItem) (hs : s.length < 9223372036854775807) (f : TItem → Option Bool) (g : TItem → Bool) (hf : ∀ x ∈ s, f x = some (g x)) : F_slices_IndexFunc_api_Item s f = some (match s.findIdx? g with | some i => (i : Int) | none => -1) := by
  unfold F_slices_IndexFunc_api_Item
  rw [iter_find s hs (fun k x => bif g x then some (Sum.inl ((k : Int), ())) else none) (.inr ()) ?hin ?hout]
  · have e : ∀ (l : List TItem) (j : Nat), ((l.zipIdx j).findSome? fun x => bif g x.1 then some (Sum.inl ((x.2 : Int), ()) : (Int × Unit) ⊕ Unit) else none) = (l.findIdx? g).map fun i => .inl (((i + j : Nat) : Int), ()) := by
      intro l
      induction l with
      | nil => intro j; rfl
      | cons x l ih =>
        intro j
        rw [List.zipIdx_cons, List.findSome?_cons, List.findIdx?_cons]
        cases hg : g x with
        | true => simp
        | false =>
          simp only [cond_false]
          rw [ih (j + 1)]
          cases l.findIdx? g with
          | none => rfl
          | some i => simp; omega
    rw [e s 0]
    cases s.findIdx? g with
    | none => rfl
    | some i => rfl
  case hin =>
    intro k hk
    have hlt : decide ((k : Int) < ((s.length : Nat) : Int)) = true := decide_eq_true (by omega)
    simp only [hlt, cond_true, idx_at hk, Option.bind_some, hf _ (List.getElem_mem hk)]
    cases g s[k] with
    | true => rfl
    | false => simp only [cond_false]; rw [wrap64 (by omega) (by omega)]
  case hout =>
    have hlt : decide (((s.length : Nat) : Int) < ((s.length : Nat) : Int)) = false := decide_eq_false (by omega)
    simp only [hlt, cond_false]
theorem f_slices_ContainsFunc_api_Item (s : List TItem) (hs : s.length < 9223372036854775807) (f : TItem → Option Bool) (g : TItem → Bool) (hf : ∀ x ∈ s, f x = some (g x)) : F_slices_ContainsFunc_api_Item s f = some (s.any g) := by
  unfold F_slices_ContainsFunc_api_Item
  rw [f_slices_IndexFunc_api_Item s hs f g hf, Option.bind_some]
  congr 1
  cases h : s.findIdx? g with
  | none =>
    rw [List.findIdx?_eq_none_iff] at h
    have : s.any g = false := by rw [List.any_eq_false]; intro x hx; rw [h x hx]; simp
    rw [this]; rfl
  | some i =>
    obtain ⟨hi, hg, _⟩ := List.findIdx?_eq_some_iff_getElem.1 h
    have : s.any g = true := List.any_eq_true.2 ⟨_, List.getElem_mem hi, hg⟩
    rw [this]
    exact decide_eq_true (by show (i : Int) ≥ 0; omega)
theorem f_slices_IndexFunc_api_Job (s : List TJob) (hs : s.length < 9223372036854775807) (f : TJob → Option Bool) (g : TJob → Bool) (hf : ∀ x ∈ s, f x = some (g x)) : F_slices_IndexFunc_api_Job s f = some (match s.findIdx? g with | some i => (i : Int) | none => -1) := by
  unfold F_slices_IndexFunc_api_Job
  rw [iter_find s hs (fun k x => bif g x then some (Sum.inl ((k : Int), ())) else none) (.inr ()) ?hin ?hout]
  · have e : ∀ (l : List TJob) (j : Nat), ((l.zipIdx j).findSome? fun x => bif g x.1 then some (Sum.inl ((x.2 : Int), ()) : (Int × Unit) ⊕ Unit) else none) = (l.findIdx? g).map fun i => .inl (((i + j : Nat) : Int), ()) := by
      intro l
      induction l with
      | nil => intro j; rfl
      | cons x l ih =>
        intro j
        rw [List.zipIdx_cons, List.findSome?_cons, List.findIdx?_cons]
        cases hg : g x with
        | true => simp
        | false =>
          simp only [cond_false]
          rw [ih (j + 1)]
          cases l.findIdx? g with
          | none => rfl
          | some i => simp; omega
    rw [e s 0]
    cases s.findIdx? g with
    | none => rfl
    | some i => rfl
  case hin =>
    intro k hk
    have hlt : decide ((k : Int) < ((s.length : Nat) : Int)) = true := decide_eq_true (by omega)
    simp only [hlt, cond_true, idx_at hk, Option.bind_some, hf _ (List.getElem_mem hk)]
    cases g s[k] with
    | true => rfl
    | false => simp only [cond_false]; rw [wrap64 (by omega) (by omega)]
  case hout =>
    have hlt : decide (((s.length : Nat) : Int) < ((s.length : Nat) : Int)) = false := decide_eq_false (by omega)
    simp only [hlt, cond_false]
theorem f_slices_ContainsFunc_api_Job (s : List TJob) (hs : s.length < 9223372036854775807) (f : TJob → Option Bool) (g : TJob → Bool) (hf : ∀ x ∈ s, f x = some (g x)) : F_slices_ContainsFunc_api_Job s f = some (s.any g) := by
  unfold F_slices_ContainsFunc_api_Job
  rw [f_slices_IndexFunc_api_Job s hs f g hf, Option.bind_some]
  congr 1
  cases h : s.findIdx? g with
  | none =>
    rw [List.findIdx?_eq_none_iff] at h
    have : s.any g = false := by rw [List.any_eq_false]; intro x hx; rw [h x hx]; simp
    rw [this]; rfl
  | some i =>
    obtain ⟨hi, hg, _⟩ := List.findIdx?_eq_some_iff_getElem.1 h
    have : s.any g = true := List.any_eq_true.2 ⟨_, List.getElem_mem hi, hg⟩
    rw [this]
    exact decide_eq_true (by show (i : Int) ≥ 0; omega)
end Go.Proofs.Ytmdghocpelkcoaa

/- Names: what the two readers of names come to. -/
namespace Go.Proofs.Ytmdghocpelkcoaa

theorem takeWhile_len {α : Type} (p : α → Bool) : ∀ (l : List α) (k : Nat), k ≤ l.length → (∀ i (h : i < l.length), i < k → p l[i] = true) → (∀ h : k < l.length, p l[k] = false) → (l.takeWhile p).length = k
  | [], k, hk, _, _ => by simp at hk; subst hk; rfl
  | x :: l, 0, _, _, h2 => by
    have := h2 (by simp)
    rw [List.takeWhile_cons]
    simp only [List.getElem_cons_zero] at this
    rw [this]; rfl
  | x :: l, k + 1, hk, h1, h2 => by
    have hx := h1 0 (by simp) (by omega)
    simp only [List.getElem_cons_zero] at hx
    rw [List.takeWhile_cons, hx]
    simp only [if_true, List.length_cons]
    rw [takeWhile_len p l k (by simpa using hk) (fun i h hi => by have := h1 (i + 1) (by simpa using h) (by omega); simpa using this) (fun h => by have := h2 (by simpa using h); simpa using this)]
theorem f_letter (c : Int) : F_decimal_letter c = some (letterB c) := by
  unfold F_decimal_letter letterB
  by_cases h1 : c ≥ 97 <;> by_cases h2 : c ≤ 122 <;> by_cases h3 : c ≥ 65 <;> by_cases h4 : c ≤ 90 <;> simp [h1, h2, h3, h4] <;> omega
theorem f_digit (c : Int) : F_decimal_digit c = some (digitB c) := by
  unfold F_decimal_digit digitB
  by_cases h1 : c ≥ 48 <;> by_cases h2 : c ≤ 57 <;> simp [h1, h2] <;> omega
theorem f_rletter (c : Int) : F_ref01_Letter c = some (letterB c) := f_letter c
theorem f_rdigit (c : Int) : F_ref01_Digit c = some (digitB c) := f_digit c
theorem f_word (s : ByteArray) (hs : s.size ≤ 9223372036854775806) : F_decimal_word s = some (wordN s : Int) := by
  unfold F_decimal_word
  have hlen : s.data.toList.length = s.size := rfl
  obtain ⟨r, h1, h2⟩ := iter_inv (F := fun s11 : Int × Unit => (bif (decide (s11.1 < ((s.size : Nat) : Int))) then (idxB s s11.1).bind fun b12 => (F_decimal_letter ((b12.toNat : Nat) : Int)).bind fun r13 => (bif r13 then some (.inl ((IntKind.i64.wrap (s11.1 + 1)), ())) else (idxB s s11.1).bind fun b14 => (F_decimal_digit ((b14.toNat : Nat) : Int)).bind fun r15 => (bif r15 then some (.inl ((IntKind.i64.wrap (s11.1 + 1)), ())) else (idxB s s11.1).bind fun b16 => (bif (((b16.toNat : Nat) : Int) == 95) then some (.inl ((IntKind.i64.wrap (s11.1 + 1)), ())) else some (.inr (s11.1, ()))))) else some (.inr (s11.1, ())) : Option ((Int × Unit) ⊕ (Int × Unit))))
    (Q := fun r => r = ((wordN s : Int), ())) (fun k x => x = ((k : Int), ()) ∧ ∀ i (h : i < s.data.toList.length), i < k → wcB s.data.toList[i] = true) s.size (by unfold big; omega) (fun k x hk hi => by
      obtain ⟨rfl, hi⟩ := hi
      by_cases hlt : k < s.size
      · have hd : decide ((k : Int) < ((s.size : Nat) : Int)) = true := decide_eq_true (by omega)
        simp only [hd, cond_true, idxB_at hlt, Option.bind_some, f_letter, f_digit]
        rw [wrap64 (by omega) (by omega)]
        cases hw : wcB s[k] with
        | true =>
          refine .inl ⟨((k : Int) + 1, ()), ?_, hlt, rfl, fun i h hik => ?_⟩
          · unfold wcB at hw
            cases hl : letterB s[k].toNat with
            | true => rfl
            | false =>
              rw [hl] at hw
              cases hdg : digitB s[k].toNat with
              | true => rfl
              | false =>
                rw [hdg] at hw
                simp only [Bool.false_or] at hw
                simp only [cond_false, hw, cond_true]
          · by_cases hik' : i < k
            · exact hi i h hik'
            · obtain rfl : i = k := by omega
              exact hw
        | false =>
          refine .inr ⟨((k : Int), ()), ?_, ?_⟩
          · unfold wcB at hw
            simp only [Bool.or_eq_false_iff] at hw
            simp only [hw.1, hw.2.1, hw.2.2, cond_false]
          · have := takeWhile_len wcB s.data.toList k (by omega) hi (fun _ => hw)
            unfold wordN
            rw [this]
      · obtain rfl : k = s.size := by omega
        have hd : decide (((s.size : Nat) : Int) < ((s.size : Nat) : Int)) = false := decide_eq_false (by omega)
        simp only [hd, cond_false]
        refine .inr ⟨_, rfl, ?_⟩
        have := takeWhile_len wcB s.data.toList s.size (by omega) hi (fun h => by omega)
        unfold wordN
        rw [this]) (s := (0, ())) ⟨rfl, fun i _ h => by omega⟩
  rw [h1, h2]
  rfl
theorem takeWhile_all {α : Type} (p : α → Bool) : ∀ (l : List α), ((l.takeWhile p).length == l.length) = l.all p
  | [] => rfl
  | x :: l => by
    rw [List.takeWhile_cons, List.all_cons]
    cases p x with
    | true =>
      simp only [if_true, List.length_cons, Bool.true_and]
      rw [← takeWhile_all p l]
      rw [Bool.eq_iff_iff, beq_iff_eq, beq_iff_eq]
      omega
    | false => simp
theorem f_name (s : ByteArray) (hs : s.size ≤ 9223372036854775806) : F_decimal_IsName s = some (nameB s) := by
  unfold F_decimal_IsName nameB
  have hlen : s.data.toList.length = s.size := rfl
  have hw : ∀ (c : UInt8) (l : List UInt8), s.data.toList = c :: l → ((wordN s : Int) == ((s.size : Nat) : Int)) = (c :: l).all wcB := by
    intro c l h
    rw [← h, ← takeWhile_all, hlen]
    unfold wordN
    rw [Bool.eq_iff_iff, beq_iff_eq, beq_iff_eq]
    omega
  simp only [f_word s hs, ByteArray.toList_eq]
  show Option.bind (bif (!(s.data.toList == [])) then _ else _) _ = _
  cases hl : s.data.toList with
  | nil => rfl
  | cons c l =>
    rw [hl] at hlen
    have h0 : idxB s 0 = some c := by
      have h1 : 0 < s.size := by rw [← hlen]; simp
      have := idxB_at (s := s) (k := 0) h1
      have e : s[0] = s.data.toList[0]'(by rw [hl]; simp) := rfl
      rw [e] at this
      simp only [hl, List.getElem_cons_zero] at this
      exact this
    have h1 : (!(c :: l == ([] : List UInt8))) = true := rfl
    simp only [h1, cond_true, h0, Option.bind_some, f_letter]
    have h2 : decide (((s.size : Nat) : Int) ≤ 20) = decide (l.length < 20) := by
      rw [← hlen]
      simp only [List.length_cons]
      by_cases h : l.length < 20
      · rw [decide_eq_true h]; exact decide_eq_true (by omega)
      · rw [decide_eq_false h]; exact decide_eq_false (by omega)
    rw [h2, hw c l hl]
    cases decide (l.length < 20) <;> cases letterB ((c.toNat : Nat) : Int) <;> rfl
end Go.Proofs.Ytmdghocpelkcoaa

/- Names by the reference; items by themselves. -/
namespace Go.Proofs.Ytmdghocpelkcoaa

theorem f_rname (s : ByteArray) (hs : s.size ≤ 9223372036854775806) : F_ref01_IsName s = some (nameB s) := by
  have hlen : s.data.toList.length = s.size := rfl
  have hrw : F_ref01_word s 0 = F_decimal_word s := rfl
  have h0 := f_name s hs
  unfold F_ref01_IsName
  unfold F_decimal_IsName at h0
  rw [hrw]
  simp only [f_word s hs, ByteArray.toList_eq, f_letter, f_rletter] at h0 ⊢
  rw [← h0]
  cases hl : s.data.toList with
  | nil =>
    have : s.size = 0 := by rw [← hlen, hl]; rfl
    rw [this]; rfl
  | cons c l =>
    rw [hl] at hlen
    have hpos : 0 < s.size := by rw [← hlen]; simp
    have e1 : (((s.size : Nat) : Int) == 0) = false := by rw [beq_eq_false_iff_ne]; omega
    have e2 : (!(c :: l == (⟨#[]⟩ : ByteArray).data.toList)) = true := rfl
    have e3 : decide (((s.size : Nat) : Int) > 20) = !decide (((s.size : Nat) : Int) ≤ 20) := by
      by_cases h : ((s.size : Nat) : Int) ≤ 20
      · rw [decide_eq_true h]; exact decide_eq_false (by omega)
      · rw [decide_eq_false h]; exact decide_eq_true (by omega)
    have h1 := idxB_at (s := s) (k := 0) hpos
    have h1' : idxB s 0 = some s[0] := h1
    rw [e1, e2, e3, h1']
    cases decide (((s.size : Nat) : Int) ≤ 20) with
    | false => rfl
    | true =>
      simp only [Bool.not_true, cond_false, cond_true, Option.bind_some]
      cases letterB ((s[0].toNat : Nat) : Int) <;> rfl
theorem f_alone (x : TItem) (hx : x.name.size ≤ 9223372036854775806) : F_batten_alone x = some (aloneB x) := by
  unfold F_batten_alone aloneB
  rw [f_name _ hx]
  simp only [f_between, Option.bind_some]
  cases nameB x.name <;> cases betweenB x.weight 0 1048576 <;> cases betweenB x.hang 0 1048576 <;> cases betweenB x.front 0 1048576 <;> rfl
theorem f_inside (x : TItem) (len : Int) (h1 : -4611686018427387904 ≤ len) (h2 : len ≤ 4611686018427387904) : F_batten_inside x len = some (insideB x len) := by
  unfold F_batten_inside insideB
  simp only [f_between, Option.bind_some]
  by_cases h : 0 ≤ x.at_
  · have e : decide (x.at_ ≥ 0) = true := decide_eq_true h
    rw [e]
    cases hb : betweenB x.width 1 1048576 with
    | false => rfl
    | true =>
      rw [between_iff] at hb
      rw [wrap64 (by omega) (by omega)]
      rfl
  · have e : decide (x.at_ ≥ 0) = false := decide_eq_false h
    rw [e]
    rfl
theorem f_apart (x y : TItem) (hx : -4611686018427387904 ≤ x.at_ + x.width ∧ x.at_ + x.width ≤ 4611686018427387904) (hy : -4611686018427387904 ≤ y.at_ + y.width ∧ y.at_ + y.width ≤ 4611686018427387904) : F_batten_apart x y = some (apartB x y) := by
  unfold F_batten_apart apartB
  rw [wrap64 (by omega) (by omega), wrap64 (by omega) (by omega)]
  cases decide (x.at_ + x.width ≤ y.at_) <;> rfl
theorem f_rapart (x y : TItem) (hx : -4611686018427387904 ≤ x.at_ + x.width ∧ x.at_ + x.width ≤ 4611686018427387904) (hy : -4611686018427387904 ≤ y.at_ + y.width ∧ y.at_ + y.width ≤ 4611686018427387904) : F_ref21_Apart x y = some (apartB x y) := f_apart x y hx hy
end Go.Proofs.Ytmdghocpelkcoaa

/- batten.twice: whether two elements have one name (a map as a set). -/
namespace Go.Proofs.Ytmdghocpelkcoaa

def keysM {α : Type} (f : α → ByteArray) (l : List α) : List (ByteArray × Bool) := l.foldl (fun m x => setM (f x) true m) []
theorem keysM_snoc {α : Type} (f : α → ByteArray) (l : List α) (x : α) : keysM f (l ++ [x]) = setM (f x) true (keysM f l) := by unfold keysM; rw [List.foldl_append]; rfl
theorem keysM_find {α : Type} (f : α → ByteArray) (s : ByteArray) (l : List α) (k : Nat) (hk : k ≤ l.length) : (findM s (keysM f (l.take k))).isSome = true ↔ ∃ x ∈ l.take k, f x = s := by
  induction k with
  | zero => simp [keysM, findM]
  | succ k ih =>
    have ih := ih (by omega)
    rw [List.take_succ_eq_append_getElem (by omega), keysM_snoc]
    by_cases h : s = f l[k]
    · subst h
      rw [find_set_same]
      exact ⟨fun _ => ⟨l[k], List.mem_append_right _ (List.mem_singleton.2 rfl), rfl⟩, fun _ => rfl⟩
    · rw [find_set_other h, ih]
      constructor
      · rintro ⟨x, hx, e⟩
        exact ⟨x, List.mem_append_left _ hx, e⟩
      · rintro ⟨x, hx, e⟩
        rcases List.mem_append.1 hx with hx | hx
        · exact ⟨x, hx, e⟩
        · rw [List.mem_singleton] at hx
          subst hx
          exact absurd e.symm h
theorem keysM_length {α : Type} (f : α → ByteArray) (l : List α) (k : Nat) (hk : k ≤ l.length) : (keysM f (l.take k)).length ≤ k ∧ ((keysM f (l.take k)).length = k ↔ ∀ i (hi : i < k) j (hj : j < i), f (l[j]'(by omega)) ≠ f (l[i]'(by omega))) := by
  induction k with
  | zero => exact ⟨by simp [keysM], by simp [keysM]⟩
  | succ k ih =>
    obtain ⟨h1, h2⟩ := ih (by omega)
    have hfind := keysM_find f (f l[k]) l k (by omega)
    have hlen := length_set (f l[k]) true (keysM f (l.take k))
    rw [List.take_succ_eq_append_getElem (by omega), keysM_snoc, hlen]
    by_cases hs : (findM (f l[k]) (keysM f (l.take k))).isSome = true
    · rw [if_pos hs]
      refine ⟨by omega, ⟨fun e => by omega, fun e => ?_⟩⟩
      obtain ⟨x, hx, he⟩ := hfind.1 hs
      obtain ⟨j, hj, rfl⟩ := List.mem_take_iff_getElem.1 hx
      exact absurd he (e k (by omega) j (by omega))
    · rw [if_neg hs]
      refine ⟨by omega, ⟨fun e i hi j hj => ?_, fun e => ?_⟩⟩
      · by_cases hik : i < k
        · exact h2.1 (by omega) i hik j hj
        · obtain rfl : i = k := by omega
          intro he
          exact hs (hfind.2 ⟨l[j]'(by omega), List.mem_take_iff_getElem.2 ⟨j, by omega, rfl⟩, he⟩)
      · have := h2.2 (fun i hi j hj => e i (by omega) j hj)
        omega
theorem keysM_twice {α : Type} (f : α → ByteArray) (l : List α) : decide ((((keysM f l).length : Nat) : Int) < ((l.length : Nat) : Int)) = !pairsB (fun _ => true) (fun x y => !sameName (f x) (f y)) l := by
  obtain ⟨h1, h2⟩ := keysM_length f l l.length (Nat.le_refl _)
  rw [List.take_length] at h1 h2
  have h3 : (keysM f l).length = l.length ↔ pairsB (fun _ => true) (fun x y => !sameName (f x) (f y)) l = true := by
    rw [h2, pairs_iff]
    constructor
    · intro e i hi
      refine ⟨rfl, fun k hk => ?_⟩
      rw [Bool.not_eq_true', Bool.eq_false_iff, Ne, sameName_iff]
      exact e i hi k hk
    · intro e i hi j hj
      have := (e i hi).2 j hj
      rw [Bool.not_eq_true', Bool.eq_false_iff, Ne, sameName_iff] at this
      exact this
  cases hp : pairsB (fun _ => true) (fun x y => !sameName (f x) (f y)) l with
  | true => exact decide_eq_false (by have := h3.2 hp; omega)
  | false => exact decide_eq_true (by
      have : (keysM f l).length ≠ l.length := fun e => by rw [h3.1 e] at hp; cases hp
      omega)
theorem f_batten_twice_api_Item (l : List TItem) (hl : l.length ≤ 2147483648) (name : TItem → Option ByteArray) (f : TItem → ByteArray) (hf : ∀ x ∈ l, name x = some (f x) ∧ (f x).size ≤ 2147483648) :
    F_batten_twice_api_Item l name = some (!pairsB (fun _ => true) (fun x y => !sameName (f x) (f y)) l) := by
  unfold F_batten_twice_api_Item
  obtain ⟨r, h1, h2⟩ := iter_inv (F := fun s5 : Int × List (ByteArray × Bool) × Unit => (bif (decide (s5.1 < ((l.length : Nat) : Int))) then (idx l s5.1).bind fun x6 => (name x6).bind fun r7 => (if r7.size ≤ 2147483648 ∧ s5.2.1.length ≤ 2147483648 then some (.inl ((IntKind.i64.wrap (s5.1 + 1)), (setM r7 true s5.2.1), ())) else none) else some (.inr (s5.2.1, ())) : Option ((Int × List (ByteArray × Bool) × Unit) ⊕ (List (ByteArray × Bool) × Unit))))
    (Q := fun r => r = (keysM f l, ())) (fun k s => s = ((k : Int), keysM f (l.take k), ())) l.length (by unfold big; omega) (fun k s hk hs => by
      subst hs
      by_cases hlt : k < l.length
      · have hd : decide ((k : Int) < ((l.length : Nat) : Int)) = true := decide_eq_true (by omega)
        obtain ⟨g1, g2⟩ := hf l[k] (List.getElem_mem hlt)
        have g3 := (keysM_length f l k (by omega)).1
        simp only [hd, cond_true, idx_at hlt, Option.bind_some, g1]
        rw [if_pos ⟨g2, by omega⟩, wrap64 (by omega) (by omega)]
        exact .inl ⟨_, rfl, hlt, by rw [List.take_succ_eq_append_getElem hlt, keysM_snoc]; rfl⟩
      · obtain rfl : k = l.length := by omega
        have hd : decide (((l.length : Nat) : Int) < ((l.length : Nat) : Int)) = false := decide_eq_false (by omega)
        simp only [hd, cond_false]
        exact .inr ⟨_, rfl, by rw [List.take_length]⟩) (s := (0, ([] : List (ByteArray × Bool)), ())) rfl
  rw [h1, h2, Option.bind_some, keysM_twice]
theorem f_batten_twice_api_Brick (l : List TBrick) (hl : l.length ≤ 2147483648) (name : TBrick → Option ByteArray) (f : TBrick → ByteArray) (hf : ∀ x ∈ l, name x = some (f x) ∧ (f x).size ≤ 2147483648) :
    F_batten_twice_api_Brick l name = some (!pairsB (fun _ => true) (fun x y => !sameName (f x) (f y)) l) := by
  unfold F_batten_twice_api_Brick
  obtain ⟨r, h1, h2⟩ := iter_inv (F := fun s5 : Int × List (ByteArray × Bool) × Unit => (bif (decide (s5.1 < ((l.length : Nat) : Int))) then (idx l s5.1).bind fun x6 => (name x6).bind fun r7 => (if r7.size ≤ 2147483648 ∧ s5.2.1.length ≤ 2147483648 then some (.inl ((IntKind.i64.wrap (s5.1 + 1)), (setM r7 true s5.2.1), ())) else none) else some (.inr (s5.2.1, ())) : Option ((Int × List (ByteArray × Bool) × Unit) ⊕ (List (ByteArray × Bool) × Unit))))
    (Q := fun r => r = (keysM f l, ())) (fun k s => s = ((k : Int), keysM f (l.take k), ())) l.length (by unfold big; omega) (fun k s hk hs => by
      subst hs
      by_cases hlt : k < l.length
      · have hd : decide ((k : Int) < ((l.length : Nat) : Int)) = true := decide_eq_true (by omega)
        obtain ⟨g1, g2⟩ := hf l[k] (List.getElem_mem hlt)
        have g3 := (keysM_length f l k (by omega)).1
        simp only [hd, cond_true, idx_at hlt, Option.bind_some, g1]
        rw [if_pos ⟨g2, by omega⟩, wrap64 (by omega) (by omega)]
        exact .inl ⟨_, rfl, hlt, by rw [List.take_succ_eq_append_getElem hlt, keysM_snoc]; rfl⟩
      · obtain rfl : k = l.length := by omega
        have hd : decide (((l.length : Nat) : Int) < ((l.length : Nat) : Int)) = false := decide_eq_false (by omega)
        simp only [hd, cond_false]
        exact .inr ⟨_, rfl, by rw [List.take_length]⟩) (s := (0, ([] : List (ByteArray × Bool)), ())) rfl
  rw [h1, h2, Option.bind_some, keysM_twice]
end Go.Proofs.Ytmdghocpelkcoaa

/- batten.items: what the items' check comes to. -/
namespace Go.Proofs.Ytmdghocpelkcoaa

theorem inside_sum {x : TItem} {len : Int} (h : insideB x len = true) (hl : len ≤ 4611686018427387904) : -4611686018427387904 ≤ x.at_ + x.width ∧ x.at_ + x.width ≤ 4611686018427387904 := by
  simp only [insideB, betweenB, Bool.and_eq_true, decide_eq_true_iff] at h
  omega
theorem f_items (l : List TItem) (len : Int) (hl : l.length ≤ 2147483648) (hn : ∀ x ∈ l, x.name.size ≤ 2147483648) (h1 : -4611686018427387904 ≤ len) (h2 : len ≤ 4611686018427387904) : F_batten_items l len = some (itemsB l len) := by
  unfold F_batten_items itemsB
  rw [f_batten_twice_api_Item l hl (fun z3 => F_batten_items_1 z3) (fun x => x.name) (fun x hx => ⟨rfl, hn x hx⟩)]
  by_cases h40 : l.length ≤ 40
  · have e1 : decide (((l.length : Nat) : Int) > 40) = false := decide_eq_false (by omega)
    rw [e1, decide_eq_true h40]
    cases hp : pairsB (fun _ => true) (fun x y : TItem => !sameName x.name y.name) l with
    | false => simp only [cond_false, Option.bind_some, Bool.not_false, cond_true, Bool.and_false]
    | true =>
      simp only [cond_false, Option.bind_some, Bool.not_true, Bool.and_true, Bool.true_and]
      obtain ⟨r, g1, g2⟩ := iter_inv (F := fun s16 : Int × Unit => (bif (decide (s16.1 < ((l.length : Nat) : Int))) then (idx l s16.1).bind fun x17 => ((F_batten_alone x17).bind fun r18 => (bif (!r18) then some (true, ()) else (F_batten_inside x17 len).bind fun r19 => (bif (!r19) then some (true, ()) else (if 0 ≤ (0 : Int) ∧ (0 : Int) ≤ s16.1 ∧ s16.1 ≤ ((l.length : Nat) : Int) then (F_slices_ContainsFunc_api_Item ((l.take (Int.toNat s16.1)).drop (Int.toNat (0 : Int))) (fun z20 => F_batten_items_2 z20 x17)).bind fun r21 => some (r21, ()) else none))) : Option (Bool × Unit)).bind fun y22 => (bif y22.1 then some (.inr (.inl (false, ()))) else some (.inl ((IntKind.i64.wrap (s16.1 + 1)), ()))) else some (.inr (.inr ((())))) : Option ((Int × Unit) ⊕ ((Bool × Unit) ⊕ Unit))))
        (Q := fun r => r = (bif pairsB (fun x => aloneB x && insideB x len) apartB l then .inr () else .inl (false, ()))) (fun k s => s = ((k : Int), ()) ∧ okTo (fun x => aloneB x && insideB x len) apartB l k) l.length (by unfold big; omega) (fun k s hk hs => by
          obtain ⟨rfl, hok⟩ := hs
          by_cases hlt : k < l.length
          · have hd : decide ((k : Int) < ((l.length : Nat) : Int)) = true := decide_eq_true (by omega)
            have hna := hn l[k] (List.getElem_mem hlt)
            simp only [hd, cond_true, idx_at hlt, Option.bind_some, f_alone l[k] (by omega), f_inside l[k] len h1 h2]
            have hat := okAt_eq (one := fun x => aloneB x && insideB x len) (two := apartB) hlt
            have hno : ∀ b, okAt (fun x => aloneB x && insideB x len) apartB l k = false → b = (Sum.inl (false, ()) : (Bool × Unit) ⊕ Unit) → b = (bif pairsB (fun x => aloneB x && insideB x len) apartB l then .inr () else .inl (false, ())) := fun b h hb => by rw [pairs_no hlt h, hb]; rfl
            cases ha : aloneB l[k] with
            | false => exact .inr ⟨_, rfl, hno _ (by rw [hat, ha]; rfl) rfl⟩
            | true =>
              cases hi : insideB l[k] len with
              | false => exact .inr ⟨_, rfl, hno _ (by rw [hat, ha, hi]; rfl) rfl⟩
              | true =>
                simp only [Bool.not_true, cond_false]
                rw [if_pos ⟨by omega, by omega, by omega⟩, Int.toNat_natCast]
                have hxs := inside_sum hi h2
                rw [f_slices_ContainsFunc_api_Item ((l.take k).drop (Int.toNat 0)) (by simp; omega) _ (fun z => !apartB l[k] z) (fun z hz => by
                  have hz' : z ∈ l.take k := by simpa using hz
                  obtain ⟨j, hj, rfl⟩ := List.mem_take_iff_getElem.1 hz'
                  have hjk : j < k := by omega
                  have := hok j hjk
                  rw [okAt_eq (by omega)] at this
                  simp only [Bool.and_eq_true] at this
                  unfold F_batten_items_2
                  rw [f_apart _ _ hxs (inside_sum this.1.2 h2)]
                  rfl)]
                have hdr : (l.take k).drop (Int.toNat 0) = l.take k := by simp
                rw [hdr]
                simp only [Option.bind_some]
                have hall : ((l.take k).any fun z => !apartB l[k] z) = !(l.take k).all fun y => apartB y l[k] := by
                  rw [List.not_all_eq_any_not]
                  congr 1
                  funext z
                  rw [apart_comm]
                rw [hall]
                cases hq : (l.take k).all fun y => apartB y l[k] with
                | false => exact .inr ⟨_, rfl, hno _ (by rw [hat, ha, hi, hq]; rfl) rfl⟩
                | true =>
                  refine .inl ⟨((k : Int) + 1, ()), ?_, hlt, rfl, okTo_succ hok (by rw [hat, ha, hi, hq]; rfl)⟩
                  simp only [Bool.not_true, cond_false]
                  rw [wrap64 (by omega) (by omega)]
          · obtain rfl : k = l.length := by omega
            have hd : decide (((l.length : Nat) : Int) < ((l.length : Nat) : Int)) = false := decide_eq_false (by omega)
            simp only [hd, cond_false]
            exact .inr ⟨_, rfl, by rw [pairs_yes hok]; rfl⟩) (s := (0, ())) ⟨rfl, okTo_zero⟩
      rw [g1, g2]
      cases pairsB (fun x => aloneB x && insideB x len) apartB l <;> rfl
  · have e1 : decide (((l.length : Nat) : Int) > 40) = true := decide_eq_true (by omega)
    rw [e1, decide_eq_false h40]
    rfl
end Go.Proofs.Ytmdghocpelkcoaa

/- batten.bricks: what the bricks' check comes to. -/
namespace Go.Proofs.Ytmdghocpelkcoaa

theorem f_bricks (l : List TBrick) (hl : l.length ≤ 2147483648) (hn : ∀ x ∈ l, x.name.size ≤ 2147483648) : F_batten_bricks l = some (bricksB l) := by
  unfold F_batten_bricks bricksB
  rw [f_batten_twice_api_Brick l hl (fun z3 => F_batten_bricks_1 z3) (fun x => x.name) (fun x hx => ⟨rfl, hn x hx⟩), pairs_split (one := brickB)]
  by_cases h8 : l.length ≤ 8
  · have e1 : decide (((l.length : Nat) : Int) > 8) = false := decide_eq_false (by omega)
    rw [e1, decide_eq_true h8]
    cases hp : pairsB (fun _ => true) (fun x y : TBrick => !sameName x.name y.name) l with
    | false => simp only [cond_false, Option.bind_some, Bool.not_false, cond_true, Bool.and_false, Bool.false_and]
    | true =>
      simp only [cond_false, Option.bind_some, Bool.not_true, Bool.and_true, Bool.true_and]
      obtain ⟨r, g1, g2⟩ := iter_inv (F := fun s14 : Int × Int × Unit => (bif (decide (s14.2.1 < ((l.length : Nat) : Int))) then (idx l s14.2.1).bind fun x15 => ((F_decimal_IsName x15.name).bind fun r16 => (bif (!r16) then some (true, ()) else (F_batten_between x15.weight 1 1048576).bind fun r17 => (bif (!r17) then some (true, ()) else (F_batten_between x15.count 0 60).bind fun r18 => some ((!r18), ()))) : Option (Bool × Unit)).bind fun y19 => (bif y19.1 then some (.inr (.inl (false, ()))) else some (.inl ((IntKind.i64.wrap (s14.1 + x15.count)), (IntKind.i64.wrap (s14.2.1 + 1)), ()))) else some (.inr (.inr ((s14.1, ())))) : Option ((Int × Int × Unit) ⊕ ((Bool × Unit) ⊕ (Int × Unit)))))
        (Q := fun r => r = (bif l.all brickB then .inr (sumTo (·.count) l l.length, ()) else .inl (false, ()))) (fun k s => s = (sumTo (·.count) l k, (k : Int), ()) ∧ (l.take k).all brickB = true) l.length (by unfold big; omega) (fun k s hk hs => by
          obtain ⟨rfl, hok⟩ := hs
          by_cases hlt : k < l.length
          · have hd : decide ((k : Int) < ((l.length : Nat) : Int)) = true := decide_eq_true (by omega)
            have hna := hn l[k] (List.getElem_mem hlt)
            simp only [hd, cond_true, idx_at hlt, Option.bind_some, f_name l[k].name (by omega), f_between]
            cases hb : brickB l[k] with
            | false =>
              refine .inr ⟨.inl (false, ()), ?_, by rw [all_no l brickB k hlt hb]; rfl⟩
              unfold brickB at hb
              cases ha : nameB l[k].name <;> cases hc : betweenB l[k].weight 1 1048576 <;> cases hd' : betweenB l[k].count 0 60 <;> first | rfl | (rw [ha, hc, hd'] at hb; cases hb)
            | true =>
              have hg := GoodBrick.of hb
              have hsum := sumTo_bound (·.count) (l.take k) 60 (fun x hx => by
                have := GoodBrick.of (List.all_eq_true.1 hok x hx)
                exact ⟨this.c0, this.c1⟩) k (by simp; omega)
              have hsk : sumTo (·.count) (l.take k) k = sumTo (·.count) l k := by unfold sumTo; rw [List.take_take, Nat.min_self]
              rw [hsk] at hsum
              refine .inl ⟨(sumTo (·.count) l k + l[k].count, (k : Int) + 1, ()), ?_, hlt, by rw [sumTo_succ _ _ _ hlt]; rfl, all_take_succ l brickB k hlt hok hb⟩
              have hc0 := hg.c0
              have hc1 := hg.c1
              unfold brickB at hb
              simp only [Bool.and_eq_true] at hb
              rw [hb.1, hb.2.1, hb.2.2, wrap64 (by omega) (by omega), wrap64 (by omega) (by omega)]
              rfl
          · obtain rfl : k = l.length := by omega
            have hd : decide (((l.length : Nat) : Int) < ((l.length : Nat) : Int)) = false := decide_eq_false (by omega)
            simp only [hd, cond_false]
            rw [List.take_length] at hok
            exact .inr ⟨_, rfl, by rw [hok]; rfl⟩) (s := (0, 0, ())) ⟨rfl, by simp⟩
      rw [g1, g2]
      cases l.all brickB <;> rfl
  · have e1 : decide (((l.length : Nat) : Int) > 8) = true := decide_eq_true (by omega)
    rw [e1, decide_eq_false h8]
    rfl
end Go.Proofs.Ytmdghocpelkcoaa

/- batten.lines: what the lines' check comes to. -/
namespace Go.Proofs.Ytmdghocpelkcoaa

theorem lineAt_eq (l : List Int) (len : Int) (i : Nat) (h : i < l.length) : lineAt l len i = (betweenB l[i] 0 len && (decide (i = 0) || decide (l[i - 1]'(by omega) < l[i]))) := by
  unfold lineAt
  rw [List.getElem?_eq_getElem h, List.getElem?_eq_getElem (show i - 1 < l.length by omega)]
  rfl
theorem linesB_iff (l : List Int) (len : Int) : linesB l len = true ↔ 2 ≤ l.length ∧ l.length ≤ 10 ∧ ∀ i (h : i < l.length), 0 ≤ l[i] ∧ l[i] ≤ len ∧ (i = 0 ∨ l[i - 1]'(by omega) < l[i]) := by
  unfold linesB
  rw [Bool.and_eq_true, decide_eq_true_iff, List.all_eq_true, and_assoc]
  refine and_congr Iff.rfl (and_congr Iff.rfl ⟨fun h i hi => ?_, fun h i hi => ?_⟩)
  · have := h i (List.mem_range.2 hi)
    rw [lineAt_eq l len i hi, Bool.and_eq_true, between_iff, Bool.or_eq_true, decide_eq_true_iff, decide_eq_true_iff, and_assoc] at this
    exact this
  · rw [lineAt_eq l len i (List.mem_range.1 hi), Bool.and_eq_true, between_iff, Bool.or_eq_true, decide_eq_true_iff, decide_eq_true_iff, and_assoc]
    exact h i (List.mem_range.1 hi)
theorem asc_mono (l : List Int) (h : ∀ i (h : i < l.length), 1 ≤ i → l[i - 1]'(by omega) < l[i]) : ∀ j (hj : j < l.length) i (hi : i ≤ j), l[i]'(by omega) ≤ l[j] := by
  intro j
  induction j with
  | zero => intro hj i hi; obtain rfl : i = 0 := by omega
            exact Int.le_refl _
  | succ j ih =>
    intro hj i hi
    rcases Nat.lt_or_ge i (j + 1) with h1 | h1
    · have h2 := ih (by omega) i (by omega)
      have h3 := h (j + 1) hj (by omega)
      simp only [Nat.add_sub_cancel] at h3
      omega
    · obtain rfl : i = j + 1 := by omega
      exact Int.le_refl _
theorem lines_yes (l : List Int) (len : Int) (h2 : 2 ≤ l.length) (h10 : l.length ≤ 10) (h0 : 0 ≤ l[0]) (hl : l[l.length - 1] ≤ len) (h : ∀ i (h : i < l.length), 1 ≤ i → l[i - 1]'(by omega) < l[i]) : linesB l len = true := by
  rw [linesB_iff]
  refine ⟨h2, h10, fun i hi => ?_⟩
  have m := asc_mono l h
  have m1 := m i hi 0 (by omega)
  have m2 := m (l.length - 1) (by omega) i (by omega)
  refine ⟨by omega, by omega, ?_⟩
  rcases Nat.eq_zero_or_pos i with h1 | h1
  · exact Or.inl h1
  · exact Or.inr (h i hi h1)
theorem lines_no_len (l : List Int) (len : Int) (h : ¬ (2 ≤ l.length ∧ l.length ≤ 10)) : linesB l len = false := by
  rw [Bool.eq_false_iff]; intro e; rw [linesB_iff] at e; exact h ⟨e.1, e.2.1⟩
theorem lines_no_at (l : List Int) (len : Int) (i : Nat) (hi : i < l.length) (h : l[i] < 0 ∨ len < l[i] ∨ (i ≠ 0 ∧ l[i] ≤ l[i - 1]'(by omega))) : linesB l len = false := by
  rw [Bool.eq_false_iff]; intro e; rw [linesB_iff] at e
  have := e.2.2 i hi
  omega

def AscTo (l : List Int) (k : Nat) : Prop := ∀ i (h : i < l.length), 1 ≤ i → i < k → l[i - 1]'(by omega) < l[i]
theorem AscTo.succ {l : List Int} {k : Nat} (h : AscTo l k) (hk : k < l.length) (h1 : l[k - 1]'(by omega) < l[k]) : AscTo l (k + 1) := fun i hi hi1 hik => by
  rcases Nat.lt_or_ge i k with h2 | h2
  · exact h i hi hi1 h2
  · obtain rfl : i = k := by omega
    exact h1
theorem f_lines (l : List Int) (len : Int) (hl : l.length ≤ 2147483648) : F_batten_lines l len = some (linesB l len) := by
  unfold F_batten_lines
  rw [f_between, Option.bind_some]
  by_cases hb : 2 ≤ l.length ∧ l.length ≤ 10
  · have e1 : betweenB ((l.length : Nat) : Int) 2 10 = true := (between_iff _ _ _).2 (by omega)
    have i0 : idx l 0 = some (l[0]'(by omega)) := idx_at (k := 0) (by omega)
    have i1 : idx l (IntKind.i64.wrap (((l.length : Nat) : Int) - 1)) = some (l[l.length - 1]'(by omega)) := by
      rw [wrap64 (by omega) (by omega), show ((l.length : Nat) : Int) - 1 = ((l.length - 1 : Nat) : Int) from by omega]
      exact idx_at (by omega)
    rw [e1, i0, i1]
    simp only [Bool.not_true, cond_false, Option.bind_some]
    by_cases h0 : l[0]'(by omega) < 0
    · rw [decide_eq_true h0, lines_no_at l len 0 (by omega) (.inl h0)]; rfl
    rw [decide_eq_false h0]
    by_cases h1 : l[l.length - 1]'(by omega) > len
    · rw [decide_eq_true h1, lines_no_at l len (l.length - 1) (by omega) (.inr (.inl h1))]; rfl
    rw [decide_eq_false h1]
    simp only [cond_false, Option.bind_some]
    obtain ⟨r, g1, g2⟩ := iter_inv (F := fun s10 : Int × Unit => (bif (decide (s10.1 < ((l.length : Nat) : Int))) then (idx l s10.1).bind fun x11 => (idx l (IntKind.i64.wrap (s10.1 - 1))).bind fun x12 => (bif (decide (x11 ≤ x12)) then some (.inr (.inl (false, ()))) else some (.inl ((IntKind.i64.wrap (s10.1 + 1)), ()))) else some (.inr (.inr ((())))) : Option ((Int × Unit) ⊕ ((Bool × Unit) ⊕ Unit))))
      (Q := fun r => r = (bif linesB l len then .inr () else .inl (false, ()))) (fun k s => s = (((k + 1 : Nat) : Int), ()) ∧ AscTo l (k + 1)) (l.length - 1) (by unfold big; omega) (fun k s hk hs => by
        obtain ⟨rfl, ha⟩ := hs
        by_cases hlt : k + 1 < l.length
        · have hd : decide (((k + 1 : Nat) : Int) < ((l.length : Nat) : Int)) = true := decide_eq_true (by omega)
          have i2 : idx l (IntKind.i64.wrap (((k + 1 : Nat) : Int) - 1)) = some (l[k]'(by omega)) := by
            rw [wrap64 (by omega) (by omega), show ((k + 1 : Nat) : Int) - 1 = (k : Int) from by omega]
            exact idx_at (by omega)
          simp only [hd, cond_true, idx_at hlt, i2, Option.bind_some]
          by_cases hle : l[k + 1] ≤ l[k]'(by omega)
          · rw [decide_eq_true hle]
            exact .inr ⟨_, rfl, by rw [lines_no_at l len (k + 1) hlt (.inr (.inr ⟨by omega, by simpa using hle⟩))]; rfl⟩
          · rw [decide_eq_false hle]
            refine .inl ⟨(((k + 1 + 1 : Nat) : Int), ()), ?_, by omega, rfl, ha.succ hlt (by simp only [Nat.add_sub_cancel]; omega)⟩
            simp only [cond_false]
            rw [wrap64 (by omega) (by omega)]
            rfl
        · have hk1 : k + 1 = l.length := by omega
          have hd : decide (((k + 1 : Nat) : Int) < ((l.length : Nat) : Int)) = false := decide_eq_false (by omega)
          simp only [hd, cond_false]
          exact .inr ⟨_, rfl, by rw [lines_yes l len hb.1 hb.2 (by omega) (by omega) (fun i hi h1 => ha i hi h1 (by omega))]; rfl⟩) (s := (1, ())) ⟨rfl, fun i hi h1 h2 => by omega⟩
    rw [g1, g2]
    cases linesB l len <;> rfl
  · have e1 : betweenB ((l.length : Nat) : Int) 2 10 = false := by
      rw [Bool.eq_false_iff]
      intro e
      rw [between_iff] at e
      omega
    rw [e1, lines_no_len l len hb]
    rfl
end Go.Proofs.Ytmdghocpelkcoaa

/- batten.Valid: a set is valid exactly if validB says so. -/
namespace Go.Proofs.Ytmdghocpelkcoaa

theorem W_len {α : Type} {l : List α} (h : l.length ≤ 2147483648) : l.length < 9223372036854775807 := by omega
/-- What is needed of a set's sizes. -/
structure Fits (s : TSet) : Prop where
  name : s.name.size ≤ 2147483648
  lines : s.lines.length ≤ 2147483648
  items : s.items.length ≤ 2147483648
  bricks : s.bricks.length ≤ 2147483648
  inames : ∀ x ∈ s.items, x.name.size ≤ 2147483648
  bnames : ∀ x ∈ s.bricks, x.name.size ≤ 2147483648
theorem f_valid (s : TSet) (h : Fits s) : F_batten_Valid s = some (validB s) := by
  unfold F_batten_Valid validB headB weightsB
  rw [f_name s.name (by have := h.name; omega), f_lines s.lines s.length h.lines, f_bricks s.bricks h.bricks h.bnames]
  simp only [f_between, Option.bind_some]
  cases nameB s.name <;> try rfl
  cases betweenB s.depth 0 1048576 <;> try rfl
  cases decide (0 ≤ s.low) <;> try rfl
  cases decide (s.low ≤ s.high) <;> try rfl
  cases decide (s.high ≤ 1048576) <;> try rfl
  cases hl : betweenB s.length 1000 1048576 <;> try rfl
  rw [between_iff] at hl
  have hm : (s.length.tmod 1000 == 0) = decide (s.length % 1000 = 0) := by
    rw [Int.tmod_eq_emod_of_nonneg (by omega)]
    by_cases hz : s.length % 1000 = 0
    · rw [decide_eq_true hz, beq_iff_eq.2 hz]
    · rw [decide_eq_false hz, beq_eq_false_iff_ne.2 hz]
  rw [hm, f_items s.items s.length h.items h.inames (by omega) (by omega)]
  simp only [cond_true, Option.bind_some]
  cases decide (s.length % 1000 = 0) <;> try rfl
  cases linesB s.lines s.length <;> try rfl
  cases betweenB s.pipe 0 1048576 <;> try rfl
  cases betweenB s.arbor 0 1048576 <;> try rfl
  cases betweenB s.purchase 1 2 <;> try rfl
  cases betweenB s.most 1 67108864 <;> try rfl
  cases betweenB s.brake 0 67108864 <;> try rfl
  cases itemsB s.items s.length <;> rfl
end Go.Proofs.Ytmdghocpelkcoaa

/- Weights: what is needed, what is there, the imbalance. -/
namespace Go.Proofs.Ytmdghocpelkcoaa

/-- A loop that adds up. -/
theorem iter_sum {α : Type} (f : α → Int) (l : List α) (hl : l.length ≤ 2147483648) (M : Int) (hM0 : 0 ≤ M) (hM : M ≤ 1152921504606846976) (a : Int) (ha : 0 ≤ a ∧ a ≤ 1152921504606846976) (hb : ∀ k, k ≤ l.length → 0 ≤ sumTo f l k ∧ sumTo f l k ≤ M) {F : Int × Int × Unit → Option ((Int × Int × Unit) ⊕ (Int × Unit))}
    (hin : ∀ (k : Nat) (hk : k < l.length) (z : Int), z = a + sumTo f l k → F (z, (k : Int), ()) = some (.inl (IntKind.i64.wrap (z + f l[k]), (k : Int) + 1, ()))) (hout : ∀ z : Int, F (z, (l.length : Int), ()) = some (.inr (z, ()))) :
    iterF F big (a, 0, ()) = some (a + sumTo f l l.length, ()) := by
  obtain ⟨r, h1, h2⟩ := iter_inv (F := F) (Q := fun r => r = (a + sumTo f l l.length, ())) (fun k s => s = (a + sumTo f l k, (k : Int), ())) l.length (by unfold big; omega) (fun k s hk hs => by
    subst hs
    by_cases hlt : k < l.length
    · have h3 := hb (k + 1) (by omega)
      have h4 := hb k hk
      have e := hin k hlt _ rfl
      rw [sumTo_succ _ _ _ hlt] at h3
      rw [wrap64 (by omega) (by omega)] at e
      exact .inl ⟨_, e, hlt, by rw [sumTo_succ _ _ _ hlt, Int.add_assoc]; rfl⟩
    · obtain rfl : k = l.length := by omega
      exact .inr ⟨_, hout _, rfl⟩) (s := (a, 0, ())) (by rw [sumTo_zero]; simp)
  rw [h1, h2]
def thereW (l : List TBrick) : Int := sumTo (fun b => b.weight * b.count) l l.length
def thereC (l : List TBrick) : Int := sumTo (·.count) l l.length
theorem brick_mul {x : TBrick} (h : GoodBrick x) : 0 ≤ x.weight * x.count ∧ x.weight * x.count ≤ 62914560 := by
  have h1 := h.w0
  have h2 := h.c0
  refine ⟨Int.mul_nonneg (by omega) h2, ?_⟩
  have := Int.mul_le_mul h.w1 h.c1 h2 (by decide)
  exact Int.le_trans this (by decide)
theorem thereW_bound {l : List TBrick} (hl : l.length ≤ 8) (h : ∀ x ∈ l, GoodBrick x) (k : Nat) (hk : k ≤ l.length) : 0 ≤ sumTo (fun b : TBrick => b.weight * b.count) l k ∧ sumTo (fun b : TBrick => b.weight * b.count) l k ≤ 503316480 := by
  have h1 := sumTo_bound (fun b : TBrick => b.weight * b.count) l 62914560 (fun x hx => brick_mul (h x hx)) k hk
  omega
theorem thereC_bound {l : List TBrick} (hl : l.length ≤ 8) (h : ∀ x ∈ l, GoodBrick x) (k : Nat) (hk : k ≤ l.length) : 0 ≤ sumTo (·.count) l k ∧ sumTo (·.count) l k ≤ 480 := by
  have h1 := sumTo_bound (·.count) l 60 (fun x hx => ⟨(h x hx).c0, (h x hx).c1⟩) k hk
  omega
theorem f_there (s : TSet) (hl : s.bricks.length ≤ 8) (h : ∀ x ∈ s.bricks, GoodBrick x) : F_arbor_there s = some (thereW s.bricks, thereC s.bricks) := by
  unfold F_arbor_there thereW thereC
  obtain ⟨r, h1, h2⟩ := iter_inv (F := fun s2 : Int × Int × Int × Unit => (bif (decide (s2.2.2.1 < ((s.bricks.length : Nat) : Int))) then (idx s.bricks s2.2.2.1).bind fun x3 => some (.inl ((IntKind.i64.wrap (s2.1 + (IntKind.i64.wrap (x3.weight * x3.count)))), (IntKind.i64.wrap (s2.2.1 + x3.count)), (IntKind.i64.wrap (s2.2.2.1 + 1)), ())) else some (.inr (s2.1, s2.2.1, ())) : Option ((Int × Int × Int × Unit) ⊕ (Int × Int × Unit))))
    (Q := fun r => r = (sumTo (fun b : TBrick => b.weight * b.count) s.bricks s.bricks.length, sumTo (·.count) s.bricks s.bricks.length, ())) (fun k z => z = (sumTo (fun b : TBrick => b.weight * b.count) s.bricks k, sumTo (·.count) s.bricks k, (k : Int), ())) s.bricks.length (by unfold big; omega) (fun k z hk hz => by
      subst hz
      by_cases hlt : k < s.bricks.length
      · have hd : decide ((k : Int) < ((s.bricks.length : Nat) : Int)) = true := decide_eq_true (by omega)
        have b1 := thereW_bound hl h k hk
        have b2 := thereC_bound hl h k hk
        have hg := h s.bricks[k] (List.getElem_mem hlt)
        have b3 := brick_mul hg
        have b4 := hg.c0
        have b5 := hg.c1
        simp only [hd, cond_true, idx_at hlt, Option.bind_some]
        rw [wrap64 (n := s.bricks[k].weight * s.bricks[k].count) (by omega) (by omega), wrap64 (by omega) (by omega), wrap64 (by omega) (by omega), wrap64 (by omega) (by omega)]
        exact .inl ⟨_, rfl, hlt, by rw [sumTo_succ _ _ _ hlt, sumTo_succ _ _ _ hlt]; rfl⟩
      · obtain rfl : k = s.bricks.length := by omega
        have hd : decide (((s.bricks.length : Nat) : Int) < ((s.bricks.length : Nat) : Int)) = false := decide_eq_false (by omega)
        simp only [hd, cond_false]
        exact .inr ⟨_, rfl, rfl⟩) (s := (0, 0, 0, ())) rfl
  rw [h1, h2]
  rfl
theorem f_pipe (s : TSet) (h : Good s) : F_batten_pipe s = some (pipeI s) := by
  unfold F_batten_pipe
  have hb := pipe_bound h
  have h0 := h.n0
  have h1 := h.n1
  have e : s.length.tdiv 1000 = s.length / 1000 := Int.tdiv_eq_ediv_of_nonneg (by omega)
  rw [e, wrap64 (n := s.length / 1000) (by omega) (by omega)]
  show some (IntKind.i64.wrap (pipeI s)) = _
  rw [wrap64 (by omega) (by omega)]
theorem f_weight (s : TSet) (h : Good s) : F_batten_weight s = some (weightI s) := by
  unfold F_batten_weight weightI
  rw [f_pipe s h, Option.bind_some]
  have hb := pipe_bound h
  have hni := h.ni
  rw [iter_sum (·.weight) s.items (by omega) 41943040 (by decide) (by decide) (pipeI s) (by omega) (fun k hk => weights_bound h k hk) ?hin ?hout]
  case hin =>
    intro k hk z hz
    have hd : decide ((k : Int) < ((s.items.length : Nat) : Int)) = true := decide_eq_true (by omega)
    simp only [hd, cond_true, idx_at hk, Option.bind_some]
    rw [wrap64 (n := (k : Int) + 1) (by omega) (by omega)]
  case hout =>
    intro z
    have hd : decide (((s.items.length : Nat) : Int) < ((s.items.length : Nat) : Int)) = false := decide_eq_false (by omega)
    simp only [hd, cond_false]
  rfl
theorem weight_bound {s : TSet} (h : Good s) : 0 ≤ weightI s ∧ weightI s ≤ 1099553570816 := by
  have h1 := pipe_bound h
  have h2 := weights_bound h s.items.length (Nat.le_refl _)
  unfold weightI
  omega
def neededI (s : TSet) : Int := weightI s * s.purchase - s.arbor
def balanceI (s : TSet) : Int := neededI s - thereW s.bricks
theorem needed_bound {s : TSet} (h : Good s) : -1048576 ≤ neededI s ∧ neededI s ≤ 2199107141632 := by
  have h1 := weight_bound h
  have h2 : 0 ≤ weightI s * s.purchase := Int.mul_nonneg h1.1 (by have := h.u0; omega)
  have h3 : weightI s * s.purchase ≤ 1099553570816 * 2 := Int.mul_le_mul h1.2 h.u1 (by have := h.u0; omega) (by decide)
  have h4 := h.a0
  have h5 := h.a1
  unfold neededI
  omega
theorem f_needed (s : TSet) (hf : Fits s) : F_arbor_Needed s = some (if validB s = true then (neededI s, 0) else (0, 1)) := by
  unfold F_arbor_Needed F_batten_Weight
  rw [f_valid s hf]
  cases hv : validB s with
  | false => rfl
  | true =>
    have h := Good.of hv
    have b1 := weight_bound h
    have b2 := needed_bound h
    have b3 : 0 ≤ weightI s * s.purchase := Int.mul_nonneg b1.1 (by have := h.u0; omega)
    have b4 : weightI s * s.purchase ≤ 1099553570816 * 2 := Int.mul_le_mul b1.2 h.u1 (by have := h.u0; omega) (by decide)
    simp only [Option.bind_some, Bool.not_true, cond_false, f_weight s h, if_true]
    show (bif ((0 : Int) != 0) then some (0, 0) else some (IntKind.i64.wrap (IntKind.i64.wrap (weightI s * s.purchase) - s.arbor), 0)) = _
    rw [wrap64 (n := weightI s * s.purchase) (by omega) (by omega)]
    show some (IntKind.i64.wrap (neededI s), 0) = _
    rw [wrap64 (by omega) (by omega)]
theorem f_balance (s : TSet) (hf : Fits s) : F_arbor_Balance s = some (if validB s = true then (balanceI s, 0) else (0, 1)) := by
  unfold F_arbor_Balance
  rw [f_needed s hf]
  cases hv : validB s with
  | false => rfl
  | true =>
    have h := Good.of hv
    have b1 := needed_bound h
    have b2 := thereW_bound h.nb h.bricks s.bricks.length (Nat.le_refl _)
    simp only [if_true, Option.bind_some, f_there s h.nb h.bricks]
    show some (IntKind.i64.wrap (neededI s - thereW s.bricks), 0) = _
    have e : balanceI s = neededI s - thereW s.bricks := rfl
    unfold thereW at e ⊢
    rw [wrap64 (by omega) (by omega)]
    rfl
end Go.Proofs.Ytmdghocpelkcoaa

/- Loops over lists as recursion over the list; small sets; counts. -/
namespace Go.Proofs.Ytmdghocpelkcoaa

/-- A loop over a list: it goes on with a new state, or stops. -/
def runL {α τ ρ : Type} (step : τ → α → τ ⊕ ρ) (fin : τ → ρ) : List α → τ → ρ
  | [], t => fin t
  | x :: l, t => match step t x with
    | .inl t => runL step fin l t
    | .inr r => r
theorem iter_run {σ τ ρ α : Type} {F : σ → Option (σ ⊕ ρ)} (enc : τ → Int → σ) (l : List α) (hl : l.length < 9223372036854775807) (step : τ → α → τ ⊕ ρ) (fin : τ → ρ) (I : Nat → τ → Prop)
    (hin : ∀ (k : Nat) (h : k < l.length) (t : τ), I k t → F (enc t (k : Int)) = some (match step t l[k] with | .inl t' => .inl (enc t' ((k : Int) + 1)) | .inr r => .inr r) ∧ ∀ t', step t l[k] = .inl t' → I (k + 1) t')
    (hout : ∀ t : τ, I l.length t → F (enc t (l.length : Int)) = some (.inr (fin t))) (t0 : τ) (h0 : I 0 t0) : iterF F big (enc t0 0) = some (runL step fin l t0) := by
  have hb : l.length < big := by unfold big; omega
  obtain ⟨r, h1, h2⟩ := iter_inv (F := F) (Q := fun r => r = runL step fin l t0) (fun k s => ∃ t, s = enc t (k : Int) ∧ I k t ∧ runL step fin l t0 = runL step fin (l.drop k) t) l.length hb (fun k s hk hi => by
    obtain ⟨t, rfl, hI, hr⟩ := hi
    by_cases hlt : k < l.length
    · obtain ⟨h, hn⟩ := hin k hlt t hI
      rw [List.drop_eq_getElem_cons hlt] at hr
      cases hs : step t l[k] with
      | inl t' =>
        rw [hs] at h
        refine .inl ⟨_, h, hlt, t', rfl, hn t' hs, ?_⟩
        rw [hr]; simp only [runL, hs]
      | inr r =>
        rw [hs] at h
        refine .inr ⟨r, h, ?_⟩
        rw [hr]; simp only [runL, hs]
    · obtain rfl : k = l.length := by omega
      refine .inr ⟨_, hout t hI, ?_⟩
      rw [hr, List.drop_length]; rfl) (s := enc t0 0) ⟨t0, rfl, h0, by rw [List.drop_zero]⟩
  rw [h1, h2]
theorem iter_ak {τ ρ α : Type} {F : τ × Int × Unit → Option ((τ × Int × Unit) ⊕ ρ)} (l : List α) (hl : l.length < 9223372036854775807) (step : τ → α → τ ⊕ ρ) (fin : τ → ρ) (I : Nat → τ → Prop) (t0 : τ) (h0 : I 0 t0)
    (hin : ∀ (k : Nat) (h : k < l.length) (t : τ), I k t → F (t, (k : Int), ()) = some (match step t l[k] with | .inl t' => .inl (t', (k : Int) + 1, ()) | .inr r => .inr r) ∧ ∀ t', step t l[k] = .inl t' → I (k + 1) t')
    (hout : ∀ t : τ, I l.length t → F (t, (l.length : Int), ()) = some (.inr (fin t))) : iterF F big (t0, 0, ()) = some (runL step fin l t0) :=
  iter_run (fun t k => (t, k, ())) l hl step fin I hin hout t0 h0
theorem iter_ka {τ ρ α : Type} {F : Int × τ × Unit → Option ((Int × τ × Unit) ⊕ ρ)} (l : List α) (hl : l.length < 9223372036854775807) (step : τ → α → τ ⊕ ρ) (fin : τ → ρ) (I : Nat → τ → Prop) (t0 : τ) (h0 : I 0 t0)
    (hin : ∀ (k : Nat) (h : k < l.length) (t : τ), I k t → F ((k : Int), t, ()) = some (match step t l[k] with | .inl t' => .inl ((k : Int) + 1, t', ()) | .inr r => .inr r) ∧ ∀ t', step t l[k] = .inl t' → I (k + 1) t')
    (hout : ∀ t : τ, I l.length t → F ((l.length : Int), t, ()) = some (.inr (fin t))) : iterF F big (0, t0, ()) = some (runL step fin l t0) :=
  iter_run (fun t k => (k, t, ())) l hl step fin I hin hout t0 h0
/-- A loop over a list that only looks for a first element that says no. -/
theorem iter_no {α ρ : Type} {F : Int × Unit → Option ((Int × Unit) ⊕ ρ)} (l : List α) (hl : l.length < 9223372036854775807) (p : α → Bool) (a d : ρ)
    (hin : ∀ (k : Nat) (h : k < l.length), F ((k : Int), ()) = some (bif p l[k] then .inl ((k : Int) + 1, ()) else .inr a)) (hout : F ((l.length : Int), ()) = some (.inr d)) :
    iterF F big (0, ()) = some (bif l.all p then d else a) := by
  have h := iter_run (F := F) (fun (_ : Unit) k => (k, ())) l hl (fun _ x => bif p x then .inl () else .inr a) (fun _ => d) (fun _ _ => True) (fun k hk t _ => ⟨by
    rw [hin k hk]; cases p l[k] <;> rfl, fun _ _ => trivial⟩) (fun _ _ => hout) () trivial
  rw [h]
  congr 1
  clear h hin hout hl
  induction l with
  | nil => rfl
  | cons x l ih =>
    unfold runL
    rw [List.all_cons]
    cases p x with
    | true => simpa using ih
    | false => rfl
theorem lt_yes {k n : Nat} (h : k < n) : decide ((k : Int) < ((n : Nat) : Int)) = true := decide_eq_true (by omega)
theorem lt_no (n : Nat) : decide (((n : Nat) : Int) < ((n : Nat) : Int)) = false := decide_eq_false (by omega)

def smallH (s : TSet) (most : Int) : Bool := decide (s.name.size ≤ 60 ∧ s.lines.length ≤ 12 ∧ ((s.items.length : Int) ≤ most ∨ 40 < s.items.length) ∧ s.items.length ≤ 45 ∧ s.bricks.length ≤ 10)
def smallB (s : TSet) (most : Int) : Bool := smallH s most && (s.items.all (fun x => decide (x.name.size ≤ 60)) && s.bricks.all fun x => decide (x.name.size ≤ 60))
theorem f_small (s : TSet) (most : Int) : F_ref21_Small s most = some (smallB s most) := by
  unfold F_ref21_Small smallB
  by_cases h1 : s.name.size ≤ 60
  case neg =>
    have : decide (((s.name.size : Nat) : Int) > 60) = true := decide_eq_true (by omega)
    have e : smallH s most = false := decide_eq_false (by omega)
    rw [this, e]; rfl
  have e1 : decide (((s.name.size : Nat) : Int) > 60) = false := decide_eq_false (by omega)
  by_cases h2 : s.lines.length ≤ 12
  case neg =>
    have : decide (((s.lines.length : Nat) : Int) > 12) = true := decide_eq_true (by omega)
    have e : smallH s most = false := decide_eq_false (by omega)
    rw [e1, this, e]; rfl
  have e2 : decide (((s.lines.length : Nat) : Int) > 12) = false := decide_eq_false (by omega)
  rw [e1, e2]
  have hand : ∀ (a : Option (Bool × Unit)) (b : Bool), a = some (!b, ()) → ∀ (K : Bool × Unit → Option Bool), a.bind K = K (!b, ()) := fun a b h K => by rw [h]; rfl
  have hcase : (bif decide (((s.items.length : Nat) : Int) > most) then (bif (decide (((s.items.length : Nat) : Int) ≤ 40)) then some (true, ()) else (bif (decide (((s.items.length : Nat) : Int) > 45)) then some (true, ()) else some ((decide (((s.bricks.length : Nat) : Int) > 10)), ()))) else (bif (decide (((s.items.length : Nat) : Int) > 45)) then some (true, ()) else some ((decide (((s.bricks.length : Nat) : Int) > 10)), ())) : Option (Bool × Unit)) =
      some (!smallH s most, ()) := by
    unfold smallH
    by_cases h3 : ((s.items.length : Nat) : Int) > most <;> by_cases h4 : ((s.items.length : Nat) : Int) ≤ 40 <;> by_cases h5 : ((s.items.length : Nat) : Int) > 45 <;> by_cases h6 : ((s.bricks.length : Nat) : Int) > 10 <;>
      simp only [h3, h4, h5, h6, decide_true, decide_false, cond_true, cond_false, Option.some.injEq, Prod.mk.injEq, and_true] <;> (symm; simp only [Bool.not_eq_true', Bool.not_eq_false', decide_eq_true_eq, decide_eq_false_iff_not]; omega)
  simp only [cond_false]
  rw [hand _ _ hcase]
  cases hb : smallH s most with
  | false => rfl
  | true =>
    have hb := of_decide_eq_true hb
    simp only [Bool.not_true, cond_false, Bool.true_and]
    rw [iter_no s.items (by omega) (fun x => decide (x.name.size ≤ 60)) (.inl (false, ())) (.inr ()) ?h1 ?h2, iter_no s.bricks (by omega) (fun x => decide (x.name.size ≤ 60)) (.inl (false, ())) (.inr ()) ?h3 ?h4]
    · cases s.items.all (fun x => decide (x.name.size ≤ 60)) <;> cases s.bricks.all (fun x => decide (x.name.size ≤ 60)) <;> rfl
    case h1 =>
      intro k hk
      simp only [lt_yes hk, cond_true, idx_at hk, Option.bind_some]
      rw [wrap64 (by omega) (by omega)]
      by_cases h : s.items[k].name.size ≤ 60
      · rw [decide_eq_false (show ¬ (((s.items[k].name.size : Nat) : Int) > 60) by omega), decide_eq_true h]; rfl
      · rw [decide_eq_true (show (((s.items[k].name.size : Nat) : Int) > 60) by omega), decide_eq_false h]; rfl
    case h2 => simp only [lt_no, cond_false]
    case h3 =>
      intro k hk
      simp only [lt_yes hk, cond_true, idx_at hk, Option.bind_some]
      rw [wrap64 (by omega) (by omega)]
      by_cases h : s.bricks[k].name.size ≤ 60
      · rw [decide_eq_false (show ¬ (((s.bricks[k].name.size : Nat) : Int) > 60) by omega), decide_eq_true h]; rfl
      · rw [decide_eq_true (show (((s.bricks[k].name.size : Nat) : Int) > 60) by omega), decide_eq_false h]; rfl
    case h4 => simp only [lt_no, cond_false]
theorem small_fits {s : TSet} {most : Int} (h : smallB s most = true) : Fits s := by
  simp only [smallB, smallH, Bool.and_eq_true, decide_eq_true_eq, List.all_eq_true] at h
  obtain ⟨⟨h1, h2, _, h3, h4⟩, h5, h6⟩ := h
  exact ⟨by omega, by omega, by omega, by omega, fun x hx => by have := h5 x hx; omega, fun x hx => by have := h6 x hx; omega⟩

theorem f_rcopy (s : TSet) (h : Fits s) : F_ref21_Copy s = some s := by
  unfold F_ref21_Copy
  rw [if_pos (by simpa using h.lines), if_pos (by simpa using h.items), if_pos (by simpa using h.bricks)]
  rfl
theorem runL_map {α β : Type} (f : α → β) (l : List α) (a : List β) : runL (ρ := List β × Unit) (fun t x => .inl (t ++ [f x])) (fun t => (t, ())) l a = (a ++ l.map f, ()) := by
  induction l generalizing a with
  | nil => simp [runL]
  | cons x l ih => unfold runL; simp only [ih]; simp
theorem f_counts (l : List TBrick) (h : l.length ≤ 2147483647) : F_ref25_Counts l = some (l.map (·.count)) := by
  unfold F_ref25_Counts
  rw [iter_ka l (by omega) (fun t x => .inl (t ++ [x.count])) (fun t => (t, ())) (fun k t => t.length = k) ([] : List Int) rfl ?hin ?hout]
  · rw [runL_map]; rfl
  case hin =>
    intro k hk t ht
    simp only [lt_yes hk, cond_true, idx_at hk, Option.bind_some]
    refine ⟨?_, fun t' h' => by cases h'; simp [ht]⟩
    rw [if_pos (by simp; omega), wrap64 (by omega) (by omega)]
  case hout => intro t _; simp only [lt_no, cond_false]
end Go.Proofs.Ytmdghocpelkcoaa

/- The reference's check of a set comes to the same. -/
namespace Go.Proofs.Ytmdghocpelkcoaa
set_option linter.unusedSimpArgs false
set_option linter.unusedVariables false

theorem iter_pairs {α ρ : Type} {F : Int × Int × Unit → Option ((Int × Int × Unit) ⊕ ρ)} (one : α → Bool) (two : α → α → Bool) (l : List α) (hl : l.length < 9223372036854775807) (f : α → Int) (bad : ρ) (fin : Int → ρ)
    (hin : ∀ (k : Nat) (h : k < l.length), okTo one two l k → F (sumTo f l k, (k : Int), ()) = some (bif okAt one two l k then .inl (sumTo f l k + f l[k], (k : Int) + 1, ()) else .inr bad))
    (hout : okTo one two l l.length → F (sumTo f l l.length, (l.length : Int), ()) = some (.inr (fin (sumTo f l l.length)))) :
    iterF F big (0, 0, ()) = some (bif pairsB one two l then fin (sumTo f l l.length) else bad) := by
  obtain ⟨r, h1, h2⟩ := iter_inv (F := F) (Q := fun r => r = (bif pairsB one two l then fin (sumTo f l l.length) else bad)) (fun k s => s = (sumTo f l k, (k : Int), ()) ∧ okTo one two l k) l.length (by unfold big; omega) (fun k s hk hs => by
    obtain ⟨rfl, hok⟩ := hs
    by_cases hlt : k < l.length
    · have h := hin k hlt hok
      cases ho : okAt one two l k with
      | true =>
        rw [ho] at h
        exact .inl ⟨_, h, hlt, by rw [sumTo_succ _ _ _ hlt]; rfl, okTo_succ hok ho⟩
      | false =>
        rw [ho] at h
        exact .inr ⟨_, h, by rw [pairs_no hlt ho]; rfl⟩
    · obtain rfl : k = l.length := by omega
      exact .inr ⟨_, hout hok, by rw [pairs_yes hok]; rfl⟩) (s := (0, 0, ())) ⟨rfl, okTo_zero⟩
  rw [h1, h2]
theorem iter_pairs0 {α ρ : Type} {F : Int × Unit → Option ((Int × Unit) ⊕ ρ)} (one : α → Bool) (two : α → α → Bool) (l : List α) (hl : l.length < 9223372036854775807) (bad fin : ρ)
    (hin : ∀ (k : Nat) (h : k < l.length), okTo one two l k → F ((k : Int), ()) = some (bif okAt one two l k then .inl ((k : Int) + 1, ()) else .inr bad))
    (hout : okTo one two l l.length → F ((l.length : Int), ()) = some (.inr fin)) :
    iterF F big (0, ()) = some (bif pairsB one two l then fin else bad) := by
  obtain ⟨r, h1, h2⟩ := iter_inv (F := F) (Q := fun r => r = (bif pairsB one two l then fin else bad)) (fun k s => s = ((k : Int), ()) ∧ okTo one two l k) l.length (by unfold big; omega) (fun k s hk hs => by
    obtain ⟨rfl, hok⟩ := hs
    by_cases hlt : k < l.length
    · have h := hin k hlt hok
      cases ho : okAt one two l k with
      | true =>
        rw [ho] at h
        exact .inl ⟨_, h, hlt, rfl, okTo_succ hok ho⟩
      | false =>
        rw [ho] at h
        exact .inr ⟨_, h, by rw [pairs_no hlt ho]; rfl⟩
    · obtain rfl : k = l.length := by omega
      exact .inr ⟨_, hout hok, by rw [pairs_yes hok]; rfl⟩) (s := (0, ())) ⟨rfl, okTo_zero⟩
  rw [h1, h2]
/-- The inner loop: over the elements before one. -/
theorem iter_before {α ρ : Type} {F : Int × Unit → Option ((Int × Unit) ⊕ ρ)} (l : List α) (n : Nat) (hn : n ≤ l.length) (hl : l.length < 9223372036854775807) (p : α → Bool) (a d : ρ)
    (hin : ∀ (k : Nat) (h : k < n), F ((k : Int), ()) = some (bif p (l[k]'(by omega)) then .inl ((k : Int) + 1, ()) else .inr a)) (hout : F ((n : Int), ()) = some (.inr d)) :
    iterF F big (0, ()) = some (bif (l.take n).all p then d else a) := by
  have hlen : (l.take n).length = n := by rw [List.length_take]; omega
  exact iter_no (l.take n) (by omega) p a d (fun k hk => by rw [hin k (by omega), List.getElem_take]) (by rw [hlen]; exact hout)
theorem okTo_one {α : Type} {one : α → Bool} {two : α → α → Bool} {l : List α} {k : Nat} (h : okTo one two l k) (hk : k ≤ l.length) : ∀ x ∈ l.take k, one x = true := by
  intro x hx
  obtain ⟨j, hj, rfl⟩ := List.mem_take_iff_getElem.1 hx
  have := h j (by omega)
  rw [okAt_eq (by omega), Bool.and_eq_true] at this
  exact this.1
theorem counts_to {l : List TBrick} {two : TBrick → TBrick → Bool} {k : Nat} (h : okTo brickB two l k) (hk : k ≤ l.length) : 0 ≤ sumTo (·.count) l k ∧ sumTo (·.count) l k ≤ k * 60 := by
  have h1 := sumTo_bound (·.count) (l.take k) 60 (fun x hx => by
    have := GoodBrick.of (okTo_one h hk x hx)
    exact ⟨this.c0, this.c1⟩) k (by rw [List.length_take]; omega)
  have e : sumTo (·.count) (l.take k) k = sumTo (·.count) l k := by unfold sumTo; rw [List.take_take, Nat.min_self]
  rw [e] at h1
  exact h1
theorem f_rbricks (l : List TBrick) (hl : l.length ≤ 2147483648) (hn : ∀ x ∈ l, x.name.size ≤ 2147483648) : F_ref21_Bricks l = some (bricksB l) := by
  unfold F_ref21_Bricks bricksB
  by_cases h8 : l.length ≤ 8
  · have e1 : decide (((l.length : Nat) : Int) > 8) = false := decide_eq_false (by omega)
    rw [e1, decide_eq_true h8]
    simp only [cond_false, Bool.true_and]
    rw [iter_pairs brickB (fun x y => !sameName x.name y.name) l (by omega) (·.count) (.inl (false, ())) (fun t => .inr (t, ())) ?hin ?hout]
    · cases pairsB brickB (fun x y => !sameName x.name y.name) l <;> rfl
    case hout => intro _; simp only [lt_no, cond_false]
    case hin =>
      intro k hk hok
      have hna := hn l[k] (List.getElem_mem hk)
      have hsum := counts_to hok (by omega)
      simp only [lt_yes hk, cond_true, idx_at hk, Option.bind_some, f_rname l[k].name (by omega), f_rbetween]
      rw [okAt_eq hk]
      cases hb : brickB l[k] with
      | false =>
        unfold brickB at hb
        cases ha : nameB l[k].name <;> cases hc : betweenB l[k].weight 1 1048576 <;> cases hd' : betweenB l[k].count 0 60 <;> first | rfl | (rw [ha, hc, hd'] at hb; cases hb)
      | true =>
        have hg := GoodBrick.of hb
        have hc0 := hg.c0
        have hc1 := hg.c1
        unfold brickB at hb
        simp only [Bool.and_eq_true] at hb
        rw [hb.1, hb.2.1, hb.2.2]
        simp only [Bool.not_true, cond_false, cond_true, Option.bind_some, Bool.true_and]
        rw [iter_before l k (by omega) (by omega) (fun x => !sameName x.name l[k].name) (.inl (false, ())) (.inr ()) ?h1 ?h2]
        · cases (l.take k).all (fun x => !sameName x.name l[k].name) with
          | false => rfl
          | true =>
            simp only [cond_true, Option.bind_some]
            rw [wrap64 (by omega) (by omega), wrap64 (by omega) (by omega)]
        case h1 =>
          intro j hj
          simp only [lt_yes hj, cond_true, idx_at (show j < l.length by omega), idx_at hk, Option.bind_some]
          rw [wrap64 (by omega) (by omega)]
          unfold sameName
          cases (l[j].name.toList == l[k].name.toList) <;> rfl
        case h2 => simp only [lt_no, cond_false]
  · have e1 : decide (((l.length : Nat) : Int) > 8) = true := decide_eq_true (by omega)
    rw [e1, decide_eq_false h8]
    rfl
theorem f_ralone (x : TItem) (len : Int) (hx : x.name.size ≤ 9223372036854775806) (h1 : -4611686018427387904 ≤ len) (h2 : len ≤ 4611686018427387904) : F_ref21_alone x len = some (aloneB x && insideB x len) := by
  unfold F_ref21_alone aloneB insideB
  rw [f_rname _ hx]
  simp only [f_rbetween, Option.bind_some]
  cases nameB x.name with
  | false => rfl
  | true =>
    cases hb : betweenB x.width 1 1048576 with
    | false => simp only [cond_true, cond_false, Option.bind_some, Bool.false_and, Bool.and_false]
    | true =>
      have hb' := hb
      rw [between_iff] at hb'
      rw [wrap64 (by omega) (by omega)]
      have e : betweenB x.at_ 0 (len - x.width) = (decide (0 ≤ x.at_) && decide (x.at_ ≤ len - x.width)) := by
        unfold betweenB
        rw [Bool.eq_iff_iff]; simp
      rw [e]
      simp only [cond_true, Option.bind_some, Bool.true_and]
      cases decide (0 ≤ x.at_) <;> cases decide (x.at_ ≤ len - x.width) <;> cases betweenB x.weight 0 1048576 <;> cases betweenB x.hang 0 1048576 <;> cases betweenB x.front 0 1048576 <;> cases betweenB x.back 0 1048576 <;> rfl
theorem f_ritems (s : TSet) (hl : s.items.length ≤ 2147483648) (hn : ∀ x ∈ s.items, x.name.size ≤ 2147483648) (h1 : -4611686018427387904 ≤ s.length) (h2 : s.length ≤ 4611686018427387904) : F_ref21_items s = some (itemsB s.items s.length) := by
  unfold F_ref21_items itemsB
  have hp : (pairsB (fun x => aloneB x && insideB x s.length) apartB s.items && pairsB (fun _ => true) (fun x y => !sameName x.name y.name) s.items) = pairsB (fun x => aloneB x && insideB x s.length) (fun x y => apartB x y && !sameName x.name y.name) s.items := by rw [pairs_and]
  rw [hp]
  by_cases h40 : s.items.length ≤ 40
  · have e1 : decide (((s.items.length : Nat) : Int) > 40) = false := decide_eq_false (by omega)
    rw [e1, decide_eq_true h40]
    simp only [cond_false, Bool.true_and]
    rw [iter_pairs0 (fun x => aloneB x && insideB x s.length) (fun x y => apartB x y && !sameName x.name y.name) s.items (by omega) (.inl (false, ())) (.inr ()) ?hin ?hout]
    · cases pairsB (fun x => aloneB x && insideB x s.length) (fun x y => apartB x y && !sameName x.name y.name) s.items <;> rfl
    case hout => intro _; simp only [lt_no, cond_false]
    case hin =>
      intro k hk hok
      have hna := hn s.items[k] (List.getElem_mem hk)
      simp only [lt_yes hk, cond_true, idx_at hk, Option.bind_some, f_ralone s.items[k] s.length (by omega) h1 h2]
      rw [okAt_eq hk]
      cases hb : (aloneB s.items[k] && insideB s.items[k] s.length) with
      | false => rfl
      | true =>
        have hxs := inside_sum (Bool.and_eq_true _ _ ▸ hb).2 h2
        simp only [Bool.not_true, cond_false, Bool.true_and]
        rw [iter_before s.items k (by omega) (by omega) (fun x => apartB x s.items[k] && !sameName x.name s.items[k].name) (.inl (false, ())) (.inr ()) ?g1 ?g2]
        · cases (s.items.take k).all (fun x => apartB x s.items[k] && !sameName x.name s.items[k].name) with
          | false => rfl
          | true =>
            simp only [cond_true, Option.bind_some]
            rw [wrap64 (by omega) (by omega)]
        case g1 =>
          intro j hj
          have hj' := hok j hj
          rw [okAt_eq (by omega)] at hj'
          simp only [Bool.and_eq_true] at hj'
          have hys := inside_sum hj'.1.2 h2
          simp only [lt_yes hj, cond_true, idx_at (show j < s.items.length by omega), idx_at hk, Option.bind_some, f_rapart _ _ hys hxs]
          rw [wrap64 (by omega) (by omega)]
          unfold sameName
          cases (s.items[j].name.toList == s.items[k].name.toList) <;> cases apartB s.items[j] s.items[k] <;> rfl
        case g2 => simp only [lt_no, cond_false]
  · have e1 : decide (((s.items.length : Nat) : Int) > 40) = true := decide_eq_true (by omega)
    rw [e1, decide_eq_false h40]
    rfl
theorem f_rvalid (s : TSet) (h : Fits s) : F_ref21_Valid s = some (validB s) := by
  unfold F_ref21_Valid validB headB weightsB
  rw [f_rname s.name (by have := h.name; omega), f_rbricks s.bricks h.bricks h.bnames]
  simp only [f_rbetween, Option.bind_some]
  cases nameB s.name <;> try rfl
  cases betweenB s.depth 0 1048576 <;> try rfl
  have e1 : betweenB s.low 0 s.high = (decide (0 ≤ s.low) && decide (s.low ≤ s.high)) := by
    unfold betweenB
    rw [Bool.eq_iff_iff]; simp
  have e2 : (betweenB s.low 0 s.high && betweenB s.high 0 1048576) = (decide (0 ≤ s.low) && (decide (s.low ≤ s.high) && decide (s.high ≤ 1048576))) := by
    unfold betweenB
    rw [Bool.eq_iff_iff]; simp only [Bool.and_eq_true, decide_eq_true_eq]; omega
  have e3 : ∀ t : Bool, (decide (0 ≤ s.low) && (decide (s.low ≤ s.high) && (decide (s.high ≤ 1048576) && t))) = (betweenB s.low 0 s.high && (betweenB s.high 0 1048576 && t)) := by
    intro t
    rw [← Bool.and_assoc (betweenB _ _ _), e2]
    simp only [Bool.and_assoc]
  rw [e3]
  cases betweenB s.low 0 s.high <;> try rfl
  cases betweenB s.high 0 1048576 <;> try rfl
  cases hl : betweenB s.length 1000 1048576 <;> try rfl
  rw [between_iff] at hl
  have hm : ((s.length.tmod 1000) != 0) = !decide (s.length % 1000 = 0) := by
    rw [Int.tmod_eq_emod_of_nonneg (by omega)]
    by_cases hz : s.length % 1000 = 0
    · rw [decide_eq_true hz, hz]; rfl
    · rw [decide_eq_false hz]; simp [hz]
  rw [hm, f_ritems s h.items h.inames (by omega) (by omega)]
  cases decide (s.length % 1000 = 0) <;> try rfl
  simp only [cond_false, Bool.not_true, Option.bind_some, Bool.true_and]
  have hlines : linesB s.lines s.length = (betweenB ((s.lines.length : Nat) : Int) 2 10 && (List.range s.lines.length).all (lineAt s.lines s.length)) := by
    unfold linesB betweenB
    congr 1
    by_cases h : 2 ≤ s.lines.length ∧ s.lines.length ≤ 10
    · rw [decide_eq_true h, decide_eq_true (by omega)]
    · rw [decide_eq_false h, decide_eq_false (by omega)]
  rw [hlines]
  cases hb : betweenB ((s.lines.length : Nat) : Int) 2 10 with
  | false => rfl
  | true =>
    rw [between_iff] at hb
    cases betweenB s.pipe 0 1048576 <;> try (simp only [Bool.not_true, Bool.not_false, cond_false, cond_true, Option.bind_some, Bool.false_and, Bool.and_false]; done)
    cases betweenB s.arbor 0 1048576 <;> try (simp only [Bool.not_true, Bool.not_false, cond_false, cond_true, Option.bind_some, Bool.false_and, Bool.and_false]; done)
    cases betweenB s.purchase 1 2 <;> try (simp only [Bool.not_true, Bool.not_false, cond_false, cond_true, Option.bind_some, Bool.false_and, Bool.and_false]; done)
    cases betweenB s.most 1 67108864 <;> try (simp only [Bool.not_true, Bool.not_false, cond_false, cond_true, Option.bind_some, Bool.false_and, Bool.and_false]; done)
    cases betweenB s.brake 0 67108864 <;> try (simp only [Bool.not_true, Bool.not_false, cond_false, cond_true, Option.bind_some, Bool.false_and, Bool.and_false]; done)
    simp only [Bool.not_true, cond_false, Option.bind_some, Bool.true_and]
    have hrange : ∀ (p : Nat → Bool), (List.range s.lines.length).all p = (s.lines.zipIdx.all fun x => p x.2) := by
      intro p
      rw [Bool.eq_iff_iff, List.all_eq_true, List.all_eq_true]
      constructor
      · intro e x hx
        obtain ⟨i, hi, rfl⟩ := List.mem_iff_getElem.1 hx
        rw [List.length_zipIdx] at hi
        exact e _ (List.mem_range.2 (by simpa using hi))
      · intro e i hi
        have hi := List.mem_range.1 hi
        exact e (s.lines[i], i) (by rw [List.mem_iff_getElem]; exact ⟨i, by simpa using hi, by simp⟩)
    rw [hrange, iter_find s.lines (by have := h.lines; omega) (fun k _ => bif lineAt s.lines s.length k then none else some (.inl (false, ()))) (.inr ()) ?hin ?hout]
    · cases ha : (s.lines.zipIdx.all fun x => lineAt s.lines s.length x.2) with
      | true =>
        have e : (s.lines.zipIdx.findSome? fun x => bif lineAt s.lines s.length x.2 then (none : Option ((Bool × Unit) ⊕ Unit)) else some (.inl (false, ()))) = none := by
          rw [List.findSome?_eq_none_iff]
          intro x hx
          rw [List.all_eq_true.1 ha x hx]; rfl
        rw [e]
        simp only [Option.getD_none, Option.bind_some, Bool.true_and]
        cases itemsB s.items s.length <;> rfl
      | false =>
        have e : (s.lines.zipIdx.findSome? fun x => bif lineAt s.lines s.length x.2 then (none : Option ((Bool × Unit) ⊕ Unit)) else some (.inl (false, ()))) = some (.inl (false, ())) := by
          rw [List.all_eq_false] at ha
          obtain ⟨x, hx, hp⟩ := ha
          cases hf : (s.lines.zipIdx.findSome? fun x => bif lineAt s.lines s.length x.2 then (none : Option ((Bool × Unit) ⊕ Unit)) else some (.inl (false, ()))) with
          | none =>
            rw [List.findSome?_eq_none_iff] at hf
            have := hf x hx
            rw [show lineAt s.lines s.length x.2 = false from by simpa using hp] at this
            cases this
          | some r =>
            obtain ⟨y, _, hy⟩ := List.exists_of_findSome?_eq_some hf
            cases hq : lineAt s.lines s.length y.2 with
            | true => rw [hq] at hy; cases hy
            | false => rw [hq] at hy; cases hy; rfl
        rw [e]
        rfl
    case hin =>
      intro k hk
      simp only [lt_yes hk, cond_true, idx_at hk, Option.bind_some]
      rw [lineAt_eq _ _ _ hk]
      cases betweenB s.lines[k] 0 s.length with
      | false => rfl
      | true =>
        simp only [Bool.not_true, cond_false, Bool.true_and]
        rcases Nat.eq_zero_or_pos k with h0 | h0
        · subst h0
          rfl
        · rw [decide_eq_true (show ((k : Nat) : Int) > 0 by omega)]
          have i2 : idx s.lines (IntKind.i64.wrap (((k : Nat) : Int) - 1)) = some (s.lines[k - 1]'(by omega)) := by
            rw [wrap64 (by omega) (by omega), show ((k : Nat) : Int) - 1 = ((k - 1 : Nat) : Int) from by omega]
            exact idx_at (by omega)
          rw [i2, wrap64 (by omega) (by omega), decide_eq_false (show ¬ k = 0 by omega)]
          simp only [cond_true, Option.bind_some, Bool.false_or]
          by_cases hle : s.lines[k] ≤ s.lines[k - 1]'(by omega)
          · rw [decide_eq_true hle, decide_eq_false (by omega)]; rfl
          · rw [decide_eq_false hle, decide_eq_true (by omega)]; rfl
    case hout => simp only [lt_no, cond_false]
end Go.Proofs.Ytmdghocpelkcoaa

/- Brakes: jobs, their check, the imbalance by the reference. -/
namespace Go.Proofs.Ytmdghocpelkcoaa
set_option linter.unusedSimpArgs false
set_option linter.unusedVariables false

theorem at_some {α : Type} {l : List α} {k : Nat} (h : k < l.length) : l[Int.toNat (k : Int)]? = some l[k] := by
  rw [Int.toNat_natCast, List.getElem?_eq_getElem h]
theorem sumTo_all {α : Type} (f : α → Int) (l : List α) : sumTo f l l.length = (l.map f).sum := by unfold sumTo; rw [List.take_length]
def jobB (x : TJob) : Bool := nameB x.name && betweenB x.weight (-1048576) 1048576
def jobsB (l : List TJob) : Bool := decide (l.length ≤ 100) && pairsB jobB (fun x y => !sameName x.name y.name) l
theorem keysM_true {α : Type} (f : α → ByteArray) (s : ByteArray) (l : List α) : (findM s (keysM f l)).getD false = (findM s (keysM f l)).isSome := by
  have key : ∀ (l : List α) (m : List (ByteArray × Bool)), (findM s m).getD false = (findM s m).isSome → (findM s (l.foldl (fun m x => setM (f x) true m) m)).getD false = (findM s (l.foldl (fun m x => setM (f x) true m) m)).isSome := by
    intro l
    induction l with
    | nil => intro m h; exact h
    | cons x l ih =>
      intro m h
      refine ih _ ?_
      by_cases e : s = f x
      · subst e; rw [find_set_same]; rfl
      · rw [find_set_other e]; exact h
  exact key l [] rfl
theorem keysM_before {l : List TJob} {k : Nat} (hk : k < l.length) : (findM l[k].name (keysM (·.name) (l.take k))).getD false = !(l.take k).all fun y => !sameName y.name l[k].name := by
  rw [keysM_true, Bool.eq_iff_iff, keysM_find (·.name) _ l k (by omega), Bool.not_eq_true', List.all_eq_false]
  constructor
  · rintro ⟨x, hx, e⟩
    exact ⟨x, hx, by rw [(sameName_iff _ _).2 e]; decide⟩
  · rintro ⟨x, hx, e⟩
    refine ⟨x, hx, ?_⟩
    rw [← sameName_iff]
    simpa using e
theorem job_eq (x : TJob) : jobB x = (nameB x.name && (!decide (x.weight < -1048576) && !decide (x.weight > 1048576))) := by
  unfold jobB betweenB
  congr 1
  by_cases h1 : x.weight < -1048576 <;> by_cases h2 : x.weight > 1048576 <;> simp [h1, h2] <;> omega
theorem f_bvalid (l : List TJob) (hn : ∀ x ∈ l, x.name.size ≤ 2147483648) : F_brake_Valid l = some (jobsB l) := by
  unfold F_brake_Valid jobsB
  by_cases h8 : l.length ≤ 100
  case neg =>
    have e1 : decide (((l.length : Nat) : Int) > 100) = true := decide_eq_true (by omega)
    rw [e1, decide_eq_false h8]; rfl
  have e1 : decide (((l.length : Nat) : Int) > 100) = false := decide_eq_false (by omega)
  rw [e1, decide_eq_true h8]
  simp only [cond_false, Bool.true_and]
  obtain ⟨r, g1, g2⟩ := iter_inv (F := fun s9 : Int × List (ByteArray × Bool) × Unit => (bif (decide (s9.1 < ((l.length : Nat) : Int))) then (idx l s9.1).bind fun x10 => ((F_decimal_IsName x10.name).bind fun r11 => (bif (!r11) then some (true, ()) else (if x10.name.size ≤ 2147483648 then (bif ((findM x10.name s9.2.1).getD false) then some (true, ()) else (bif (decide (x10.weight < (-1048576))) then some (true, ()) else some ((decide (x10.weight > 1048576)), ()))) else none)) : Option (Bool × Unit)).bind fun y12 => (bif y12.1 then some (.inr (.inl (false, s9.2.1, ()))) else (if x10.name.size ≤ 2147483648 ∧ s9.2.1.length ≤ 2147483648 then some (.inl ((IntKind.i64.wrap (s9.1 + 1)), (setM x10.name true s9.2.1), ())) else none)) else some (.inr (.inr ((s9.2.1, ())))) : Option ((Int × List (ByteArray × Bool) × Unit) ⊕ ((Bool × List (ByteArray × Bool) × Unit) ⊕ (List (ByteArray × Bool) × Unit)))))
    (Q := fun r => bif pairsB jobB (fun x y => !sameName x.name y.name) l then ∃ m, r = .inr (m, ()) else ∃ m, r = .inl (false, m, ())) (fun k s => s = ((k : Int), keysM (·.name) (l.take k), ()) ∧ okTo jobB (fun x y => !sameName x.name y.name) l k) l.length (by unfold big; omega) (fun k s hk hs => by
      obtain ⟨rfl, hok⟩ := hs
      by_cases hlt : k < l.length
      · have hna := hn l[k] (List.getElem_mem hlt)
        have g3 := (keysM_length (·.name) l k (by omega)).1
        have hat : okAt jobB (fun x y => !sameName x.name y.name) l k = (jobB l[k] && (l.take k).all fun y => !sameName y.name l[k].name) := okAt_eq hlt
        simp only [lt_yes hlt, cond_true, idx_at hlt, Option.bind_some, f_name l[k].name (by omega), keysM_before hlt]
        rw [if_pos hna]
        rw [job_eq] at hat
        cases ho : okAt jobB (fun x y => !sameName x.name y.name) l k with
        | false =>
          rw [ho] at hat
          refine .inr ⟨.inl (false, keysM (·.name) (l.take k), ()), ?_, by rw [pairs_no hlt ho]; exact ⟨_, rfl⟩⟩
          cases h1 : nameB l[k].name <;> cases h2 : (l.take k).all (fun y => !sameName y.name l[k].name) <;> cases h3 : decide (l[k].weight < -1048576) <;> cases h4 : decide (l[k].weight > 1048576) <;> first | rfl | (rw [h1, h2, h3, h4] at hat; cases hat)
        | true =>
          rw [ho] at hat
          have hb := hat.symm
          simp only [Bool.and_eq_true, Bool.not_eq_true'] at hb
          obtain ⟨⟨b1, b2, b3⟩, b4⟩ := hb
          refine .inl ⟨((k : Int) + 1, setM l[k].name true (keysM (·.name) (l.take k)), ()), ?_, hlt, ?_, okTo_succ hok ho⟩
          · rw [b1, b2, b3, b4]
            simp only [Bool.not_true, cond_false, Option.bind_some]
            rw [if_pos ⟨hna, by omega⟩, wrap64 (by omega) (by omega)]
          · rw [List.take_succ_eq_append_getElem hlt, keysM_snoc]; rfl
      · obtain rfl : k = l.length := by omega
        simp only [lt_no, cond_false]
        exact .inr ⟨_, rfl, by rw [pairs_yes hok]; exact ⟨_, rfl⟩⟩) (s := (0, ([] : List (ByteArray × Bool)), ())) ⟨rfl, okTo_zero⟩
  rw [g1]
  cases hp : pairsB jobB (fun x y => !sameName x.name y.name) l with
  | true => rw [hp] at g2; obtain ⟨m, rfl⟩ := g2; rfl
  | false => rw [hp] at g2; obtain ⟨m, rfl⟩ := g2; rfl
theorem f_btw27 (n lo hi : Int) : F_ref27_between n lo hi = some (betweenB n lo hi) := f_rbetween n lo hi
theorem f_rjobs (l : List TJob) (hn : ∀ x ∈ l, x.name.size ≤ 2147483648) : F_ref27_Valid l = some (jobsB l) := by
  unfold F_ref27_Valid jobsB
  by_cases h8 : l.length ≤ 100
  case neg =>
    have e1 : decide (((l.length : Nat) : Int) > 100) = true := decide_eq_true (by omega)
    rw [e1, decide_eq_false h8]; rfl
  have e1 : decide (((l.length : Nat) : Int) > 100) = false := decide_eq_false (by omega)
  rw [e1, decide_eq_true h8]
  simp only [cond_false, Bool.true_and]
  rw [iter_pairs0 jobB (fun x y => !sameName x.name y.name) l (by omega) (.inl (false, ())) (.inr ()) ?hin ?hout]
  · cases pairsB jobB (fun x y => !sameName x.name y.name) l <;> rfl
  case hout => intro _; simp only [lt_no, cond_false]
  case hin =>
    intro k hk hok
    have hna := hn l[k] (List.getElem_mem hk)
    simp only [lt_yes hk, cond_true, idx_at hk, Option.bind_some, f_rname l[k].name (by omega), f_btw27]
    rw [okAt_eq hk]
    unfold jobB
    cases nameB l[k].name with
    | false => rfl
    | true =>
      cases betweenB l[k].weight (-1048576) 1048576 with
      | false => rfl
      | true =>
        simp only [Bool.not_true, cond_false, Option.bind_some, Bool.true_and]
        rw [iter_before l k (by omega) (by omega) (fun x => !sameName x.name l[k].name) (.inl (false, ())) (.inr ()) ?h1 ?h2]
        · cases (l.take k).all (fun x => !sameName x.name l[k].name) with
          | false => rfl
          | true =>
            simp only [cond_true, Option.bind_some, Bool.and_self]
            rw [wrap64 (by omega) (by omega)]
        case h1 =>
          intro j hj
          simp only [lt_yes hj, cond_true, idx_at (show j < l.length by omega), idx_at hk, Option.bind_some]
          rw [wrap64 (by omega) (by omega)]
          unfold sameName
          cases (l[j].name.toList == l[k].name.toList) <;> rfl
        case h2 => simp only [lt_no, cond_false]
def shortB (l : List TJob) (most : Int) : Bool := !decide ((l.length : Int) > most) && l.all fun x => decide (x.name.size ≤ 60)
theorem f_short (l : List TJob) (most : Int) (hm : most ≤ 1000) : F_ref27_Short l most = some (shortB l most) := by
  unfold F_ref27_Short shortB
  by_cases h : (l.length : Int) > most
  · rw [decide_eq_true h]; rfl
  · rw [decide_eq_false h]
    simp only [cond_false, Bool.not_false, Bool.true_and]
    rw [iter_no l (by omega) (fun x => decide (x.name.size ≤ 60)) (.inl (false, ())) (.inr ()) (fun k hk => by
      simp only [lt_yes hk, cond_true, idx_at hk, Option.bind_some]
      rw [wrap64 (by omega) (by omega)]
      by_cases h : l[k].name.size ≤ 60
      · rw [decide_eq_false (show ¬ (((l[k].name.size : Nat) : Int) > 60) by omega), decide_eq_true h]; rfl
      · rw [decide_eq_true (show (((l[k].name.size : Nat) : Int) > 60) by omega), decide_eq_false h]; rfl) (by simp only [lt_no, cond_false])]
    cases l.all (fun x => decide (x.name.size ≤ 60)) <;> rfl
def few27 (s : TSet) (l : List TJob) : Bool := smallB s 12 && (shortB l 30 || (decide ((l.length : Int) > 100) && shortB l 110))
theorem f_few27 (s : TSet) (l : List TJob) : F_law27_few s l = some (few27 s l) := by
  unfold F_law27_few few27
  rw [f_small, f_short l 30 (by omega), f_short l 110 (by omega)]
  simp only [Option.bind_some]
  cases smallB s 12 <;> cases shortB l 30 <;> cases decide ((l.length : Int) > 100) <;> rfl
theorem few_ok {s : TSet} {l : List TJob} (h : few27 s l = true) : Fits s ∧ l.length ≤ 110 ∧ ∀ x ∈ l, x.name.size ≤ 60 := by
  unfold few27 shortB at h
  simp only [Bool.and_eq_true, Bool.or_eq_true, Bool.not_eq_true', decide_eq_false_iff_not, decide_eq_true_eq, List.all_eq_true] at h
  obtain ⟨h1, h2⟩ := h
  refine ⟨small_fits h1, ?_, ?_⟩
  · rcases h2 with h2 | h2 <;> omega
  · rcases h2 with h2 | h2
    · exact h2.2
    · exact h2.2.2
theorem f_rweight (s : TSet) (h : Good s) : F_ref21_Weight s = some (weightI s) := f_weight s h
theorem f_rneeded (s : TSet) (h : Good s) : F_ref25_Needed s = some (neededI s) := by
  unfold F_ref25_Needed
  rw [f_rweight s h, Option.bind_some]
  have b1 := weight_bound h
  have b2 := needed_bound h
  have b3 : 0 ≤ weightI s * s.purchase := Int.mul_nonneg b1.1 (by have := h.u0; omega)
  have b4 : weightI s * s.purchase ≤ 1099553570816 * 2 := Int.mul_le_mul b1.2 h.u1 (by have := h.u0; omega) (by decide)
  rw [Int.mul_comm s.purchase, wrap64 (n := weightI s * s.purchase) (by omega) (by omega)]
  show some (IntKind.i64.wrap (neededI s)) = _
  rw [wrap64 (by omega) (by omega)]
theorem f_rsum (l : List TBrick) (hl : l.length ≤ 8) (hg : ∀ x ∈ l, GoodBrick x) : F_ref25_Sum l (l.map (·.count)) = some (thereW l) := by
  unfold F_ref25_Sum
  rw [iter_sum (fun b : TBrick => b.weight * b.count) l (by omega) 503316480 (by decide) (by decide) 0 (by decide) (fun k hk => thereW_bound hl hg k hk) (fun k hk z hz => by
    have hk2 : k < (l.map (·.count)).length := by rw [List.length_map]; exact hk
    have b := brick_mul (hg _ (List.getElem_mem hk))
    simp only [lt_yes hk, cond_true, idx_at hk, idx_at hk2, Option.bind_some, List.getElem_map]
    rw [wrap64 (n := l[k].weight * l[k].count) (by omega) (by omega), wrap64 (n := (k : Int) + 1) (by omega) (by omega)]) (fun z => by simp only [lt_no, cond_false])]
  rw [Int.zero_add]
  rfl
theorem bal_bound {s : TSet} (h : Good s) : -504365056 ≤ balanceI s ∧ balanceI s ≤ 2199107141632 := by
  have b1 := needed_bound h
  have b2 := thereW_bound h.nb h.bricks s.bricks.length (Nat.le_refl _)
  have e : balanceI s = neededI s - thereW s.bricks := rfl
  unfold thereW at e
  omega
theorem f_rbalance (s : TSet) (h : Good s) : F_ref25_Balance s = some (balanceI s) := by
  unfold F_ref25_Balance
  have hnb := h.nb
  rw [f_rneeded s h, f_counts s.bricks (by omega)]
  simp only [Option.bind_some]
  rw [f_rsum s.bricks h.nb h.bricks]
  simp only [Option.bind_some]
  show some (IntKind.i64.wrap (balanceI s)) = _
  have := bal_bound h
  rw [wrap64 (by omega) (by omega)]
end Go.Proofs.Ytmdghocpelkcoaa

/- Brakes: paths, the first too far, the widest. -/
namespace Go.Proofs.Ytmdghocpelkcoaa
set_option linter.unusedSimpArgs false
set_option linter.unusedVariables false

theorem maxZ_eq (x y : Int) : maxZ x y = max x y := by unfold maxZ; split <;> omega
theorem minZ_eq (x y : Int) : minZ x y = min x y := by unfold minZ; split <;> omega
theorem jobs_len {l : List TJob} (h : jobsB l = true) : l.length ≤ 100 := by
  unfold jobsB at h
  simp only [Bool.and_eq_true, decide_eq_true_eq] at h
  exact h.1
theorem jobs_good {l : List TJob} (h : jobsB l = true) : ∀ x ∈ l, -1048576 ≤ x.weight ∧ x.weight ≤ 1048576 := fun x hx => by
  unfold jobsB at h
  simp only [Bool.and_eq_true, decide_eq_true_eq] at h
  have := pairs_one h.2 x hx
  unfold jobB at this
  simp only [Bool.and_eq_true, between_iff] at this
  exact this.2
def chI (s : TSet) (x : TJob) : Int := bif x.pipe then s.purchase * x.weight else -x.weight
theorem ch_bound {s : TSet} {x : TJob} (h : Good s) (hx : -1048576 ≤ x.weight ∧ x.weight ≤ 1048576) : -2097152 ≤ chI s x ∧ chI s x ≤ 2097152 := by
  unfold chI
  have h1 := h.u0
  have h2 := h.u1
  cases x.pipe with
  | false => simp only [cond_false]; omega
  | true =>
    simp only [cond_true]
    have : s.purchase = 1 ∨ s.purchase = 2 := by omega
    rcases this with e | e <;> rw [e] <;> omega
theorem f_change (s : TSet) (x : TJob) (h : Good s) (hx : -1048576 ≤ x.weight ∧ x.weight ≤ 1048576) : F_brake_change s x = some (chI s x) := by
  have hb := ch_bound h hx
  unfold F_brake_change
  unfold chI at hb ⊢
  cases hp : x.pipe with
  | false => rw [hp] at hb; simp only [cond_false] at hb ⊢; rw [Int.zero_sub, wrap64 (by omega) (by omega)]
  | true => rw [hp] at hb; simp only [cond_true] at hb ⊢; rw [wrap64 (by omega) (by omega)]
theorem f_rchange (s : TSet) (x : TJob) (h : Good s) (hx : -1048576 ≤ x.weight ∧ x.weight ≤ 1048576) : F_ref27_Change s x = some (chI s x) := f_change s x h hx
def pathL (b : Int) (f : TJob → Int) (l : List TJob) : List Int := (List.range (l.length + 1)).map fun i => b + sumTo f l i
theorem path_len (b : Int) (f : TJob → Int) (l : List TJob) : (pathL b f l).length = l.length + 1 := by simp [pathL]
theorem path_at (b : Int) (f : TJob → Int) (l : List TJob) (i : Nat) (h : i < (pathL b f l).length) : (pathL b f l)[i] = b + sumTo f l i := by simp [pathL]
theorem sum_two (f : TJob → Int) (l : List TJob) (M : Int) (hM : 0 ≤ M) (h : ∀ x ∈ l, -M ≤ f x ∧ f x ≤ M) : ∀ k, k ≤ l.length → -(k * M) ≤ sumTo f l k ∧ sumTo f l k ≤ k * M := by
  intro k
  induction k with
  | zero => intro _; rw [sumTo_zero]; simp
  | succ k ih =>
    intro hk
    have := ih (by omega)
    have hx := h l[k] (List.getElem_mem (by omega))
    rw [sumTo_succ _ _ _ (by omega)]
    have e : ((k + 1 : Nat) : Int) * M = k * M + M := by rw [Int.natCast_add, Int.add_mul, Int.natCast_one, Int.one_mul]
    rw [e]
    omega
theorem ch_sums {s : TSet} {l : List TJob} (h : Good s) (hl : jobsB l = true) (k : Nat) (hk : k ≤ l.length) : -209715200 ≤ sumTo (chI s) l k ∧ sumTo (chI s) l k ≤ 209715200 := by
  have h1 := sum_two (chI s) l 2097152 (by decide) (fun x hx => ch_bound h (jobs_good hl x hx)) k hk
  have h2 := jobs_len hl
  omega
theorem path_bound {s : TSet} {l : List TJob} (h : Good s) (hl : jobsB l = true) : ∀ x ∈ pathL (balanceI s) (chI s) l, -2199316856832 ≤ x ∧ x ≤ 2199316856832 := by
  intro x hx
  obtain ⟨i, hi, rfl⟩ := List.mem_iff_getElem.1 hx
  rw [path_at]
  rw [path_len] at hi
  have h1 := ch_sums h hl i (by omega)
  have h2 := bal_bound h
  omega
theorem iter_path (ch : TJob → Option Int) (s : TSet) (l : List TJob) (h : Good s) (hl : jobsB l = true) (hc : ∀ x ∈ l, ch x = some (chI s x)) :
    iterF (σ := Int × Int × List Int × Unit) (ρ := List Int × Unit) (fun s9 => (bif (decide (s9.2.1 < ((l.length : Nat) : Int))) then (idx l s9.2.1).bind fun x10 => (ch x10).bind fun r11 => (if s9.2.2.1.length + ([(IntKind.i64.wrap (s9.1 + r11))] : List Int).length ≤ 2147483648 then some (.inl ((IntKind.i64.wrap (s9.1 + r11)), (IntKind.i64.wrap (s9.2.1 + 1)), (s9.2.2.1 ++ ([(IntKind.i64.wrap (s9.1 + r11))] : List Int)), ())) else none) else some (.inr (s9.2.2.1, ())))) big (balanceI s, 0, ([balanceI s] : List Int), ()) = some (pathL (balanceI s) (chI s) l, ()) := by
  have hlen := jobs_len hl
  obtain ⟨r, g1, g2⟩ := iter_inv (F := fun s9 : Int × Int × List Int × Unit => (bif (decide (s9.2.1 < ((l.length : Nat) : Int))) then (idx l s9.2.1).bind fun x10 => (ch x10).bind fun r11 => (if s9.2.2.1.length + ([(IntKind.i64.wrap (s9.1 + r11))] : List Int).length ≤ 2147483648 then some (.inl ((IntKind.i64.wrap (s9.1 + r11)), (IntKind.i64.wrap (s9.2.1 + 1)), (s9.2.2.1 ++ ([(IntKind.i64.wrap (s9.1 + r11))] : List Int)), ())) else none) else some (.inr (s9.2.2.1, ())) : Option ((Int × Int × List Int × Unit) ⊕ (List Int × Unit))))
    (Q := fun r => r = (pathL (balanceI s) (chI s) l, ())) (fun k z => z = (balanceI s + sumTo (chI s) l k, (k : Int), (List.range (k + 1)).map (fun i => balanceI s + sumTo (chI s) l i), ())) l.length (by unfold big; omega) (fun k z hk hz => by
      subst hz
      by_cases hlt : k < l.length
      · have b1 := ch_sums h hl (k + 1) (by omega)
        have b2 := bal_bound h
        rw [sumTo_succ _ _ _ hlt] at b1
        refine .inl ⟨(balanceI s + sumTo (chI s) l (k + 1), ((k + 1 : Nat) : Int), (List.range (k + 2)).map (fun i => balanceI s + sumTo (chI s) l i), ()), ?_, hlt, rfl⟩
        simp only [lt_yes hlt, cond_true, idx_at hlt, Option.bind_some, hc _ (List.getElem_mem hlt)]
        rw [if_pos (by simp; omega), wrap64 (n := balanceI s + sumTo (chI s) l k + chI s l[k]) (by omega) (by omega), wrap64 (by omega) (by omega), List.range_succ (n := k + 1), List.map_append, sumTo_succ _ _ _ hlt, Int.add_assoc]
        simp only [List.map_cons, List.map_nil, sumTo_succ _ _ _ hlt]
        rfl
      · obtain rfl : k = l.length := by omega
        simp only [lt_no, cond_false]
        exact .inr ⟨_, rfl, rfl⟩) (s := (balanceI s, 0, [balanceI s], ())) (by simp [sumTo_zero])
  subst g2
  exact g1
def okB (s : TSet) (l : List TJob) : Bool := validB s && jobsB l
def pathP (s : TSet) (l : List TJob) : List Int × Int := bif okB s l then (pathL (balanceI s) (chI s) l, 0) else ([], 1)
theorem okB_ok {s : TSet} {l : List TJob} (h : okB s l = true) : Good s ∧ jobsB l = true ∧ validB s = true := by
  unfold okB at h
  rw [Bool.and_eq_true] at h
  exact ⟨Good.of h.1, h.2, h.1⟩
theorem f_path (s : TSet) (l : List TJob) (hf : Fits s) (hn : ∀ x ∈ l, x.name.size ≤ 60) : F_brake_Path s l = some (pathP s l) := by
  unfold F_brake_Path pathP okB
  rw [f_balance s hf, f_bvalid l (fun x hx => by have := hn x hx; omega)]
  cases hv : validB s with
  | false => rfl
  | true =>
    cases hj : jobsB l with
    | false => rfl
    | true =>
      have e0 : ((0 : Int) != 0) = false := rfl
      simp only [if_true, Option.bind_some, e0, cond_false, Bool.not_true, Bool.and_self, cond_true]
      rw [iter_path (fun x => F_brake_change s x) s l (Good.of hv) hj (fun x hx => f_change s x (Good.of hv) (jobs_good hj x hx))]
      rfl
theorem f_rpath (s : TSet) (l : List TJob) (h : Good s) (hj : jobsB l = true) : F_ref27_Path s l = some (pathL (balanceI s) (chI s) l) := by
  unfold F_ref27_Path
  rw [f_rbalance s h]
  simp only [Option.bind_some]
  rw [iter_path (fun x => F_ref27_Change s x) s l h hj (fun x hx => f_rchange s x h (jobs_good hj x hx))]
  rfl
def heldB (s : TSet) (n : Int) : Bool := decide (-s.brake ≤ n) && decide (n ≤ s.brake)
theorem held_iff (s : TSet) (n : Int) : heldB s n = true ↔ -s.brake ≤ n ∧ n ≤ s.brake := by simp [heldB]
theorem f_held (s : TSet) (n : Int) (h : Good s) : F_brake_held s n = some (heldB s n) := by
  have h1 := h.b0
  have h2 := h.b1
  unfold F_brake_held heldB
  rw [Int.zero_sub, wrap64 (by omega) (by omega)]
  have e : decide (n ≥ -s.brake) = decide (-s.brake ≤ n) := rfl
  rw [e]
  cases decide (-s.brake ≤ n) <;> rfl
theorem f_rheld (s : TSet) (n : Int) (h : Good s) : F_ref27_Held s n = some (heldB s n) := by
  have h1 := h.b0
  have h2 := h.b1
  unfold F_ref27_Held heldB
  rw [f_btw27, Int.zero_sub, wrap64 (by omega) (by omega), Option.bind_some]
  congr 1
  rw [Bool.eq_iff_iff, between_iff]
  simp
def firstI (s : TSet) (p : List Int) : Int := match p.findIdx? (fun z => !heldB s z) with | some i => (i : Int) | none => -1
theorem f_first1 (s : TSet) (z : Int) (h : Good s) : F_brake_First_1 z s = some (!heldB s z) := by unfold F_brake_First_1; rw [f_held s z h]; rfl
theorem f_rfirst (s : TSet) (p : List Int) (h : Good s) (hp : p.length < 9223372036854775807) : F_ref27_First s p = some (firstI s p) := by
  have e := f_slices_IndexFunc_int p hp (fun z => some (!heldB s z)) (fun z => !heldB s z) (fun x _ => rfl)
  unfold F_slices_IndexFunc_int at e
  unfold F_ref27_First
  simp only [f_rheld s _ h, Option.bind_some] at e ⊢
  exact e
def firstP (s : TSet) (l : List TJob) : Int × Int := bif okB s l then (bif decide (firstI s (pathL (balanceI s) (chI s) l) < 0) then (0, 12) else (firstI s (pathL (balanceI s) (chI s) l), 0)) else (0, 1)
theorem f_first (s : TSet) (l : List TJob) (hf : Fits s) (hn : ∀ x ∈ l, x.name.size ≤ 60) : F_brake_First s l = some (firstP s l) := by
  unfold F_brake_First firstP
  rw [f_path s l hf hn]
  unfold pathP
  cases ho : okB s l with
  | false => rfl
  | true =>
    obtain ⟨hg, hj, -⟩ := okB_ok ho
    have hl := jobs_len hj
    have e0 : ((0 : Int) != 0) = false := rfl
    simp only [cond_true, Option.bind_some, e0, cond_false]
    rw [f_slices_IndexFunc_int _ (by rw [path_len]; omega) (fun z2 => F_brake_First_1 z2 s) (fun z => !heldB s z) (fun x _ => f_first1 s x hg)]
    show (some (firstI s (pathL (balanceI s) (chI s) l))).bind _ = _
    simp only [Option.bind_some]
    cases decide (firstI s (pathL (balanceI s) (chI s) l) < 0) <;> rfl
def widestI (p : List Int) : Int := p.foldl (fun t x => max (max t x) (-x)) 0
theorem runL_fold {α τ ρ : Type} (f : τ → α → τ) (fin : τ → ρ) (l : List α) (t : τ) : runL (fun t x => .inl (f t x)) fin l t = fin (l.foldl f t) := by
  induction l generalizing t with
  | nil => rfl
  | cons x l ih => unfold runL; simp only [ih, List.foldl_cons]
theorem f_rwidest (p : List Int) (hl : p.length ≤ 2147483648) (hp : ∀ x ∈ p, -2199316856832 ≤ x ∧ x ≤ 2199316856832) : F_ref27_Widest p = some (widestI p) := by
  unfold F_ref27_Widest
  rw [iter_ak p (by omega) (fun t x => .inl (max (max t x) (-x))) (fun t => (t, ())) (fun _ _ => True) 0 trivial (fun k hk t _ => ⟨by
    have := hp _ (List.getElem_mem hk)
    simp only [lt_yes hk, cond_true, idx_at hk, Option.bind_some, maxZ_eq, Int.zero_sub]
    rw [wrap64 (n := -p[k]) (by omega) (by omega), wrap64 (by omega) (by omega)], fun _ _ => trivial⟩) (fun t _ => by simp only [lt_no, cond_false]), runL_fold]
  rfl
theorem f_max (x : Int) (l : List Int) (hl : l.length ≤ 2147483648) : F_slices_Max_int (x :: l) = some (l.foldl max x) := by
  unfold F_slices_Max_int
  rw [decide_eq_false (show ¬ ((((x :: l).length : Nat) : Int) < 1) by rw [List.length_cons]; omega), show idx (x :: l) 0 = some x from idx_at (k := 0) (by simp)]
  simp only [cond_false, Option.bind_some]
  have h := iter_run (F := fun s4 : Int × Int × Unit => (bif (decide (s4.2.1 < (((x :: l).length : Nat) : Int))) then (idx (x :: l) s4.2.1).bind fun x5 => some (.inl ((maxZ s4.1 x5), (IntKind.i64.wrap (s4.2.1 + 1)), ())) else some (.inr (s4.1, ())) : Option ((Int × Int × Unit) ⊕ (Int × Unit)))) (fun (t : Int) k => (t, k + 1, ())) l (by omega) (fun t x => .inl (max t x)) (fun t => (t, ())) (fun _ _ => True) (fun k hk t _ => ⟨by
    have hk2 : k + 1 < (x :: l).length := by rw [List.length_cons]; omega
    have e : (k : Int) + 1 = ((k + 1 : Nat) : Int) := by omega
    rw [e]
    simp only [lt_yes hk2, cond_true, idx_at hk2, Option.bind_some, maxZ_eq, List.getElem_cons_succ]
    rw [wrap64 (by omega) (by omega)], fun _ _ => trivial⟩) (fun t _ => by
    have e : (l.length : Int) + 1 = (((x :: l).length : Nat) : Int) := by rw [List.length_cons]; omega
    rw [e]
    simp only [lt_no, cond_false]) x trivial
  have e1 : ((x, (0 : Int) + 1, ()) : Int × Int × Unit) = (x, 1, ()) := rfl
  rw [e1] at h
  rw [h, runL_fold]
  rfl
theorem f_min (x : Int) (l : List Int) (hl : l.length ≤ 2147483648) : F_slices_Min_int (x :: l) = some (l.foldl min x) := by
  unfold F_slices_Min_int
  rw [decide_eq_false (show ¬ ((((x :: l).length : Nat) : Int) < 1) by rw [List.length_cons]; omega), show idx (x :: l) 0 = some x from idx_at (k := 0) (by simp)]
  simp only [cond_false, Option.bind_some]
  have h := iter_run (F := fun s4 : Int × Int × Unit => (bif (decide (s4.2.1 < (((x :: l).length : Nat) : Int))) then (idx (x :: l) s4.2.1).bind fun x5 => some (.inl ((minZ s4.1 x5), (IntKind.i64.wrap (s4.2.1 + 1)), ())) else some (.inr (s4.1, ())) : Option ((Int × Int × Unit) ⊕ (Int × Unit)))) (fun (t : Int) k => (t, k + 1, ())) l (by omega) (fun t x => .inl (min t x)) (fun t => (t, ())) (fun _ _ => True) (fun k hk t _ => ⟨by
    have hk2 : k + 1 < (x :: l).length := by rw [List.length_cons]; omega
    have e : (k : Int) + 1 = ((k + 1 : Nat) : Int) := by omega
    rw [e]
    simp only [lt_yes hk2, cond_true, idx_at hk2, Option.bind_some, minZ_eq, List.getElem_cons_succ]
    rw [wrap64 (by omega) (by omega)], fun _ _ => trivial⟩) (fun t _ => by
    have e : (l.length : Int) + 1 = (((x :: l).length : Nat) : Int) := by rw [List.length_cons]; omega
    rw [e]
    simp only [lt_no, cond_false]) x trivial
  have e1 : ((x, (0 : Int) + 1, ()) : Int × Int × Unit) = (x, 1, ()) := rfl
  rw [e1] at h
  rw [h, runL_fold]
  rfl
theorem widest_split (l : List Int) (a b : Int) : l.foldl (fun t x => max (max t x) (-x)) (max a (-b)) = max (l.foldl max a) (-(l.foldl min b)) := by
  induction l generalizing a b with
  | nil => rfl
  | cons x l ih =>
    rw [List.foldl_cons, List.foldl_cons, List.foldl_cons, ← ih]
    congr 1
    omega
theorem widest_cons (x : Int) (l : List Int) : widestI (x :: l) = max (l.foldl max x) (-(l.foldl min x)) := by
  unfold widestI
  rw [List.foldl_cons, ← widest_split]
  congr 1
  omega
theorem fold_min_bound (l : List Int) (a M : Int) (h : ∀ x ∈ l, -M ≤ x ∧ x ≤ M) (ha : -M ≤ a ∧ a ≤ M) : -M ≤ l.foldl min a ∧ l.foldl min a ≤ M := by
  induction l generalizing a with
  | nil => exact ha
  | cons x l ih =>
    have := h x List.mem_cons_self
    exact ih _ (fun y hy => h y (List.mem_cons_of_mem _ hy)) (by omega)
def widestP (s : TSet) (l : List TJob) : Int × Int := bif okB s l then (widestI (pathL (balanceI s) (chI s) l), 0) else (0, 1)
theorem f_widest (s : TSet) (l : List TJob) (hf : Fits s) (hn : ∀ x ∈ l, x.name.size ≤ 60) : F_brake_Widest s l = some (widestP s l) := by
  unfold F_brake_Widest widestP
  rw [f_path s l hf hn]
  unfold pathP
  cases ho : okB s l with
  | false => rfl
  | true =>
    obtain ⟨hg, hj, -⟩ := okB_ok ho
    have hl := jobs_len hj
    have e0 : ((0 : Int) != 0) = false := rfl
    simp only [cond_true, Option.bind_some, e0, cond_false]
    have hb := path_bound hg hj
    have hlen := path_len (balanceI s) (chI s) l
    generalize pathL (balanceI s) (chI s) l = p at hb hlen
    cases p with
    | nil => simp at hlen
    | cons x p =>
      rw [List.length_cons] at hlen
      rw [f_max x p (by omega), f_min x p (by omega)]
      have := fold_min_bound p x 2199316856832 (fun y hy => hb y (List.mem_cons_of_mem _ hy)) (hb x List.mem_cons_self)
      simp only [Option.bind_some, maxZ_eq, Int.zero_sub]
      rw [wrap64 (by omega) (by omega), widest_cons]
theorem f_equal_refl (l : List Int) (h : l.length ≤ 2147483648) : F_slices_Equal_int l l = some true := by
  unfold F_slices_Equal_int
  rw [bne_self_eq_false]
  simp only [cond_false]
  rw [iter_no l (by omega) (fun _ => true) (.inl (false, ())) (.inr ()) (fun k hk => by
    simp only [lt_yes hk, cond_true, idx_at hk, Option.bind_some, bne_self_eq_false, cond_false]
    rw [wrap64 (by omega) (by omega)]) (by simp only [lt_no, cond_false])]
  have e : l.all (fun _ => true) = true := by rw [List.all_eq_true]; intros; rfl
  rw [e]
  rfl
end Go.Proofs.Ytmdghocpelkcoaa

/- The plain sentences of BrakePaths, BrakeChanges, BrakeStates, BrakeBack. -/
namespace Go.Proofs.Ytmdghocpelkcoaa
set_option linter.unusedSimpArgs false
set_option linter.unusedVariables false

theorem f_awake27 : F_law27_awake = some true := by kernel_rfl
theorem first_lt (s : TSet) (p : List Int) : firstI s p < 0 → firstI s p = -1 := by
  unfold firstI
  cases p.findIdx? fun z => !heldB s z with
  | none => intro _; rfl
  | some i => intro h; simp only at h; omega
theorem main_BrakePaths (x0 : TSet) (x1 : List TJob) (w0 : W_Set x0) (w1 : W_l_Job x1) : F_law27_BrakePaths x0 x1 = some true := by
  unfold F_law27_BrakePaths
  rw [f_awake27, f_few27]
  simp only [Option.bind_some, Bool.not_true, cond_false]
  cases hs : few27 x0 x1 with
  | false => rfl
  | true =>
    obtain ⟨hf, hl, hn⟩ := few_ok hs
    have hn2 : ∀ x ∈ x1, x.name.size ≤ 2147483648 := fun x hx => by have := hn x hx; omega
    simp only [Bool.not_true, cond_false]
    rw [f_rjobs x1 hn2, f_path x0 x1 hf hn, f_first x0 x1 hf hn, f_widest x0 x1 hf hn, f_bvalid x1 hn2, f_rvalid x0 hf]
    simp only [Option.bind_some, beq_self_eq_true, Bool.not_true, cond_false]
    unfold pathP firstP widestP
    cases hj : jobsB x1 with
    | false =>
      have ho : okB x0 x1 = false := by unfold okB; rw [hj, Bool.and_false]
      rw [ho]; rfl
    | true =>
      cases hv : validB x0 with
      | false =>
        have ho : okB x0 x1 = false := by unfold okB; rw [hv, Bool.false_and]
        rw [ho]; rfl
      | true =>
        have ho : okB x0 x1 = true := by unfold okB; rw [hv, hj]; rfl
        obtain ⟨hg, -, -⟩ := okB_ok ho
        have e0 : ((0 : Int) != 0) = false := rfl
        rw [ho]
        simp only [Bool.not_true, cond_false, cond_true, Option.bind_some]
        rw [f_rpath x0 x1 hg hj]
        have hb := path_bound hg hj
        have hpl : (pathL (balanceI x0) (chI x0) x1).length ≤ 2147483648 := by rw [path_len]; omega
        simp only [Option.bind_some]
        rw [f_equal_refl _ hpl, f_rwidest _ hpl hb, f_rfirst x0 _ hg (by omega)]
        simp only [Option.bind_some, Bool.not_true, cond_false, e0, bne_self_eq_false]
        cases decide (firstI x0 (pathL (balanceI x0) (chI x0) x1) < 0) with
        | true => rfl
        | false =>
          simp only [cond_false, beq_self_eq_true, cond_true, Option.bind_some]
def changeP (s : TSet) (x : TJob) : Int × Int := bif okB s [x] then (chI s x, 0) else (0, 1)
theorem f_Change (s : TSet) (x : TJob) (hf : Fits s) (hn : x.name.size ≤ 60) : F_brake_Change s x = some (changeP s x) := by
  unfold F_brake_Change changeP okB
  rw [f_valid s hf, f_bvalid [x] (fun y hy => by rw [List.mem_singleton] at hy; subst hy; omega)]
  cases hv : validB s with
  | false => rfl
  | true =>
    cases hj : jobsB [x] with
    | false => rfl
    | true =>
      simp only [Option.bind_some, Bool.not_true, cond_false, Bool.and_self, cond_true]
      rw [f_change s x (Good.of hv) (jobs_good hj x List.mem_cons_self)]
      rfl
theorem main_BrakeChanges (x0 : TSet) (x1 : TJob) (w0 : W_Set x0) (w1 : W_Job x1) : F_law27_BrakeChanges x0 x1 = some true := by
  unfold F_law27_BrakeChanges
  rw [f_awake27, f_few27]
  simp only [Option.bind_some, Bool.not_true, cond_false]
  cases hs : few27 x0 [x1] with
  | false => rfl
  | true =>
    obtain ⟨hf, hl, hn⟩ := few_ok hs
    have hn1 := hn x1 List.mem_cons_self
    simp only [Bool.not_true, cond_false]
    rw [f_Change x0 x1 hf hn1, f_rvalid x0 hf, f_rjobs [x1] (fun x hx => by have := hn x hx; omega)]
    simp only [Option.bind_some]
    unfold changeP
    cases hv : validB x0 with
    | false =>
      have ho : okB x0 [x1] = false := by unfold okB; rw [hv, Bool.false_and]
      rw [ho]; rfl
    | true =>
      cases hj : jobsB [x1] with
      | false =>
        have ho : okB x0 [x1] = false := by unfold okB; rw [hj, Bool.and_false]
        rw [ho]; rfl
      | true =>
        have ho : okB x0 [x1] = true := by unfold okB; rw [hv, hj]; rfl
        rw [ho]
        simp only [Option.bind_some, Bool.not_true, cond_false, cond_true]
        rw [f_rchange x0 x1 (Good.of hv) (jobs_good hj x1 List.mem_cons_self)]
        simp only [Option.bind_some, beq_self_eq_true, cond_true]
theorem f_Holds (s : TSet) (n : Int) (hf : Fits s) : F_brake_Holds s n = some (bif validB s then (heldB s n, 0) else (false, 1)) := by
  unfold F_brake_Holds
  rw [f_valid s hf]
  cases hv : validB s with
  | false => rfl
  | true => simp only [Option.bind_some, Bool.not_true, cond_false, cond_true]; rw [f_held s n (Good.of hv)]; rfl
def farB (n : Int) : Bool := decide (n < -1073741824) || decide (n > 1073741824)
def stateP (s : TSet) (p a : Int) : Int × Int := bif validB s then (bif farB p || farB a then (0, 2) else (balanceI s + s.purchase * p - a, 0)) else (0, 1)
theorem far_no {n : Int} (h : farB n = false) : -1073741824 ≤ n ∧ n ≤ 1073741824 := by
  simp [farB] at h; omega
theorem purchase_mul {s : TSet} {n : Int} (h : Good s) (hn : -1073741824 ≤ n ∧ n ≤ 1073741824) : -2147483648 ≤ s.purchase * n ∧ s.purchase * n ≤ 2147483648 := by
  have h1 := h.u0
  have h2 := h.u1
  have : s.purchase = 1 ∨ s.purchase = 2 := by omega
  rcases this with e | e <;> rw [e] <;> omega
theorem f_State (s : TSet) (p a : Int) (hf : Fits s) : F_brake_State s p a = some (stateP s p a) := by
  unfold F_brake_State stateP
  rw [f_balance s hf]
  cases hv : validB s with
  | false => rfl
  | true =>
    have hg := Good.of hv
    have e0 : ((0 : Int) != 0) = false := rfl
    simp only [if_true, Option.bind_some, e0, cond_false, cond_true]
    rw [f_slices_ContainsFunc_int [p, a] (by simp) (fun z2 => F_brake_State_1 z2) farB (fun x _ => by unfold F_brake_State_1 farB; cases decide (x < -1073741824) <;> rfl)]
    simp only [Option.bind_some, List.any_cons, List.any_nil, Bool.or_false]
    cases hp : farB p with
    | true => rfl
    | false =>
      cases ha : farB a with
      | true => rfl
      | false =>
        have b := bal_bound hg
        have b1 := far_no hp
        have b2 := far_no ha
        have b3 := purchase_mul hg b1
        simp only [Bool.or_self, cond_false]
        rw [wrap64 (n := s.purchase * p) (by omega) (by omega), wrap64 (n := balanceI s + s.purchase * p) (by omega) (by omega), wrap64 (by omega) (by omega)]
theorem f_further (n : Int) : F_ref27_Further n = some (!farB n) := by
  unfold F_ref27_Further
  rw [f_btw27, Option.bind_some]
  congr 1
  rw [Bool.eq_iff_iff, between_iff]
  simp [farB]
theorem main_BrakeStates (x0 : TSet) (x1 : Int) (x2 : Int) (x3 : Int) (w0 : W_Set x0) (w1 : W_int1 x1) (w2 : W_int1 x2) (w3 : W_int1 x3) : F_law27_BrakeStates x0 x1 x2 x3 = some true := by
  unfold F_law27_BrakeStates
  rw [f_awake27, f_few27]
  simp only [Option.bind_some, Bool.not_true, cond_false]
  cases hs : few27 x0 [] with
  | false => rfl
  | true =>
    obtain ⟨hf, -, -⟩ := few_ok hs
    simp only [Bool.not_true, cond_false]
    rw [f_State x0 x1 x2 hf, f_Holds x0 x3 hf, f_rvalid x0 hf]
    simp only [Option.bind_some]
    unfold stateP
    cases hv : validB x0 with
    | false => rfl
    | true =>
      have hg := Good.of hv
      have e0 : ((0 : Int) != 0) = false := rfl
      simp only [Bool.not_true, cond_false, cond_true]
      rw [f_rheld x0 x3 hg, f_further, f_further, f_rbalance x0 hg]
      simp only [Option.bind_some, beq_self_eq_true, Bool.not_true, cond_false, e0]
      cases hp : farB x1 with
      | true => rfl
      | false =>
        cases ha : farB x2 with
        | true => rfl
        | false =>
          have b := bal_bound hg
          have b1 := far_no hp
          have b2 := far_no ha
          have b3 := purchase_mul hg b1
          simp only [Bool.or_self, cond_false, Bool.not_false, Bool.not_true, Option.bind_some]
          rw [wrap64 (n := x0.purchase * x1) (by omega) (by omega), wrap64 (n := balanceI x0 + x0.purchase * x1) (by omega) (by omega), wrap64 (by omega) (by omega), beq_self_eq_true]
          rfl
theorem path_two (b : Int) (f : TJob → Int) (x y : TJob) : pathL b f [x, y] = [b, b + f x, b + (f x + f y)] := by
  simp [pathL, List.range_succ, sumTo]
theorem jobs_cons {x : TJob} {l : List TJob} (h : jobsB (x :: l) = true) : jobsB [x] = true := by
  unfold jobsB at h ⊢
  simp only [Bool.and_eq_true, decide_eq_true_eq] at h ⊢
  refine ⟨by simp, ?_⟩
  have h1 := pairs_one h.2 x List.mem_cons_self
  rw [pairs_iff]
  intro i hi
  rw [List.length_singleton] at hi
  obtain rfl : i = 0 := by omega
  exact ⟨h1, fun k hk => absurd hk (by omega)⟩
theorem main_BrakeBack (x0 : TSet) (x1 : TJob) (w0 : W_Set x0) (w1 : W_Job x1) : F_law27_BrakeBack x0 x1 = some true := by
  unfold F_law27_BrakeBack
  rw [f_awake27, f_few27]
  simp only [Option.bind_some, Bool.not_true, cond_false]
  cases hs : few27 x0 [x1] with
  | false => rfl
  | true =>
    obtain ⟨hf, hl, hn⟩ := few_ok hs
    have hn1 := hn x1 List.mem_cons_self
    simp only [Bool.not_true, cond_false]
    have key : ∀ nm : ByteArray, nm.size ≤ 60 → ((F_brake_Path x0 ([x1, TJob.mk nm x1.pipe (IntKind.i64.wrap (0 - x1.weight))] : List TJob)).bind fun r4 => (bif (r4.2 != 0) then some (((r4.1.length : Nat) : Int) == 0) else (F_brake_Change x0 x1).bind fun r5 => ((bif (r5.2 != 0) then some (true, ()) else (bif (((r4.1.length : Nat) : Int) != 3) then some (true, ()) else (idx r4.1 2).bind fun _x14 => (r4.1[(Int.toNat 2)]?).bind fun x15 => (idx r4.1 0).bind fun _x16 => (r4.1[(Int.toNat 0)]?).bind fun x17 => (bif (x15 != x17) then some (true, ()) else (idx r4.1 1).bind fun _x18 => (r4.1[(Int.toNat 1)]?).bind fun x19 => (idx r4.1 0).bind fun _x20 => (r4.1[(Int.toNat 0)]?).bind fun x21 => some ((x19 != (IntKind.i64.wrap (x21 + r5.1))), ())))) : Option (Bool × Unit)).bind fun y22 => (bif y22.1 then some false else (bif x1.pipe then some (r5.1 == (IntKind.i64.wrap (x1.weight * x0.purchase))) else some (r5.1 == (IntKind.i64.wrap (0 - x1.weight))))))) = some true := by
      intro nm hnm
      rw [f_path x0 _ hf (fun x hx => by
        rcases List.mem_cons.1 hx with rfl | hx
        · exact hn1
        · rw [List.mem_singleton] at hx; subst hx; exact hnm)]
      unfold pathP
      cases ho : okB x0 [x1, TJob.mk nm x1.pipe (IntKind.i64.wrap (0 - x1.weight))] with
      | false => rfl
      | true =>
        obtain ⟨hg, hj, hv⟩ := okB_ok ho
        have hw := jobs_good hj x1 List.mem_cons_self
        have hw2 := ch_bound hg hw
        have hb := bal_bound hg
        have ho1 : okB x0 [x1] = true := by unfold okB; rw [hv, jobs_cons hj]; rfl
        rw [f_Change x0 x1 hf hn1]
        unfold changeP
        rw [ho1, path_two]
        have hopp : chI x0 x1 + chI x0 (TJob.mk nm x1.pipe (IntKind.i64.wrap (0 - x1.weight))) = 0 := by
          rw [Int.zero_sub, wrap64 (by omega) (by omega)]
          unfold chI
          cases x1.pipe with
          | true => simp only [cond_true]; rw [Int.mul_neg]; omega
          | false => simp only [cond_false]; omega
        rw [hopp]
        have e0 : ((0 : Int) != 0) = false := rfl
        simp only [cond_true, Option.bind_some, e0, cond_false]
        show (((bif (balanceI x0 + 0 != balanceI x0) then some (true, ()) else some (((balanceI x0 + chI x0 x1) != (IntKind.i64.wrap (balanceI x0 + chI x0 x1))), ())) : Option (Bool × Unit)).bind fun y22 => (bif y22.1 then some false else (bif x1.pipe then some (chI x0 x1 == (IntKind.i64.wrap (x1.weight * x0.purchase))) else some (chI x0 x1 == (IntKind.i64.wrap (0 - x1.weight)))))) = some true
        rw [Int.add_zero, bne_self_eq_false, wrap64 (n := balanceI x0 + chI x0 x1) (by omega) (by omega), bne_self_eq_false]
        simp only [cond_false, Option.bind_some]
        unfold chI at hw2 ⊢
        cases hp : x1.pipe with
        | true =>
          rw [hp] at hw2
          simp only [cond_true] at hw2 ⊢
          rw [Int.mul_comm x1.weight, wrap64 (by omega) (by omega), beq_self_eq_true]
        | false =>
          rw [hp] at hw2
          simp only [cond_false] at hw2 ⊢
          rw [Int.zero_sub, wrap64 (by omega) (by omega), beq_self_eq_true]
    cases (x1.name.toList == (⟨#[111, 112, 112, 111, 115, 105, 116, 101, 95, 111, 102, 95, 105, 116]⟩ : ByteArray).toList) with
    | true => exact key _ (by decide)
    | false => exact key _ (by decide)
end Go.Proofs.Ytmdghocpelkcoaa

/- Loading in: states as numbers, what is found from smaller states, sums over the bits. No program in sight. -/
namespace Go.Proofs.Ytmdghocpelkcoaa
set_option linter.unusedSimpArgs false

/-- What is found for each number out of what was found for smaller ones. -/
def tab {α : Type} (d : α) (f : Nat → (Nat → α) → α) : Nat → List α
  | 0 => []
  | k + 1 => tab d f k ++ [f k fun j => (tab d f k).getD j d]
def val {α : Type} (d : α) (f : Nat → (Nat → α) → α) (m : Nat) : α := (tab d f (m + 1)).getD m d
theorem tab_len {α : Type} (d : α) (f : Nat → (Nat → α) → α) : ∀ k, (tab d f k).length = k
  | 0 => rfl
  | k + 1 => by rw [tab, List.length_append, tab_len d f k]; rfl
theorem tab_get {α : Type} (d : α) (f : Nat → (Nat → α) → α) : ∀ (k j : Nat), j < k → (tab d f k)[j]? = some (val d f j)
  | 0, _, h => by omega
  | k + 1, j, h => by
    have hl := tab_len d f k
    rcases Nat.lt_or_ge j k with h1 | h1
    · rw [tab, List.getElem?_append_left (by omega)]; exact tab_get d f k j h1
    · obtain rfl : j = k := by omega
      unfold val
      rw [List.getD_eq_getElem?_getD, tab, List.getElem?_append_right (by omega), hl, Nat.sub_self]
      rfl
theorem tab_at {α : Type} (d : α) (f : Nat → (Nat → α) → α) {k j : Nat} (h : j < (tab d f k).length) : (tab d f k)[j] = val d f j := by
  have := tab_get d f k j (by rwa [tab_len] at h)
  rw [List.getElem?_eq_getElem h] at this
  exact Option.some.inj this
theorem tab_get0 {α : Type} (d : α) (f : Nat → (Nat → α) → α) (k j : Nat) : (tab d f k).getD j d = if j < k then val d f j else d := by
  rw [List.getD_eq_getElem?_getD]
  split
  · rename_i h; rw [tab_get d f k j h]; rfl
  · rename_i h; rw [List.getElem?_eq_none (by rw [tab_len]; omega)]; rfl
theorem val_eq {α : Type} (d : α) (f : Nat → (Nat → α) → α) (m : Nat) : val d f m = f m fun j => if j < m then val d f j else d := by
  have h : (tab d f (m + 1))[m]? = some (f m fun j => (tab d f m).getD j d) := by
    rw [tab, List.getElem?_append_right (by rw [tab_len]; omega), tab_len, Nat.sub_self]; rfl
  have h2 := tab_get d f (m + 1) m (by omega)
  rw [h2] at h
  rw [Option.some.inj h]
  congr 1
  funext j
  rw [tab_get0]
theorem tab_map {α : Type} (d : α) (f : Nat → (Nat → α) → α) (k : Nat) : tab d f k = (List.range k).map (val d f) := by
  apply List.ext_getElem?
  intro j
  rcases Nat.lt_or_ge j k with h | h
  · rw [tab_get d f k j h, List.getElem?_map, List.getElem?_range h]; rfl
  · rw [List.getElem?_eq_none (by rw [tab_len]; exact h), List.getElem?_eq_none (by simp; exact h)]

/-- The sum over the bits that are set, of the first k. -/
def bsum (cs : List Int) (m : Nat) : Nat → Int
  | 0 => 0
  | k + 1 => bsum cs m k + bif m.testBit k then cs.getD k 0 else 0
theorem bsum_congr (cs : List Int) {m m' : Nat} : ∀ {k : Nat}, (∀ i, i < k → m.testBit i = m'.testBit i) → bsum cs m k = bsum cs m' k
  | 0, _ => rfl
  | k + 1, h => by
    unfold bsum
    rw [bsum_congr cs (fun i hi => h i (by omega)), h k (by omega)]
theorem bsum_zero (cs : List Int) : ∀ k, bsum cs 0 k = 0
  | 0 => rfl
  | k + 1 => by unfold bsum; rw [bsum_zero cs k, Nat.zero_testBit]; rfl
theorem bit_add : ∀ m < 128, ∀ i < 7, ∀ j < 7, m.testBit i = false → (m + 2 ^ i).testBit j = (m.testBit j || i == j) := by decide +kernel
theorem bit_sub : ∀ m < 128, ∀ i < 7, ∀ j < 7, m.testBit i = true → (m - 2 ^ i).testBit j = (m.testBit j && !(i == j)) := by decide +kernel
theorem bit_flip : ∀ n < 8, ∀ m < 2 ^ n, ∀ i < n, (2 ^ n - 1 - m).testBit i = !m.testBit i := by decide +kernel
theorem bit_up : ∀ n < 8, ∀ m < 2 ^ n, ∀ i < n, m.testBit i = false → m + 2 ^ i < 2 ^ n := by decide +kernel
theorem bit_ext : ∀ n < 8, ∀ m < 2 ^ n, ∀ k < 2 ^ n, (∀ i < n, m.testBit i = k.testBit i) → m = k := by
  intro n hn m hm k hk h
  apply Nat.eq_of_testBit_eq
  intro i
  rcases Nat.lt_or_ge i n with hi | hi
  · exact h i hi
  · have e : 2 ^ n ≤ 2 ^ i := Nat.pow_le_pow_right (by omega) hi
    rw [Nat.testBit_lt_two_pow (by omega), Nat.testBit_lt_two_pow (by omega)]
theorem pow_le7 {n : Nat} (h : n ≤ 7) : 2 ^ n ≤ 128 := Nat.pow_le_pow_right (n := 2) (by omega) h
theorem pw (i : Nat) (hi : i < 13) : IntKind.i64.wrap (1 * 2 ^ min (Int.toNat (i : Int)) IntKind.i64.bits) = ((2 ^ i : Nat) : Int) := by
  revert hi; revert i; decide +kernel
theorem b_has (m i : Nat) (hm : m < 128) (hi : i < 7) : (bitsOf .and .i64 ((m : Int).fdiv (2 ^ min (Int.toNat (i : Int)) IntKind.i64.bits)) 1 == 1) = m.testBit i := by
  have h : ∀ m : Nat, m < 128 → ∀ i : Nat, i < 7 → (bitsOf .and .i64 ((m : Int).fdiv (2 ^ min (Int.toNat (i : Int)) IntKind.i64.bits)) 1 == 1) = m.testBit i := by decide +kernel
  exact h m hm i hi
theorem b_hasnt (m i : Nat) (hm : m < 128) (hi : i < 7) : (bitsOf .and .i64 ((m : Int).fdiv (2 ^ min (Int.toNat (i : Int)) IntKind.i64.bits)) 1 == 0) = !m.testBit i := by
  have h : ∀ m : Nat, m < 128 → ∀ i : Nat, i < 7 → (bitsOf .and .i64 ((m : Int).fdiv (2 ^ min (Int.toNat (i : Int)) IntKind.i64.bits)) 1 == 0) = !m.testBit i := by decide +kernel
  exact h m hm i hi
theorem b_or (m i : Nat) (hm : m < 128) (hi : i < 7) (hb : m.testBit i = false) : bitsOf .or .i64 (m : Int) ((2 ^ i : Nat) : Int) = ((m + 2 ^ i : Nat) : Int) := by
  have h : ∀ m : Nat, m < 128 → ∀ i : Nat, i < 7 → m.testBit i = false → bitsOf .or .i64 (m : Int) ((2 ^ i : Nat) : Int) = ((m + 2 ^ i : Nat) : Int) := by decide +kernel
  exact h m hm i hi hb
theorem b_not (m i : Nat) (hm : m < 128) (hi : i < 7) (hb : m.testBit i = true) : bitsOf .andNot .i64 (m : Int) ((2 ^ i : Nat) : Int) = ((m - 2 ^ i : Nat) : Int) := by
  have h : ∀ m : Nat, m < 128 → ∀ i : Nat, i < 7 → m.testBit i = true → bitsOf .andNot .i64 (m : Int) ((2 ^ i : Nat) : Int) = ((m - 2 ^ i : Nat) : Int) := by decide +kernel
  exact h m hm i hi hb
theorem bit_ge {m i : Nat} (h : m.testBit i = true) : 2 ^ i ≤ m := Nat.ge_two_pow_of_testBit h
end Go.Proofs.Ytmdghocpelkcoaa

/- Loading in: ways through held states, as lists of the jobs done. No program in sight. -/
namespace Go.Proofs.Ytmdghocpelkcoaa
set_option linter.unusedSimpArgs false
set_option linter.unusedVariables false

def reachV (n : Nat) (h : Nat → Bool) : Nat → Bool := val false fun m g => h m && (m == 0 || (List.range n).any fun i => m.testBit i && g (m - 2 ^ i))
def waysV (n : Nat) (h : Nat → Bool) : Nat → Int := val 0 fun m g => bif h m then (bif m == 0 then 1 else 0) + ((List.range n).map fun i => bif m.testBit i then g (m - 2 ^ i) else 0).sum else 0
def pathsV (n : Nat) (h : Nat → Bool) : Nat → List (List Nat) := val [] fun m g => bif h m then (bif m == 0 then [[]] else (List.range n).flatMap fun i => bif m.testBit i then (g (m - 2 ^ i)).map (i :: ·) else []) else []
theorem sub_lt {m i : Nat} (h : m.testBit i = true) : m - 2 ^ i < m := by
  have := bit_ge h
  have := Nat.two_pow_pos i
  omega
theorem reach_eq (n : Nat) (h : Nat → Bool) (m : Nat) : reachV n h m = (h m && (m == 0 || (List.range n).any fun i => m.testBit i && reachV n h (m - 2 ^ i))) := by
  have e := val_eq false (fun m g => h m && (m == 0 || (List.range n).any fun i => m.testBit i && g (m - 2 ^ i))) m
  unfold reachV
  rw [e]
  congr 3
  funext i
  cases hb : m.testBit i with
  | false => rfl
  | true => simp only [Bool.true_and]; rw [if_pos (sub_lt hb)]
theorem ways_eq (n : Nat) (h : Nat → Bool) (m : Nat) : waysV n h m = bif h m then (bif m == 0 then 1 else 0) + ((List.range n).map fun i => bif m.testBit i then waysV n h (m - 2 ^ i) else 0).sum else 0 := by
  have e := val_eq (0 : Int) (fun m g => bif h m then (bif m == 0 then 1 else 0) + ((List.range n).map fun i => bif m.testBit i then g (m - 2 ^ i) else 0).sum else 0) m
  unfold waysV
  rw [e]
  congr 4
  funext i
  cases hb : m.testBit i with
  | false => rfl
  | true => simp only [cond_true]; rw [if_pos (sub_lt hb)]
theorem paths_eq (n : Nat) (h : Nat → Bool) (m : Nat) : pathsV n h m = bif h m then (bif m == 0 then [[]] else (List.range n).flatMap fun i => bif m.testBit i then (pathsV n h (m - 2 ^ i)).map (i :: ·) else []) else [] := by
  have e := val_eq ([] : List (List Nat)) (fun m g => bif h m then (bif m == 0 then [[]] else (List.range n).flatMap fun i => bif m.testBit i then (g (m - 2 ^ i)).map (i :: ·) else []) else []) m
  unfold pathsV
  rw [e]
  congr 3
  funext i
  cases hb : m.testBit i with
  | false => rfl
  | true => simp only [cond_true]; rw [if_pos (sub_lt hb)]
/-- The state that some jobs come to. -/
def st (p : List Nat) : Nat := (p.map (2 ^ ·)).sum
theorem st_cons (i : Nat) (p : List Nat) : st (i :: p) = 2 ^ i + st p := rfl
theorem st_append (p q : List Nat) : st (p ++ q) = st p + st q := by unfold st; rw [List.map_append, List.sum_append]
theorem st_reverse (p : List Nat) : st p.reverse = st p := by
  induction p with
  | nil => rfl
  | cons i p ih => rw [List.reverse_cons, st_append, ih, st_cons, st_cons]; show st p + (2 ^ i + 0) = _; omega
def okP (n : Nat) (h : Nat → Bool) : List Nat → Prop
  | [] => h 0 = true
  | i :: q => i < n ∧ i ∉ q ∧ h (st (i :: q)) = true ∧ okP n h q
theorem st_bits {n : Nat} (hn : n ≤ 7) : ∀ {p : List Nat}, p.Nodup → (∀ i ∈ p, i < n) → st p < 2 ^ n ∧ ∀ j, j < 7 → (st p).testBit j = decide (j ∈ p)
  | [], _, _ => ⟨Nat.two_pow_pos n, fun j _ => by show (0 : Nat).testBit j = _; rw [Nat.zero_testBit]; simp⟩
  | i :: p, hd, hl => by
    rw [List.nodup_cons] at hd
    obtain ⟨h1, h2⟩ := st_bits hn hd.2 (fun j hj => hl j (List.mem_cons_of_mem _ hj))
    have hi := hl i List.mem_cons_self
    have h3 := h2 i (by omega)
    rw [decide_eq_false hd.1] at h3
    have h4 := pow_le7 hn
    rw [st_cons, Nat.add_comm]
    refine ⟨bit_up n (by omega) _ h1 i hi h3, fun j hj => ?_⟩
    rw [bit_add _ (by omega) i (by omega) j hj h3, h2 j hj, Bool.eq_iff_iff]
    simp only [Bool.or_eq_true, decide_eq_true_eq, beq_iff_eq, List.mem_cons]
    constructor
    · rintro (h | h)
      · exact .inr h
      · exact .inl h.symm
    · rintro (h | h)
      · exact .inr h.symm
      · exact .inl h
theorem okP_nodup {n : Nat} {h : Nat → Bool} : ∀ {p : List Nat}, okP n h p → p.Nodup ∧ ∀ i ∈ p, i < n
  | [], _ => ⟨List.nodup_nil, fun i hi => by cases hi⟩
  | i :: p, ⟨h1, h2, _, h4⟩ => by
    obtain ⟨g1, g2⟩ := okP_nodup h4
    exact ⟨List.nodup_cons.2 ⟨h2, g1⟩, fun j hj => by
      rcases List.mem_cons.1 hj with rfl | hj
      · exact h1
      · exact g2 j hj⟩
theorem okP_iff {n : Nat} {h : Nat → Bool} : ∀ {p : List Nat}, okP n h p ↔ p.Nodup ∧ (∀ i ∈ p, i < n) ∧ ∀ q, q <:+ p → h (st q) = true
  | [] => ⟨fun hp => ⟨List.nodup_nil, fun i hi => (by cases hi), fun q hq => (by rw [List.suffix_nil] at hq; subst hq; exact hp)⟩, fun hp => hp.2.2 [] (List.suffix_refl _)⟩
  | i :: p => by
    constructor
    · intro hp
      obtain ⟨g1, g2⟩ := okP_nodup hp
      refine ⟨g1, g2, fun q hq => ?_⟩
      rcases List.suffix_cons_iff.1 hq with rfl | hq
      · exact hp.2.2.1
      · exact (okP_iff.1 hp.2.2.2).2.2 q hq
    · rintro ⟨g1, g2, g3⟩
      rw [List.nodup_cons] at g1
      exact ⟨g2 i List.mem_cons_self, g1.1, g3 _ (List.suffix_refl _), okP_iff.2 ⟨g1.2, fun j hj => g2 j (List.mem_cons_of_mem _ hj), fun q hq => g3 q (hq.trans (List.suffix_cons i p))⟩⟩
theorem mem_paths {n : Nat} (hn : n ≤ 7) (h : Nat → Bool) : ∀ (p : List Nat) (m : Nat), m < 2 ^ n → (p ∈ pathsV n h m ↔ st p = m ∧ okP n h p)
  | [], m, hm => by
    rw [paths_eq]
    cases hh : h m with
    | false =>
      simp only [cond_false, List.not_mem_nil, false_iff]
      rintro ⟨rfl, h2⟩
      have h2 : h 0 = true := h2
      have hh : h 0 = false := hh
      rw [h2] at hh; cases hh
    | true =>
      simp only [cond_true]
      cases h0 : m == 0 with
      | true =>
        rw [beq_iff_eq] at h0
        subst h0
        simp only [cond_true, List.mem_singleton, true_iff]
        exact ⟨rfl, hh⟩
      | false =>
        simp only [cond_false, List.mem_flatMap]
        constructor
        · rintro ⟨i, _, h2⟩
          cases hb : m.testBit i <;> rw [hb] at h2
          · cases h2
          · simp only [cond_true, List.mem_map] at h2
            obtain ⟨q, _, h3⟩ := h2
            cases h3
        · rintro ⟨rfl, _⟩
          exact absurd h0 (by simp [st])
  | i :: p, m, hm => by
    have h7 := pow_le7 hn
    rw [paths_eq]
    cases hh : h m with
    | false =>
      simp only [cond_false, List.not_mem_nil, false_iff]
      rintro ⟨rfl, h2⟩
      rw [h2.2.2.1] at hh; cases hh
    | true =>
      simp only [cond_true]
      cases h0 : m == 0 with
      | true =>
        rw [beq_iff_eq] at h0
        subst h0
        simp only [cond_true, List.mem_singleton]
        constructor
        · intro h; cases h
        · rintro ⟨h1, _⟩
          rw [st_cons] at h1
          have := Nat.two_pow_pos i
          omega
      | false =>
        simp only [cond_false, List.mem_flatMap, List.mem_range]
        constructor
        · rintro ⟨j, hj, h2⟩
          cases hb : m.testBit j <;> rw [hb] at h2
          · cases h2
          · simp only [cond_true, List.mem_map] at h2
            obtain ⟨q, h3, h4⟩ := h2
            cases h4
            have hlt := sub_lt hb
            obtain ⟨h5, h6⟩ := (mem_paths hn h p _ (by omega)).1 h3
            obtain ⟨g1, g2⟩ := okP_nodup h6
            have hge := bit_ge hb
            have e : st (i :: p) = m := by rw [st_cons, h5]; omega
            refine ⟨e, hj, fun hip => ?_, by rw [e]; exact hh, h6⟩
            have h8 := (st_bits hn g1 g2).2 i (by omega)
            rw [decide_eq_true hip, h5, bit_sub m (by omega) i (by omega) i (by omega) hb] at h8
            simp at h8
        · rintro ⟨h1, h2⟩
          obtain ⟨g1, g2⟩ := okP_nodup h2
          have h8 := (st_bits hn g1 g2).2 i (by have := h2.1; omega)
          rw [decide_eq_true List.mem_cons_self, h1] at h8
          refine ⟨i, h2.1, ?_⟩
          rw [h8]
          simp only [cond_true, List.mem_map]
          have hlt := sub_lt h8
          refine ⟨p, (mem_paths hn h p _ (by omega)).2 ⟨?_, h2.2.2.2⟩, rfl⟩
          rw [← h1, st_cons]; omega
theorem nodup_map_cons (i : Nat) {l : List (List Nat)} (h : l.Nodup) : (l.map (i :: ·)).Nodup := by
  rw [List.Nodup, List.pairwise_map]
  exact List.Pairwise.imp (fun hab e => hab (List.cons.inj e).2) h
theorem paths_nodup (n : Nat) (h : Nat → Bool) : ∀ (k m : Nat), m < k → (pathsV n h m).Nodup
  | 0, _, hk => by omega
  | k + 1, m, hk => by
    rw [paths_eq]
    cases h m with
    | false => exact List.nodup_nil
    | true =>
      simp only [cond_true]
      cases m == 0 with
      | true => simp
      | false =>
        simp only [cond_false]
        rw [List.Nodup, List.pairwise_flatMap]
        refine ⟨fun i _ => ?_, List.nodup_range.imp fun {i j} hne x hx y hy e => ?_⟩
        · cases hb : m.testBit i with
          | false => exact List.nodup_nil
          | true => have := sub_lt hb; exact nodup_map_cons i (paths_nodup n h k (m - 2 ^ i) (by omega))
        · subst e
          cases hb : m.testBit i <;> rw [hb] at hx
          · cases hx
          · cases hc : m.testBit j <;> rw [hc] at hy
            · cases hy
            · simp only [cond_true, List.mem_map] at hx hy
              obtain ⟨_, _, rfl⟩ := hx
              obtain ⟨_, _, h2⟩ := hy
              exact hne (List.cons.inj h2).1.symm
theorem sum_cast {α : Type} (l : List α) (f : α → Int) (g : α → Nat) (h : ∀ x ∈ l, f x = (g x : Int)) : (l.map f).sum = ((l.map g).sum : Nat) := by
  induction l with
  | nil => rfl
  | cons x l ih =>
    rw [List.map_cons, List.map_cons, List.sum_cons, List.sum_cons, ih (fun y hy => h y (List.mem_cons_of_mem _ hy)), h x List.mem_cons_self]
    omega
theorem ways_len (n : Nat) (h : Nat → Bool) : ∀ (k m : Nat), m < k → waysV n h m = ((pathsV n h m).length : Int)
  | 0, _, hk => by omega
  | k + 1, m, hk => by
    rw [ways_eq, paths_eq]
    cases h m with
    | false => rfl
    | true =>
      simp only [cond_true]
      have key : ((List.range n).map fun i => bif m.testBit i then waysV n h (m - 2 ^ i) else 0).sum = (((List.range n).flatMap fun i => bif m.testBit i then (pathsV n h (m - 2 ^ i)).map (i :: ·) else []).length : Int) := by
        rw [List.length_flatMap]
        refine sum_cast _ _ _ fun i _ => ?_
        cases hb : m.testBit i with
        | false => rfl
        | true => have := sub_lt hb; simp only [cond_true, List.length_map]; exact ways_len n h k _ (by omega)
      cases h0 : m == 0 with
      | false => simp only [cond_false]; rw [key]; omega
      | true =>
        rw [beq_iff_eq] at h0
        subst h0
        simp only [cond_true]
        have : ((List.range n).map fun i => bif (0 : Nat).testBit i then waysV n h (0 - 2 ^ i) else 0).sum = 0 := by
          have e : ∀ i, (bif (0 : Nat).testBit i then waysV n h (0 - 2 ^ i) else 0) = 0 := fun i => by rw [Nat.zero_testBit]; rfl
          simp only [e]
          generalize List.range n = l
          induction l with
          | nil => rfl
          | cons x l ih => rw [List.map_cons, List.sum_cons, ih]; rfl
        rw [this]; rfl
theorem reach_iff (n : Nat) (h : Nat → Bool) : ∀ (k m : Nat), m < k → (reachV n h m = true ↔ ∃ p, p ∈ pathsV n h m)
  | 0, _, hk => by omega
  | k + 1, m, hk => by
    rw [reach_eq, paths_eq]
    cases h m with
    | false => simp
    | true =>
      simp only [Bool.true_and, cond_true]
      cases h0 : m == 0 with
      | true => simp
      | false =>
        simp only [Bool.false_or, cond_false, List.any_eq_true, List.mem_range, Bool.and_eq_true, List.mem_flatMap]
        constructor
        · rintro ⟨i, hi, hb, hr⟩
          have := sub_lt hb
          obtain ⟨p, hp⟩ := (reach_iff n h k _ (by omega)).1 hr
          exact ⟨i :: p, i, hi, by rw [hb]; exact List.mem_map.2 ⟨p, hp, rfl⟩⟩
        · rintro ⟨p, i, hi, h2⟩
          cases hb : m.testBit i <;> rw [hb] at h2
          · cases h2
          · simp only [cond_true, List.mem_map] at h2
            obtain ⟨q, hq, _⟩ := h2
            have := sub_lt hb
            exact ⟨i, hi, hb, (reach_iff n h k _ (by omega)).2 ⟨q, hq⟩⟩
theorem ways_pos (n : Nat) (h : Nat → Bool) (m : Nat) : (waysV n h m == 0) = !reachV n h m := by
  rw [ways_len n h (m + 1) m (by omega), Bool.eq_iff_iff, Bool.not_eq_true', ← Bool.not_eq_true, reach_iff n h (m + 1) m (by omega), beq_iff_eq]
  cases hp : pathsV n h m with
  | nil => simp
  | cons p l => simp; omega
/-- The states that a state is not. -/
def flip (n : Nat) (h : Nat → Bool) (m : Nat) : Bool := h (2 ^ n - 1 - m)
/-- A safe order. -/
def Safe (n : Nat) (h : Nat → Bool) (o : List Nat) : Prop := o.Nodup ∧ (∀ i ∈ o, i < n) ∧ st o = 2 ^ n - 1 ∧ ∀ a, a <+: o → h (st a) = true
theorem nodup_reverse' {o : List Nat} : o.reverse.Nodup ↔ o.Nodup := by
  rw [List.Nodup, List.pairwise_reverse]
  exact ⟨fun h => h.imp fun hab e => hab e.symm, fun h => List.Pairwise.imp (fun hab e => hab e.symm) h⟩
theorem safe_dn {n : Nat} (hn : n ≤ 7) (h : Nat → Bool) (o : List Nat) : o.reverse ∈ pathsV n h (2 ^ n - 1) ↔ Safe n h o := by
  have := Nat.two_pow_pos n
  rw [mem_paths hn h _ _ (by omega), okP_iff, st_reverse]
  unfold Safe
  rw [nodup_reverse']
  constructor
  · rintro ⟨h1, h2, h3, h4⟩
    refine ⟨h2, fun i hi => h3 i (List.mem_reverse.2 hi), h1, fun a ha => ?_⟩
    have := h4 a.reverse (List.reverse_suffix.2 ha)
    rwa [st_reverse] at this
  · rintro ⟨h1, h2, h3, h4⟩
    refine ⟨h3, h1, fun i hi => h2 i (List.mem_reverse.1 hi), fun q hq => ?_⟩
    have h5 : q.reverse <+: o := by rw [← List.reverse_reverse o]; exact List.reverse_prefix.2 hq
    have := h4 _ h5
    rwa [st_reverse] at this
theorem safe_up {n : Nat} (hn : n ≤ 7) (h : Nat → Bool) (o : List Nat) : o ∈ pathsV n (flip n h) (2 ^ n - 1) ↔ Safe n h o := by
  have := Nat.two_pow_pos n
  rw [mem_paths hn _ _ _ (by omega), okP_iff]
  unfold Safe flip
  constructor
  · rintro ⟨h1, h2, h3, h4⟩
    refine ⟨h2, h3, h1, fun a ha => ?_⟩
    obtain ⟨b, rfl⟩ := ha
    have h5 := h4 b (List.suffix_append a b)
    rw [st_append] at h1
    rwa [show 2 ^ n - 1 - st b = st a from by omega] at h5
  · rintro ⟨h1, h2, h3, h4⟩
    refine ⟨h3, h1, h2, fun q hq => ?_⟩
    obtain ⟨a, rfl⟩ := hq
    have h5 := h4 a (List.prefix_append a q)
    rw [st_append] at h3
    rwa [show 2 ^ n - 1 - st q = st a from by omega]
theorem nodup_rev {l : List (List Nat)} (h : l.Nodup) : (l.map List.reverse).Nodup := by
  rw [List.Nodup, List.pairwise_map]
  exact List.Pairwise.imp (fun {a b} hab e => hab (by rw [← List.reverse_reverse a, e, List.reverse_reverse])) h
/-- As many orders come up as go down. -/
theorem ways_flip {n : Nat} (hn : n ≤ 7) (h : Nat → Bool) : waysV n (flip n h) (2 ^ n - 1) = waysV n h (2 ^ n - 1) := by
  rw [ways_len _ _ _ _ (Nat.lt_succ_self _), ways_len _ _ _ _ (Nat.lt_succ_self _)]
  have h1 := paths_nodup n (flip n h) _ _ (Nat.lt_succ_self (2 ^ n - 1))
  have h2 := nodup_rev (paths_nodup n h _ _ (Nat.lt_succ_self (2 ^ n - 1)))
  have h3 := (List.perm_ext_iff_of_nodup h1 h2).2 fun o => by
    rw [safe_up hn, ← safe_dn hn, List.mem_map]
    constructor
    · intro ho; exact ⟨_, ho, List.reverse_reverse o⟩
    · rintro ⟨p, hp, rfl⟩; rwa [List.reverse_reverse]
  have := h3.length_eq
  rw [List.length_map] at this
  rw [this]
/-- The number of safe orders, found in any way. -/
theorem ways_count {n : Nat} (hn : n ≤ 7) (h : Nat → Bool) {L : List (List Nat)} (hd : L.Nodup) (hm : ∀ o, o ∈ L ↔ Safe n h o) : waysV n h (2 ^ n - 1) = (L.length : Int) := by
  rw [← ways_flip hn, ways_len _ _ _ _ (Nat.lt_succ_self _)]
  have := ((List.perm_ext_iff_of_nodup (paths_nodup n (flip n h) _ _ (Nat.lt_succ_self (2 ^ n - 1))) hd).2 fun o => by rw [safe_up hn, hm]).length_eq
  rw [this]
end Go.Proofs.Ytmdghocpelkcoaa

/- Loading in: the first way, sums over states. No program in sight. -/
namespace Go.Proofs.Ytmdghocpelkcoaa
set_option linter.unusedSimpArgs false
set_option linter.unusedVariables false

def dnL (n : Nat) (r : Nat → Bool) : Nat → Nat → List Nat
  | 0, _ => []
  | f + 1, k => bif k == 0 then [] else match (List.range n).find? (fun i => k.testBit i && r (k - 2 ^ i)) with
    | some i => i :: dnL n r f (k - 2 ^ i)
    | none => []
def lexLe : List Nat → List Nat → Bool
  | [], _ => true
  | _ :: _, [] => false
  | a :: x, b :: y => decide (a < b) || (a == b && lexLe x y)
theorem reach_find {n : Nat} {h : Nat → Bool} {k : Nat} (hr : reachV n h k = true) (h0 : k ≠ 0) : ∃ i, (List.range n).find? (fun i => k.testBit i && reachV n h (k - 2 ^ i)) = some i ∧ i < n ∧ k.testBit i = true ∧ reachV n h (k - 2 ^ i) = true := by
  rw [reach_eq] at hr
  have e : (k == 0) = false := by simpa using h0
  rw [e, Bool.false_or, Bool.and_eq_true] at hr
  cases hf : (List.range n).find? (fun i => k.testBit i && reachV n h (k - 2 ^ i)) with
  | none =>
    rw [List.find?_eq_none] at hf
    obtain ⟨i, h1, h2⟩ := List.any_eq_true.1 hr.2
    exact absurd h2 (hf i h1)
  | some i =>
    have h1 := List.find?_some hf
    have h2 := List.mem_of_find?_eq_some hf
    rw [Bool.and_eq_true] at h1
    exact ⟨i, rfl, List.mem_range.1 h2, h1.1, h1.2⟩
theorem dn_mem {n : Nat} {h : Nat → Bool} : ∀ (f k : Nat), k < f → reachV n h k = true → dnL n (reachV n h) f k ∈ pathsV n h k
  | 0, _, hk, _ => by omega
  | f + 1, k, hk, hr => by
    unfold dnL
    have hh : h k = true := by rw [reach_eq, Bool.and_eq_true] at hr; exact hr.1
    rw [paths_eq, hh]
    simp only [cond_true]
    cases h0 : k == 0 with
    | true => simp
    | false =>
      simp only [cond_false]
      obtain ⟨i, h1, h2, h3, h4⟩ := reach_find hr (by simpa using h0)
      rw [h1]
      have := sub_lt h3
      rw [List.mem_flatMap]
      exact ⟨i, List.mem_range.2 h2, by rw [h3]; exact List.mem_map.2 ⟨_, dn_mem f _ (by omega) h4, rfl⟩⟩
theorem find_range {n : Nat} {p : Nat → Bool} {i j : Nat} (h : (List.range n).find? p = some i) (hj : j < n) (hp : p j = true) : i ≤ j := by
  rcases Nat.lt_or_ge j i with hlt | hge
  · exfalso
    rw [List.find?_range_eq_some] at h
    have := h.2.2 j hlt
    rw [hp] at this
    cases this
  · exact hge
theorem dn_min {n : Nat} {h : Nat → Bool} : ∀ (f k : Nat) (p : List Nat), k < f → p ∈ pathsV n h k → lexLe (dnL n (reachV n h) f k) p = true
  | 0, _, _, hk, _ => by omega
  | f + 1, k, p, hk, hp => by
    have hr : reachV n h k = true := (reach_iff n h (k + 1) k (by omega)).2 ⟨p, hp⟩
    unfold dnL
    cases h0 : k == 0 with
    | true => rfl
    | false =>
      simp only [cond_false]
      obtain ⟨i, h1, h2, h3, h4⟩ := reach_find hr (by simpa using h0)
      rw [h1]
      have hh : h k = true := by rw [reach_eq, Bool.and_eq_true] at hr; exact hr.1
      rw [paths_eq, hh, h0] at hp
      simp only [cond_true, cond_false, List.mem_flatMap, List.mem_range] at hp
      obtain ⟨j, hj, hq⟩ := hp
      cases hb : k.testBit j <;> rw [hb] at hq
      · cases hq
      · simp only [cond_true, List.mem_map] at hq
        obtain ⟨q, hq, rfl⟩ := hq
        have hlt := sub_lt hb
        have hrj : reachV n h (k - 2 ^ j) = true := (reach_iff n h k _ (by omega)).2 ⟨q, hq⟩
        have hle := find_range h1 hj (by rw [hb, hrj]; rfl)
        simp only [lexLe, Bool.or_eq_true, decide_eq_true_eq, Bool.and_eq_true, beq_iff_eq]
        rcases Nat.lt_or_ge i j with h5 | h5
        · exact .inl h5
        · have e : i = j := by omega
          subst e
          exact .inr ⟨rfl, dn_min f _ q (by omega) hq⟩
theorem bsum_add (cs : List Int) {m i : Nat} (hm : m < 128) (hi : i < 7) (hb : m.testBit i = false) : ∀ k, k ≤ 7 → bsum cs (m + 2 ^ i) k = bsum cs m k + bif decide (i < k) then cs.getD i 0 else 0
  | 0, _ => by simp [bsum]
  | k + 1, hk => by
    unfold bsum
    rw [bsum_add cs hm hi hb k (by omega), bit_add m hm i hi k (by omega) hb]
    rcases Nat.lt_trichotomy i k with h | h | h
    · rw [decide_eq_true h, decide_eq_true (show i < k + 1 by omega), show (i == k) = false by simpa using (show i ≠ k by omega), Bool.or_false]
      simp only [cond_true]; omega
    · subst h
      rw [decide_eq_false (show ¬ i < i by omega), decide_eq_true (show i < i + 1 by omega), hb]
      simp
    · rw [decide_eq_false (show ¬ i < k by omega), decide_eq_false (show ¬ i < k + 1 by omega), show (i == k) = false by simpa using (show i ≠ k by omega), Bool.or_false]
      simp only [cond_false]; omega
theorem bsum_st {n : Nat} (hn : n ≤ 7) (cs : List Int) : ∀ {a : List Nat}, a.Nodup → (∀ i ∈ a, i < n) → bsum cs (st a) n = (a.map (cs.getD · 0)).sum
  | [], _, _ => bsum_zero cs n
  | i :: a, hd, hl => by
    rw [List.nodup_cons] at hd
    have hl2 : ∀ j ∈ a, j < n := fun j hj => hl j (List.mem_cons_of_mem _ hj)
    have hi := hl i List.mem_cons_self
    obtain ⟨h1, h2⟩ := st_bits hn hd.2 hl2
    have h3 := h2 i (by omega)
    rw [decide_eq_false hd.1] at h3
    have h7 := pow_le7 hn
    rw [st_cons, Nat.add_comm, bsum_add cs (by omega) (by omega) h3 n hn, bsum_st hn cs hd.2 hl2, decide_eq_true hi]
    simp only [cond_true, List.map_cons, List.sum_cons]
    omega
theorem bsum_bound (cs : List Int) (M : Int) (hM : 0 ≤ M) (h : ∀ x ∈ cs, -M ≤ x ∧ x ≤ M) (m : Nat) : ∀ k, -(k * M) ≤ bsum cs m k ∧ bsum cs m k ≤ k * M
  | 0 => by simp [bsum]
  | k + 1 => by
    have ih := bsum_bound cs M hM h m k
    have e : ((k + 1 : Nat) : Int) * M = k * M + M := by rw [Int.natCast_add, Int.add_mul, Int.natCast_one, Int.one_mul]
    have hx : -M ≤ cs.getD k 0 ∧ cs.getD k 0 ≤ M := by
      rw [List.getD_eq_getElem?_getD]
      cases hc : cs[k]? with
      | none => simp; omega
      | some x => exact h x (List.mem_of_getElem? hc)
    unfold bsum
    rw [e]
    cases m.testBit k <;> simp only [cond_true, cond_false] <;> omega
end Go.Proofs.Ytmdghocpelkcoaa

/- Loading in: the states of some jobs (loadin.of, read in place), and what each function does behind it. Printed by mkcof.py. -/
namespace Go.Proofs.Ytmdghocpelkcoaa
set_option linter.unusedVariables false

def C_of {β : Type} (s : TSet) (jobs : List TJob) (kE : Int → Option β) (kO : List Bool → List Bool → List Bool → Option β) : Option β :=
  ((F_batten_Valid s).bind fun r3 => (bif (!r3) then some (true, ()) else (F_brake_Valid jobs).bind fun r4 => some ((!r4), ())) : Option (Bool × Unit)).bind fun y5 => (bif y5.1 then kE 1 else (bif (decide (((jobs.length : Nat) : Int) > 12)) then kE 6 else (F_brake_State s 0 0).bind fun r6 => (bif (r6.2 != 0) then kE r6.2 else (if ((jobs.length : Nat) : Int) < 0 then none else (if ((jobs.length : Nat) : Int) < 0 then none else (if ((jobs.length : Nat) : Int) < 0 then none else (if 0 ≤ (IntKind.i64.wrap (1 * 2 ^ min (Int.toNat ((jobs.length : Nat) : Int)) IntKind.i64.bits)) ∧ (IntKind.i64.wrap (1 * 2 ^ min (Int.toNat ((jobs.length : Nat) : Int)) IntKind.i64.bits)) ≤ 16777216 then (if 0 ≤ (IntKind.i64.wrap (1 * 2 ^ min (Int.toNat ((jobs.length : Nat) : Int)) IntKind.i64.bits)) ∧ (IntKind.i64.wrap (1 * 2 ^ min (Int.toNat ((jobs.length : Nat) : Int)) IntKind.i64.bits)) ≤ 16777216 then (if 0 ≤ (IntKind.i64.wrap (1 * 2 ^ min (Int.toNat ((jobs.length : Nat) : Int)) IntKind.i64.bits)) ∧ (IntKind.i64.wrap (1 * 2 ^ min (Int.toNat ((jobs.length : Nat) : Int)) IntKind.i64.bits)) ≤ 16777216 then (if ((jobs.length : Nat) : Int) < 0 then none else (if 0 ≤ (IntKind.i64.wrap (1 * 2 ^ min (Int.toNat ((jobs.length : Nat) : Int)) IntKind.i64.bits)) ∧ (IntKind.i64.wrap (1 * 2 ^ min (Int.toNat ((jobs.length : Nat) : Int)) IntKind.i64.bits)) ≤ 16777216 then (idx (List.replicate (Int.toNat (IntKind.i64.wrap (1 * 2 ^ min (Int.toNat ((jobs.length : Nat) : Int)) IntKind.i64.bits))) (0 : Int)) 0).bind fun _x7 => ((List.replicate (Int.toNat (IntKind.i64.wrap (1 * 2 ^ min (Int.toNat ((jobs.length : Nat) : Int)) IntKind.i64.bits))) (0 : Int))[(Int.toNat 0)]?).bind fun x8 => (iterF (σ := Int × List Int × Unit) (ρ := (Unit × Int × List Int × Unit) ⊕ (List Int × Unit)) (fun s29 => (bif (decide (s29.1 < ((jobs.length : Nat) : Int))) then (idx jobs s29.1).bind fun x30 => (F_brake_Change s x30).bind fun r31 => (bif (r31.2 != 0) then some (.inr (.inl ((), r31.2, s29.2.1, ()))) else (if s29.1 < 0 then none else (iterF (σ := Int × List Int × Unit) (ρ := List Int × Unit) (fun s32 => (bif (decide (s32.1 < (IntKind.i64.wrap (1 * 2 ^ min (Int.toNat s29.1) IntKind.i64.bits)))) then (if s29.1 < 0 then none else (idx s32.2.1 s32.1).bind fun _x33 => (s32.2.1[(Int.toNat s32.1)]?).bind fun x34 => (idx s32.2.1 (bitsOf .or .i64 s32.1 (IntKind.i64.wrap (1 * 2 ^ min (Int.toNat s29.1) IntKind.i64.bits)))).bind fun _x35 => (s32.2.1[(Int.toNat (bitsOf .or .i64 s32.1 (IntKind.i64.wrap (1 * 2 ^ min (Int.toNat s29.1) IntKind.i64.bits))))]?).bind fun x36 => some (.inl ((IntKind.i64.wrap (s32.1 + 1)), (s32.2.1.set (Int.toNat (bitsOf .or .i64 s32.1 (IntKind.i64.wrap (1 * 2 ^ min (Int.toNat s29.1) IntKind.i64.bits)))) (IntKind.i64.wrap (x34 + r31.1))), ()))) else some (.inr (s32.2.1, ())))) big (0, s29.2.1, ())).bind fun y37 => some (.inl ((IntKind.i64.wrap (s29.1 + 1)), y37.1, ())))) else some (.inr (.inr ((s29.2.1, ())))))) big (0, ((List.replicate (Int.toNat (IntKind.i64.wrap (1 * 2 ^ min (Int.toNat ((jobs.length : Nat) : Int)) IntKind.i64.bits))) (0 : Int)).set (Int.toNat 0) r6.1), ())).bind fun y38 => (match y38 with | .inl y39 => kE y39.2.1 | .inr y40 => (iterF (σ := Int × List Bool × Unit) (ρ := List Bool × Unit) (fun s59 => (bif (decide (s59.1 < ((y40.1.length : Nat) : Int))) then (idx y40.1 s59.1).bind fun _x60 => (y40.1[(Int.toNat s59.1)]?).bind fun x61 => (bif (decide (x61 ≥ (IntKind.i64.wrap (0 - s.brake)))) then (idx s59.2.1 s59.1).bind fun _x62 => (s59.2.1[(Int.toNat s59.1)]?).bind fun x63 => some (.inl ((IntKind.i64.wrap (s59.1 + 1)), (s59.2.1.set (Int.toNat s59.1) (decide (x61 ≤ s.brake))), ())) else (idx s59.2.1 s59.1).bind fun _x64 => (s59.2.1[(Int.toNat s59.1)]?).bind fun x65 => some (.inl ((IntKind.i64.wrap (s59.1 + 1)), (s59.2.1.set (Int.toNat s59.1) false), ()))) else some (.inr (s59.2.1, ())))) big (0, (List.replicate (Int.toNat (IntKind.i64.wrap (1 * 2 ^ min (Int.toNat ((jobs.length : Nat) : Int)) IntKind.i64.bits))) false), ())).bind fun y66 => (iterF (σ := Int × List Bool × Unit) (ρ := List Bool × Unit) (fun s117 => (bif (decide (s117.1 < ((y66.1.length : Nat) : Int))) then (idx y66.1 s117.1).bind fun _x118 => (y66.1[(Int.toNat s117.1)]?).bind fun x119 => (bif x119 then (bif (s117.1 == 0) then (idx s117.2.1 s117.1).bind fun _x120 => (s117.2.1[(Int.toNat s117.1)]?).bind fun x121 => some (.inl ((IntKind.i64.wrap (s117.1 + 1)), (s117.2.1.set (Int.toNat s117.1) true), ())) else (iterF (σ := Int × Unit) (ρ := (Bool × Unit) ⊕ (Unit)) (fun s122 => (bif (decide (s122.1 < ((jobs.length : Nat) : Int))) then ((if s122.1 < 0 then none else (bif ((bitsOf .and .i64 (s117.1.fdiv (2 ^ min (Int.toNat s122.1) IntKind.i64.bits)) 1) == 1) then (if s122.1 < 0 then none else (idx s117.2.1 (bitsOf .andNot .i64 s117.1 (IntKind.i64.wrap (1 * 2 ^ min (Int.toNat s122.1) IntKind.i64.bits)))).bind fun _x123 => (s117.2.1[(Int.toNat (bitsOf .andNot .i64 s117.1 (IntKind.i64.wrap (1 * 2 ^ min (Int.toNat s122.1) IntKind.i64.bits))))]?).bind fun x124 => some (x124, ())) else some (false, ()))) : Option (Bool × Unit)).bind fun y125 => (bif y125.1 then some (.inr (.inl (true, ()))) else some (.inl ((IntKind.i64.wrap (s122.1 + 1)), ()))) else some (.inr (.inr ((())))))) big (0, ())).bind fun y126 => (match y126 with | .inl y127 => (idx s117.2.1 s117.1).bind fun _x129 => (s117.2.1[(Int.toNat s117.1)]?).bind fun x130 => some (.inl ((IntKind.i64.wrap (s117.1 + 1)), (s117.2.1.set (Int.toNat s117.1) y127.1), ())) | .inr y128 => (idx s117.2.1 s117.1).bind fun _x131 => (s117.2.1[(Int.toNat s117.1)]?).bind fun x132 => some (.inl ((IntKind.i64.wrap (s117.1 + 1)), (s117.2.1.set (Int.toNat s117.1) false), ())))) else (idx s117.2.1 s117.1).bind fun _x133 => (s117.2.1[(Int.toNat s117.1)]?).bind fun x134 => some (.inl ((IntKind.i64.wrap (s117.1 + 1)), (s117.2.1.set (Int.toNat s117.1) false), ()))) else some (.inr (s117.2.1, ())))) big (0, (List.replicate (Int.toNat (IntKind.i64.wrap (1 * 2 ^ min (Int.toNat ((jobs.length : Nat) : Int)) IntKind.i64.bits))) false), ())).bind fun y135 => (F_loadin_lattice__whole (Tlattice.mk ((jobs.length : Nat) : Int) y66.1 y135.1 (List.replicate (Int.toNat (IntKind.i64.wrap (1 * 2 ^ min (Int.toNat ((jobs.length : Nat) : Int)) IntKind.i64.bits))) false))).bind fun r136 => (iterF (σ := Int × List Bool × Unit) (ρ := List Bool × Unit) (fun s191 => (bif (decide (s191.1 ≥ 0)) then (idx y66.1 s191.1).bind fun _x192 => (y66.1[(Int.toNat s191.1)]?).bind fun x193 => (bif x193 then (F_loadin_lattice__whole (Tlattice.mk ((jobs.length : Nat) : Int) y66.1 y135.1 s191.2.1)).bind fun r194 => (bif (s191.1 == r194) then (idx s191.2.1 s191.1).bind fun _x195 => (s191.2.1[(Int.toNat s191.1)]?).bind fun x196 => some (.inl ((IntKind.i64.wrap (s191.1 - 1)), (s191.2.1.set (Int.toNat s191.1) true), ())) else (iterF (σ := Int × Unit) (ρ := (Bool × Unit) ⊕ (Unit)) (fun s197 => (bif (decide (s197.1 < ((jobs.length : Nat) : Int))) then ((if s197.1 < 0 then none else (bif ((bitsOf .and .i64 (s191.1.fdiv (2 ^ min (Int.toNat s197.1) IntKind.i64.bits)) 1) == 0) then (if s197.1 < 0 then none else (idx s191.2.1 (bitsOf .or .i64 s191.1 (IntKind.i64.wrap (1 * 2 ^ min (Int.toNat s197.1) IntKind.i64.bits)))).bind fun _x198 => (s191.2.1[(Int.toNat (bitsOf .or .i64 s191.1 (IntKind.i64.wrap (1 * 2 ^ min (Int.toNat s197.1) IntKind.i64.bits))))]?).bind fun x199 => some (x199, ())) else some (false, ()))) : Option (Bool × Unit)).bind fun y200 => (bif y200.1 then some (.inr (.inl (true, ()))) else some (.inl ((IntKind.i64.wrap (s197.1 + 1)), ()))) else some (.inr (.inr ((())))))) big (0, ())).bind fun y201 => (match y201 with | .inl y202 => (idx s191.2.1 s191.1).bind fun _x204 => (s191.2.1[(Int.toNat s191.1)]?).bind fun x205 => some (.inl ((IntKind.i64.wrap (s191.1 - 1)), (s191.2.1.set (Int.toNat s191.1) y202.1), ())) | .inr y203 => (idx s191.2.1 s191.1).bind fun _x206 => (s191.2.1[(Int.toNat s191.1)]?).bind fun x207 => some (.inl ((IntKind.i64.wrap (s191.1 - 1)), (s191.2.1.set (Int.toNat s191.1) false), ())))) else (idx s191.2.1 s191.1).bind fun _x208 => (s191.2.1[(Int.toNat s191.1)]?).bind fun x209 => some (.inl ((IntKind.i64.wrap (s191.1 - 1)), (s191.2.1.set (Int.toNat s191.1) false), ()))) else some (.inr (s191.2.1, ())))) big (r136, (List.replicate (Int.toNat (IntKind.i64.wrap (1 * 2 ^ min (Int.toNat ((jobs.length : Nat) : Int)) IntKind.i64.bits))) false), ())).bind fun y210 => kO y66.1 y135.1 y210.1) else none)) else none) else none) else none)))))))
def kO_Count (jobs : List TJob) (held reached good : List Bool) : Option (Int × Int) :=
  (if 0 ≤ ((held.length : Nat) : Int) ∧ ((held.length : Nat) : Int) ≤ 16777216 then (iterF (σ := Int × List Int × Unit) (ρ := List Int × Unit) (fun s272 => (bif (decide (s272.1 < (((List.replicate (Int.toNat ((held.length : Nat) : Int)) (0 : Int)).length : Nat) : Int))) then ((idx held s272.1).bind fun _x273 => (held[(Int.toNat s272.1)]?).bind fun x274 => (bif (!x274) then some (s272.2.1, ()) else ((bif (s272.1 == 0) then (idx s272.2.1 s272.1).bind fun _x275 => (s272.2.1[(Int.toNat s272.1)]?).bind fun x276 => some ((s272.2.1.set (Int.toNat s272.1) 1), ()) else some (s272.2.1, ())) : Option (List Int × Unit)).bind fun y277 => (iterF (σ := Int × List Int × Unit) (ρ := List Int × Unit) (fun s278 => (bif (decide (s278.1 < ((jobs.length : Nat) : Int))) then ((if s278.1 < 0 then none else (bif ((bitsOf .and .i64 (s272.1.fdiv (2 ^ min (Int.toNat s278.1) IntKind.i64.bits)) 1) == 1) then (idx s278.2.1 s272.1).bind fun _x279 => (s278.2.1[(Int.toNat s272.1)]?).bind fun x280 => (if s278.1 < 0 then none else (idx s278.2.1 (bitsOf .andNot .i64 s272.1 (IntKind.i64.wrap (1 * 2 ^ min (Int.toNat s278.1) IntKind.i64.bits)))).bind fun _x281 => (s278.2.1[(Int.toNat (bitsOf .andNot .i64 s272.1 (IntKind.i64.wrap (1 * 2 ^ min (Int.toNat s278.1) IntKind.i64.bits))))]?).bind fun x282 => (idx s278.2.1 s272.1).bind fun _x283 => (s278.2.1[(Int.toNat s272.1)]?).bind fun x284 => some ((s278.2.1.set (Int.toNat s272.1) (IntKind.i64.wrap (x280 + x282))), ())) else some (s278.2.1, ()))) : Option (List Int × Unit)).bind fun y285 => some (.inl ((IntKind.i64.wrap (s278.1 + 1)), y285.1, ())) else some (.inr (s278.2.1, ())))) big (0, y277.1, ())).bind fun y286 => some (y286.1, ())) : Option (List Int × Unit)).bind fun y287 => some (.inl ((IntKind.i64.wrap (s272.1 + 1)), y287.1, ())) else some (.inr (s272.2.1, ())))) big (0, (List.replicate (Int.toNat ((held.length : Nat) : Int)) (0 : Int)), ())).bind fun y288 => (F_loadin_lattice__whole (Tlattice.mk ((jobs.length : Nat) : Int) held reached good)).bind fun r289 => (idx y288.1 r289).bind fun _x290 => (y288.1[(Int.toNat r289)]?).bind fun x291 => some (x291, 0) else none)
theorem F_Count_eq (s : TSet) (jobs : List TJob) : F_loadin_Count s jobs = C_of s jobs (fun e => bif (e != 0) then some (0, e) else none) (kO_Count jobs) := by kernel_rfl
def kO_Check (jobs : List TJob) (order : List Int) (held reached good : List Bool) : Option (Bool × Int) :=
  (bif (((order.length : Nat) : Int) != ((jobs.length : Nat) : Int)) then some (false, 3) else (iterF (σ := Int × Unit) (ρ := (Int × Unit) ⊕ (Unit)) (fun s213 => (bif (decide (s213.1 < ((order.length : Nat) : Int))) then (idx order s213.1).bind fun x214 => ((bif (decide (x214 < 0)) then some (true, ()) else some ((decide (x214 ≥ ((jobs.length : Nat) : Int))), ())) : Option (Bool × Unit)).bind fun y215 => (bif y215.1 then some (.inr (.inl (s213.1, ()))) else some (.inl ((IntKind.i64.wrap (s213.1 + 1)), ()))) else some (.inr (.inr ((())))))) big (0, ())).bind fun y216 => (match y216 with | .inl y217 => (bif (decide (y217.1 ≥ 0)) then some (false, 2) else (idx held 0).bind fun _x219 => (held[(Int.toNat 0)]?).bind fun x220 => (iterF (σ := Int × Bool × Int × Unit) (ρ := (Bool × Int × Unit) ⊕ (Bool × Unit)) (fun s227 => (bif (decide (s227.2.2.1 < ((order.length : Nat) : Int))) then (idx order s227.2.2.1).bind fun x228 => (if x228 < 0 then none else (bif ((bitsOf .and .i64 (s227.1.fdiv (2 ^ min (Int.toNat x228) IntKind.i64.bits)) 1) == 1) then some (.inr (.inl (false, 10, ()))) else (if x228 < 0 then none else (bif s227.2.1 then (idx held (bitsOf .or .i64 s227.1 (IntKind.i64.wrap (1 * 2 ^ min (Int.toNat x228) IntKind.i64.bits)))).bind fun _x229 => (held[(Int.toNat (bitsOf .or .i64 s227.1 (IntKind.i64.wrap (1 * 2 ^ min (Int.toNat x228) IntKind.i64.bits))))]?).bind fun x230 => some (.inl ((bitsOf .or .i64 s227.1 (IntKind.i64.wrap (1 * 2 ^ min (Int.toNat x228) IntKind.i64.bits))), x230, (IntKind.i64.wrap (s227.2.2.1 + 1)), ())) else some (.inl ((bitsOf .or .i64 s227.1 (IntKind.i64.wrap (1 * 2 ^ min (Int.toNat x228) IntKind.i64.bits))), false, (IntKind.i64.wrap (s227.2.2.1 + 1)), ())))))) else some (.inr (.inr ((s227.2.1, ())))))) big (0, x220, 0, ())).bind fun y231 => (match y231 with | .inl y232 => some (y232.1, y232.2.1) | .inr y233 => some (y233.1, 0))) | .inr y218 => (idx held 0).bind fun _x234 => (held[(Int.toNat 0)]?).bind fun x235 => (iterF (σ := Int × Bool × Int × Unit) (ρ := (Bool × Int × Unit) ⊕ (Bool × Unit)) (fun s236 => (bif (decide (s236.2.2.1 < ((order.length : Nat) : Int))) then (idx order s236.2.2.1).bind fun x237 => (if x237 < 0 then none else (bif ((bitsOf .and .i64 (s236.1.fdiv (2 ^ min (Int.toNat x237) IntKind.i64.bits)) 1) == 1) then some (.inr (.inl (false, 10, ()))) else (if x237 < 0 then none else (bif s236.2.1 then (idx held (bitsOf .or .i64 s236.1 (IntKind.i64.wrap (1 * 2 ^ min (Int.toNat x237) IntKind.i64.bits)))).bind fun _x238 => (held[(Int.toNat (bitsOf .or .i64 s236.1 (IntKind.i64.wrap (1 * 2 ^ min (Int.toNat x237) IntKind.i64.bits))))]?).bind fun x239 => some (.inl ((bitsOf .or .i64 s236.1 (IntKind.i64.wrap (1 * 2 ^ min (Int.toNat x237) IntKind.i64.bits))), x239, (IntKind.i64.wrap (s236.2.2.1 + 1)), ())) else some (.inl ((bitsOf .or .i64 s236.1 (IntKind.i64.wrap (1 * 2 ^ min (Int.toNat x237) IntKind.i64.bits))), false, (IntKind.i64.wrap (s236.2.2.1 + 1)), ())))))) else some (.inr (.inr ((s236.2.1, ())))))) big (0, x235, 0, ())).bind fun y240 => (match y240 with | .inl y241 => some (y241.1, y241.2.1) | .inr y242 => some (y242.1, 0))))
theorem F_Check_eq (s : TSet) (jobs : List TJob) (order : List Int) : F_loadin_Check s jobs order = C_of s jobs (fun e => bif (e != 0) then some (false, e) else none) (kO_Check jobs order) := by kernel_rfl
def kO_Order (jobs : List TJob) (held reached good : List Bool) : Option ((List Int) × Int) :=
  (idx good 0).bind fun _x211 => (good[(Int.toNat 0)]?).bind fun x212 => (bif (!x212) then some (([] : List Int), 22) else (iterF (σ := Int × (List Int) × Unit) (ρ := (List Int) × Unit) (fun s252 => (F_loadin_lattice__whole (Tlattice.mk ((jobs.length : Nat) : Int) held reached good)).bind fun r253 => (bif (s252.1 != r253) then (iterF (σ := Int × (List Int) × Int × Unit) (ρ := (Bool × (List Int) × Int × Unit) ⊕ ((List Int) × Int × Unit)) (fun s254 => (bif (decide (s254.1 < ((jobs.length : Nat) : Int))) then ((if s254.1 < 0 then none else (bif ((bitsOf .and .i64 (s254.2.2.1.fdiv (2 ^ min (Int.toNat s254.1) IntKind.i64.bits)) 1) == 1) then some (true, ()) else (if s254.1 < 0 then none else (idx good (bitsOf .or .i64 s254.2.2.1 (IntKind.i64.wrap (1 * 2 ^ min (Int.toNat s254.1) IntKind.i64.bits)))).bind fun _x255 => (good[(Int.toNat (bitsOf .or .i64 s254.2.2.1 (IntKind.i64.wrap (1 * 2 ^ min (Int.toNat s254.1) IntKind.i64.bits))))]?).bind fun x256 => some ((!x256), ())))) : Option (Bool × Unit)).bind fun y257 => (bif y257.1 then some (.inl ((IntKind.i64.wrap (s254.1 + 1)), s254.2.1, s254.2.2.1, ())) else (if s254.2.1.length + ([s254.1] : List Int).length ≤ 2147483648 then (if s254.1 < 0 then none else some (.inr (.inl (true, (s254.2.1 ++ ([s254.1] : List Int)), (bitsOf .or .i64 s254.2.2.1 (IntKind.i64.wrap (1 * 2 ^ min (Int.toNat s254.1) IntKind.i64.bits))), ())))) else none)) else some (.inr (.inr ((s254.2.1, s254.2.2.1, ())))))) big (0, s252.2.1, s252.1, ())).bind fun y258 => (match y258 with | .inl y259 => some (.inl (y259.2.2.1, y259.2.1, ())) | .inr y260 => some (.inl (y260.2.1, y260.1, ()))) else some (.inr (s252.2.1, ())))) big (0, ([] : List Int), ())).bind fun y261 => some (y261.1, 0))
theorem F_Order_eq (s : TSet) (jobs : List TJob) : F_loadin_Order s jobs = C_of s jobs (fun e => bif (e != 0) then some (([] : List Int), e) else none) (kO_Order jobs) := by kernel_rfl
def kO_Out (jobs : List TJob) (held reached good : List Bool) : Option ((List Int) × Int) :=
  (F_loadin_lattice__whole (Tlattice.mk ((jobs.length : Nat) : Int) held reached good)).bind fun r211 => (idx reached r211).bind fun _x212 => (reached[(Int.toNat r211)]?).bind fun x213 => (bif (!x213) then some (([] : List Int), 22) else (F_loadin_lattice__whole (Tlattice.mk ((jobs.length : Nat) : Int) held reached good)).bind fun r214 => (iterF (σ := Int × (List Int) × Unit) (ρ := (List Int) × Unit) (fun s252 => (bif (s252.1 != 0) then (iterF (σ := Int × (List Int) × Int × Unit) (ρ := (Bool × (List Int) × Int × Unit) ⊕ ((List Int) × Int × Unit)) (fun s253 => (bif (decide (s253.1 < ((jobs.length : Nat) : Int))) then ((if s253.1 < 0 then none else (bif ((bitsOf .and .i64 (s253.2.2.1.fdiv (2 ^ min (Int.toNat s253.1) IntKind.i64.bits)) 1) == 0) then some (true, ()) else (if s253.1 < 0 then none else (idx reached (bitsOf .andNot .i64 s253.2.2.1 (IntKind.i64.wrap (1 * 2 ^ min (Int.toNat s253.1) IntKind.i64.bits)))).bind fun _x254 => (reached[(Int.toNat (bitsOf .andNot .i64 s253.2.2.1 (IntKind.i64.wrap (1 * 2 ^ min (Int.toNat s253.1) IntKind.i64.bits))))]?).bind fun x255 => some ((!x255), ())))) : Option (Bool × Unit)).bind fun y256 => (bif y256.1 then some (.inl ((IntKind.i64.wrap (s253.1 + 1)), s253.2.1, s253.2.2.1, ())) else (if s253.2.1.length + ([s253.1] : List Int).length ≤ 2147483648 then (if s253.1 < 0 then none else some (.inr (.inl (true, (s253.2.1 ++ ([s253.1] : List Int)), (bitsOf .andNot .i64 s253.2.2.1 (IntKind.i64.wrap (1 * 2 ^ min (Int.toNat s253.1) IntKind.i64.bits))), ())))) else none)) else some (.inr (.inr ((s253.2.1, s253.2.2.1, ())))))) big (0, s252.2.1, s252.1, ())).bind fun y257 => (match y257 with | .inl y258 => some (.inl (y258.2.2.1, y258.2.1, ())) | .inr y259 => some (.inl (y259.2.1, y259.1, ()))) else some (.inr (s252.2.1, ())))) big (r214, ([] : List Int), ())).bind fun y260 => some (y260.1, 0))
theorem F_Out_eq (s : TSet) (jobs : List TJob) : F_loadin_Out s jobs = C_of s jobs (fun e => bif (e != 0) then some (([] : List Int), e) else none) (kO_Out jobs) := by kernel_rfl
def kO_Closed (jobs : List TJob) (held reached good : List Bool) : Option ((List Int) × Int) :=
  (F_loadin_lattice__whole (Tlattice.mk ((jobs.length : Nat) : Int) held reached good)).bind fun r211 => (idx reached r211).bind fun _x212 => (reached[(Int.toNat r211)]?).bind fun x213 => (bif x213 then some (([] : List Int), 12) else (iterF (σ := Int × List Int × Unit) (ρ := List Int × Unit) (fun s223 => (bif (decide (s223.1 < ((reached.length : Nat) : Int))) then ((idx reached s223.1).bind fun _x224 => (reached[(Int.toNat s223.1)]?).bind fun x225 => (bif x225 then (if s223.2.1.length + ([s223.1] : List Int).length ≤ 2147483648 then some ((s223.2.1 ++ ([s223.1] : List Int)), ()) else none) else some (s223.2.1, ())) : Option (List Int × Unit)).bind fun y226 => some (.inl ((IntKind.i64.wrap (s223.1 + 1)), y226.1, ())) else some (.inr (s223.2.1, ())))) big (0, ([] : List Int), ())).bind fun y227 => some (y227.1, 0))
theorem F_Closed_eq (s : TSet) (jobs : List TJob) : F_loadin_Closed s jobs = C_of s jobs (fun e => bif (e != 0) then some (([] : List Int), e) else none) (kO_Closed jobs) := by kernel_rfl
def kO_Proves (jobs : List TJob) (states : List Int) (held reached good : List Bool) : Option (Bool × Int) :=
  (iterF (σ := Int × Unit) (ρ := (Int × Unit) ⊕ (Unit)) (fun s231 => (bif (decide (s231.1 < ((states.length : Nat) : Int))) then (idx states s231.1).bind fun x232 => ((bif (decide (x232 < 0)) then some (true, ()) else (F_loadin_lattice__whole (Tlattice.mk ((jobs.length : Nat) : Int) held reached good)).bind fun r233 => some ((decide (x232 > r233)), ())) : Option (Bool × Unit)).bind fun y234 => (bif y234.1 then some (.inr (.inl (s231.1, ()))) else some (.inl ((IntKind.i64.wrap (s231.1 + 1)), ()))) else some (.inr (.inr ((())))))) big (0, ())).bind fun y235 => (match y235 with | .inl y236 => (bif (decide (y236.1 ≥ 0)) then some (false, 2) else (if 0 ≤ ((held.length : Nat) : Int) ∧ ((held.length : Nat) : Int) ≤ 16777216 then (iterF (σ := Int × List Bool × Unit) (ρ := (Bool × Int × List Bool × Unit) ⊕ (List Bool × Unit)) (fun s248 => (bif (decide (s248.1 < ((states.length : Nat) : Int))) then (idx states s248.1).bind fun x249 => (bif (decide (s248.1 > 0)) then (idx states (IntKind.i64.wrap (s248.1 - 1))).bind fun x250 => (bif (decide (x249 ≤ x250)) then some (.inr (.inl (false, 17, s248.2.1, ()))) else (idx s248.2.1 x249).bind fun _x251 => (s248.2.1[(Int.toNat x249)]?).bind fun x252 => some (.inl ((IntKind.i64.wrap (s248.1 + 1)), (s248.2.1.set (Int.toNat x249) true), ()))) else (idx s248.2.1 x249).bind fun _x253 => (s248.2.1[(Int.toNat x249)]?).bind fun x254 => some (.inl ((IntKind.i64.wrap (s248.1 + 1)), (s248.2.1.set (Int.toNat x249) true), ()))) else some (.inr (.inr ((s248.2.1, ())))))) big (0, (List.replicate (Int.toNat ((held.length : Nat) : Int)) false), ())).bind fun y255 => (match y255 with | .inl y256 => some (y256.1, y256.2.1) | .inr y257 => ((F_loadin_lattice__whole (Tlattice.mk ((jobs.length : Nat) : Int) held reached good)).bind fun r265 => (idx y257.1 r265).bind fun _x266 => (y257.1[(Int.toNat r265)]?).bind fun x267 => (bif x267 then some (true, ()) else (idx held 0).bind fun _x268 => (held[(Int.toNat 0)]?).bind fun x269 => (bif x269 then (idx y257.1 0).bind fun _x270 => (y257.1[(Int.toNat 0)]?).bind fun x271 => some ((!x271), ()) else some (false, ()))) : Option (Bool × Unit)).bind fun y272 => (bif y272.1 then some (false, 0) else (iterF (σ := Int × Unit) (ρ := (Bool × Int × Unit) ⊕ (Unit)) (fun s292 => (bif (decide (s292.1 < ((states.length : Nat) : Int))) then (idx states s292.1).bind fun x293 => (iterF (σ := Int × Unit) (ρ := (Bool × Unit) ⊕ (Unit)) (fun s294 => (bif (decide (s294.1 < ((jobs.length : Nat) : Int))) then ((if s294.1 < 0 then none else (idx held (bitsOf .or .i64 x293 (IntKind.i64.wrap (1 * 2 ^ min (Int.toNat s294.1) IntKind.i64.bits)))).bind fun _x295 => (held[(Int.toNat (bitsOf .or .i64 x293 (IntKind.i64.wrap (1 * 2 ^ min (Int.toNat s294.1) IntKind.i64.bits))))]?).bind fun x296 => (bif x296 then (if s294.1 < 0 then none else (idx y257.1 (bitsOf .or .i64 x293 (IntKind.i64.wrap (1 * 2 ^ min (Int.toNat s294.1) IntKind.i64.bits)))).bind fun _x297 => (y257.1[(Int.toNat (bitsOf .or .i64 x293 (IntKind.i64.wrap (1 * 2 ^ min (Int.toNat s294.1) IntKind.i64.bits))))]?).bind fun x298 => some ((!x298), ())) else some (false, ()))) : Option (Bool × Unit)).bind fun y299 => (bif y299.1 then some (.inr (.inl (true, ()))) else some (.inl ((IntKind.i64.wrap (s294.1 + 1)), ()))) else some (.inr (.inr ((())))))) big (0, ())).bind fun y300 => (match y300 with | .inl y301 => (bif y301.1 then some (.inr (.inl (false, 0, ()))) else some (.inl ((IntKind.i64.wrap (s292.1 + 1)), ()))) | .inr y302 => some (.inl ((IntKind.i64.wrap (s292.1 + 1)), ()))) else some (.inr (.inr ((())))))) big (0, ())).bind fun y303 => (match y303 with | .inl y304 => some (y304.1, y304.2.1) | .inr y305 => some (true, 0)))) else none)) | .inr y237 => (if 0 ≤ ((held.length : Nat) : Int) ∧ ((held.length : Nat) : Int) ≤ 16777216 then (iterF (σ := Int × List Bool × Unit) (ρ := (Bool × Int × List Bool × Unit) ⊕ (List Bool × Unit)) (fun s306 => (bif (decide (s306.1 < ((states.length : Nat) : Int))) then (idx states s306.1).bind fun x307 => (bif (decide (s306.1 > 0)) then (idx states (IntKind.i64.wrap (s306.1 - 1))).bind fun x308 => (bif (decide (x307 ≤ x308)) then some (.inr (.inl (false, 17, s306.2.1, ()))) else (idx s306.2.1 x307).bind fun _x309 => (s306.2.1[(Int.toNat x307)]?).bind fun x310 => some (.inl ((IntKind.i64.wrap (s306.1 + 1)), (s306.2.1.set (Int.toNat x307) true), ()))) else (idx s306.2.1 x307).bind fun _x311 => (s306.2.1[(Int.toNat x307)]?).bind fun x312 => some (.inl ((IntKind.i64.wrap (s306.1 + 1)), (s306.2.1.set (Int.toNat x307) true), ()))) else some (.inr (.inr ((s306.2.1, ())))))) big (0, (List.replicate (Int.toNat ((held.length : Nat) : Int)) false), ())).bind fun y313 => (match y313 with | .inl y314 => some (y314.1, y314.2.1) | .inr y315 => ((F_loadin_lattice__whole (Tlattice.mk ((jobs.length : Nat) : Int) held reached good)).bind fun r316 => (idx y315.1 r316).bind fun _x317 => (y315.1[(Int.toNat r316)]?).bind fun x318 => (bif x318 then some (true, ()) else (idx held 0).bind fun _x319 => (held[(Int.toNat 0)]?).bind fun x320 => (bif x320 then (idx y315.1 0).bind fun _x321 => (y315.1[(Int.toNat 0)]?).bind fun x322 => some ((!x322), ()) else some (false, ()))) : Option (Bool × Unit)).bind fun y323 => (bif y323.1 then some (false, 0) else (iterF (σ := Int × Unit) (ρ := (Bool × Int × Unit) ⊕ (Unit)) (fun s324 => (bif (decide (s324.1 < ((states.length : Nat) : Int))) then (idx states s324.1).bind fun x325 => (iterF (σ := Int × Unit) (ρ := (Bool × Unit) ⊕ (Unit)) (fun s326 => (bif (decide (s326.1 < ((jobs.length : Nat) : Int))) then ((if s326.1 < 0 then none else (idx held (bitsOf .or .i64 x325 (IntKind.i64.wrap (1 * 2 ^ min (Int.toNat s326.1) IntKind.i64.bits)))).bind fun _x327 => (held[(Int.toNat (bitsOf .or .i64 x325 (IntKind.i64.wrap (1 * 2 ^ min (Int.toNat s326.1) IntKind.i64.bits))))]?).bind fun x328 => (bif x328 then (if s326.1 < 0 then none else (idx y315.1 (bitsOf .or .i64 x325 (IntKind.i64.wrap (1 * 2 ^ min (Int.toNat s326.1) IntKind.i64.bits)))).bind fun _x329 => (y315.1[(Int.toNat (bitsOf .or .i64 x325 (IntKind.i64.wrap (1 * 2 ^ min (Int.toNat s326.1) IntKind.i64.bits))))]?).bind fun x330 => some ((!x330), ())) else some (false, ()))) : Option (Bool × Unit)).bind fun y331 => (bif y331.1 then some (.inr (.inl (true, ()))) else some (.inl ((IntKind.i64.wrap (s326.1 + 1)), ()))) else some (.inr (.inr ((())))))) big (0, ())).bind fun y332 => (match y332 with | .inl y333 => (bif y333.1 then some (.inr (.inl (false, 0, ()))) else some (.inl ((IntKind.i64.wrap (s324.1 + 1)), ()))) | .inr y334 => some (.inl ((IntKind.i64.wrap (s324.1 + 1)), ()))) else some (.inr (.inr ((())))))) big (0, ())).bind fun y335 => (match y335 with | .inl y336 => some (y336.1, y336.2.1) | .inr y337 => some (true, 0)))) else none))
theorem F_Proves_eq (s : TSet) (jobs : List TJob) (states : List Int) : F_loadin_Proves s jobs states = C_of s jobs (fun e => bif (e != 0) then some (false, e) else (iterF (σ := Int × Unit) (ρ := (Int × Unit) ⊕ (Unit)) (fun s9 => (bif (decide (s9.1 < ((states.length : Nat) : Int))) then (idx states s9.1).bind fun x10 => ((bif (decide (x10 < 0)) then some (true, ()) else none) : Option (Bool × Unit)).bind fun y11 => (bif y11.1 then some (.inr (.inl (s9.1, ()))) else some (.inl ((IntKind.i64.wrap (s9.1 + 1)), ()))) else some (.inr (.inr ((())))))) big (0, ())).bind fun y12 => (match y12 with | .inl y13 => (bif (decide (y13.1 ≥ 0)) then some (false, 2) else none) | .inr y14 => none)) (kO_Proves jobs states) := by kernel_rfl
end Go.Proofs.Ytmdghocpelkcoaa

/- Loading in: what the states of some jobs come to (loadin.of). -/
namespace Go.Proofs.Ytmdghocpelkcoaa
set_option linter.unusedSimpArgs false
set_option linter.unusedVariables false

def rm {α : Type} (N : Nat) (g : Nat → α) : List α := (List.range N).map g
theorem rm_len {α : Type} (N : Nat) (g : Nat → α) : (rm N g).length = N := by simp [rm]
theorem rm_get {α : Type} {N k : Nat} (g : Nat → α) (h : k < N) : (rm N g)[k]? = some (g k) := by
  unfold rm; rw [List.getElem?_map, List.getElem?_range h]; rfl
theorem rm_idx {α : Type} {N k : Nat} (g : Nat → α) (h : k < N) : idx (rm N g) (k : Int) = some (g k) := by
  unfold idx; rw [if_pos (by omega), Int.toNat_natCast, rm_get g h]
theorem rm_at {α : Type} {N k : Nat} (g : Nat → α) (h : k < N) : (rm N g)[Int.toNat (k : Int)]? = some (g k) := by
  rw [Int.toNat_natCast, rm_get g h]
theorem rm_ext {α : Type} {N : Nat} {l : List α} {g : Nat → α} (h1 : l.length = N) (h2 : ∀ j, j < N → l[j]? = some (g j)) : l = rm N g := by
  apply List.ext_getElem?
  intro j
  rcases Nat.lt_or_ge j N with h | h
  · rw [h2 j h, rm_get g h]
  · rw [List.getElem?_eq_none (by omega), List.getElem?_eq_none (by rw [rm_len]; exact h)]
theorem rm_congr {α : Type} {N : Nat} {g g' : Nat → α} (h : ∀ j, j < N → g j = g' j) : rm N g = rm N g' :=
  rm_ext (rm_len N g) fun j hj => by rw [rm_get g hj, h j hj]
theorem rm_set {α : Type} {N k : Nat} (g : Nat → α) (x : α) {g' : Nat → α} (h : ∀ j, j < N → g' j = if j = k then x else g j) : (rm N g).set (Int.toNat (k : Int)) x = rm N g' := by
  rw [Int.toNat_natCast]
  refine rm_ext (by rw [List.length_set, rm_len]) fun j hj => ?_
  rw [List.getElem?_set, rm_len, h j hj]
  by_cases he : k = j
  · subst he; rw [if_pos rfl, if_pos hj, if_pos rfl]
  · rw [if_neg he, if_neg (fun e => he e.symm), rm_get g hj]
theorem rm_rep {α : Type} (N : Nat) (d : α) : List.replicate N d = rm N fun _ => d :=
  rm_ext (by simp) fun j hj => by rw [List.getElem?_replicate, if_pos hj]
/-- A loop that goes through a row of states. -/
theorem iter_seq {σ ρ : Type} {F : σ → Option (σ ⊕ ρ)} (n : Nat) (hn : n < 9223372036854775807) (z : Nat → σ) (fin : ρ) (hin : ∀ k, k < n → F (z k) = some (.inl (z (k + 1)))) (hout : F (z n) = some (.inr fin)) : iterF F big (z 0) = some fin := by
  obtain ⟨r, h1, h2⟩ := iter_inv (F := F) (Q := fun r => r = fin) (fun k s => s = z k) n (by unfold big; omega) (fun k s hk hs => by
    subst hs
    rcases Nat.lt_or_ge k n with h | h
    · exact .inl ⟨_, hin k h, h, rfl⟩
    · obtain rfl : k = n := by omega
      exact .inr ⟨_, hout, rfl⟩) (s := z 0) rfl
  rw [h1, h2]
/-- A loop that looks for a first number that says yes. -/
theorem iter_any {ρ : Type} {F : Int × Unit → Option ((Int × Unit) ⊕ ρ)} (n : Nat) (hn : n < 9223372036854775807) (p : Nat → Bool) (a d : ρ)
    (hin : ∀ k, k < n → F ((k : Int), ()) = some (bif p k then .inr a else .inl ((k : Int) + 1, ()))) (hout : F ((n : Int), ()) = some (.inr d)) :
    iterF F big (0, ()) = some (bif (List.range n).any p then a else d) := by
  obtain ⟨r, h1, h2⟩ := iter_inv (F := F) (Q := fun r => r = (bif (List.range n).any p then a else d)) (fun k s => s = ((k : Int), ()) ∧ ∀ j, j < k → p j = false) n (by unfold big; omega) (fun k s hk hs => by
    obtain ⟨rfl, hno⟩ := hs
    rcases Nat.lt_or_ge k n with h | h
    · have h3 := hin k h
      cases hp : p k with
      | true =>
        rw [hp] at h3
        refine .inr ⟨_, h3, ?_⟩
        have : (List.range n).any p = true := List.any_eq_true.2 ⟨k, List.mem_range.2 h, hp⟩
        rw [this]; rfl
      | false =>
        rw [hp] at h3
        refine .inl ⟨_, h3, h, rfl, fun j hj => ?_⟩
        rcases Nat.lt_or_ge j k with h4 | h4
        · exact hno j h4
        · obtain rfl : j = k := by omega
          exact hp
    · obtain rfl : k = n := by omega
      refine .inr ⟨_, hout, ?_⟩
      have : (List.range k).any p = false := List.any_eq_false.2 fun j hj => by rw [hno j (List.mem_range.1 hj)]; decide
      rw [this]; rfl) (s := (0, ())) ⟨rfl, fun j hj => by omega⟩
  rw [h1, h2]
def imbM (s : TSet) (l : List TJob) (m : Nat) : Int := balanceI s + bsum (l.map (chI s)) m l.length
def heldM (s : TSet) (l : List TJob) (m : Nat) : Bool := heldB s (imbM s l m)
/-- A set and jobs that are right, and few. -/
structure Few (s : TSet) (l : List TJob) : Prop where
  good : Good s
  valid : validB s = true
  jobs : jobsB l = true
  fits : Fits s
  names : ∀ x ∈ l, x.name.size ≤ 60
  n7 : l.length ≤ 7
section
variable {s : TSet} {l : List TJob}
theorem Few.ch (h : Few s l) : ∀ x ∈ l.map (chI s), -2097152 ≤ x ∧ x ≤ 2097152 := by
  intro x hx
  obtain ⟨y, hy, rfl⟩ := List.mem_map.1 hx
  exact ch_bound h.good (jobs_good h.jobs y hy)
theorem Few.imb (h : Few s l) (m : Nat) : -2199316856832 ≤ imbM s l m ∧ imbM s l m ≤ 2199316856832 := by
  have h1 := bsum_bound (l.map (chI s)) 2097152 (by decide) h.ch m l.length
  have h2 := bal_bound h.good
  have h3 := h.n7
  unfold imbM
  omega
theorem Few.N (h : Few s l) : 2 ^ l.length ≤ 128 := pow_le7 h.n7
theorem imb_add (h : Few s l) {m i : Nat} (hi : i < l.length) (hm : m < 2 ^ i) : imbM s l (m + 2 ^ i) = imbM s l m + chI s l[i] := by
  have h7 := h.n7
  have h8 : 2 ^ i ≤ 128 := pow_le7 (by omega)
  unfold imbM
  rw [bsum_add _ (by omega) (by omega) (Nat.testBit_lt_two_pow hm) _ h7, decide_eq_true hi]
  simp only [cond_true, List.getD_eq_getElem?_getD, List.getElem?_map, List.getElem?_eq_getElem hi, Option.map_some, Option.getD_some]
  omega
theorem f_change1 (h : Few s l) {i : Nat} (hi : i < l.length) : F_brake_Change s l[i] = some (chI s l[i], 0) := by
  have hx := List.getElem_mem hi
  rw [f_Change s _ h.fits (h.names _ hx)]
  have hj : jobsB [l[i]] = true := by
    have h1 := h.jobs
    unfold jobsB at h1 ⊢
    simp only [Bool.and_eq_true] at h1
    have h2 := pairs_one h1.2 _ hx
    simp only [List.length_singleton, Bool.and_eq_true]
    refine ⟨decide_eq_true (by omega), ?_⟩
    apply pairs_yes
    intro k hk
    obtain rfl : k = 0 := by simpa using hk
    rw [okAt_eq (by simp)]
    simp [h2]
  unfold changeP okB
  rw [h.valid, hj]; rfl
theorem bal_imb (s : TSet) (l : List TJob) : imbM s l 0 = balanceI s := by unfold imbM; rw [bsum_zero]; omega
end
end Go.Proofs.Ytmdghocpelkcoaa

/- Loading in: what the states of some jobs come to (loadin.of), walked loop by loop. -/
namespace Go.Proofs.Ytmdghocpelkcoaa
set_option linter.unusedSimpArgs false
set_option linter.unusedVariables false

theorem bind_of {α β : Type} {a : Option α} {x : α} {K : α → Option β} {R : Option β} (h : a = some x) (h2 : K x = R) : a.bind K = R := by rw [h]; exact h2
theorem iter_go {σ ρ : Type} {F : σ → Option (σ ⊕ ρ)} {s0 : σ} (n : Nat) (z : Nat → σ) (fin : ρ) (hn : n < 9223372036854775807) (h0 : s0 = z 0) (hin : ∀ k, k < n → F (z k) = some (.inl (z (k + 1)))) (hout : F (z n) = some (.inr fin)) : iterF F big s0 = some fin := by
  rw [h0]; exact iter_seq n hn z fin hin hout
section
variable {s : TSet} {l : List TJob} {β : Type}
theorem c_bad (hf : Fits s) (hn : ∀ x ∈ l, x.name.size ≤ 60) (h : validB s = false ∨ jobsB l = false) (kE : Int → Option β) (kO : List Bool → List Bool → List Bool → Option β) : C_of s l kE kO = kE 1 := by
  unfold C_of
  rw [f_valid s hf, f_bvalid l (fun x hx => by have := hn x hx; omega)]
  cases hv : validB s with
  | false => rfl
  | true =>
    cases hj : jobsB l with
    | false => rfl
    | true => rcases h with h | h <;> simp_all
theorem c_many (hf : Fits s) (hn : ∀ x ∈ l, x.name.size ≤ 60) (hv : validB s = true) (hj : jobsB l = true) (h : 12 < l.length) (kE : Int → Option β) (kO : List Bool → List Bool → List Bool → Option β) : C_of s l kE kO = kE 6 := by
  unfold C_of
  rw [f_valid s hf, f_bvalid l (fun x hx => by have := hn x hx; omega), hv, hj]
  simp only [Option.bind_some, Bool.not_true, cond_false]
  rw [decide_eq_true (show ((l.length : Nat) : Int) > 12 by omega)]
  rfl
theorem c_of (h : Few s l) (kE : Int → Option β) (kO : List Bool → List Bool → List Bool → Option β) :
    C_of s l kE kO = kO (rm (2 ^ l.length) (heldM s l)) (rm (2 ^ l.length) (reachV l.length (heldM s l))) (rm (2 ^ l.length) fun m => reachV l.length (flip l.length (heldM s l)) (2 ^ l.length - 1 - m)) := by
  have h7 := h.n7
  have hN := h.N
  have hp := Nat.two_pow_pos l.length
  have e0 : ((0 : Int) != 0) = false := rfl
  have epw := pw l.length (by omega)
  unfold C_of
  rw [f_valid s h.fits, f_bvalid l (fun x hx => by have := h.names x hx; omega), h.valid, h.jobs, f_State s 0 0 h.fits]
  have est : stateP s 0 0 = (balanceI s, 0) := by
    unfold stateP
    rw [h.valid]
    have : farB 0 = false := by decide
    rw [this]
    simp
  simp only [est, Option.bind_some, Bool.not_true, cond_false, e0, epw]
  rw [decide_eq_false (show ¬ ((l.length : Nat) : Int) > 12 by omega)]
  simp only [cond_false]
  rw [if_neg (show ¬ ((l.length : Nat) : Int) < 0 by omega), if_neg (show ¬ ((l.length : Nat) : Int) < 0 by omega), if_neg (show ¬ ((l.length : Nat) : Int) < 0 by omega), if_neg (show ¬ ((l.length : Nat) : Int) < 0 by omega)]
  have hif : 0 ≤ ((2 ^ l.length : Nat) : Int) ∧ ((2 ^ l.length : Nat) : Int) ≤ 16777216 := by omega
  rw [if_pos hif, if_pos hif, if_pos hif, if_pos hif]
  simp only [Int.toNat_natCast, rm_rep]
  refine bind_of (rm_idx (k := 0) _ hp) ?_
  refine bind_of (rm_at (k := 0) _ hp) ?_
  refine bind_of (iter_go l.length (fun i => ((i : Int), rm (2 ^ l.length) (fun m => if m < 2 ^ i then imbM s l m else 0), ())) (.inr (rm (2 ^ l.length) (imbM s l), ())) (by omega) ?_ ?_ ?_) ?_
  · refine Prod.ext rfl (Prod.ext ?_ rfl)
    exact rm_set (k := 0) _ _ fun j hj => by
      by_cases hj0 : j = 0
      · subst hj0; simp [bal_imb]
      · simp [hj0]
  · intro i hi
    have hi2 : 2 ^ i ≤ 2 ^ 6 := Nat.pow_le_pow_right (by omega) (by omega)
    have hi3 : 2 ^ i + 2 ^ i ≤ 2 ^ l.length := by
      have := Nat.pow_le_pow_right (n := 2) (by omega) (show i + 1 ≤ l.length by omega)
      rw [Nat.pow_succ] at this; omega
    simp only [lt_yes hi, cond_true, idx_at hi, Option.bind_some, f_change1 h hi, e0, cond_false]
    rw [if_neg (show ¬ (i : Int) < 0 by omega)]
    refine bind_of (iter_go (2 ^ i) (fun j => ((j : Int), rm (2 ^ l.length) (fun m => if m < 2 ^ i + j then imbM s l m else 0), ())) (rm (2 ^ l.length) (fun m => if m < 2 ^ (i + 1) then imbM s l m else 0), ()) (by omega) rfl ?_ ?_) ?_
    · intro j hj
      have hadd := imb_add h hi hj
      have b := h.imb (j + 2 ^ i)
      simp only [pw i (by omega), lt_yes hj, cond_true, if_neg (show ¬ (i : Int) < 0 by omega), rm_idx _ (show j < 2 ^ l.length by omega), rm_at _ (show j < 2 ^ l.length by omega), Option.bind_some, b_or j i (by omega) (by omega) (Nat.testBit_lt_two_pow hj), rm_idx _ (show j + 2 ^ i < 2 ^ l.length by omega), rm_at _ (show j + 2 ^ i < 2 ^ l.length by omega), if_pos (show j < 2 ^ i + j by omega)]
      rw [wrap64 (n := (j : Int) + 1) (by omega) (by omega), ← hadd, wrap64 (by omega) (by omega)]
      rw [rm_set (g' := fun m => if m < 2 ^ i + (j + 1) then imbM s l m else 0) _ _ fun q hq => by
        by_cases hq1 : q = j + 2 ^ i
        · subst hq1; rw [if_pos rfl, if_pos (by omega)]
        · rw [if_neg hq1]
          by_cases hq2 : q < 2 ^ i + j
          · rw [if_pos hq2, if_pos (by omega)]
          · rw [if_neg hq2, if_neg (by omega)]]
      rfl
    · simp only [pw i (by omega), lt_no, cond_false]
      rw [show 2 ^ (i + 1) = 2 ^ i + 2 ^ i from by rw [Nat.pow_succ]; omega]
    · rw [wrap64 (n := (i : Int) + 1) (by omega) (by omega)]
      rfl
  · simp only [lt_no, cond_false]
    rw [rm_congr (g' := imbM s l) fun j hj => if_pos hj]
  simp only [rm_len]
  refine bind_of (iter_go (2 ^ l.length) (fun k => ((k : Int), rm (2 ^ l.length) (fun m => if m < k then heldM s l m else false), ())) (rm (2 ^ l.length) (heldM s l), ()) (by omega) rfl ?_ ?_) ?_
  · intro k hk
    have hb1 := h.good.b0
    have hb2 := h.good.b1
    simp only [lt_yes hk, cond_true, rm_idx _ hk, rm_at _ hk, Option.bind_some]
    rw [Int.zero_sub, wrap64 (n := -s.brake) (by omega) (by omega), wrap64 (n := (k : Int) + 1) (by omega) (by omega)]
    have key : ∀ x : Bool, x = heldM s l k → (rm (2 ^ l.length) (fun m => if m < k then heldM s l m else false)).set (Int.toNat (k : Int)) x = rm (2 ^ l.length) (fun m => if m < k + 1 then heldM s l m else false) := fun x hx => rm_set _ _ fun q hq => by
      by_cases hq1 : q = k
      · subst hq1; rw [if_pos rfl, if_pos (by omega), hx]
      · rw [if_neg hq1]
        by_cases hq2 : q < k
        · rw [if_pos hq2, if_pos (by omega)]
        · rw [if_neg hq2, if_neg (by omega)]
    have e : heldM s l k = (decide (-s.brake ≤ imbM s l k) && decide (imbM s l k ≤ s.brake)) := rfl
    have e2 : decide (imbM s l k ≥ -s.brake) = decide (-s.brake ≤ imbM s l k) := rfl
    rw [e2]
    cases hd : decide (-s.brake ≤ imbM s l k) with
    | true =>
      rw [hd, Bool.true_and] at e
      simp only [cond_true]
      rw [key _ e.symm]; rfl
    | false =>
      rw [hd, Bool.false_and] at e
      simp only [cond_false]
      rw [key _ e.symm]; rfl
  · simp only [lt_no, cond_false]
    rw [rm_congr (g' := heldM s l) fun j hj => if_pos hj]
  simp only [rm_len]
  refine bind_of (iter_go (2 ^ l.length) (fun k => ((k : Int), rm (2 ^ l.length) (fun m => if m < k then reachV l.length (heldM s l) m else false), ())) (rm (2 ^ l.length) (reachV l.length (heldM s l)), ()) (by omega) rfl ?_ ?_) ?_
  · intro k hk
    have key : ∀ x : Bool, x = reachV l.length (heldM s l) k → (rm (2 ^ l.length) (fun m => if m < k then reachV l.length (heldM s l) m else false)).set (Int.toNat (k : Int)) x = rm (2 ^ l.length) (fun m => if m < k + 1 then reachV l.length (heldM s l) m else false) := fun x hx => rm_set _ _ fun q hq => by
      by_cases hq1 : q = k
      · subst hq1; rw [if_pos rfl, if_pos (by omega), hx]
      · rw [if_neg hq1]
        by_cases hq2 : q < k
        · rw [if_pos hq2, if_pos (by omega)]
        · rw [if_neg hq2, if_neg (by omega)]
    simp only [lt_yes hk, cond_true, rm_idx _ hk, rm_at _ hk, Option.bind_some]
    rw [wrap64 (n := (k : Int) + 1) (by omega) (by omega)]
    have e := reach_eq l.length (heldM s l) k
    cases hh : heldM s l k with
    | false =>
      rw [hh, Bool.false_and] at e
      simp only [cond_false]
      rw [key _ e.symm]; rfl
    | true =>
      rw [hh, Bool.true_and] at e
      simp only [cond_true]
      have ek : ((k : Int) == 0) = (k == 0) := by rw [Bool.eq_iff_iff]; simp
      rw [ek]
      cases hk0 : k == 0 with
      | true =>
        rw [hk0, Bool.true_or] at e
        simp only [cond_true]
        rw [key _ e.symm]; rfl
      | false =>
        rw [hk0, Bool.false_or] at e
        simp only [cond_false]
        refine bind_of (iter_any l.length (by omega) (fun i => k.testBit i && reachV l.length (heldM s l) (k - 2 ^ i)) (.inl (true, ())) (.inr ()) (fun i hi => ?_) (by simp only [lt_no, cond_false])) ?_
        · simp only [lt_yes hi, cond_true, if_neg (show ¬ (i : Int) < 0 by omega), b_has k i (by omega) (by omega), pw i (by omega)]
          rw [wrap64 (n := (i : Int) + 1) (by omega) (by omega)]
          cases hb : k.testBit i with
          | false => rfl
          | true =>
            have hlt := sub_lt hb
            simp only [cond_true, b_not k i (by omega) (by omega) hb, rm_idx _ (show k - 2 ^ i < 2 ^ l.length by omega), rm_at _ (show k - 2 ^ i < 2 ^ l.length by omega), Option.bind_some, if_pos hlt, Bool.true_and]
            cases reachV l.length (heldM s l) (k - 2 ^ i) <;> rfl
        · cases ha : (List.range l.length).any (fun i => k.testBit i && reachV l.length (heldM s l) (k - 2 ^ i)) with
          | true =>
            rw [ha] at e
            simp only [cond_true]
            rw [key _ e.symm]; rfl
          | false =>
            rw [ha] at e
            simp only [cond_false]
            rw [key _ e.symm]; rfl
  · simp only [lt_no, cond_false]
    rw [rm_congr (g' := reachV l.length (heldM s l)) fun j hj => if_pos hj]
  have ewh : ∀ g : List Bool, F_loadin_lattice__whole (Tlattice.mk ((l.length : Nat) : Int) (rm (2 ^ l.length) (heldM s l)) (rm (2 ^ l.length) (reachV l.length (heldM s l))) g) = some (((2 ^ l.length - 1 : Nat) : Int)) := fun g => by
    unfold F_loadin_lattice__whole
    simp only
    rw [if_neg (show ¬ ((l.length : Nat) : Int) < 0 by omega), epw, wrap64 (by omega) (by omega)]
    congr 1; omega
  simp only [ewh, Option.bind_some]
  refine bind_of (iter_go (2 ^ l.length) (fun k => (((2 ^ l.length - 1 : Nat) : Int) - (k : Int), rm (2 ^ l.length) (fun m => if 2 ^ l.length - 1 - m < k then reachV l.length (flip l.length (heldM s l)) (2 ^ l.length - 1 - m) else false), ())) (rm (2 ^ l.length) (fun m => reachV l.length (flip l.length (heldM s l)) (2 ^ l.length - 1 - m)), ()) (by omega) (by simp) ?_ ?_) rfl
  · intro k hk
    obtain ⟨m, hm⟩ : ∃ m, m = 2 ^ l.length - 1 - k := ⟨_, rfl⟩
    have hmN : m < 2 ^ l.length := by omega
    have em : ((2 ^ l.length - 1 : Nat) : Int) - (k : Int) = (m : Int) := by omega
    have em2 : ((2 ^ l.length - 1 : Nat) : Int) - ((k + 1 : Nat) : Int) = (m : Int) - 1 := by omega
    have emk : 2 ^ l.length - 1 - m = k := by omega
    have key : ∀ x : Bool, x = reachV l.length (flip l.length (heldM s l)) k → (rm (2 ^ l.length) (fun m => if 2 ^ l.length - 1 - m < k then reachV l.length (flip l.length (heldM s l)) (2 ^ l.length - 1 - m) else false)).set (Int.toNat (m : Int)) x = rm (2 ^ l.length) (fun m => if 2 ^ l.length - 1 - m < k + 1 then reachV l.length (flip l.length (heldM s l)) (2 ^ l.length - 1 - m) else false) := fun x hx => rm_set _ _ fun q hq => by
      by_cases hq1 : q = m
      · subst hq1; rw [if_pos rfl, if_pos (by omega), hx, emk]
      · rw [if_neg hq1]
        by_cases hq2 : 2 ^ l.length - 1 - q < k
        · rw [if_pos hq2, if_pos (by omega)]
        · rw [if_neg hq2, if_neg (by omega)]
    simp only [em, em2]
    have e := reach_eq l.length (flip l.length (heldM s l)) k
    have ef : flip l.length (heldM s l) k = heldM s l m := by unfold flip; rw [← hm]
    rw [ef] at e
    simp only [decide_eq_true (show (m : Int) ≥ 0 by omega), cond_true, rm_idx _ hmN, rm_at _ hmN, Option.bind_some]
    rw [wrap64 (n := (m : Int) - 1) (by omega) (by omega)]
    cases hh : heldM s l m with
    | false =>
      rw [hh, Bool.false_and] at e
      simp only [cond_false]
      rw [key _ e.symm]
    | true =>
      rw [hh, Bool.true_and] at e
      simp only [cond_true]
      have ek : ((m : Int) == ((2 ^ l.length - 1 : Nat) : Int)) = (k == 0) := by rw [Bool.eq_iff_iff]; simp only [beq_iff_eq]; omega
      rw [ek]
      cases hk0 : k == 0 with
      | true =>
        rw [hk0, Bool.true_or] at e
        simp only [cond_true]
        rw [key _ e.symm]
      | false =>
        rw [hk0, Bool.false_or] at e
        simp only [cond_false]
        refine bind_of (iter_any l.length (by omega) (fun i => k.testBit i && reachV l.length (flip l.length (heldM s l)) (k - 2 ^ i)) (.inl (true, ())) (.inr ()) (fun i hi => ?_) (by simp only [lt_no, cond_false])) ?_
        · simp only [lt_yes hi, cond_true, if_neg (show ¬ (i : Int) < 0 by omega), b_hasnt m i (by omega) (by omega), pw i (by omega)]
          rw [wrap64 (n := (i : Int) + 1) (by omega) (by omega)]
          have hfl := bit_flip l.length (by omega) m hmN i hi
          rw [emk] at hfl
          cases hb : m.testBit i with
          | true => rw [hb] at hfl; rw [hfl]; rfl
          | false =>
            rw [hb] at hfl
            have hup := bit_up l.length (by omega) m hmN i hi hb
            have hlt := sub_lt hfl
            have hge := bit_ge hfl
            simp only [Bool.not_false, cond_true, b_or m i (by omega) (by omega) hb, rm_idx _ hup, rm_at _ hup, Option.bind_some, if_pos (show 2 ^ l.length - 1 - (m + 2 ^ i) < k by omega)]
            rw [hfl, show 2 ^ l.length - 1 - (m + 2 ^ i) = k - 2 ^ i from by omega]
            cases reachV l.length (flip l.length (heldM s l)) (k - 2 ^ i) <;> rfl
        · cases ha : (List.range l.length).any (fun i => k.testBit i && reachV l.length (flip l.length (heldM s l)) (k - 2 ^ i)) with
          | true =>
            rw [ha] at e
            simp only [cond_true]
            rw [key _ e.symm]
          | false =>
            rw [ha] at e
            simp only [cond_false]
            rw [key _ e.symm]
  · rw [show ((2 ^ l.length - 1 : Nat) : Int) - ((2 ^ l.length : Nat) : Int) = -1 from by omega]
    simp only [show decide ((-1 : Int) ≥ 0) = false from rfl, cond_false]
    rw [rm_congr (g' := fun m => reachV l.length (flip l.length (heldM s l)) (2 ^ l.length - 1 - m)) fun j hj => if_pos (by omega)]
end
end Go.Proofs.Ytmdghocpelkcoaa

/- Loading in: what Count, Order, Out and Closed come to. -/
namespace Go.Proofs.Ytmdghocpelkcoaa
set_option linter.unusedSimpArgs false
set_option linter.unusedVariables false

theorem dn_fuel {n : Nat} {r : Nat → Bool} : ∀ (f f' k : Nat), k < f → k < f' → dnL n r f k = dnL n r f' k
  | 0, _, _, h, _ => by omega
  | _, 0, _, _, h => by omega
  | f + 1, f' + 1, k, h, h' => by
    unfold dnL
    cases h0 : k == 0 with
    | true => rfl
    | false =>
      simp only [cond_false]
      cases hf : (List.range n).find? (fun i => k.testBit i && r (k - 2 ^ i)) with
      | none => rfl
      | some i =>
        have h1 := List.find?_some hf
        rw [Bool.and_eq_true] at h1
        have := sub_lt h1.1
        simp only
        rw [dn_fuel f f' (k - 2 ^ i) (by omega) (by omega)]
def dnM (n : Nat) (r : Nat → Bool) (k : Nat) : List Nat := dnL n r (k + 1) k
theorem dnM_zero (n : Nat) (r : Nat → Bool) : dnM n r 0 = [] := rfl
theorem dnM_cons {n : Nat} {r : Nat → Bool} {k i : Nat} (h0 : k ≠ 0) (h : (List.range n).find? (fun i => k.testBit i && r (k - 2 ^ i)) = some i) : dnM n r k = i :: dnM n r (k - 2 ^ i) := by
  have h1 := List.find?_some h
  rw [Bool.and_eq_true] at h1
  have := sub_lt h1.1
  unfold dnM
  rw [dnL, show (k == 0) = false by simpa using h0, h]
  simp only [cond_false]
  rw [dn_fuel k (k - 2 ^ i + 1) (k - 2 ^ i) (by omega) (by omega)]
theorem dnM_len {n : Nat} {r : Nat → Bool} : ∀ (f k : Nat), k < f → (dnM n r k).length ≤ k
  | 0, _, h => by omega
  | f + 1, k, h => by
    by_cases h0 : k = 0
    · subst h0; simp [dnM_zero]
    · cases hf : (List.range n).find? (fun i => k.testBit i && r (k - 2 ^ i)) with
      | none =>
        unfold dnM
        rw [dnL, show (k == 0) = false by simpa using h0, hf]
        simp
      | some i =>
        have h1 := List.find?_some hf
        rw [Bool.and_eq_true] at h1
        have h2 := sub_lt h1.1
        rw [dnM_cons h0 hf]
        have := dnM_len f (k - 2 ^ i) (by omega) (n := n) (r := r)
        simp only [List.length_cons]; omega
/-- Lists over a few numbers are not many. -/
def allL (n : Nat) : Nat → List (List Nat)
  | 0 => [[]]
  | k + 1 => [] :: (List.range n).flatMap fun i => (allL n k).map (i :: ·)
theorem allL_mem (n : Nat) : ∀ (k : Nat) (p : List Nat), p.length ≤ k → (∀ i ∈ p, i < n) → p ∈ allL n k
  | 0, p, h, _ => by
    have : p = [] := List.eq_nil_of_length_eq_zero (by omega)
    subst this; simp [allL]
  | k + 1, [], _, _ => List.mem_cons_self
  | k + 1, i :: p, h, hl => by
    refine List.mem_cons_of_mem _ (List.mem_flatMap.2 ⟨i, List.mem_range.2 (hl i List.mem_cons_self), List.mem_map.2 ⟨p, allL_mem n k p (by simpa using h) (fun j hj => hl j (List.mem_cons_of_mem _ hj)), rfl⟩⟩)
theorem allL_succ (n k : Nat) : (allL n (k + 1)).length = 1 + n * (allL n k).length := by
  rw [allL, List.length_cons, List.length_flatMap]
  have : ∀ l : List Nat, (l.map fun i => ((allL n k).map (i :: ·)).length).sum = l.length * (allL n k).length := by
    intro l
    induction l with
    | nil => simp
    | cons x l ih => rw [List.map_cons, List.sum_cons, ih, List.length_map, List.length_cons, Nat.succ_mul]; omega
  rw [this, List.length_range]; omega
theorem allL_len (n : Nat) (hn : n ≤ 7) : (allL n n).length ≤ 1000000 := by
  have h0 : (allL n 0).length = 1 := rfl
  rcases (show n = 0 ∨ n = 1 ∨ n = 2 ∨ n = 3 ∨ n = 4 ∨ n = 5 ∨ n = 6 ∨ n = 7 by omega) with rfl | rfl | rfl | rfl | rfl | rfl | rfl | rfl <;> simp only [allL_succ, h0] <;> omega
theorem nodup_len {n : Nat} : ∀ {p : List Nat}, p.Nodup → (∀ i ∈ p, i < n) → p.length ≤ n := fun {p} h1 h2 => by
  have := h1.length_le_of_subset (fun i hi => List.mem_range.2 (h2 i hi))
  simpa using this
theorem ways_bound {n : Nat} (hn : n ≤ 7) (h : Nat → Bool) (m : Nat) (hm : m < 2 ^ n) : 0 ≤ waysV n h m ∧ waysV n h m ≤ 1000000 := by
  rw [ways_len n h (m + 1) m (by omega)]
  have h1 := (paths_nodup n h (m + 1) m (by omega)).length_le_of_subset (l₂ := allL n n) fun p hp => by
    obtain ⟨g1, g2⟩ := okP_nodup ((mem_paths hn h p m hm).1 hp).2
    exact allL_mem n n p (nodup_len g1 g2) g2
  have := allL_len n hn
  omega
def psum (f : Nat → Int) (j : Nat) : Int := ((List.range j).map f).sum
theorem psum_succ (f : Nat → Int) (j : Nat) : psum f (j + 1) = psum f j + f j := by unfold psum; rw [List.range_succ, List.map_append, List.sum_append]; simp
theorem psum_bound (f : Nat → Int) (M : Int) (h : ∀ i, 0 ≤ f i ∧ f i ≤ M) : ∀ j, 0 ≤ psum f j ∧ psum f j ≤ j * M
  | 0 => by simp [psum]
  | j + 1 => by
    have ih := psum_bound f M h j
    have hx := h j
    have e : ((j + 1 : Nat) : Int) * M = j * M + M := by rw [Int.natCast_add, Int.add_mul, Int.natCast_one, Int.one_mul]
    rw [psum_succ, e]; omega
section
variable {s : TSet} {l : List TJob} {β : Type}
theorem e_whole (h : Few s l) (a b c : List Bool) : F_loadin_lattice__whole (Tlattice.mk ((l.length : Nat) : Int) a b c) = some (((2 ^ l.length - 1 : Nat) : Int)) := by
  have h7 := h.n7
  have hN := h.N
  have hp := Nat.two_pow_pos l.length
  unfold F_loadin_lattice__whole
  simp only
  rw [if_neg (show ¬ ((l.length : Nat) : Int) < 0 by omega), pw _ (by omega), wrap64 (by omega) (by omega)]
  congr 1; omega
/-- A loop that adds up into one place of a row. -/
theorem k_count (h : Few s l) (reached good : List Bool) : kO_Count l (rm (2 ^ l.length) (heldM s l)) reached good = some (waysV l.length (heldM s l) (2 ^ l.length - 1), 0) := by
  have h7 := h.n7
  have hN := h.N
  have hp := Nat.two_pow_pos l.length
  unfold kO_Count
  simp only [rm_len, Int.toNat_natCast, rm_rep]
  rw [if_pos (by omega)]
  refine bind_of (iter_go (2 ^ l.length) (fun k => ((k : Int), rm (2 ^ l.length) (fun m => if m < k then waysV l.length (heldM s l) m else 0), ())) (rm (2 ^ l.length) (waysV l.length (heldM s l)), ()) (by omega) rfl ?_ ?_) ?_
  · intro k hk
    have key : ∀ x : Int, x = waysV l.length (heldM s l) k → (rm (2 ^ l.length) (fun m => if m < k then waysV l.length (heldM s l) m else 0)).set (Int.toNat (k : Int)) x = rm (2 ^ l.length) (fun m => if m < k + 1 then waysV l.length (heldM s l) m else 0) := fun x hx => rm_set _ _ fun q hq => by
      by_cases hq1 : q = k
      · subst hq1; rw [if_pos rfl, if_pos (by omega), hx]
      · rw [if_neg hq1]
        by_cases hq2 : q < k
        · rw [if_pos hq2, if_pos (by omega)]
        · rw [if_neg hq2, if_neg (by omega)]
    have e := ways_eq l.length (heldM s l) k
    simp only [lt_yes hk, cond_true, rm_idx _ hk, rm_at _ hk, Option.bind_some]
    rw [wrap64 (n := (k : Int) + 1) (by omega) (by omega)]
    cases hh : heldM s l k with
    | false =>
      rw [hh] at e
      simp only [cond_false] at e
      simp only [Bool.not_false, cond_true, Option.bind_some]
      have e3 : rm (2 ^ l.length) (fun m => if m < k then waysV l.length (heldM s l) m else 0) = rm (2 ^ l.length) (fun m => if m < k + 1 then waysV l.length (heldM s l) m else 0) := rm_congr fun q hq => by
        by_cases hq1 : q < k
        · rw [if_pos hq1, if_pos (by omega)]
        · rw [if_neg hq1]
          by_cases hq2 : q < k + 1
          · obtain rfl : q = k := by omega
            rw [if_pos hq2, e]
          · rw [if_neg hq2]
      rw [e3]; rfl
    | true =>
      rw [hh] at e
      simp only [cond_true] at e
      simp only [Bool.not_true, cond_false]
      have ek : ((k : Int) == 0) = (k == 0) := by rw [Bool.eq_iff_iff]; simp
      rw [ek]
      obtain ⟨c, hc⟩ : ∃ c : Int, c = bif k == 0 then 1 else 0 := ⟨_, rfl⟩
      have hc01 : 0 ≤ c ∧ c ≤ 1 := by rw [hc]; cases k == 0 <;> simp
      have first : ((bif k == 0 then some ((rm (2 ^ l.length) (fun m => if m < k then waysV l.length (heldM s l) m else 0)).set (Int.toNat (k : Int)) 1, ()) else some (rm (2 ^ l.length) (fun m => if m < k then waysV l.length (heldM s l) m else 0), ())) : Option (List Int × Unit)) = some (rm (2 ^ l.length) (fun m => if m < k then waysV l.length (heldM s l) m else if m = k then c else 0), ()) := by
        cases hk0 : k == 0 with
        | true =>
          rw [hk0] at hc
          simp only [cond_true] at hc ⊢
          rw [rm_set (g' := fun m => if m < k then waysV l.length (heldM s l) m else if m = k then c else 0) _ _ fun q hq => by
            by_cases hq1 : q = k
            · subst hq1; rw [if_pos rfl, if_neg (by omega), if_pos rfl, hc]
            · rw [if_neg hq1, if_neg hq1]]
        | false =>
          rw [hk0] at hc
          simp only [cond_false] at hc ⊢
          rw [rm_congr (g' := fun m => if m < k then waysV l.length (heldM s l) m else if m = k then c else 0) fun q hq => by
            by_cases hq1 : q < k
            · rw [if_pos hq1, if_pos hq1]
            · rw [if_neg hq1, if_neg hq1]
              by_cases hq2 : q = k
              · rw [if_pos hq2, hc]
              · rw [if_neg hq2]]
      rw [first]
      simp only [Option.bind_some]
      obtain ⟨f, hf⟩ : ∃ f : Nat → Int, f = fun i => bif k.testBit i then waysV l.length (heldM s l) (k - 2 ^ i) else 0 := ⟨_, rfl⟩
      have hfb : ∀ i, 0 ≤ f i ∧ f i ≤ 1000000 := fun i => by
        rw [hf]
        simp only
        cases hb : k.testBit i with
        | false => simp
        | true => have := sub_lt hb; exact ways_bound h7 _ _ (by omega)
      have hps := psum_bound f 1000000 hfb
      refine bind_of (bind_of (iter_go l.length (fun i => ((i : Int), rm (2 ^ l.length) (fun m => if m < k then waysV l.length (heldM s l) m else if m = k then c + psum f i else 0), ())) (rm (2 ^ l.length) (fun m => if m < k + 1 then waysV l.length (heldM s l) m else 0), ()) (by omega) ?_ ?_ ?_) rfl) rfl
      · refine Prod.ext rfl (Prod.ext (rm_congr fun q hq => ?_) rfl)
        show _ = if q < k then _ else if q = k then c + psum f 0 else 0
        have : psum f 0 = 0 := rfl
        rw [this, Int.add_zero]
      · intro i hi
        have hpi := hps i
        have hpi2 := hps (i + 1)
        simp only [lt_yes hi, cond_true, if_neg (show ¬ (i : Int) < 0 by omega), b_has k i (by omega) (by omega), pw i (by omega)]
        rw [wrap64 (n := (i : Int) + 1) (by omega) (by omega)]
        cases hb : k.testBit i with
        | false =>
          have e4 : psum f (i + 1) = psum f i := by rw [psum_succ, hf]; simp only [hb, cond_false]; omega
          rw [e4]; rfl
        | true =>
          have hlt := sub_lt hb
          have e4 : psum f (i + 1) = psum f i + waysV l.length (heldM s l) (k - 2 ^ i) := by rw [psum_succ, hf]; simp only [hb, cond_true]
          simp only [cond_true, b_not k i (by omega) (by omega) hb, rm_idx _ hk, rm_at _ hk, rm_idx _ (show k - 2 ^ i < 2 ^ l.length by omega), rm_at _ (show k - 2 ^ i < 2 ^ l.length by omega), Option.bind_some, if_pos hlt, if_neg (show ¬ k < k by omega), if_true]
          rw [rm_set (g' := fun m => if m < k then waysV l.length (heldM s l) m else if m = k then c + psum f (i + 1) else 0) _ _ fun q hq => by
            by_cases hq1 : q = k
            · subst hq1
              rw [if_pos rfl, if_neg (by omega), if_pos rfl, e4, wrap64 (by omega) (by omega)]; omega
            · by_cases hq2 : q < k
              · simp only [if_pos hq2, if_neg hq1]
              · simp only [if_neg hq2, if_neg hq1]]
          rfl
      · simp only [lt_no, cond_false]
        rw [rm_congr (g' := fun m => if m < k + 1 then waysV l.length (heldM s l) m else 0) fun q hq => by
          by_cases hq1 : q < k
          · rw [if_pos hq1, if_pos (by omega)]
          · rw [if_neg hq1]
            by_cases hq2 : q = k
            · subst hq2
              rw [if_pos rfl, if_pos (by omega), e, hc, hf]; rfl
            · rw [if_neg hq2, if_neg (by omega)]]
  · simp only [lt_no, cond_false]
    rw [rm_congr (g' := waysV l.length (heldM s l)) fun j hj => if_pos hj]
  simp only [e_whole h, Option.bind_some]
  refine bind_of (rm_idx (k := 2 ^ l.length - 1) _ (by omega)) ?_
  refine bind_of (rm_at (k := 2 ^ l.length - 1) _ (by omega)) rfl
end
end Go.Proofs.Ytmdghocpelkcoaa

/- Loading in: Order, Out and Closed. -/
namespace Go.Proofs.Ytmdghocpelkcoaa
set_option linter.unusedSimpArgs false
set_option linter.unusedVariables false

def ints (o : List Nat) : List Int := o.map fun i : Nat => (i : Int)
theorem ints_len (o : List Nat) : (ints o).length = o.length := by simp [ints]
theorem ints_snoc (o : List Nat) (i : Nat) : ints o ++ [(i : Int)] = ints (o ++ [i]) := by simp [ints]
theorem ints_inj {a b : List Nat} (h : ints a = ints b) : a = b := by
  unfold ints at h
  exact (List.map_inj_right fun x y e => by omega).1 h
theorem find_least {n i : Nat} {p : Nat → Bool} (h : (List.range n).find? p = some i) : i < n ∧ p i = true ∧ ∀ j, j < i → p j = false := by
  rw [List.find?_range_eq_some] at h
  exact ⟨List.mem_range.1 h.2.1, h.1, fun j hj => by simpa using h.2.2 j hj⟩
def orderP (n : Nat) (h : Nat → Bool) : List Int × Int := bif reachV n (flip n h) (2 ^ n - 1) then (ints (dnM n (reachV n (flip n h)) (2 ^ n - 1)), 0) else ([], 22)
def outP (n : Nat) (h : Nat → Bool) : List Int × Int := bif reachV n h (2 ^ n - 1) then (ints (dnM n (reachV n h) (2 ^ n - 1)), 0) else ([], 22)
def closedP (n : Nat) (h : Nat → Bool) : List Int × Int := bif reachV n h (2 ^ n - 1) then ([], 12) else (ints ((List.range (2 ^ n)).filter (reachV n h)), 0)
section
variable {s : TSet} {l : List TJob} {β : Type}
theorem k_order (h : Few s l) (held reached : List Bool) : kO_Order l held reached (rm (2 ^ l.length) fun m => reachV l.length (flip l.length (heldM s l)) (2 ^ l.length - 1 - m)) = some (orderP l.length (heldM s l)) := by
  have h7 := h.n7
  have hN := h.N
  have hp := Nat.two_pow_pos l.length
  unfold kO_Order orderP
  refine bind_of (rm_idx (k := 0) _ hp) ?_
  refine bind_of (rm_at (k := 0) _ hp) ?_
  rw [Nat.sub_zero]
  cases hr : reachV l.length (flip l.length (heldM s l)) (2 ^ l.length - 1) with
  | false => rfl
  | true =>
    simp only [Bool.not_true, cond_false, cond_true]
    obtain ⟨full, hfull⟩ : ∃ full, full = dnM l.length (reachV l.length (flip l.length (heldM s l))) (2 ^ l.length - 1) := ⟨_, rfl⟩
    rw [← hfull]
    refine bind_of (x := (ints full, ())) ?_ rfl
    have key : ∀ {F : Int × List Int × Unit → Option ((Int × List Int × Unit) ⊕ (List Int × Unit))}, (∀ (m : Nat) (o : List Nat), m < 2 ^ l.length → o.length ≤ m → reachV l.length (flip l.length (heldM s l)) (2 ^ l.length - 1 - m) = true → F ((m : Int), ints o, ()) = if m = 2 ^ l.length - 1 then some (.inr (ints o, ())) else
        match (List.range l.length).find? (fun i => (2 ^ l.length - 1 - m).testBit i && reachV l.length (flip l.length (heldM s l)) (2 ^ l.length - 1 - m - 2 ^ i)) with
        | some i => some (.inl (((m + 2 ^ i : Nat) : Int), ints (o ++ [i]), ()))
        | none => none) → iterF F big (0, [], ()) = some (ints full, ()) := by
      intro F hF
      obtain ⟨r, g1, g2⟩ := iter_inv (F := F) (Q := fun r => r = (ints full, ())) (fun k z => ∃ (m : Nat) (o : List Nat), z = ((m : Int), ints o, ()) ∧ m < 2 ^ l.length ∧ k ≤ m ∧ o.length ≤ k ∧ reachV l.length (flip l.length (heldM s l)) (2 ^ l.length - 1 - m) = true ∧ o ++ dnM l.length (reachV l.length (flip l.length (heldM s l))) (2 ^ l.length - 1 - m) = full) (2 ^ l.length) (by unfold big; omega) (fun k z hk hz => by
        obtain ⟨m, o, rfl, h1, h2, h3, h4, h5⟩ := hz
        have e := hF m o h1 (by omega) h4
        by_cases hm : m = 2 ^ l.length - 1
        · rw [if_pos hm] at e
          refine .inr ⟨_, e, ?_⟩
          rw [hm, Nat.sub_self, dnM_zero, List.append_nil] at h5
          rw [h5]
        · rw [if_neg hm] at e
          obtain ⟨i, hf, hi, hb, hri⟩ := reach_find h4 (by omega)
          rw [hf] at e
          have hge := bit_ge hb
          have hpi := Nat.two_pow_pos i
          refine .inl ⟨_, e, by omega, m + 2 ^ i, o ++ [i], rfl, by omega, by omega, by simp; omega, by rw [← Nat.sub_sub]; exact hri, ?_⟩
          rw [List.append_assoc, ← Nat.sub_sub, ← h5, dnM_cons (by omega) hf]
          rfl) (s := (0, [], ())) ⟨0, [], rfl, hp, Nat.le_refl _, Nat.le_refl _, hr, by rw [hfull]; rfl⟩
      rw [g1, g2]
    refine key ?_
    intro m o hm ho hr2
    simp only [e_whole h, Option.bind_some]
    by_cases hw : m = 2 ^ l.length - 1
    · rw [if_pos hw, hw]
      simp
    · rw [if_neg hw]
      have hne : ((m : Int) != ((2 ^ l.length - 1 : Nat) : Int)) = true := by simp only [bne_iff_ne, ne_eq]; omega
      rw [hne]
      simp only [cond_true]
      obtain ⟨i, hf, hi, hb, hri⟩ := reach_find hr2 (by omega)
      rw [hf]
      obtain ⟨_, _, hleast⟩ := find_least hf
      have hfl := bit_flip l.length (by omega) m hm
      have hmi : m.testBit i = false := by have := hfl i hi; rw [hb] at this; simpa using this.symm
      have hup := bit_up l.length (by omega) m hm i hi hmi
      refine bind_of (iter_go i (fun j => ((j : Int), ints o, (m : Int), ())) (.inl (true, ints (o ++ [i]), ((m + 2 ^ i : Nat) : Int), ())) (by omega) rfl ?_ ?_) rfl
      · intro j hj
        have hjn : j < l.length := by omega
        simp only [lt_yes hjn, cond_true, if_neg (show ¬ (j : Int) < 0 by omega), b_has m j (by omega) (by omega), pw j (by omega)]
        rw [wrap64 (n := (j : Int) + 1) (by omega) (by omega)]
        have hl := hleast j hj
        rw [hfl j hjn] at hl
        cases hbj : m.testBit j with
        | true => rfl
        | false =>
          rw [hbj] at hl
          simp only [Bool.not_false, Bool.true_and] at hl
          have hupj := bit_up l.length (by omega) m hm j hjn hbj
          simp only [cond_false, b_or m j (by omega) (by omega) hbj, rm_idx _ hupj, rm_at _ hupj, Option.bind_some]
          rw [← Nat.sub_sub, hl]
          rfl
      · simp only [lt_yes hi, cond_true, if_neg (show ¬ (i : Int) < 0 by omega), b_has m i (by omega) (by omega), pw i (by omega), hmi, cond_false, b_or m i (by omega) (by omega) hmi, rm_idx _ hup, rm_at _ hup, Option.bind_some]
        rw [← Nat.sub_sub, hri]
        simp only [Bool.not_true, cond_false]
        rw [if_pos (by rw [ints_len]; simp; omega)]
        rw [ints_snoc]
theorem k_out (h : Few s l) (held good : List Bool) : kO_Out l held (rm (2 ^ l.length) (reachV l.length (heldM s l))) good = some (outP l.length (heldM s l)) := by
  have h7 := h.n7
  have hN := h.N
  have hp := Nat.two_pow_pos l.length
  unfold kO_Out outP
  simp only [e_whole h, Option.bind_some]
  refine bind_of (rm_idx (k := 2 ^ l.length - 1) _ (by omega)) ?_
  refine bind_of (rm_at (k := 2 ^ l.length - 1) _ (by omega)) ?_
  cases hr : reachV l.length (heldM s l) (2 ^ l.length - 1) with
  | false => rfl
  | true =>
    simp only [Bool.not_true, cond_false, cond_true]
    obtain ⟨full, hfull⟩ : ∃ full, full = dnM l.length (reachV l.length (heldM s l)) (2 ^ l.length - 1) := ⟨_, rfl⟩
    rw [← hfull]
    refine bind_of (x := (ints full, ())) ?_ rfl
    have key : ∀ {F : Int × List Int × Unit → Option ((Int × List Int × Unit) ⊕ (List Int × Unit))}, (∀ (m : Nat) (o : List Nat), m < 2 ^ l.length → o.length ≤ 128 → reachV l.length (heldM s l) m = true → F ((m : Int), ints o, ()) = if m = 0 then some (.inr (ints o, ())) else
        match (List.range l.length).find? (fun i => m.testBit i && reachV l.length (heldM s l) (m - 2 ^ i)) with
        | some i => some (.inl (((m - 2 ^ i : Nat) : Int), ints (o ++ [i]), ()))
        | none => none) → iterF F big (((2 ^ l.length - 1 : Nat) : Int), [], ()) = some (ints full, ()) := by
      intro F hF
      obtain ⟨r, g1, g2⟩ := iter_inv (F := F) (Q := fun r => r = (ints full, ())) (fun k z => ∃ (m : Nat) (o : List Nat), z = ((m : Int), ints o, ()) ∧ m < 2 ^ l.length ∧ k + m < 2 ^ l.length ∧ o.length ≤ k ∧ reachV l.length (heldM s l) m = true ∧ o ++ dnM l.length (reachV l.length (heldM s l)) m = full) (2 ^ l.length) (by unfold big; omega) (fun k z hk hz => by
        obtain ⟨m, o, rfl, h1, h2, h3, h4, h5⟩ := hz
        have e := hF m o h1 (by omega) h4
        by_cases hm : m = 0
        · rw [if_pos hm] at e
          refine .inr ⟨_, e, ?_⟩
          rw [hm, dnM_zero, List.append_nil] at h5
          rw [h5]
        · rw [if_neg hm] at e
          obtain ⟨i, hf, hi, hb, hri⟩ := reach_find h4 hm
          rw [hf] at e
          have hge := bit_ge hb
          have hpi := Nat.two_pow_pos i
          refine .inl ⟨_, e, by omega, m - 2 ^ i, o ++ [i], rfl, by omega, by omega, by simp; omega, hri, ?_⟩
          rw [List.append_assoc, ← h5, dnM_cons hm hf]
          rfl) (s := (((2 ^ l.length - 1 : Nat) : Int), [], ())) ⟨2 ^ l.length - 1, [], rfl, by omega, by omega, Nat.le_refl _, hr, by rw [hfull]; rfl⟩
      rw [g1, g2]
    refine key ?_
    intro m o hm ho hr2
    by_cases hw : m = 0
    · rw [if_pos hw, hw]; rfl
    · rw [if_neg hw]
      have hne : ((m : Int) != 0) = true := by simp only [bne_iff_ne, ne_eq]; omega
      rw [hne]
      simp only [cond_true]
      obtain ⟨i, hf, hi, hb, hri⟩ := reach_find hr2 hw
      rw [hf]
      obtain ⟨_, _, hleast⟩ := find_least hf
      have hlt := sub_lt hb
      refine bind_of (iter_go i (fun j => ((j : Int), ints o, (m : Int), ())) (.inl (true, ints (o ++ [i]), ((m - 2 ^ i : Nat) : Int), ())) (by omega) rfl ?_ ?_) rfl
      · intro j hj
        have hjn : j < l.length := by omega
        simp only [lt_yes hjn, cond_true, if_neg (show ¬ (j : Int) < 0 by omega), b_hasnt m j (by omega) (by omega), pw j (by omega)]
        rw [wrap64 (n := (j : Int) + 1) (by omega) (by omega)]
        have hl := hleast j hj
        cases hbj : m.testBit j with
        | false => rfl
        | true =>
          rw [hbj] at hl
          simp only [Bool.true_and] at hl
          have hltj := sub_lt hbj
          simp only [Bool.not_true, cond_false, b_not m j (by omega) (by omega) hbj, rm_idx _ (show m - 2 ^ j < 2 ^ l.length by omega), rm_at _ (show m - 2 ^ j < 2 ^ l.length by omega), Option.bind_some, hl]
          rfl
      · simp only [lt_yes hi, cond_true, if_neg (show ¬ (i : Int) < 0 by omega), b_hasnt m i (by omega) (by omega), pw i (by omega), hb, Bool.not_true, cond_false, b_not m i (by omega) (by omega) hb, rm_idx _ (show m - 2 ^ i < 2 ^ l.length by omega), rm_at _ (show m - 2 ^ i < 2 ^ l.length by omega), Option.bind_some, hri]
        rw [if_pos (by rw [ints_len]; simp; omega)]
        rw [ints_snoc]
theorem filter_len {p : Nat → Bool} (k : Nat) : ((List.range k).filter p).length ≤ k := by
  have := List.length_filter_le p (List.range k)
  simpa using this
theorem k_closed (h : Few s l) (held good : List Bool) : kO_Closed l held (rm (2 ^ l.length) (reachV l.length (heldM s l))) good = some (closedP l.length (heldM s l)) := by
  have h7 := h.n7
  have hN := h.N
  have hp := Nat.two_pow_pos l.length
  unfold kO_Closed closedP
  simp only [e_whole h, Option.bind_some]
  refine bind_of (rm_idx (k := 2 ^ l.length - 1) _ (by omega)) ?_
  refine bind_of (rm_at (k := 2 ^ l.length - 1) _ (by omega)) ?_
  cases hr : reachV l.length (heldM s l) (2 ^ l.length - 1) with
  | true => rfl
  | false =>
    simp only [cond_false, rm_len]
    refine bind_of (iter_go (2 ^ l.length) (fun k => ((k : Int), ints ((List.range k).filter (reachV l.length (heldM s l))), ())) (ints ((List.range (2 ^ l.length)).filter (reachV l.length (heldM s l))), ()) (by omega) rfl ?_ ?_) rfl
    · intro k hk
      have hlen := filter_len (p := reachV l.length (heldM s l)) k
      simp only [lt_yes hk, cond_true, rm_idx _ hk, rm_at _ hk, Option.bind_some]
      rw [wrap64 (n := (k : Int) + 1) (by omega) (by omega)]
      rw [List.range_succ, List.filter_append]
      cases hk2 : reachV l.length (heldM s l) k with
      | true =>
        simp only [cond_true]
        rw [if_pos (by rw [ints_len]; simp; omega), ints_snoc]
        simp only [Option.bind_some]
        rw [List.filter_cons_of_pos hk2]
        rfl
      | false =>
        simp only [cond_false, Option.bind_some]
        rw [List.filter_cons_of_neg (by simp [hk2]), List.filter_nil, List.append_nil]
        rfl
    · simp only [lt_no, cond_false]
end
end Go.Proofs.Ytmdghocpelkcoaa
