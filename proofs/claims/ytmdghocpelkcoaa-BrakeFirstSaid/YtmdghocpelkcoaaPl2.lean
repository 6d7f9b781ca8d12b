/- What a valid line set is, as a function on plain data, and plain lemmas about it. No program in sight. -/
import Derived.Test.YtmdghocpelkcoaaFn
import Derived.Test.YtmdghocpelkcoaaPl1
namespace Go.Proofs.Ytmdghocpelkcoaa
open Go.RowKit

def letterB (c : Int) : Bool := decide (97 ≤ c ∧ c ≤ 122 ∨ 65 ≤ c ∧ c ≤ 90)
def digitB (c : Int) : Bool := decide (48 ≤ c ∧ c ≤ 57)
def betweenB (n low high : Int) : Bool := decide (low ≤ n ∧ n ≤ high)
def wcB (c : UInt8) : Bool := letterB c.toNat || (digitB c.toNat || ((c.toNat : Int) == 95))
def wordN (s : ByteArray) : Nat := (s.data.toList.takeWhile wcB).length
def nameB (s : ByteArray) : Bool := match s.data.toList with | [] => false | c :: l => decide (l.length < 20) && (letterB c.toNat && (c :: l).all wcB)
theorem between_iff (n low high : Int) : betweenB n low high = true ↔ low ≤ n ∧ n ≤ high := by simp [betweenB]

/-- Each element is right by itself, and with each one before it. -/
def okAt {α : Type} (one : α → Bool) (two : α → α → Bool) (l : List α) (i : Nat) : Bool := match l[i]? with | none => true | some x => one x && (l.take i).all fun y => two y x
def pairsB {α : Type} (one : α → Bool) (two : α → α → Bool) (l : List α) : Bool := (List.range l.length).all (okAt one two l)
def okTo {α : Type} (one : α → Bool) (two : α → α → Bool) (l : List α) (k : Nat) : Prop := ∀ i, i < k → okAt one two l i = true
section
variable {α : Type} {one one' : α → Bool} {two two' : α → α → Bool} {l : List α}
theorem okAt_eq {i : Nat} (h : i < l.length) : okAt one two l i = (one l[i] && (l.take i).all fun y => two y l[i]) := by unfold okAt; rw [List.getElem?_eq_getElem h]
theorem okTo_zero : okTo one two l 0 := fun _ h => absurd h (by omega)
theorem okTo_succ {k : Nat} (h : okTo one two l k) (h1 : okAt one two l k = true) : okTo one two l (k + 1) := fun i hi => by
  rcases Nat.lt_or_ge i k with h2 | h2
  · exact h i h2
  · obtain rfl : i = k := by omega
    exact h1
theorem pairs_yes (h : okTo one two l l.length) : pairsB one two l = true := List.all_eq_true.2 fun i hi => h i (List.mem_range.1 hi)
theorem pairs_no {k : Nat} (hk : k < l.length) (h : okAt one two l k = false) : pairsB one two l = false := by
  rw [Bool.eq_false_iff]
  intro e
  have := List.all_eq_true.1 e k (List.mem_range.2 hk)
  rw [h] at this
  cases this
theorem pairs_iff : pairsB one two l = true ↔ ∀ i (h : i < l.length), one l[i] = true ∧ ∀ k (hk : k < i), two (l[k]'(Nat.lt_trans hk h)) l[i] = true := by
  constructor
  · intro e i h
    have := List.all_eq_true.1 e i (List.mem_range.2 h)
    rw [okAt_eq h, Bool.and_eq_true, List.all_eq_true] at this
    refine ⟨this.1, fun k hk => this.2 _ ?_⟩
    rw [List.mem_take_iff_getElem]
    exact ⟨k, by omega, rfl⟩
  · intro e
    refine List.all_eq_true.2 fun i hi => ?_
    have h := List.mem_range.1 hi
    obtain ⟨e1, e2⟩ := e i h
    rw [okAt_eq h, Bool.and_eq_true, List.all_eq_true]
    refine ⟨e1, fun y hy => ?_⟩
    rw [List.mem_take_iff_getElem] at hy
    obtain ⟨k, hk, rfl⟩ := hy
    exact e2 k (by omega)
theorem pairs_congr (h : ∀ i (h : i < l.length), (one l[i] = one' l[i]) ∧ ∀ k (hk : k < i), two (l[k]'(Nat.lt_trans hk h)) l[i] = two' (l[k]'(Nat.lt_trans hk h)) l[i]) : pairsB one two l = pairsB one' two' l := by
  rw [Bool.eq_iff_iff, pairs_iff, pairs_iff]
  constructor
  · intro e i hi
    exact ⟨(h i hi).1 ▸ (e i hi).1, fun k hk => ((h i hi).2 k hk) ▸ (e i hi).2 k hk⟩
  · intro e i hi
    exact ⟨(h i hi).1.symm ▸ (e i hi).1, fun k hk => ((h i hi).2 k hk).symm ▸ (e i hi).2 k hk⟩
theorem pairs_and : pairsB one (fun x y => two x y && two' x y) l = (pairsB one two l && pairsB (fun _ => true) two' l) := by
  rw [Bool.eq_iff_iff, Bool.and_eq_true, pairs_iff, pairs_iff, pairs_iff]
  constructor
  · intro e
    exact ⟨fun i hi => ⟨(e i hi).1, fun k hk => (Bool.and_eq_true _ _ ▸ (e i hi).2 k hk).1⟩, fun i hi => ⟨rfl, fun k hk => (Bool.and_eq_true _ _ ▸ (e i hi).2 k hk).2⟩⟩
  · rintro ⟨e1, e2⟩ i hi
    exact ⟨(e1 i hi).1, fun k hk => by rw [(e1 i hi).2 k hk, (e2 i hi).2 k hk]; rfl⟩
end

theorem pairs_split {α : Type} {one : α → Bool} {two : α → α → Bool} {l : List α} : pairsB one two l = (l.all one && pairsB (fun _ => true) two l) := by
  rw [Bool.eq_iff_iff, Bool.and_eq_true, pairs_iff, pairs_iff, List.all_eq_true]
  constructor
  · intro e
    refine ⟨fun x hx => ?_, fun i hi => ⟨rfl, (e i hi).2⟩⟩
    obtain ⟨i, hi, rfl⟩ := List.mem_iff_getElem.1 hx
    exact (e i hi).1
  · rintro ⟨e1, e2⟩ i hi
    exact ⟨e1 _ (List.getElem_mem hi), (e2 i hi).2⟩
theorem all_take_succ {α : Type} (l : List α) (p : α → Bool) (k : Nat) (h : k < l.length) (h0 : (l.take k).all p = true) (h1 : p l[k] = true) : (l.take (k + 1)).all p = true := by
  rw [List.take_succ_eq_append_getElem h, List.all_append, h0]; simp [h1]
theorem all_no {α : Type} (l : List α) (p : α → Bool) (k : Nat) (h : k < l.length) (h1 : p l[k] = false) : l.all p = false := by
  rw [Bool.eq_false_iff]; intro e; rw [List.all_eq_true.1 e _ (List.getElem_mem h)] at h1; cases h1

def aloneB (x : TItem) : Bool := nameB x.name && (betweenB x.weight 0 1048576 && (betweenB x.hang 0 1048576 && (betweenB x.front 0 1048576 && betweenB x.back 0 1048576)))
def insideB (x : TItem) (len : Int) : Bool := decide (0 ≤ x.at_) && (betweenB x.width 1 1048576 && decide (x.at_ ≤ len - x.width))
def apartB (x y : TItem) : Bool := decide (x.at_ + x.width ≤ y.at_) || decide (y.at_ + y.width ≤ x.at_)
theorem apart_comm (x y : TItem) : apartB x y = apartB y x := by unfold apartB; rw [Bool.or_comm]
def sameName (a b : ByteArray) : Bool := a.toList == b.toList
theorem sameName_iff (a b : ByteArray) : sameName a b = true ↔ a = b := by
  unfold sameName
  rw [beq_iff_eq, ByteArray.toList_eq, ByteArray.toList_eq]
  exact ⟨fun h => ByteArray.ext (Array.toList_inj.1 h), fun h => by rw [h]⟩
def itemsB (l : List TItem) (len : Int) : Bool := decide (l.length ≤ 40) && (pairsB (fun x => aloneB x && insideB x len) apartB l && pairsB (fun _ => true) (fun x y => !sameName x.name y.name) l)
def brickB (x : TBrick) : Bool := nameB x.name && (betweenB x.weight 1 1048576 && betweenB x.count 0 60)
def sumTo {α : Type} (f : α → Int) (l : List α) (k : Nat) : Int := ((l.take k).map f).sum
theorem sumTo_zero {α : Type} (f : α → Int) (l : List α) : sumTo f l 0 = 0 := rfl
theorem sumTo_succ {α : Type} (f : α → Int) (l : List α) (k : Nat) (h : k < l.length) : sumTo f l (k + 1) = sumTo f l k + f l[k] := by
  unfold sumTo; rw [List.take_succ_eq_append_getElem h, List.map_append, List.sum_append_int]; simp
theorem sumTo_bound {α : Type} (f : α → Int) (l : List α) (M : Int) (h : ∀ x, x ∈ l → 0 ≤ f x ∧ f x ≤ M) : ∀ k, k ≤ l.length → 0 ≤ sumTo f l k ∧ sumTo f l k ≤ k * M := by
  intro k
  induction k with
  | zero => intro _; rw [sumTo_zero]; omega
  | succ k ih =>
    intro hk
    have h1 := ih (by omega)
    have h2 := h l[k] (List.getElem_mem (by omega))
    rw [sumTo_succ f l k (by omega)]
    have e : ((k + 1 : Nat) : Int) * M = (k : Int) * M + M := by rw [Int.natCast_add, Int.add_mul]; simp
    omega
def bricksB (l : List TBrick) : Bool := decide (l.length ≤ 8) && (pairsB brickB (fun x y => !sameName x.name y.name) l && decide (sumTo (·.count) l l.length ≤ 60))
def lineAt (l : List Int) (len : Int) (i : Nat) : Bool := match l[i]? with | none => true | some x => betweenB x 0 len && (decide (i = 0) || decide (l[i - 1]?.getD 0 < x))
def linesB (l : List Int) (len : Int) : Bool := decide (2 ≤ l.length ∧ l.length ≤ 10) && (List.range l.length).all (lineAt l len)
def headB (S : TSet) : Bool := nameB S.name && (betweenB S.depth 0 1048576 && (decide (0 ≤ S.low) && (decide (S.low ≤ S.high) && (decide (S.high ≤ 1048576) && (betweenB S.length 1000 1048576 && decide (S.length % 1000 = 0))))))
def weightsB (S : TSet) : Bool := betweenB S.pipe 0 1048576 && (betweenB S.arbor 0 1048576 && (betweenB S.purchase 1 2 && (betweenB S.most 1 67108864 && betweenB S.brake 0 67108864)))
def validB (S : TSet) : Bool := headB S && (linesB S.lines S.length && (weightsB S && (itemsB S.items S.length && bricksB S.bricks)))

structure GoodItem (len : Int) (x : TItem) : Prop where
  name : nameB x.name = true
  p0 : 0 ≤ x.at_
  w1 : 1 ≤ x.width
  pw : x.at_ + x.width ≤ len
  m0 : 0 ≤ x.weight
  m1 : x.weight ≤ 1048576
  h0 : 0 ≤ x.hang
  h1 : x.hang ≤ 1048576
  f0 : 0 ≤ x.front
  f1 : x.front ≤ 1048576
  b0 : 0 ≤ x.back
  b1 : x.back ≤ 1048576
theorem GoodItem.of {len : Int} {x : TItem} (h : (aloneB x && insideB x len) = true) : GoodItem len x := by
  simp only [aloneB, insideB, betweenB, Bool.and_eq_true, decide_eq_true_iff] at h
  obtain ⟨⟨h1, h2, h3, h4, h5⟩, h6, h7, h8⟩ := h
  exact ⟨h1, h6, h7.1, by omega, h2.1, h2.2, h3.1, h3.2, h4.1, h4.2, h5.1, h5.2⟩
structure GoodBrick (x : TBrick) : Prop where
  name : nameB x.name = true
  w0 : 1 ≤ x.weight
  w1 : x.weight ≤ 1048576
  c0 : 0 ≤ x.count
  c1 : x.count ≤ 60
theorem GoodBrick.of {x : TBrick} (h : brickB x = true) : GoodBrick x := by
  simp only [brickB, betweenB, Bool.and_eq_true, decide_eq_true_iff] at h
  obtain ⟨h1, h2, h3⟩ := h
  exact ⟨h1, h2.1, h2.2, h3.1, h3.2⟩
structure Good (S : TSet) : Prop where
  name : nameB S.name = true
  d0 : 0 ≤ S.depth
  d1 : S.depth ≤ 1048576
  l0 : 0 ≤ S.low
  l1 : S.low ≤ S.high
  h1 : S.high ≤ 1048576
  n0 : 1000 ≤ S.length
  n1 : S.length ≤ 1048576
  nm : S.length % 1000 = 0
  p0 : 0 ≤ S.pipe
  p1 : S.pipe ≤ 1048576
  a0 : 0 ≤ S.arbor
  a1 : S.arbor ≤ 1048576
  u0 : 1 ≤ S.purchase
  u1 : S.purchase ≤ 2
  m0 : 1 ≤ S.most
  m1 : S.most ≤ 67108864
  b0 : 0 ≤ S.brake
  b1 : S.brake ≤ 67108864
  ln0 : 2 ≤ S.lines.length
  ln1 : S.lines.length ≤ 10
  lat : ∀ i, i < S.lines.length → lineAt S.lines S.length i = true
  ni : S.items.length ≤ 40
  items : ∀ x, x ∈ S.items → GoodItem S.length x
  apart : pairsB (fun _ => true) apartB S.items = true
  inames : pairsB (fun _ => true) (fun x y => !sameName x.name y.name) S.items = true
  nb : S.bricks.length ≤ 8
  bricks : ∀ x, x ∈ S.bricks → GoodBrick x
  bnames : pairsB (fun _ => true) (fun x y => !sameName x.name y.name) S.bricks = true
  bsum : sumTo (·.count) S.bricks S.bricks.length ≤ 60
theorem pairs_two {α : Type} {one : α → Bool} {two : α → α → Bool} {l : List α} (h : pairsB one two l = true) : pairsB (fun _ => true) two l = true := by
  rw [pairs_iff] at h ⊢
  exact fun i hi => ⟨rfl, (h i hi).2⟩
theorem pairs_one {α : Type} {one : α → Bool} {two : α → α → Bool} {l : List α} (h : pairsB one two l = true) (x : α) (hx : x ∈ l) : one x = true := by
  rw [pairs_iff] at h
  obtain ⟨i, hi, rfl⟩ := List.mem_iff_getElem.1 hx
  exact (h i hi).1
theorem Good.of {S : TSet} (h : validB S = true) : Good S := by
  simp only [validB, headB, weightsB, itemsB, bricksB, linesB, Bool.and_eq_true, decide_eq_true_iff, between_iff, List.all_eq_true, List.mem_range] at h
  obtain ⟨⟨h1, h2, h3, h4, h5, h6, h7⟩, ⟨h8, h9⟩, ⟨h10, h11, h12, h13, h14⟩, ⟨h15, h16, h17⟩, h18, h19, h20⟩ := h
  exact ⟨h1, h2.1, h2.2, h3, h4, h5, h6.1, h6.2, h7, h10.1, h10.2, h11.1, h11.2, h12.1, h12.2, h13.1, h13.2, h14.1, h14.2, h8.1, h8.2, h9, h15,
    fun x hx => GoodItem.of (pairs_one h16 x hx), pairs_two h16, h17, h18, fun x hx => GoodBrick.of (pairs_one h19 x hx), pairs_two h19, h20⟩

def pipeI (S : TSet) : Int := S.pipe * (S.length / 1000)
def weightI (S : TSet) : Int := pipeI S + sumTo (·.weight) S.items S.items.length
theorem pipe_bound {S : TSet} (h : Good S) : 0 ≤ pipeI S ∧ pipeI S ≤ 1099511627776 := by
  have h1 : 0 ≤ S.length / 1000 := by have := h.n0; omega
  have h2 : S.length / 1000 ≤ 1048576 := by have := h.n1; omega
  exact ⟨Int.mul_nonneg h.p0 h1, by
    have := Int.mul_le_mul h.p1 h2 h1 (by decide)
    exact Int.le_trans this (by decide)⟩
theorem weights_bound {S : TSet} (h : Good S) (k : Nat) (hk : k ≤ S.items.length) : 0 ≤ sumTo (·.weight) S.items k ∧ sumTo (·.weight) S.items k ≤ 41943040 := by
  have h1 := sumTo_bound (·.weight) S.items 1048576 (fun x hx => ⟨(h.items x hx).m0, (h.items x hx).m1⟩) k hk
  have h2 := h.ni
  omega

end Go.Proofs.Ytmdghocpelkcoaa
