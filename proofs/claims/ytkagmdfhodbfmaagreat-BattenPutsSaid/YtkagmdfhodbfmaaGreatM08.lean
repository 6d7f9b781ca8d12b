/- Joined by merge.py: Fn, Pl1, Pl2, Pl3, Pl4, Pl5, Pl6, Pl7, Pl8, Pl9, Pl10, Pl11, Pl12, Pl13, PlQ1, PlQ2, PlN1, PlN2, PlN3, PlN4, PlN5, PlN6, PlN7, PlN8, PlN9, PlN10, PlN11, PlN12, PlN13, PlR1, PlR2, PlR3, PlR4, PlR5, PlR6, PlR7, PlF1, PlN14, PlQ3, PlGo, PlQ4, PlQ5, PlQ6, PlQ7, PlG1, PlRw, PlG2, PlG3, PlG4, PlG5, PlH1, PlJ1, PlQ8a, PlQ8b, PlH2, PlH3, PlH4, PlJ1b, PlT2, PlQ11, PlU2, PlR8, PlR9, PlR10, PlR11, PlR12, PlR13, PlR14, PlR15, PlV1, PlV2, PlV3, PlV4, PlT1, PlT4a, PlU5, PlU0, PlU1, PlU3, PlU4, PlJ1c, PlU6, PlU7, PlU8. -/
import Derived.Test.YtkagmdfhodbfmaaGreatM07
/- Plain lemmas on loops, indices and wrapped integers. No program in sight. -/
namespace Go.Proofs.YtkagmdfhodbfmaaGreat

theorem wrap64 {n : Int} (h1 : -9223372036854775808 ≤ n) (h2 : n ≤ 9223372036854775807) : IntKind.i64.wrap n = n := by
  simp only [IntKind.wrap, IntKind.bits, IntKind.signed, Bool.true_and]
  split
  · rename_i h
    have h := of_decide_eq_true h
    omega
  · rename_i h
    have h := of_decide_eq_false (by simpa using h : decide (n % 2 ^ 64 ≥ 2 ^ (64 - 1)) = false)
    omega
theorem iter_inv {σ ρ : Type} {F : σ → Option (σ ⊕ ρ)} {Q : ρ → Prop} (I : Nat → σ → Prop) (n : Nat) (hn : n < big)
    (step : ∀ k s, k ≤ n → I k s → (∃ s', F s = some (.inl s') ∧ k < n ∧ I (k + 1) s') ∨ ∃ r, F s = some (.inr r) ∧ Q r) {s : σ} (h : I 0 s) : ∃ r, iterF F big s = some r ∧ Q r := by
  have go : ∀ (fuel k : Nat) (s : σ), k ≤ n → n - k < fuel → I k s → ∃ r, iterF F fuel s = some r ∧ Q r := by
    intro fuel
    induction fuel with
    | zero => intro k s _ h; omega
    | succ fuel ih =>
      intro k s hk hf hi
      unfold iterF
      rcases step k s hk hi with ⟨s', h1, h2, h3⟩ | ⟨r, h1, h2⟩
      · rw [h1]
        exact ih (k + 1) s' h2 (by omega) h3
      · rw [h1]
        exact ⟨r, rfl, h2⟩
  exact go big 0 s (Nat.zero_le _) (by omega) h
theorem idx_at {α : Type} {l : List α} {k : Nat} (h : k < l.length) : idx l (k : Int) = some l[k] := by
  unfold idx
  rw [if_pos (by omega), Int.toNat_natCast, List.getElem?_eq_getElem h]
theorem idxB_at {s : ByteArray} {k : Nat} (h : k < s.size) : idxB s (k : Int) = some s[k] := by
  unfold idxB
  rw [if_pos (by omega), Int.toNat_natCast]
  exact getElem?_pos s k h
/-- A loop over a list that stops at the first element that says so. -/
theorem iter_find {α ρ : Type} {F : Int × Unit → Option ((Int × Unit) ⊕ ρ)} (l : List α) (hl : l.length < 9223372036854775807) (p : Nat → α → Option ρ) (d : ρ)
    (hin : ∀ (k : Nat) (h : k < l.length), F ((k : Int), ()) = match p k l[k] with | some r => some (.inr r) | none => some (.inl ((k : Int) + 1, ()))) (hout : F ((l.length : Int), ()) = some (.inr d)) :
    iterF F big (0, ()) = some (((l.zipIdx.findSome? fun x => p x.2 x.1)).getD d) := by
  have hb : l.length < big := by unfold big; omega
  obtain ⟨r, h1, h2⟩ := iter_inv (F := F) (Q := fun r => r = ((l.zipIdx.findSome? fun x => p x.2 x.1)).getD d) (fun k s => s = ((k : Int), ()) ∧ ((l.take k).zipIdx.findSome? fun x => p x.2 x.1) = none) l.length hb (fun k s hk hi => by
    obtain ⟨rfl, hi⟩ := hi
    by_cases hlt : k < l.length
    · have h := hin k hlt
      have htk : (l.take (k + 1)).zipIdx = (l.take k).zipIdx ++ [(l[k], k)] := by
        rw [List.take_succ_eq_append_getElem hlt, List.zipIdx_append]
        simp; omega
      cases hp : p k l[k] with
      | none =>
        rw [hp] at h
        exact .inl ⟨_, h, hlt, rfl, by rw [htk, List.findSome?_append, hi]; simp [hp]⟩
      | some r =>
        rw [hp] at h
        refine .inr ⟨r, h, ?_⟩
        have hall : l.zipIdx = (l.take (k + 1)).zipIdx ++ (l.drop (k + 1)).zipIdx (k + 1) := by
          have e : l.zipIdx = (l.take (k + 1) ++ l.drop (k + 1)).zipIdx := by rw [List.take_append_drop]
          rw [e, List.zipIdx_append, Nat.zero_add, List.length_take, Nat.min_eq_left (by omega)]
        rw [hall, htk, List.findSome?_append, List.findSome?_append, hi]
        simp [hp]
    · obtain rfl : k = l.length := by omega
      rw [List.take_length] at hi
      exact .inr ⟨d, hout, by rw [hi]; rfl⟩) (s := (0, ())) ⟨rfl, by simp⟩
  rw [h1, h2]
end Go.Proofs.YtkagmdfhodbfmaaGreat

/- What a valid line set is, as a function on plain data, and plain lemmas about it. No program in sight. -/
namespace Go.Proofs.YtkagmdfhodbfmaaGreat
open Go.RowKit

def letterB (c : Int) : Bool := decide (97 ≤ c ∧ c ≤ 122 ∨ 65 ≤ c ∧ c ≤ 90)
def digitB (c : Int) : Bool := decide (48 ≤ c ∧ c ≤ 57)
def betweenB (n low high : Int) : Bool := decide (low ≤ n ∧ n ≤ high)
def wcB (c : UInt8) : Bool := letterB c.toNat || (digitB c.toNat || ((c.toNat : Int) == 95))
def wordN (s : ByteArray) : Nat := (s.data.toList.takeWhile wcB).length
def nameB (s : ByteArray) : Bool := match s.data.toList with | [] => false | c :: l => decide (l.length < 20) && (letterB c.toNat && (c :: l).all wcB)
theorem between_iff (n low high : Int) : betweenB n low high = true ↔ low ≤ n ∧ n ≤ high := by simp [betweenB]

/-- Each element is right by itself, and with each one before it. -/
def okAt {α : Type} (one : α → Bool) (two : α → α → Bool) (l : List α) (i : Nat) : Bool := match l[i]? with | none => true | some x => one x && (l.take i).all fun y => two y x
def pairsB {α : Type} (one : α → Bool) (two : α → α → Bool) (l : List α) : Bool := (List.range l.length).all (okAt one two l)
def okTo {α : Type} (one : α → Bool) (two : α → α → Bool) (l : List α) (k : Nat) : Prop := ∀ i, i < k → okAt one two l i = true
section
variable {α : Type} {one one' : α → Bool} {two two' : α → α → Bool} {l : List α}
theorem okAt_eq {i : Nat} (h : i < l.length) : okAt one two l i = (one l[i] && (l.take i).all fun y => two y l[i]) := by unfold okAt; rw [List.getElem?_eq_getElem h]
theorem okTo_zero : okTo one two l 0 := fun _ h => absurd h (by omega)
theorem okTo_succ {k : Nat} (h : okTo one two l k) (h1 : okAt one two l k = true) : okTo one two l (k + 1) := fun i hi => by
  rcases Nat.lt_or_ge i k with h2 | h2
  · exact h i h2
  · obtain rfl : i = k := by omega
    exact h1
theorem pairs_yes (h : okTo one two l l.length) : pairsB one two l = true := List.all_eq_true.2 fun i hi => h i (List.mem_range.1 hi)
theorem pairs_no {k : Nat} (hk : k < l.length) (h : okAt one two l k = false) : pairsB one two l = false := by
  rw [Bool.eq_false_iff]
  intro e
  have := List.all_eq_true.1 e k (List.mem_range.2 hk)
  rw [h] at this
  cases this
theorem pairs_iff : pairsB one two l = true ↔ ∀ i (h : i < l.length), one l[i] = true ∧ ∀ k (hk : k < i), two (l[k]'(Nat.lt_trans hk h)) l[i] = true := by
  constructor
  · intro e i h
    have := List.all_eq_true.1 e i (List.mem_range.2 h)
    rw [okAt_eq h, Bool.and_eq_true, List.all_eq_true] at this
    refine ⟨this.1, fun k hk => this.2 _ ?_⟩
    rw [List.mem_take_iff_getElem]
    exact ⟨k, by omega, rfl⟩
  · intro e
    refine List.all_eq_true.2 fun i hi => ?_
    have h := List.mem_range.1 hi
    obtain ⟨e1, e2⟩ := e i h
    rw [okAt_eq h, Bool.and_eq_true, List.all_eq_true]
    refine ⟨e1, fun y hy => ?_⟩
    rw [List.mem_take_iff_getElem] at hy
    obtain ⟨k, hk, rfl⟩ := hy
    exact e2 k (by omega)
end

theorem pairs_split {α : Type} {one : α → Bool} {two : α → α → Bool} {l : List α} : pairsB one two l = (l.all one && pairsB (fun _ => true) two l) := by
  rw [Bool.eq_iff_iff, Bool.and_eq_true, pairs_iff, pairs_iff, List.all_eq_true]
  constructor
  · intro e
    refine ⟨fun x hx => ?_, fun i hi => ⟨rfl, (e i hi).2⟩⟩
    obtain ⟨i, hi, rfl⟩ := List.mem_iff_getElem.1 hx
    exact (e i hi).1
  · rintro ⟨e1, e2⟩ i hi
    exact ⟨e1 _ (List.getElem_mem hi), (e2 i hi).2⟩
theorem all_take_succ {α : Type} (l : List α) (p : α → Bool) (k : Nat) (h : k < l.length) (h0 : (l.take k).all p = true) (h1 : p l[k] = true) : (l.take (k + 1)).all p = true := by
  rw [List.take_succ_eq_append_getElem h, List.all_append, h0]; simp [h1]
theorem all_no {α : Type} (l : List α) (p : α → Bool) (k : Nat) (h : k < l.length) (h1 : p l[k] = false) : l.all p = false := by
  rw [Bool.eq_false_iff]; intro e; rw [List.all_eq_true.1 e _ (List.getElem_mem h)] at h1; cases h1

def aloneB (x : TItem) : Bool := nameB x.name && (betweenB x.weight 0 1048576 && (betweenB x.hang 0 1048576 && (betweenB x.front 0 1048576 && betweenB x.back 0 1048576)))
def insideB (x : TItem) (len : Int) : Bool := decide (0 ≤ x.at_) && (betweenB x.width 1 1048576 && decide (x.at_ ≤ len - x.width))
def apartB (x y : TItem) : Bool := decide (x.at_ + x.width ≤ y.at_) || decide (y.at_ + y.width ≤ x.at_)
theorem apart_comm (x y : TItem) : apartB x y = apartB y x := by unfold apartB; rw [Bool.or_comm]
def sameName (a b : ByteArray) : Bool := a.toList == b.toList
theorem sameName_iff (a b : ByteArray) : sameName a b = true ↔ a = b := by
  unfold sameName
  rw [beq_iff_eq, ByteArray.toList_eq, ByteArray.toList_eq]
  exact ⟨fun h => ByteArray.ext (Array.toList_inj.1 h), fun h => by rw [h]⟩
def itemsB (l : List TItem) (len : Int) : Bool := decide (l.length ≤ 40) && (pairsB (fun x => aloneB x && insideB x len) apartB l && pairsB (fun _ => true) (fun x y => !sameName x.name y.name) l)
def brickB (x : TBrick) : Bool := nameB x.name && (betweenB x.weight 1 1048576 && betweenB x.count 0 60)
def sumTo {α : Type} (f : α → Int) (l : List α) (k : Nat) : Int := ((l.take k).map f).sum
theorem sumTo_zero {α : Type} (f : α → Int) (l : List α) : sumTo f l 0 = 0 := rfl
theorem sumTo_succ {α : Type} (f : α → Int) (l : List α) (k : Nat) (h : k < l.length) : sumTo f l (k + 1) = sumTo f l k + f l[k] := by
  unfold sumTo; rw [List.take_succ_eq_append_getElem h, List.map_append, List.sum_append_int]; simp
theorem sumTo_bound {α : Type} (f : α → Int) (l : List α) (M : Int) (h : ∀ x, x ∈ l → 0 ≤ f x ∧ f x ≤ M) : ∀ k, k ≤ l.length → 0 ≤ sumTo f l k ∧ sumTo f l k ≤ k * M := by
  intro k
  induction k with
  | zero => intro _; rw [sumTo_zero]; omega
  | succ k ih =>
    intro hk
    have h1 := ih (by omega)
    have h2 := h l[k] (List.getElem_mem (by omega))
    rw [sumTo_succ f l k (by omega)]
    have e : ((k + 1 : Nat) : Int) * M = (k : Int) * M + M := by rw [Int.natCast_add, Int.add_mul]; simp
    omega
def bricksB (l : List TBrick) : Bool := decide (l.length ≤ 8) && (pairsB brickB (fun x y => !sameName x.name y.name) l && decide (sumTo (·.count) l l.length ≤ 60))
def lineAt (l : List Int) (len : Int) (i : Nat) : Bool := match l[i]? with | none => true | some x => betweenB x 0 len && (decide (i = 0) || decide (l[i - 1]?.getD 0 < x))
def linesB (l : List Int) (len : Int) : Bool := decide (2 ≤ l.length ∧ l.length ≤ 10) && (List.range l.length).all (lineAt l len)
def headB (S : TSet) : Bool := nameB S.name && (betweenB S.depth 0 1048576 && (decide (0 ≤ S.low) && (decide (S.low ≤ S.high) && (decide (S.high ≤ 1048576) && (betweenB S.length 1000 1048576 && decide (S.length % 1000 = 0))))))
def weightsB (S : TSet) : Bool := betweenB S.pipe 0 1048576 && (betweenB S.arbor 0 1048576 && (betweenB S.purchase 1 2 && (betweenB S.most 1 67108864 && betweenB S.brake 0 67108864)))
def validB (S : TSet) : Bool := headB S && (linesB S.lines S.length && (weightsB S && (itemsB S.items S.length && bricksB S.bricks)))

structure GoodItem (len : Int) (x : TItem) : Prop where
  name : nameB x.name = true
  p0 : 0 ≤ x.at_
  w1 : 1 ≤ x.width
  pw : x.at_ + x.width ≤ len
  m0 : 0 ≤ x.weight
  m1 : x.weight ≤ 1048576
  h0 : 0 ≤ x.hang
  h1 : x.hang ≤ 1048576
  f0 : 0 ≤ x.front
  f1 : x.front ≤ 1048576
  b0 : 0 ≤ x.back
  b1 : x.back ≤ 1048576
theorem GoodItem.of {len : Int} {x : TItem} (h : (aloneB x && insideB x len) = true) : GoodItem len x := by
  simp only [aloneB, insideB, betweenB, Bool.and_eq_true, decide_eq_true_iff] at h
  obtain ⟨⟨h1, h2, h3, h4, h5⟩, h6, h7, h8⟩ := h
  exact ⟨h1, h6, h7.1, by omega, h2.1, h2.2, h3.1, h3.2, h4.1, h4.2, h5.1, h5.2⟩
structure GoodBrick (x : TBrick) : Prop where
  name : nameB x.name = true
  w0 : 1 ≤ x.weight
  w1 : x.weight ≤ 1048576
  c0 : 0 ≤ x.count
  c1 : x.count ≤ 60
theorem GoodBrick.of {x : TBrick} (h : brickB x = true) : GoodBrick x := by
  simp only [brickB, betweenB, Bool.and_eq_true, decide_eq_true_iff] at h
  obtain ⟨h1, h2, h3⟩ := h
  exact ⟨h1, h2.1, h2.2, h3.1, h3.2⟩
structure Good (S : TSet) : Prop where
  name : nameB S.name = true
  d0 : 0 ≤ S.depth
  d1 : S.depth ≤ 1048576
  l0 : 0 ≤ S.low
  l1 : S.low ≤ S.high
  h1 : S.high ≤ 1048576
  n0 : 1000 ≤ S.length
  n1 : S.length ≤ 1048576
  nm : S.length % 1000 = 0
  p0 : 0 ≤ S.pipe
  p1 : S.pipe ≤ 1048576
  a0 : 0 ≤ S.arbor
  a1 : S.arbor ≤ 1048576
  u0 : 1 ≤ S.purchase
  u1 : S.purchase ≤ 2
  m0 : 1 ≤ S.most
  m1 : S.most ≤ 67108864
  b0 : 0 ≤ S.brake
  b1 : S.brake ≤ 67108864
  ln0 : 2 ≤ S.lines.length
  ln1 : S.lines.length ≤ 10
  lat : ∀ i, i < S.lines.length → lineAt S.lines S.length i = true
  ni : S.items.length ≤ 40
  items : ∀ x, x ∈ S.items → GoodItem S.length x
  apart : pairsB (fun _ => true) apartB S.items = true
  inames : pairsB (fun _ => true) (fun x y => !sameName x.name y.name) S.items = true
  nb : S.bricks.length ≤ 8
  bricks : ∀ x, x ∈ S.bricks → GoodBrick x
  bnames : pairsB (fun _ => true) (fun x y => !sameName x.name y.name) S.bricks = true
  bsum : sumTo (·.count) S.bricks S.bricks.length ≤ 60
theorem pairs_two {α : Type} {one : α → Bool} {two : α → α → Bool} {l : List α} (h : pairsB one two l = true) : pairsB (fun _ => true) two l = true := by
  rw [pairs_iff] at h ⊢
  exact fun i hi => ⟨rfl, (h i hi).2⟩
theorem pairs_one {α : Type} {one : α → Bool} {two : α → α → Bool} {l : List α} (h : pairsB one two l = true) (x : α) (hx : x ∈ l) : one x = true := by
  rw [pairs_iff] at h
  obtain ⟨i, hi, rfl⟩ := List.mem_iff_getElem.1 hx
  exact (h i hi).1
theorem Good.of {S : TSet} (h : validB S = true) : Good S := by
  simp only [validB, headB, weightsB, itemsB, bricksB, linesB, Bool.and_eq_true, decide_eq_true_iff, between_iff, List.all_eq_true, List.mem_range] at h
  obtain ⟨⟨h1, h2, h3, h4, h5, h6, h7⟩, ⟨h8, h9⟩, ⟨h10, h11, h12, h13, h14⟩, ⟨h15, h16, h17⟩, h18, h19, h20⟩ := h
  exact ⟨h1, h2.1, h2.2, h3, h4, h5, h6.1, h6.2, h7, h10.1, h10.2, h11.1, h11.2, h12.1, h12.2, h13.1, h13.2, h14.1, h14.2, h8.1, h8.2, h9, h15,
    fun x hx => GoodItem.of (pairs_one h16 x hx), pairs_two h16, h17, h18, fun x hx => GoodBrick.of (pairs_one h19 x hx), pairs_two h19, h20⟩

def pipeI (S : TSet) : Int := S.pipe * (S.length / 1000)
def weightI (S : TSet) : Int := pipeI S + sumTo (·.weight) S.items S.items.length
theorem pipe_bound {S : TSet} (h : Good S) : 0 ≤ pipeI S ∧ pipeI S ≤ 1099511627776 := by
  have h1 : 0 ≤ S.length / 1000 := by have := h.n0; omega
  have h2 : S.length / 1000 ≤ 1048576 := by have := h.n1; omega
  exact ⟨Int.mul_nonneg h.p0 h1, by
    have := Int.mul_le_mul h.p1 h2 h1 (by decide)
    exact Int.le_trans this (by decide)⟩
theorem weights_bound {S : TSet} (h : Good S) (k : Nat) (hk : k ≤ S.items.length) : 0 ≤ sumTo (·.weight) S.items k ∧ sumTo (·.weight) S.items k ≤ 41943040 := by
  have h1 := sumTo_bound (·.weight) S.items 1048576 (fun x hx => ⟨(h.items x hx).m0, (h.items x hx).m1⟩) k hk
  have h2 := h.ni
  omega

end Go.Proofs.YtkagmdfhodbfmaaGreat

/- What the small functions come to, in plain terms. -/
namespace Go.Proofs.YtkagmdfhodbfmaaGreat
set_option linter.unusedSimpArgs false

theorem cond_some {α : Type} (c : Bool) (a b : α) : (cond c (some a) (some b) : Option α) = some (cond c a b) := by cases c <;> rfl
theorem decide_and_cond (p q : Prop) [Decidable p] [Decidable q] : decide (p ∧ q) = (bif decide p then decide q else false) := by by_cases h : p <;> by_cases h' : q <;> simp [h, h']
theorem f_between (n lo hi : Int) : F_batten_between n lo hi = some (betweenB n lo hi) := by
  unfold F_batten_between betweenB
  rw [cond_some, Option.bind_some, decide_and_cond]
  cases h : decide (n ≥ lo) <;> rfl
theorem f_slices_IndexFunc_api_Item (s : List TItem) (hs : s.length < 9223372036854775807) (f : TItem → Option Bool) (g : TItem → Bool) (hf : ∀ x ∈ s, f x = some (g x)) : F_slices_IndexFunc_api_Item s f = some (match s.findIdx? g with | some i => (i : Int) | none => -1) := by
  unfold F_slices_IndexFunc_api_Item
  rw [iter_find s hs (fun k x => bif g x then some (Sum.inl ((k : Int), ())) else none) (.inr ()) ?hin ?hout]
  · have e : ∀ (l : List TItem) (j : Nat), ((l.zipIdx j).findSome? fun x => bif g x.1 then some (Sum.inl ((x.2 : Int), ()) : (Int × Unit) ⊕ Unit) else none) = (l.findIdx? g).map fun i => .inl (((i + j : Nat) : Int), ()) := by
      intro l
      induction l with
      | nil => intro j; rfl
      | cons x l ih =>
        intro j
        rw [List.zipIdx_cons, List.findSome?_cons, List.findIdx?_cons]
        cases hg : g x with
        | true => simp
        | false =>
          simp only [cond_false]
          rw [ih (j + 1)]
          cases l.findIdx? g with
          | none => rfl
          | some i => simp; omega
    rw [e s 0]
    cases s.findIdx? g with
    | none => rfl
    | some i => rfl
  case hin =>
    intro k hk
    have hlt : decide ((k : Int) < ((s.length : Nat) : Int)) = true := decide_eq_true (by omega)
    simp only [hlt, cond_true, idx_at hk, Option.bind_some, hf _ (List.getElem_mem hk)]
    cases g s[k] with
    | true => rfl
    | false => simp only [cond_false]; rw [wrap64 (by omega) (by omega)]
  case hout =>
    have hlt : decide (((s.length : Nat) : Int) < ((s.length : Nat) : Int)) = false := decide_eq_false (by omega)
    simp only [hlt, cond_false]
theorem f_slices_ContainsFunc_api_Item (s : List TItem) (hs : s.length < 9223372036854775807) (f : TItem → Option Bool) (g : TItem → Bool) (hf : ∀ x ∈ s, f x = some (g x)) : F_slices_ContainsFunc_api_Item s f = some (s.any g) := by
  unfold F_slices_ContainsFunc_api_Item
  rw [f_slices_IndexFunc_api_Item s hs f g hf, Option.bind_some]
  congr 1
  cases h : s.findIdx? g with
  | none =>
    rw [List.findIdx?_eq_none_iff] at h
    have : s.any g = false := by rw [List.any_eq_false]; intro x hx; rw [h x hx]; simp
    rw [this]; rfl
  | some i =>
    obtain ⟨hi, hg, _⟩ := List.findIdx?_eq_some_iff_getElem.1 h
    have : s.any g = true := List.any_eq_true.2 ⟨_, List.getElem_mem hi, hg⟩
    rw [this]
    exact decide_eq_true (by show (i : Int) ≥ 0; omega)
theorem f_slices_IndexFunc_api_Span (s : List TSpan) (hs : s.length < 9223372036854775807) (f : TSpan → Option Bool) (g : TSpan → Bool) (hf : ∀ x ∈ s, f x = some (g x)) : F_slices_IndexFunc_api_Span s f = some (match s.findIdx? g with | some i => (i : Int) | none => -1) := by
  unfold F_slices_IndexFunc_api_Span
  rw [iter_find s hs (fun k x => bif g x then some (Sum.inl ((k : Int), ())) else none) (.inr ()) ?hin ?hout]
  · have e : ∀ (l : List TSpan) (j : Nat), ((l.zipIdx j).findSome? fun x => bif g x.1 then some (Sum.inl ((x.2 : Int), ()) : (Int × Unit) ⊕ Unit) else none) = (l.findIdx? g).map fun i => .inl (((i + j : Nat) : Int), ()) := by
      intro l
      induction l with
      | nil => intro j; rfl
      | cons x l ih =>
        intro j
        rw [List.zipIdx_cons, List.findSome?_cons, List.findIdx?_cons]
        cases hg : g x with
        | true => simp
        | false =>
          simp only [cond_false]
          rw [ih (j + 1)]
          cases l.findIdx? g with
          | none => rfl
          | some i => simp; omega
    rw [e s 0]
    cases s.findIdx? g with
    | none => rfl
    | some i => rfl
  case hin =>
    intro k hk
    have hlt : decide ((k : Int) < ((s.length : Nat) : Int)) = true := decide_eq_true (by omega)
    simp only [hlt, cond_true, idx_at hk, Option.bind_some, hf _ (List.getElem_mem hk)]
    cases g s[k] with
    | true => rfl
    | false => simp only [cond_false]; rw [wrap64 (by omega) (by omega)]
  case hout =>
    have hlt : decide (((s.length : Nat) : Int) < ((s.length : Nat) : Int)) = false := decide_eq_false (by omega)
    simp only [hlt, cond_false]
theorem f_slices_ContainsFunc_api_Span (s : List TSpan) (hs : s.length < 9223372036854775807) (f : TSpan → Option Bool) (g : TSpan → Bool) (hf : ∀ x ∈ s, f x = some (g x)) : F_slices_ContainsFunc_api_Span s f = some (s.any g) := by
  unfold F_slices_ContainsFunc_api_Span
  rw [f_slices_IndexFunc_api_Span s hs f g hf, Option.bind_some]
  congr 1
  cases h : s.findIdx? g with
  | none =>
    rw [List.findIdx?_eq_none_iff] at h
    have : s.any g = false := by rw [List.any_eq_false]; intro x hx; rw [h x hx]; simp
    rw [this]; rfl
  | some i =>
    obtain ⟨hi, hg, _⟩ := List.findIdx?_eq_some_iff_getElem.1 h
    have : s.any g = true := List.any_eq_true.2 ⟨_, List.getElem_mem hi, hg⟩
    rw [this]
    exact decide_eq_true (by show (i : Int) ≥ 0; omega)
end Go.Proofs.YtkagmdfhodbfmaaGreat

/- Names: what the two readers of names come to. -/
namespace Go.Proofs.YtkagmdfhodbfmaaGreat

theorem takeWhile_len {α : Type} (p : α → Bool) : ∀ (l : List α) (k : Nat), k ≤ l.length → (∀ i (h : i < l.length), i < k → p l[i] = true) → (∀ h : k < l.length, p l[k] = false) → (l.takeWhile p).length = k
  | [], k, hk, _, _ => by simp at hk; subst hk; rfl
  | x :: l, 0, _, _, h2 => by
    have := h2 (by simp)
    rw [List.takeWhile_cons]
    simp only [List.getElem_cons_zero] at this
    rw [this]; rfl
  | x :: l, k + 1, hk, h1, h2 => by
    have hx := h1 0 (by simp) (by omega)
    simp only [List.getElem_cons_zero] at hx
    rw [List.takeWhile_cons, hx]
    simp only [if_true, List.length_cons]
    rw [takeWhile_len p l k (by simpa using hk) (fun i h hi => by have := h1 (i + 1) (by simpa using h) (by omega); simpa using this) (fun h => by have := h2 (by simpa using h); simpa using this)]
theorem f_letter (c : Int) : F_decimal_letter c = some (letterB c) := by
  unfold F_decimal_letter letterB
  by_cases h1 : c ≥ 97 <;> by_cases h2 : c ≤ 122 <;> by_cases h3 : c ≥ 65 <;> by_cases h4 : c ≤ 90 <;> simp [h1, h2, h3, h4] <;> omega
theorem f_digit (c : Int) : F_decimal_digit c = some (digitB c) := by
  unfold F_decimal_digit digitB
  by_cases h1 : c ≥ 48 <;> by_cases h2 : c ≤ 57 <;> simp [h1, h2] <;> omega
theorem f_word (s : ByteArray) (hs : s.size ≤ 9223372036854775806) : F_decimal_word s = some (wordN s : Int) := by
  unfold F_decimal_word
  have hlen : s.data.toList.length = s.size := rfl
  obtain ⟨r, h1, h2⟩ := iter_inv (F := fun s12 : Int × Unit => (((bif (decide (s12.1 < ((s.size : Nat) : Int))) then (idxB s s12.1).bind fun b13 => (F_decimal_letter ((b13.toNat : Nat) : Int)).bind fun r14 => (bif r14 then some (true, ()) else (idxB s s12.1).bind fun b15 => (F_decimal_digit ((b15.toNat : Nat) : Int)).bind fun r16 => (bif r16 then some (true, ()) else (idxB s s12.1).bind fun b17 => some ((((b17.toNat : Nat) : Int) == 95), ()))) else some (false, ())) : Option (Bool × Unit)).bind fun y18 => (bif y18.1 then some (.inl ((IntKind.i64.wrap (s12.1 + 1)), ())) else some (.inr (s12.1, ()))) : Option ((Int × Unit) ⊕ (Int × Unit))))
    (Q := fun r => r = ((wordN s : Int), ())) (fun k x => x = ((k : Int), ()) ∧ ∀ i (h : i < s.data.toList.length), i < k → wcB s.data.toList[i] = true) s.size (by unfold big; omega) (fun k x hk hi => by
      obtain ⟨rfl, hi⟩ := hi
      by_cases hlt : k < s.size
      · have hd : decide ((k : Int) < ((s.size : Nat) : Int)) = true := decide_eq_true (by omega)
        simp only [hd, cond_true, idxB_at hlt, Option.bind_some, f_letter, f_digit]
        rw [wrap64 (by omega) (by omega)]
        have hsel : (((bif letterB ((s[k].toNat : Nat) : Int) then some (true, ()) else (bif digitB ((s[k].toNat : Nat) : Int) then some (true, ()) else some ((((s[k].toNat : Nat) : Int) == 95), ()))) : Option (Bool × Unit))) = some (wcB s[k], ()) := by
          unfold wcB
          cases letterB s[k].toNat <;> cases digitB s[k].toNat <;> rfl
        rw [hsel]
        simp only [Option.bind_some]
        cases hw : wcB s[k] with
        | true =>
          refine .inl ⟨((k : Int) + 1, ()), rfl, hlt, rfl, fun i h hik => ?_⟩
          by_cases hik' : i < k
          · exact hi i h hik'
          · obtain rfl : i = k := by omega
            exact hw
        | false =>
          refine .inr ⟨((k : Int), ()), rfl, ?_⟩
          have := takeWhile_len wcB s.data.toList k (by omega) hi (fun _ => hw)
          unfold wordN
          rw [this]
      · obtain rfl : k = s.size := by omega
        have hd : decide (((s.size : Nat) : Int) < ((s.size : Nat) : Int)) = false := decide_eq_false (by omega)
        simp only [hd, cond_false, Option.bind_some]
        refine .inr ⟨_, rfl, ?_⟩
        have := takeWhile_len wcB s.data.toList s.size (by omega) hi (fun h => by omega)
        unfold wordN
        rw [this]) (s := (0, ())) ⟨rfl, fun i _ h => by omega⟩
  rw [h1, h2]
  rfl
theorem takeWhile_all {α : Type} (p : α → Bool) : ∀ (l : List α), ((l.takeWhile p).length == l.length) = l.all p
  | [] => rfl
  | x :: l => by
    rw [List.takeWhile_cons, List.all_cons]
    cases p x with
    | true =>
      simp only [if_true, List.length_cons, Bool.true_and]
      rw [← takeWhile_all p l]
      rw [Bool.eq_iff_iff, beq_iff_eq, beq_iff_eq]
      omega
    | false => simp
theorem f_name (s : ByteArray) (hs : s.size ≤ 9223372036854775806) : F_decimal_IsName s = some (nameB s) := by
  unfold F_decimal_IsName nameB
  have hlen : s.data.toList.length = s.size := rfl
  have hw : ∀ (c : UInt8) (l : List UInt8), s.data.toList = c :: l → ((wordN s : Int) == ((s.size : Nat) : Int)) = (c :: l).all wcB := by
    intro c l h
    rw [← h, ← takeWhile_all, hlen]
    unfold wordN
    rw [Bool.eq_iff_iff, beq_iff_eq, beq_iff_eq]
    omega
  simp only [f_word s hs, ByteArray.toList_eq]
  show Option.bind (bif (!(s.data.toList == [])) then _ else _) _ = _
  cases hl : s.data.toList with
  | nil => rfl
  | cons c l =>
    rw [hl] at hlen
    have h0 : idxB s 0 = some c := by
      have h1 : 0 < s.size := by rw [← hlen]; simp
      have := idxB_at (s := s) (k := 0) h1
      have e : s[0] = s.data.toList[0]'(by rw [hl]; simp) := rfl
      rw [e] at this
      simp only [hl, List.getElem_cons_zero] at this
      exact this
    have h1 : (!(c :: l == ([] : List UInt8))) = true := rfl
    simp only [h1, cond_true, h0, Option.bind_some, f_letter]
    have h2 : decide (((s.size : Nat) : Int) ≤ 20) = decide (l.length < 20) := by
      rw [← hlen]
      simp only [List.length_cons]
      by_cases h : l.length < 20
      · rw [decide_eq_true h]; exact decide_eq_true (by omega)
      · rw [decide_eq_false h]; exact decide_eq_false (by omega)
    rw [h2, hw c l hl]
    cases decide (l.length < 20) <;> cases letterB ((c.toNat : Nat) : Int) <;> rfl
end Go.Proofs.YtkagmdfhodbfmaaGreat

/- Names by the reference; items by themselves. -/
namespace Go.Proofs.YtkagmdfhodbfmaaGreat

theorem f_alone (x : TItem) (hx : x.name.size ≤ 9223372036854775806) : F_batten_alone x = some (aloneB x) := by
  unfold F_batten_alone aloneB
  rw [f_name _ hx]
  simp only [f_between, Option.bind_some]
  cases nameB x.name <;> cases betweenB x.weight 0 1048576 <;> cases betweenB x.hang 0 1048576 <;> cases betweenB x.front 0 1048576 <;> rfl
theorem f_inside (x : TItem) (len : Int) (h1 : -4611686018427387904 ≤ len) (h2 : len ≤ 4611686018427387904) : F_batten_inside x len = some (insideB x len) := by
  unfold F_batten_inside insideB
  simp only [f_between, Option.bind_some]
  by_cases h : 0 ≤ x.at_
  · have e : decide (x.at_ ≥ 0) = true := decide_eq_true h
    rw [e]
    cases hb : betweenB x.width 1 1048576 with
    | false => rfl
    | true =>
      rw [between_iff] at hb
      rw [wrap64 (by omega) (by omega)]
      rfl
  · have e : decide (x.at_ ≥ 0) = false := decide_eq_false h
    rw [e]
    rfl
theorem f_apart (x y : TItem) (hx : -4611686018427387904 ≤ x.at_ + x.width ∧ x.at_ + x.width ≤ 4611686018427387904) (hy : -4611686018427387904 ≤ y.at_ + y.width ∧ y.at_ + y.width ≤ 4611686018427387904) : F_batten_apart x y = some (apartB x y) := by
  unfold F_batten_apart apartB
  rw [wrap64 (by omega) (by omega), wrap64 (by omega) (by omega)]
  cases decide (x.at_ + x.width ≤ y.at_) <;> rfl
end Go.Proofs.YtkagmdfhodbfmaaGreat

/- batten.twice: whether two elements have one name (a map as a set). -/
namespace Go.Proofs.YtkagmdfhodbfmaaGreat

def keysM {α : Type} (f : α → ByteArray) (l : List α) : List (ByteArray × Bool) := l.foldl (fun m x => setM (f x) true m) []
theorem keysM_snoc {α : Type} (f : α → ByteArray) (l : List α) (x : α) : keysM f (l ++ [x]) = setM (f x) true (keysM f l) := by unfold keysM; rw [List.foldl_append]; rfl
theorem keysM_find {α : Type} (f : α → ByteArray) (s : ByteArray) (l : List α) (k : Nat) (hk : k ≤ l.length) : (findM s (keysM f (l.take k))).isSome = true ↔ ∃ x ∈ l.take k, f x = s := by
  induction k with
  | zero => simp [keysM, findM]
  | succ k ih =>
    have ih := ih (by omega)
    rw [List.take_succ_eq_append_getElem (by omega), keysM_snoc]
    by_cases h : s = f l[k]
    · subst h
      rw [find_set_same]
      exact ⟨fun _ => ⟨l[k], List.mem_append_right _ (List.mem_singleton.2 rfl), rfl⟩, fun _ => rfl⟩
    · rw [find_set_other h, ih]
      constructor
      · rintro ⟨x, hx, e⟩
        exact ⟨x, List.mem_append_left _ hx, e⟩
      · rintro ⟨x, hx, e⟩
        rcases List.mem_append.1 hx with hx | hx
        · exact ⟨x, hx, e⟩
        · rw [List.mem_singleton] at hx
          subst hx
          exact absurd e.symm h
theorem keysM_length {α : Type} (f : α → ByteArray) (l : List α) (k : Nat) (hk : k ≤ l.length) : (keysM f (l.take k)).length ≤ k ∧ ((keysM f (l.take k)).length = k ↔ ∀ i (hi : i < k) j (hj : j < i), f (l[j]'(by omega)) ≠ f (l[i]'(by omega))) := by
  induction k with
  | zero => exact ⟨by simp [keysM], by simp [keysM]⟩
  | succ k ih =>
    obtain ⟨h1, h2⟩ := ih (by omega)
    have hfind := keysM_find f (f l[k]) l k (by omega)
    have hlen := length_set (f l[k]) true (keysM f (l.take k))
    rw [List.take_succ_eq_append_getElem (by omega), keysM_snoc, hlen]
    by_cases hs : (findM (f l[k]) (keysM f (l.take k))).isSome = true
    · rw [if_pos hs]
      refine ⟨by omega, ⟨fun e => by omega, fun e => ?_⟩⟩
      obtain ⟨x, hx, he⟩ := hfind.1 hs
      obtain ⟨j, hj, rfl⟩ := List.mem_take_iff_getElem.1 hx
      exact absurd he (e k (by omega) j (by omega))
    · rw [if_neg hs]
      refine ⟨by omega, ⟨fun e i hi j hj => ?_, fun e => ?_⟩⟩
      · by_cases hik : i < k
        · exact h2.1 (by omega) i hik j hj
        · obtain rfl : i = k := by omega
          intro he
          exact hs (hfind.2 ⟨l[j]'(by omega), List.mem_take_iff_getElem.2 ⟨j, by omega, rfl⟩, he⟩)
      · have := h2.2 (fun i hi j hj => e i (by omega) j hj)
        omega
theorem keysM_twice {α : Type} (f : α → ByteArray) (l : List α) : decide ((((keysM f l).length : Nat) : Int) < ((l.length : Nat) : Int)) = !pairsB (fun _ => true) (fun x y => !sameName (f x) (f y)) l := by
  obtain ⟨h1, h2⟩ := keysM_length f l l.length (Nat.le_refl _)
  rw [List.take_length] at h1 h2
  have h3 : (keysM f l).length = l.length ↔ pairsB (fun _ => true) (fun x y => !sameName (f x) (f y)) l = true := by
    rw [h2, pairs_iff]
    constructor
    · intro e i hi
      refine ⟨rfl, fun k hk => ?_⟩
      rw [Bool.not_eq_true', Bool.eq_false_iff, Ne, sameName_iff]
      exact e i hi k hk
    · intro e i hi j hj
      have := (e i hi).2 j hj
      rw [Bool.not_eq_true', Bool.eq_false_iff, Ne, sameName_iff] at this
      exact this
  cases hp : pairsB (fun _ => true) (fun x y => !sameName (f x) (f y)) l with
  | true => exact decide_eq_false (by have := h3.2 hp; omega)
  | false => exact decide_eq_true (by
      have : (keysM f l).length ≠ l.length := fun e => by rw [h3.1 e] at hp; cases hp
      omega)
theorem f_batten_twice_api_Item (l : List TItem) (hl : l.length ≤ 2147483648) (name : TItem → Option ByteArray) (f : TItem → ByteArray) (hf : ∀ x ∈ l, name x = some (f x) ∧ (f x).size ≤ 2147483648) :
    F_batten_twice_api_Item l name = some (!pairsB (fun _ => true) (fun x y => !sameName (f x) (f y)) l) := by
  unfold F_batten_twice_api_Item
  obtain ⟨r, h1, h2⟩ := iter_inv (F := fun s5 : Int × List (ByteArray × Bool) × Unit => (bif (decide (s5.1 < ((l.length : Nat) : Int))) then (idx l s5.1).bind fun x6 => (name x6).bind fun r7 => (if r7.size ≤ 2147483648 ∧ s5.2.1.length ≤ 2147483648 then some (.inl ((IntKind.i64.wrap (s5.1 + 1)), (setM r7 true s5.2.1), ())) else none) else some (.inr (s5.2.1, ())) : Option ((Int × List (ByteArray × Bool) × Unit) ⊕ (List (ByteArray × Bool) × Unit))))
    (Q := fun r => r = (keysM f l, ())) (fun k s => s = ((k : Int), keysM f (l.take k), ())) l.length (by unfold big; omega) (fun k s hk hs => by
      subst hs
      by_cases hlt : k < l.length
      · have hd : decide ((k : Int) < ((l.length : Nat) : Int)) = true := decide_eq_true (by omega)
        obtain ⟨g1, g2⟩ := hf l[k] (List.getElem_mem hlt)
        have g3 := (keysM_length f l k (by omega)).1
        simp only [hd, cond_true, idx_at hlt, Option.bind_some, g1]
        rw [if_pos ⟨g2, by omega⟩, wrap64 (by omega) (by omega)]
        exact .inl ⟨_, rfl, hlt, by rw [List.take_succ_eq_append_getElem hlt, keysM_snoc]; rfl⟩
      · obtain rfl : k = l.length := by omega
        have hd : decide (((l.length : Nat) : Int) < ((l.length : Nat) : Int)) = false := decide_eq_false (by omega)
        simp only [hd, cond_false]
        exact .inr ⟨_, rfl, by rw [List.take_length]⟩) (s := (0, ([] : List (ByteArray × Bool)), ())) rfl
  rw [h1, h2, Option.bind_some, keysM_twice]
theorem f_batten_twice_api_Brick (l : List TBrick) (hl : l.length ≤ 2147483648) (name : TBrick → Option ByteArray) (f : TBrick → ByteArray) (hf : ∀ x ∈ l, name x = some (f x) ∧ (f x).size ≤ 2147483648) :
    F_batten_twice_api_Brick l name = some (!pairsB (fun _ => true) (fun x y => !sameName (f x) (f y)) l) := by
  unfold F_batten_twice_api_Brick
  obtain ⟨r, h1, h2⟩ := iter_inv (F := fun s5 : Int × List (ByteArray × Bool) × Unit => (bif (decide (s5.1 < ((l.length : Nat) : Int))) then (idx l s5.1).bind fun x6 => (name x6).bind fun r7 => (if r7.size ≤ 2147483648 ∧ s5.2.1.length ≤ 2147483648 then some (.inl ((IntKind.i64.wrap (s5.1 + 1)), (setM r7 true s5.2.1), ())) else none) else some (.inr (s5.2.1, ())) : Option ((Int × List (ByteArray × Bool) × Unit) ⊕ (List (ByteArray × Bool) × Unit))))
    (Q := fun r => r = (keysM f l, ())) (fun k s => s = ((k : Int), keysM f (l.take k), ())) l.length (by unfold big; omega) (fun k s hk hs => by
      subst hs
      by_cases hlt : k < l.length
      · have hd : decide ((k : Int) < ((l.length : Nat) : Int)) = true := decide_eq_true (by omega)
        obtain ⟨g1, g2⟩ := hf l[k] (List.getElem_mem hlt)
        have g3 := (keysM_length f l k (by omega)).1
        simp only [hd, cond_true, idx_at hlt, Option.bind_some, g1]
        rw [if_pos ⟨g2, by omega⟩, wrap64 (by omega) (by omega)]
        exact .inl ⟨_, rfl, hlt, by rw [List.take_succ_eq_append_getElem hlt, keysM_snoc]; rfl⟩
      · obtain rfl : k = l.length := by omega
        have hd : decide (((l.length : Nat) : Int) < ((l.length : Nat) : Int)) = false := decide_eq_false (by omega)
        simp only [hd, cond_false]
        exact .inr ⟨_, rfl, by rw [List.take_length]⟩) (s := (0, ([] : List (ByteArray × Bool)), ())) rfl
  rw [h1, h2, Option.bind_some, keysM_twice]
end Go.Proofs.YtkagmdfhodbfmaaGreat

/- batten.items: what the items' check comes to. -/
namespace Go.Proofs.YtkagmdfhodbfmaaGreat

theorem inside_sum {x : TItem} {len : Int} (h : insideB x len = true) (hl : len ≤ 4611686018427387904) : -4611686018427387904 ≤ x.at_ + x.width ∧ x.at_ + x.width ≤ 4611686018427387904 := by
  simp only [insideB, betweenB, Bool.and_eq_true, decide_eq_true_iff] at h
  omega
theorem f_items (l : List TItem) (len : Int) (hl : l.length ≤ 2147483648) (hn : ∀ x ∈ l, x.name.size ≤ 2147483648) (h1 : -4611686018427387904 ≤ len) (h2 : len ≤ 4611686018427387904) : F_batten_items l len = some (itemsB l len) := by
  unfold F_batten_items itemsB
  rw [f_batten_twice_api_Item l hl (fun z3 => F_batten_items_1 z3) (fun x => x.name) (fun x hx => ⟨rfl, hn x hx⟩)]
  by_cases h40 : l.length ≤ 40
  · have e1 : decide (((l.length : Nat) : Int) > 40) = false := decide_eq_false (by omega)
    rw [e1, decide_eq_true h40]
    cases hp : pairsB (fun _ => true) (fun x y : TItem => !sameName x.name y.name) l with
    | false => simp only [cond_false, Option.bind_some, Bool.not_false, cond_true, Bool.and_false]
    | true =>
      simp only [cond_false, Option.bind_some, Bool.not_true, Bool.and_true, Bool.true_and]
      obtain ⟨r, g1, g2⟩ := iter_inv (F := fun s16 : Int × Unit => (bif (decide (s16.1 < ((l.length : Nat) : Int))) then (idx l s16.1).bind fun x17 => ((F_batten_alone x17).bind fun r18 => (bif (!r18) then some (true, ()) else (F_batten_inside x17 len).bind fun r19 => (bif (!r19) then some (true, ()) else (if 0 ≤ (0 : Int) ∧ (0 : Int) ≤ s16.1 ∧ s16.1 ≤ ((l.length : Nat) : Int) then (F_slices_ContainsFunc_api_Item ((l.take (Int.toNat s16.1)).drop (Int.toNat (0 : Int))) (fun z20 => F_batten_items_2 z20 x17)).bind fun r21 => some (r21, ()) else none))) : Option (Bool × Unit)).bind fun y22 => (bif y22.1 then some (.inr (.inl (false, ()))) else some (.inl ((IntKind.i64.wrap (s16.1 + 1)), ()))) else some (.inr (.inr ((())))) : Option ((Int × Unit) ⊕ ((Bool × Unit) ⊕ Unit))))
        (Q := fun r => r = (bif pairsB (fun x => aloneB x && insideB x len) apartB l then .inr () else .inl (false, ()))) (fun k s => s = ((k : Int), ()) ∧ okTo (fun x => aloneB x && insideB x len) apartB l k) l.length (by unfold big; omega) (fun k s hk hs => by
          obtain ⟨rfl, hok⟩ := hs
          by_cases hlt : k < l.length
          · have hd : decide ((k : Int) < ((l.length : Nat) : Int)) = true := decide_eq_true (by omega)
            have hna := hn l[k] (List.getElem_mem hlt)
            simp only [hd, cond_true, idx_at hlt, Option.bind_some, f_alone l[k] (by omega), f_inside l[k] len h1 h2]
            have hat := okAt_eq (one := fun x => aloneB x && insideB x len) (two := apartB) hlt
            have hno : ∀ b, okAt (fun x => aloneB x && insideB x len) apartB l k = false → b = (Sum.inl (false, ()) : (Bool × Unit) ⊕ Unit) → b = (bif pairsB (fun x => aloneB x && insideB x len) apartB l then .inr () else .inl (false, ())) := fun b h hb => by rw [pairs_no hlt h, hb]; rfl
            cases ha : aloneB l[k] with
            | false => exact .inr ⟨_, rfl, hno _ (by rw [hat, ha]; rfl) rfl⟩
            | true =>
              cases hi : insideB l[k] len with
              | false => exact .inr ⟨_, rfl, hno _ (by rw [hat, ha, hi]; rfl) rfl⟩
              | true =>
                simp only [Bool.not_true, cond_false]
                rw [if_pos ⟨by omega, by omega, by omega⟩, Int.toNat_natCast]
                have hxs := inside_sum hi h2
                rw [f_slices_ContainsFunc_api_Item ((l.take k).drop (Int.toNat 0)) (by simp; omega) _ (fun z => !apartB l[k] z) (fun z hz => by
                  have hz' : z ∈ l.take k := by simpa using hz
                  obtain ⟨j, hj, rfl⟩ := List.mem_take_iff_getElem.1 hz'
                  have hjk : j < k := by omega
                  have := hok j hjk
                  rw [okAt_eq (by omega)] at this
                  simp only [Bool.and_eq_true] at this
                  unfold F_batten_items_2
                  rw [f_apart _ _ hxs (inside_sum this.1.2 h2)]
                  rfl)]
                have hdr : (l.take k).drop (Int.toNat 0) = l.take k := by simp
                rw [hdr]
                simp only [Option.bind_some]
                have hall : ((l.take k).any fun z => !apartB l[k] z) = !(l.take k).all fun y => apartB y l[k] := by
                  rw [List.not_all_eq_any_not]
                  congr 1
                  funext z
                  rw [apart_comm]
                rw [hall]
                cases hq : (l.take k).all fun y => apartB y l[k] with
                | false => exact .inr ⟨_, rfl, hno _ (by rw [hat, ha, hi, hq]; rfl) rfl⟩
                | true =>
                  refine .inl ⟨((k : Int) + 1, ()), ?_, hlt, rfl, okTo_succ hok (by rw [hat, ha, hi, hq]; rfl)⟩
                  simp only [Bool.not_true, cond_false]
                  rw [wrap64 (by omega) (by omega)]
          · obtain rfl : k = l.length := by omega
            have hd : decide (((l.length : Nat) : Int) < ((l.length : Nat) : Int)) = false := decide_eq_false (by omega)
            simp only [hd, cond_false]
            exact .inr ⟨_, rfl, by rw [pairs_yes hok]; rfl⟩) (s := (0, ())) ⟨rfl, okTo_zero⟩
      rw [g1, g2]
      cases pairsB (fun x => aloneB x && insideB x len) apartB l <;> rfl
  · have e1 : decide (((l.length : Nat) : Int) > 40) = true := decide_eq_true (by omega)
    rw [e1, decide_eq_false h40]
    rfl
end Go.Proofs.YtkagmdfhodbfmaaGreat

/- batten.bricks: what the bricks' check comes to. -/
namespace Go.Proofs.YtkagmdfhodbfmaaGreat

theorem f_bricks (l : List TBrick) (hl : l.length ≤ 2147483648) (hn : ∀ x ∈ l, x.name.size ≤ 2147483648) : F_batten_bricks l = some (bricksB l) := by
  unfold F_batten_bricks bricksB
  rw [f_batten_twice_api_Brick l hl (fun z3 => F_batten_bricks_1 z3) (fun x => x.name) (fun x hx => ⟨rfl, hn x hx⟩), pairs_split (one := brickB)]
  by_cases h8 : l.length ≤ 8
  · have e1 : decide (((l.length : Nat) : Int) > 8) = false := decide_eq_false (by omega)
    rw [e1, decide_eq_true h8]
    cases hp : pairsB (fun _ => true) (fun x y : TBrick => !sameName x.name y.name) l with
    | false => simp only [cond_false, Option.bind_some, Bool.not_false, cond_true, Bool.and_false, Bool.false_and]
    | true =>
      simp only [cond_false, Option.bind_some, Bool.not_true, Bool.and_true, Bool.true_and]
      obtain ⟨r, g1, g2⟩ := iter_inv (F := fun s14 : Int × Int × Unit => (bif (decide (s14.2.1 < ((l.length : Nat) : Int))) then (idx l s14.2.1).bind fun x15 => ((F_decimal_IsName x15.name).bind fun r16 => (bif (!r16) then some (true, ()) else (F_batten_between x15.weight 1 1048576).bind fun r17 => (bif (!r17) then some (true, ()) else (F_batten_between x15.count 0 60).bind fun r18 => some ((!r18), ()))) : Option (Bool × Unit)).bind fun y19 => (bif y19.1 then some (.inr (.inl (false, ()))) else some (.inl ((IntKind.i64.wrap (s14.1 + x15.count)), (IntKind.i64.wrap (s14.2.1 + 1)), ()))) else some (.inr (.inr ((s14.1, ())))) : Option ((Int × Int × Unit) ⊕ ((Bool × Unit) ⊕ (Int × Unit)))))
        (Q := fun r => r = (bif l.all brickB then .inr (sumTo (·.count) l l.length, ()) else .inl (false, ()))) (fun k s => s = (sumTo (·.count) l k, (k : Int), ()) ∧ (l.take k).all brickB = true) l.length (by unfold big; omega) (fun k s hk hs => by
          obtain ⟨rfl, hok⟩ := hs
          by_cases hlt : k < l.length
          · have hd : decide ((k : Int) < ((l.length : Nat) : Int)) = true := decide_eq_true (by omega)
            have hna := hn l[k] (List.getElem_mem hlt)
            simp only [hd, cond_true, idx_at hlt, Option.bind_some, f_name l[k].name (by omega), f_between]
            cases hb : brickB l[k] with
            | false =>
              refine .inr ⟨.inl (false, ()), ?_, by rw [all_no l brickB k hlt hb]; rfl⟩
              unfold brickB at hb
              cases ha : nameB l[k].name <;> cases hc : betweenB l[k].weight 1 1048576 <;> cases hd' : betweenB l[k].count 0 60 <;> first | rfl | (rw [ha, hc, hd'] at hb; cases hb)
            | true =>
              have hg := GoodBrick.of hb
              have hsum := sumTo_bound (·.count) (l.take k) 60 (fun x hx => by
                have := GoodBrick.of (List.all_eq_true.1 hok x hx)
                exact ⟨this.c0, this.c1⟩) k (by simp; omega)
              have hsk : sumTo (·.count) (l.take k) k = sumTo (·.count) l k := by unfold sumTo; rw [List.take_take, Nat.min_self]
              rw [hsk] at hsum
              refine .inl ⟨(sumTo (·.count) l k + l[k].count, (k : Int) + 1, ()), ?_, hlt, by rw [sumTo_succ _ _ _ hlt]; rfl, all_take_succ l brickB k hlt hok hb⟩
              have hc0 := hg.c0
              have hc1 := hg.c1
              unfold brickB at hb
              simp only [Bool.and_eq_true] at hb
              rw [hb.1, hb.2.1, hb.2.2, wrap64 (by omega) (by omega), wrap64 (by omega) (by omega)]
              rfl
          · obtain rfl : k = l.length := by omega
            have hd : decide (((l.length : Nat) : Int) < ((l.length : Nat) : Int)) = false := decide_eq_false (by omega)
            simp only [hd, cond_false]
            rw [List.take_length] at hok
            exact .inr ⟨_, rfl, by rw [hok]; rfl⟩) (s := (0, 0, ())) ⟨rfl, by simp⟩
      rw [g1, g2]
      cases l.all brickB <;> rfl
  · have e1 : decide (((l.length : Nat) : Int) > 8) = true := decide_eq_true (by omega)
    rw [e1, decide_eq_false h8]
    rfl
end Go.Proofs.YtkagmdfhodbfmaaGreat

/- batten.lines: what the lines' check comes to. -/
namespace Go.Proofs.YtkagmdfhodbfmaaGreat

theorem lineAt_eq (l : List Int) (len : Int) (i : Nat) (h : i < l.length) : lineAt l len i = (betweenB l[i] 0 len && (decide (i = 0) || decide (l[i - 1]'(by omega) < l[i]))) := by
  unfold lineAt
  rw [List.getElem?_eq_getElem h, List.getElem?_eq_getElem (show i - 1 < l.length by omega)]
  rfl
theorem linesB_iff (l : List Int) (len : Int) : linesB l len = true ↔ 2 ≤ l.length ∧ l.length ≤ 10 ∧ ∀ i (h : i < l.length), 0 ≤ l[i] ∧ l[i] ≤ len ∧ (i = 0 ∨ l[i - 1]'(by omega) < l[i]) := by
  unfold linesB
  rw [Bool.and_eq_true, decide_eq_true_iff, List.all_eq_true, and_assoc]
  refine and_congr Iff.rfl (and_congr Iff.rfl ⟨fun h i hi => ?_, fun h i hi => ?_⟩)
  · have := h i (List.mem_range.2 hi)
    rw [lineAt_eq l len i hi, Bool.and_eq_true, between_iff, Bool.or_eq_true, decide_eq_true_iff, decide_eq_true_iff, and_assoc] at this
    exact this
  · rw [lineAt_eq l len i (List.mem_range.1 hi), Bool.and_eq_true, between_iff, Bool.or_eq_true, decide_eq_true_iff, decide_eq_true_iff, and_assoc]
    exact h i (List.mem_range.1 hi)
theorem asc_mono (l : List Int) (h : ∀ i (h : i < l.length), 1 ≤ i → l[i - 1]'(by omega) < l[i]) : ∀ j (hj : j < l.length) i (hi : i ≤ j), l[i]'(by omega) ≤ l[j] := by
  intro j
  induction j with
  | zero =>
    intro hj i hi
    obtain rfl : i = 0 := by omega
    exact Int.le_refl _
  | succ j ih =>
    intro hj i hi
    rcases Nat.lt_or_ge i (j + 1) with h1 | h1
    · have h2 := ih (by omega) i (by omega)
      have h3 := h (j + 1) hj (by omega)
      simp only [Nat.add_sub_cancel] at h3
      omega
    · obtain rfl : i = j + 1 := by omega
      exact Int.le_refl _
theorem lines_yes (l : List Int) (len : Int) (h2 : 2 ≤ l.length) (h10 : l.length ≤ 10) (h0 : 0 ≤ l[0]) (hl : l[l.length - 1] ≤ len) (h : ∀ i (h : i < l.length), 1 ≤ i → l[i - 1]'(by omega) < l[i]) : linesB l len = true := by
  rw [linesB_iff]
  refine ⟨h2, h10, fun i hi => ?_⟩
  have m := asc_mono l h
  have m1 := m i hi 0 (by omega)
  have m2 := m (l.length - 1) (by omega) i (by omega)
  refine ⟨by omega, by omega, ?_⟩
  rcases Nat.eq_zero_or_pos i with h1 | h1
  · exact Or.inl h1
  · exact Or.inr (h i hi h1)
theorem lines_no_len (l : List Int) (len : Int) (h : ¬ (2 ≤ l.length ∧ l.length ≤ 10)) : linesB l len = false := by
  rw [Bool.eq_false_iff]; intro e; rw [linesB_iff] at e; exact h ⟨e.1, e.2.1⟩
theorem lines_no_at (l : List Int) (len : Int) (i : Nat) (hi : i < l.length) (h : l[i] < 0 ∨ len < l[i] ∨ (i ≠ 0 ∧ l[i] ≤ l[i - 1]'(by omega))) : linesB l len = false := by
  rw [Bool.eq_false_iff]; intro e; rw [linesB_iff] at e
  have := e.2.2 i hi
  omega

def AscTo (l : List Int) (k : Nat) : Prop := ∀ i (h : i < l.length), 1 ≤ i → i < k → l[i - 1]'(by omega) < l[i]
theorem AscTo.succ {l : List Int} {k : Nat} (h : AscTo l k) (hk : k < l.length) (h1 : l[k - 1]'(by omega) < l[k]) : AscTo l (k + 1) := fun i hi hi1 hik => by
  rcases Nat.lt_or_ge i k with h2 | h2
  · exact h i hi hi1 h2
  · obtain rfl : i = k := by omega
    exact h1
theorem f_lines (l : List Int) (len : Int) (hl : l.length ≤ 2147483648) : F_batten_lines l len = some (linesB l len) := by
  unfold F_batten_lines
  rw [f_between, Option.bind_some]
  by_cases hb : 2 ≤ l.length ∧ l.length ≤ 10
  · have e1 : betweenB ((l.length : Nat) : Int) 2 10 = true := (between_iff _ _ _).2 (by omega)
    have i0 : idx l 0 = some (l[0]'(by omega)) := idx_at (k := 0) (by omega)
    have i1 : idx l (IntKind.i64.wrap (((l.length : Nat) : Int) - 1)) = some (l[l.length - 1]'(by omega)) := by
      rw [wrap64 (by omega) (by omega), show ((l.length : Nat) : Int) - 1 = ((l.length - 1 : Nat) : Int) from by omega]
      exact idx_at (by omega)
    rw [e1, i0, i1]
    simp only [Bool.not_true, cond_false, Option.bind_some]
    by_cases h0 : l[0]'(by omega) < 0
    · rw [decide_eq_true h0, lines_no_at l len 0 (by omega) (.inl h0)]; rfl
    rw [decide_eq_false h0]
    by_cases h1 : l[l.length - 1]'(by omega) > len
    · rw [decide_eq_true h1, lines_no_at l len (l.length - 1) (by omega) (.inr (.inl h1))]; rfl
    rw [decide_eq_false h1]
    simp only [cond_false, Option.bind_some]
    obtain ⟨r, g1, g2⟩ := iter_inv (F := fun s10 : Int × Unit => (bif (decide (s10.1 < ((l.length : Nat) : Int))) then (idx l s10.1).bind fun x11 => (idx l (IntKind.i64.wrap (s10.1 - 1))).bind fun x12 => (bif (decide (x11 ≤ x12)) then some (.inr (.inl (false, ()))) else some (.inl ((IntKind.i64.wrap (s10.1 + 1)), ()))) else some (.inr (.inr ((())))) : Option ((Int × Unit) ⊕ ((Bool × Unit) ⊕ Unit))))
      (Q := fun r => r = (bif linesB l len then .inr () else .inl (false, ()))) (fun k s => s = (((k + 1 : Nat) : Int), ()) ∧ AscTo l (k + 1)) (l.length - 1) (by unfold big; omega) (fun k s hk hs => by
        obtain ⟨rfl, ha⟩ := hs
        by_cases hlt : k + 1 < l.length
        · have hd : decide (((k + 1 : Nat) : Int) < ((l.length : Nat) : Int)) = true := decide_eq_true (by omega)
          have i2 : idx l (IntKind.i64.wrap (((k + 1 : Nat) : Int) - 1)) = some (l[k]'(by omega)) := by
            rw [wrap64 (by omega) (by omega), show ((k + 1 : Nat) : Int) - 1 = (k : Int) from by omega]
            exact idx_at (by omega)
          simp only [hd, cond_true, idx_at hlt, i2, Option.bind_some]
          by_cases hle : l[k + 1] ≤ l[k]'(by omega)
          · rw [decide_eq_true hle]
            exact .inr ⟨_, rfl, by rw [lines_no_at l len (k + 1) hlt (.inr (.inr ⟨by omega, by simpa using hle⟩))]; rfl⟩
          · rw [decide_eq_false hle]
            refine .inl ⟨(((k + 1 + 1 : Nat) : Int), ()), ?_, by omega, rfl, ha.succ hlt (by simp only [Nat.add_sub_cancel]; omega)⟩
            simp only [cond_false]
            rw [wrap64 (by omega) (by omega)]
            rfl
        · have hk1 : k + 1 = l.length := by omega
          have hd : decide (((k + 1 : Nat) : Int) < ((l.length : Nat) : Int)) = false := decide_eq_false (by omega)
          simp only [hd, cond_false]
          exact .inr ⟨_, rfl, by rw [lines_yes l len hb.1 hb.2 (by omega) (by omega) (fun i hi h1 => ha i hi h1 (by omega))]; rfl⟩) (s := (1, ())) ⟨rfl, fun i hi h1 h2 => by omega⟩
    rw [g1, g2]
    cases linesB l len <;> rfl
  · have e1 : betweenB ((l.length : Nat) : Int) 2 10 = false := by
      rw [Bool.eq_false_iff]
      intro e
      rw [between_iff] at e
      omega
    rw [e1, lines_no_len l len hb]
    rfl
end Go.Proofs.YtkagmdfhodbfmaaGreat

/- batten.Valid: a set is valid exactly if validB says so. -/
namespace Go.Proofs.YtkagmdfhodbfmaaGreat

/-- What is needed of a set's sizes. -/
structure Fits (s : TSet) : Prop where
  name : s.name.size ≤ 2147483648
  lines : s.lines.length ≤ 2147483648
  items : s.items.length ≤ 2147483648
  bricks : s.bricks.length ≤ 2147483648
  inames : ∀ x ∈ s.items, x.name.size ≤ 2147483648
  bnames : ∀ x ∈ s.bricks, x.name.size ≤ 2147483648
theorem f_valid (s : TSet) (h : Fits s) : F_batten_Valid s = some (validB s) := by
  unfold F_batten_Valid validB headB weightsB
  rw [f_name s.name (by have := h.name; omega), f_lines s.lines s.length h.lines, f_bricks s.bricks h.bricks h.bnames]
  simp only [f_between, Option.bind_some]
  cases nameB s.name <;> try rfl
  cases betweenB s.depth 0 1048576 <;> try rfl
  cases decide (0 ≤ s.low) <;> try rfl
  cases decide (s.low ≤ s.high) <;> try rfl
  cases decide (s.high ≤ 1048576) <;> try rfl
  cases hl : betweenB s.length 1000 1048576 <;> try rfl
  rw [between_iff] at hl
  have hm : (s.length.tmod 1000 == 0) = decide (s.length % 1000 = 0) := by
    rw [Int.tmod_eq_emod_of_nonneg (by omega)]
    by_cases hz : s.length % 1000 = 0
    · rw [decide_eq_true hz, beq_iff_eq.2 hz]
    · rw [decide_eq_false hz, beq_eq_false_iff_ne.2 hz]
  rw [hm, f_items s.items s.length h.items h.inames (by omega) (by omega)]
  simp only [cond_true, Option.bind_some]
  cases decide (s.length % 1000 = 0) <;> try rfl
  cases linesB s.lines s.length <;> try rfl
  cases betweenB s.pipe 0 1048576 <;> try rfl
  cases betweenB s.arbor 0 1048576 <;> try rfl
  cases betweenB s.purchase 1 2 <;> try rfl
  cases betweenB s.most 1 67108864 <;> try rfl
  cases betweenB s.brake 0 67108864 <;> try rfl
  cases itemsB s.items s.length <;> rfl
end Go.Proofs.YtkagmdfhodbfmaaGreat

/- Weights: what is needed, what is there, the imbalance. -/
namespace Go.Proofs.YtkagmdfhodbfmaaGreat

/-- A loop that adds up. -/
theorem iter_sum {α : Type} (f : α → Int) (l : List α) (hl : l.length ≤ 2147483648) (M : Int) (hM0 : 0 ≤ M) (hM : M ≤ 1152921504606846976) (a : Int) (ha : 0 ≤ a ∧ a ≤ 1152921504606846976) (hb : ∀ k, k ≤ l.length → 0 ≤ sumTo f l k ∧ sumTo f l k ≤ M) {F : Int × Int × Unit → Option ((Int × Int × Unit) ⊕ (Int × Unit))}
    (hin : ∀ (k : Nat) (hk : k < l.length) (z : Int), z = a + sumTo f l k → F (z, (k : Int), ()) = some (.inl (IntKind.i64.wrap (z + f l[k]), (k : Int) + 1, ()))) (hout : ∀ z : Int, F (z, (l.length : Int), ()) = some (.inr (z, ()))) :
    iterF F big (a, 0, ()) = some (a + sumTo f l l.length, ()) := by
  obtain ⟨r, h1, h2⟩ := iter_inv (F := F) (Q := fun r => r = (a + sumTo f l l.length, ())) (fun k s => s = (a + sumTo f l k, (k : Int), ())) l.length (by unfold big; omega) (fun k s hk hs => by
    subst hs
    by_cases hlt : k < l.length
    · have h3 := hb (k + 1) (by omega)
      have h4 := hb k hk
      have e := hin k hlt _ rfl
      rw [sumTo_succ _ _ _ hlt] at h3
      rw [wrap64 (by omega) (by omega)] at e
      exact .inl ⟨_, e, hlt, by rw [sumTo_succ _ _ _ hlt, Int.add_assoc]; rfl⟩
    · obtain rfl : k = l.length := by omega
      exact .inr ⟨_, hout _, rfl⟩) (s := (a, 0, ())) (by rw [sumTo_zero]; simp)
  rw [h1, h2]
theorem f_pipe (s : TSet) (h : Good s) : F_batten_pipe s = some (pipeI s) := by
  unfold F_batten_pipe
  have hb := pipe_bound h
  have h0 := h.n0
  have h1 := h.n1
  have e : s.length.tdiv 1000 = s.length / 1000 := Int.tdiv_eq_ediv_of_nonneg (by omega)
  rw [e, wrap64 (n := s.length / 1000) (by omega) (by omega)]
  show some (IntKind.i64.wrap (pipeI s)) = _
  rw [wrap64 (by omega) (by omega)]
theorem f_weight (s : TSet) (h : Good s) : F_batten_weight s = some (weightI s) := by
  unfold F_batten_weight weightI
  rw [f_pipe s h, Option.bind_some]
  have hb := pipe_bound h
  have hni := h.ni
  rw [iter_sum (·.weight) s.items (by omega) 41943040 (by decide) (by decide) (pipeI s) (by omega) (fun k hk => weights_bound h k hk) ?hin ?hout]
  case hin =>
    intro k hk z hz
    have hd : decide ((k : Int) < ((s.items.length : Nat) : Int)) = true := decide_eq_true (by omega)
    simp only [hd, cond_true, idx_at hk, Option.bind_some]
    rw [wrap64 (n := (k : Int) + 1) (by omega) (by omega)]
  case hout =>
    intro z
    have hd : decide (((s.items.length : Nat) : Int) < ((s.items.length : Nat) : Int)) = false := decide_eq_false (by omega)
    simp only [hd, cond_false]
  rfl
theorem weight_bound {s : TSet} (h : Good s) : 0 ≤ weightI s ∧ weightI s ≤ 1099553570816 := by
  have h1 := pipe_bound h
  have h2 := weights_bound h s.items.length (Nat.le_refl _)
  unfold weightI
  omega
end Go.Proofs.YtkagmdfhodbfmaaGreat

/- Loops over lists as recursion over the list; small sets; counts. -/
namespace Go.Proofs.YtkagmdfhodbfmaaGreat

/-- A loop over a list: it goes on with a new state, or stops. -/
def runL {α τ ρ : Type} (step : τ → α → τ ⊕ ρ) (fin : τ → ρ) : List α → τ → ρ
  | [], t => fin t
  | x :: l, t => match step t x with
    | .inl t => runL step fin l t
    | .inr r => r
theorem iter_run {σ τ ρ α : Type} {F : σ → Option (σ ⊕ ρ)} (enc : τ → Int → σ) (l : List α) (hl : l.length < 9223372036854775807) (step : τ → α → τ ⊕ ρ) (fin : τ → ρ) (I : Nat → τ → Prop)
    (hin : ∀ (k : Nat) (h : k < l.length) (t : τ), I k t → F (enc t (k : Int)) = some (match step t l[k] with | .inl t' => .inl (enc t' ((k : Int) + 1)) | .inr r => .inr r) ∧ ∀ t', step t l[k] = .inl t' → I (k + 1) t')
    (hout : ∀ t : τ, I l.length t → F (enc t (l.length : Int)) = some (.inr (fin t))) (t0 : τ) (h0 : I 0 t0) : iterF F big (enc t0 0) = some (runL step fin l t0) := by
  have hb : l.length < big := by unfold big; omega
  obtain ⟨r, h1, h2⟩ := iter_inv (F := F) (Q := fun r => r = runL step fin l t0) (fun k s => ∃ t, s = enc t (k : Int) ∧ I k t ∧ runL step fin l t0 = runL step fin (l.drop k) t) l.length hb (fun k s hk hi => by
    obtain ⟨t, rfl, hI, hr⟩ := hi
    by_cases hlt : k < l.length
    · obtain ⟨h, hn⟩ := hin k hlt t hI
      rw [List.drop_eq_getElem_cons hlt] at hr
      cases hs : step t l[k] with
      | inl t' =>
        rw [hs] at h
        refine .inl ⟨_, h, hlt, t', rfl, hn t' hs, ?_⟩
        rw [hr]; simp only [runL, hs]
      | inr r =>
        rw [hs] at h
        refine .inr ⟨r, h, ?_⟩
        rw [hr]; simp only [runL, hs]
    · obtain rfl : k = l.length := by omega
      refine .inr ⟨_, hout t hI, ?_⟩
      rw [hr, List.drop_length]; rfl) (s := enc t0 0) ⟨t0, rfl, h0, by rw [List.drop_zero]⟩
  rw [h1, h2]
/-- A loop over a list that only looks for a first element that says no. -/
theorem iter_no {α ρ : Type} {F : Int × Unit → Option ((Int × Unit) ⊕ ρ)} (l : List α) (hl : l.length < 9223372036854775807) (p : α → Bool) (a d : ρ)
    (hin : ∀ (k : Nat) (h : k < l.length), F ((k : Int), ()) = some (bif p l[k] then .inl ((k : Int) + 1, ()) else .inr a)) (hout : F ((l.length : Int), ()) = some (.inr d)) :
    iterF F big (0, ()) = some (bif l.all p then d else a) := by
  have h := iter_run (F := F) (fun (_ : Unit) k => (k, ())) l hl (fun _ x => bif p x then .inl () else .inr a) (fun _ => d) (fun _ _ => True) (fun k hk t _ => ⟨by
    rw [hin k hk]; cases p l[k] <;> rfl, fun _ _ => trivial⟩) (fun _ _ => hout) () trivial
  rw [h]
  congr 1
  clear h hin hout hl
  induction l with
  | nil => rfl
  | cons x l ih =>
    unfold runL
    rw [List.all_cons]
    cases p x with
    | true => simpa using ih
    | false => rfl
theorem lt_yes {k n : Nat} (h : k < n) : decide ((k : Int) < ((n : Nat) : Int)) = true := decide_eq_true (by omega)
theorem lt_no (n : Nat) : decide (((n : Nat) : Int) < ((n : Nat) : Int)) = false := decide_eq_false (by omega)

def smallH (s : TSet) (most : Int) : Bool := decide (s.name.size ≤ 60 ∧ s.lines.length ≤ 12 ∧ ((s.items.length : Int) ≤ most ∨ 40 < s.items.length) ∧ s.items.length ≤ 45 ∧ s.bricks.length ≤ 10)
def smallB (s : TSet) (most : Int) : Bool := smallH s most && (s.items.all (fun x => decide (x.name.size ≤ 60)) && s.bricks.all fun x => decide (x.name.size ≤ 60))
theorem f_small (s : TSet) (most : Int) : F_ref21_Small s most = some (smallB s most) := by
  unfold F_ref21_Small smallB
  by_cases h1 : s.name.size ≤ 60
  case neg =>
    have : decide (((s.name.size : Nat) : Int) > 60) = true := decide_eq_true (by omega)
    have e : smallH s most = false := decide_eq_false (by omega)
    rw [this, e]; rfl
  have e1 : decide (((s.name.size : Nat) : Int) > 60) = false := decide_eq_false (by omega)
  by_cases h2 : s.lines.length ≤ 12
  case neg =>
    have : decide (((s.lines.length : Nat) : Int) > 12) = true := decide_eq_true (by omega)
    have e : smallH s most = false := decide_eq_false (by omega)
    rw [e1, this, e]; rfl
  have e2 : decide (((s.lines.length : Nat) : Int) > 12) = false := decide_eq_false (by omega)
  rw [e1, e2]
  have hand : ∀ (a : Option (Bool × Unit)) (b : Bool), a = some (!b, ()) → ∀ (K : Bool × Unit → Option Bool), a.bind K = K (!b, ()) := fun a b h K => by rw [h]; rfl
  have hcase : (bif decide (((s.items.length : Nat) : Int) > most) then (bif (decide (((s.items.length : Nat) : Int) ≤ 40)) then some (true, ()) else (bif (decide (((s.items.length : Nat) : Int) > 45)) then some (true, ()) else some ((decide (((s.bricks.length : Nat) : Int) > 10)), ()))) else (bif (decide (((s.items.length : Nat) : Int) > 45)) then some (true, ()) else some ((decide (((s.bricks.length : Nat) : Int) > 10)), ())) : Option (Bool × Unit)) =
      some (!smallH s most, ()) := by
    unfold smallH
    by_cases h3 : ((s.items.length : Nat) : Int) > most <;> by_cases h4 : ((s.items.length : Nat) : Int) ≤ 40 <;> by_cases h5 : ((s.items.length : Nat) : Int) > 45 <;> by_cases h6 : ((s.bricks.length : Nat) : Int) > 10 <;>
      simp only [h3, h4, h5, h6, decide_true, decide_false, cond_true, cond_false, Option.some.injEq, Prod.mk.injEq, and_true] <;> (symm; simp only [Bool.not_eq_true', Bool.not_eq_false', decide_eq_true_eq, decide_eq_false_iff_not]; omega)
  simp only [cond_false]
  rw [hand _ _ hcase]
  cases hb : smallH s most with
  | false => rfl
  | true =>
    have hb := of_decide_eq_true hb
    simp only [Bool.not_true, cond_false, Bool.true_and]
    rw [iter_no s.items (by omega) (fun x => decide (x.name.size ≤ 60)) (.inl (false, ())) (.inr ()) ?h1 ?h2, iter_no s.bricks (by omega) (fun x => decide (x.name.size ≤ 60)) (.inl (false, ())) (.inr ()) ?h3 ?h4]
    · cases s.items.all (fun x => decide (x.name.size ≤ 60)) <;> cases s.bricks.all (fun x => decide (x.name.size ≤ 60)) <;> rfl
    case h1 =>
      intro k hk
      simp only [lt_yes hk, cond_true, idx_at hk, Option.bind_some]
      rw [wrap64 (by omega) (by omega)]
      by_cases h : s.items[k].name.size ≤ 60
      · rw [decide_eq_false (show ¬ (((s.items[k].name.size : Nat) : Int) > 60) by omega), decide_eq_true h]; rfl
      · rw [decide_eq_true (show (((s.items[k].name.size : Nat) : Int) > 60) by omega), decide_eq_false h]; rfl
    case h2 => simp only [lt_no, cond_false]
    case h3 =>
      intro k hk
      simp only [lt_yes hk, cond_true, idx_at hk, Option.bind_some]
      rw [wrap64 (by omega) (by omega)]
      by_cases h : s.bricks[k].name.size ≤ 60
      · rw [decide_eq_false (show ¬ (((s.bricks[k].name.size : Nat) : Int) > 60) by omega), decide_eq_true h]; rfl
      · rw [decide_eq_true (show (((s.bricks[k].name.size : Nat) : Int) > 60) by omega), decide_eq_false h]; rfl
    case h4 => simp only [lt_no, cond_false]
theorem small_fits {s : TSet} {most : Int} (h : smallB s most = true) : Fits s := by
  simp only [smallB, smallH, Bool.and_eq_true, decide_eq_true_eq, List.all_eq_true] at h
  obtain ⟨⟨h1, h2, _, h3, h4⟩, h5, h6⟩ := h
  exact ⟨by omega, by omega, by omega, by omega, fun x hx => by have := h5 x hx; omega, fun x hx => by have := h6 x hx; omega⟩

theorem f_clone_int (l : List Int) (h : l.length ≤ 2147483648) : F_slices_Clone_int l = some l := by unfold F_slices_Clone_int; rw [if_pos (by simpa using h)]; rfl
theorem f_clone_item (l : List TItem) (h : l.length ≤ 2147483648) : F_slices_Clone_api_Item l = some l := by unfold F_slices_Clone_api_Item; rw [if_pos (by simpa using h)]; rfl
theorem f_clone_brick (l : List TBrick) (h : l.length ≤ 2147483648) : F_slices_Clone_api_Brick l = some l := by unfold F_slices_Clone_api_Brick; rw [if_pos (by simpa using h)]; rfl
theorem f_copy (s : TSet) (h : Fits s) : F_batten_copyOf s = some s := by
  unfold F_batten_copyOf
  rw [f_clone_int _ h.lines, f_clone_item _ h.items, f_clone_brick _ h.bricks]
  rfl
end Go.Proofs.YtkagmdfhodbfmaaGreat

/- Continuous beams, plainly: weights, spans, reactions. -/
namespace Go.Proofs.YtkagmdfhodbfmaaGreat
set_option linter.unusedVariables false
set_option linter.unusedSimpArgs false

/-- A sum over a list. -/
def sumQ {α : Type} (f : α → Rat) : List α → Rat
  | [] => 0
  | x :: l => f x + sumQ f l
theorem sumQ_congr {α : Type} {f g : α → Rat} : ∀ {l : List α}, (∀ x ∈ l, f x = g x) → sumQ f l = sumQ g l
  | [], _ => rfl
  | x :: l, h => by
    simp only [sumQ]
    rw [h x List.mem_cons_self, sumQ_congr fun y hy => h y (List.mem_cons_of_mem _ hy)]
theorem sumQ_map {α β : Type} (f : β → Rat) (g : α → β) : ∀ (l : List α), sumQ f (l.map g) = sumQ (fun x => f (g x)) l
  | [] => rfl
  | x :: l => by simp only [List.map_cons, sumQ, sumQ_map f g l]
/-- A load: its place and its weight. -/
abbrev Ld := Int × Int
def turnW (L : Int) (w : List Ld) : List Ld := w.map fun x => (L - x.1, x.2)
/-- The moment of all weight to the left of a place. -/
def overQ (E : Int) (w : List Ld) (a : Int) : Rat := (E : Rat) * a * a / 2000 + sumQ (fun x => if x.1 < a then (x.2 : Rat) * (a - x.1) else 0) w
/-- The right-hand side that a span gives to one of its ends. -/
def sideQ (E : Int) (w : List Ld) (fr to : Int) (left : Bool) : Rat :=
  (E : Rat) * ((to - fr : Int) : Rat) * ((to - fr : Int) : Rat) * ((to - fr : Int) : Rat) / 4000 + sumQ (fun x => if x.1 ≤ fr ∨ to ≤ x.1 then 0 else
    (x.2 : Rat) * ((if left then x.1 - fr else to - x.1 : Int) : Rat) * (((to - fr) * (to - fr) - (if left then x.1 - fr else to - x.1) * (if left then x.1 - fr else to - x.1) : Int) : Rat) / ((to - fr : Int) : Rat)) w
/-- All weight to the left of a place. -/
def beyondQ (E : Int) (w : List Ld) (a : Int) : Rat := (E : Rat) * a / 1000 + sumQ (fun x => if x.1 < a then (x.2 : Rat) else 0) w
def atQ (w : List Ld) (a : Int) : Rat := sumQ (fun x => if x.1 = a then (x.2 : Rat) else 0) w
end Go.Proofs.YtkagmdfhodbfmaaGreat

/- Numbers of many digits: their values. beam.trimmed, beam.compared. -/
namespace Go.Proofs.YtkagmdfhodbfmaaGreat
set_option linter.unusedVariables false
set_option linter.unusedSimpArgs false

/-- The value of digits, the least one first. -/
def bv (B : Int) : List Int → Int
  | [] => 0
  | x :: l => x + B * bv B l
def dig (B : Int) (l : List Int) : Prop := ∀ x ∈ l, 0 ≤ x ∧ x < B
/-- No zero at the end. -/
def tight (l : List Int) : Prop := l.getLast? ≠ some 0
theorem bv_append (B : Int) : ∀ (a b : List Int), bv B (a ++ b) = bv B a + B ^ a.length * bv B b
  | [], b => by simp [bv]
  | x :: a, b => by
    simp only [List.cons_append, bv, bv_append B a b, List.length_cons, Int.pow_succ]
    grind
theorem bv_range {B : Int} (hB : 1 < B) : ∀ {l : List Int}, dig B l → 0 ≤ bv B l ∧ bv B l < B ^ l.length
  | [], _ => by simp [bv]
  | x :: l, h => by
    have hx := h x List.mem_cons_self
    obtain ⟨h1, h2⟩ := bv_range hB (l := l) fun y hy => h y (List.mem_cons_of_mem _ hy)
    have h3 : 0 ≤ B * bv B l := Int.mul_nonneg (by omega) h1
    have h4 : B * bv B l + B ≤ B * B ^ l.length := by
      have : bv B l + 1 ≤ B ^ l.length := h2
      have := Int.mul_le_mul_of_nonneg_left this (show 0 ≤ B by omega)
      rw [Int.mul_add, Int.mul_one] at this
      exact this
    simp only [bv, List.length_cons, Int.pow_succ]
    constructor
    · omega
    · rw [Int.mul_comm (B ^ l.length) B]; omega
/-- Nothing but the empty number is 0. -/
theorem bv_pos {B : Int} (hB : 1 < B) {l : List Int} (h : dig B l) (ht : tight l) (hne : l ≠ []) : 0 < bv B l := by
  obtain ⟨a, x, rfl⟩ : ∃ a x, l = a ++ [x] := ⟨l.dropLast, l.getLast hne, (List.dropLast_concat_getLast hne).symm⟩
  have hx := h x (by simp)
  have hx0 : x ≠ 0 := fun e => ht (by simp [e])
  have ha := (bv_range hB (l := a) fun y hy => h y (by simp [hy])).1
  rw [bv_append]
  have : 0 < B ^ a.length := Int.pow_pos (by omega)
  have h2 : bv B [x] = x := by simp [bv]
  rw [h2]
  have := Int.mul_pos this (show 0 < x by omega)
  omega
theorem bv_zero {B : Int} (hB : 1 < B) {l : List Int} (h : dig B l) (ht : tight l) : bv B l = 0 ↔ l = [] := by
  constructor
  · intro h0
    rcases Decidable.em (l = []) with e | e
    · exact e
    · have := bv_pos hB h ht e; omega
  · rintro rfl; rfl
theorem dig_take {B : Int} {l : List Int} (h : dig B l) (k : Nat) : dig B (l.take k) := fun x hx => h x (List.mem_of_mem_take hx)
theorem wrap32 (n : Int) : IntKind.u32.wrap n = n % 4294967296 := by
  simp only [IntKind.wrap, IntKind.bits, IntKind.signed, Bool.false_and, Bool.false_eq_true, if_false]
  rfl
theorem take_snoc {l : List Int} {m : Nat} (h : m < l.length) : l.take (m + 1) = l.take m ++ [l[m]] := List.take_succ_eq_append_getElem h
theorem f_trimmed {B : Int} (l : List Int) (hd : dig B l) (hl : l.length ≤ 16777216) : ∃ r, F_beam_trimmed l = some r ∧ bv B r = bv B l ∧ dig B r ∧ tight r ∧ r.length ≤ l.length := by
  unfold F_beam_trimmed
  have hb : l.length < big := by unfold big; omega
  obtain ⟨r, h1, h2⟩ := iter_inv (Q := fun r : List Int × Unit => bv B r.1 = bv B l ∧ dig B r.1 ∧ tight r.1 ∧ r.1.length ≤ l.length)
    (F := (fun s4 : List Int × Unit => ((bif (decide (((s4.1.length : Nat) : Int) > 0)) then (idx s4.1 (IntKind.i64.wrap (((s4.1.length : Nat) : Int) - 1))).bind fun x5 => some ((x5 == 0), ()) else some (false, ())) : Option (Bool × Unit)).bind fun y6 => (bif y6.1 then (if 0 ≤ (0 : Int) ∧ (0 : Int) ≤ (IntKind.i64.wrap (((s4.1.length : Nat) : Int) - 1)) ∧ (IntKind.i64.wrap (((s4.1.length : Nat) : Int) - 1)) ≤ ((s4.1.length : Nat) : Int) then some (.inl (((s4.1.take (Int.toNat (IntKind.i64.wrap (((s4.1.length : Nat) : Int) - 1)))).drop (Int.toNat (0 : Int))), ())) else none) else some (.inr (s4.1, ())))))
    (fun k s => ∃ m, m + k = l.length ∧ s = (l.take m, ()) ∧ bv B (l.take m) = bv B l) l.length hb (fun k s hk hi => by
      obtain ⟨m, hm, rfl, hv⟩ := hi
      have hlen : (l.take m).length = m := by rw [List.length_take]; omega
      simp only [hlen]
      cases m with
      | zero => exact .inr ⟨([], ()), by simp, by simpa using hv, by intro x hx; simp at hx, by simp [tight], by simp⟩
      | succ m =>
        have hml : m < l.length := by omega
        have hpos : (decide (((m + 1 : Nat) : Int) > 0)) = true := by simp
        have hw : IntKind.i64.wrap (((m + 1 : Nat) : Int) - 1) = (m : Int) := by rw [wrap64 (by omega) (by omega)]; omega
        have hsp := take_snoc hml
        have hlm : (l.take m).length = m := by rw [List.length_take]; omega
        have hix : idx (l.take (m + 1)) (m : Int) = some l[m] := by
          unfold idx
          rw [if_pos (by omega), Int.toNat_natCast, hsp, List.getElem?_append_right (by omega), hlm, Nat.sub_self]; rfl
        rw [hpos, hw, cond_true, hix]
        simp only [Option.bind_some]
        cases hz : (l[m] == 0) with
        | true =>
          have hz' := eq_of_beq hz
          refine .inl ⟨(l.take m, ()), ?_, by omega, m, by omega, rfl, ?_⟩
          · simp only [cond_true]
            rw [if_pos ⟨Int.le_refl _, by omega, by omega⟩, Int.toNat_natCast, List.take_take, Nat.min_eq_left (Nat.le_succ m)]
            rfl
          · rw [hsp, hz', bv_append] at hv
            rw [← hv]; simp [bv]
        | false =>
          refine .inr ⟨(l.take (m + 1), ()), by simp only [cond_false], hv, dig_take hd _, ?_, by show (l.take (m + 1)).length ≤ _; rw [hlen]; omega⟩
          intro ht
          rw [hsp, List.getLast?_concat] at ht
          rw [Option.some.inj ht] at hz
          cases hz) (s := (l, ())) ⟨l.length, by omega, by simp, by simp⟩
  rw [h1]
  exact ⟨r.1, rfl, h2⟩
end Go.Proofs.YtkagmdfhodbfmaaGreat

/- Numbers of many digits: beam.added. -/
namespace Go.Proofs.YtkagmdfhodbfmaaGreat
set_option linter.unusedVariables false
set_option linter.unusedSimpArgs false

theorem iter_bind {σ ρ γ : Type} {F : σ → Option (σ ⊕ ρ)} {K : ρ → Option γ} {Q : ρ → Prop} {P : γ → Prop} (I : Nat → σ → Prop) (n : Nat) (hn : n < big)
    (step : ∀ k s, k ≤ n → I k s → (∃ s', F s = some (.inl s') ∧ k < n ∧ I (k + 1) s') ∨ ∃ r, F s = some (.inr r) ∧ Q r) {s : σ} (h : I 0 s) (hK : ∀ r, Q r → ∃ y, K r = some y ∧ P y) : ∃ y, (iterF F big s).bind K = some y ∧ P y := by
  obtain ⟨r, h1, h2⟩ := iter_inv I n hn step h
  rw [h1]
  exact hK r h2
theorem pow_mono {B : Int} (hB : 0 < B) {m n : Nat} (h : m ≤ n) : B ^ m ≤ B ^ n := by
  obtain ⟨k, rfl⟩ := Nat.le.dest h
  have h1 : 0 < B ^ k := Int.pow_pos hB
  have h2 : 0 < B ^ m := Int.pow_pos hB
  rw [Int.pow_add]
  have := Int.mul_le_mul_of_nonneg_left (show 1 ≤ B ^ k by omega) (Int.le_of_lt h2)
  rwa [Int.mul_one] at this
/-- A digit, 0 beyond the end. -/
def dg (l : List Int) (k : Nat) : Int := l.getD k 0
theorem bv_take_succ (B : Int) (l : List Int) (k : Nat) : bv B (l.take (k + 1)) = bv B (l.take k) + B ^ k * dg l k := by
  rcases Nat.lt_or_ge k l.length with h | h
  · rw [take_snoc h, bv_append, List.length_take, Nat.min_eq_left (by omega)]
    have : dg l k = l[k] := by simp [dg, h]
    rw [this]; simp [bv]
  · rw [List.take_of_length_le (by omega), List.take_of_length_le h]
    have : dg l k = 0 := by simp [dg, h]
    rw [this]; simp
theorem dg_range {B : Int} (hB : 0 < B) {l : List Int} (h : dig B l) (k : Nat) : 0 ≤ dg l k ∧ dg l k < B := by
  rcases Nat.lt_or_ge k l.length with hk | hk
  · have : dg l k = l[k] := by simp [dg, hk]
    rw [this]; exact h _ (List.getElem_mem _)
  · have : dg l k = 0 := by simp [dg, hk]
    rw [this]; omega
theorem idx_nat {α : Type} {l : List α} {k : Nat} (h : k < l.length) : idx l (k : Int) = some l[k] := by
  unfold idx; rw [if_pos (by omega), Int.toNat_natCast, List.getElem?_eq_getElem h]
theorem set_zeros {d : List Int} {n k : Nat} (hd : d.length = k) (hk : k < n) (x : Int) : (d ++ List.replicate (n - k) 0).set k x = (d ++ [x]) ++ List.replicate (n - (k + 1)) 0 := by
  obtain ⟨j, hj⟩ : ∃ j, n - k = j + 1 := ⟨n - k - 1, by omega⟩
  have hj2 : n - (k + 1) = j := by omega
  rw [hj, hj2, List.replicate_succ, ← hd, List.set_append_right _ _ (Nat.le_refl _), Nat.sub_self, List.set_cons_zero, List.append_assoc]
  rfl
theorem dig_snoc {B : Int} {l : List Int} {x : Int} (h : dig B l) (h0 : 0 ≤ x) (h1 : x < B) : dig B (l ++ [x]) := fun y hy => by
  rcases List.mem_append.1 hy with hy | hy
  · exact h y hy
  · simp at hy; subst hy; exact ⟨h0, h1⟩
theorem wrap_u (n : Int) : IntKind.u64.wrap n = n % 18446744073709551616 := by
  simp only [IntKind.wrap, IntKind.bits, IntKind.signed, Bool.false_and, Bool.false_eq_true, if_false]
  rfl
theorem f_added (a b : List Int) (ha : dig (4294967296 : Int) a) (hb : dig (4294967296 : Int) b) (hla : a.length ≤ 16000000) (hlb : b.length ≤ 16000000) :
    ∃ r, F_beam_added a b = some r ∧ (bv (4294967296 : Int) r = bv (4294967296 : Int) a + bv (4294967296 : Int) b ∧ dig (4294967296 : Int) r ∧ tight r ∧ r.length ≤ max a.length b.length + 1) := by
  unfold F_beam_added
  obtain ⟨p, hp, hle, h1, h2, hs, hm, hm2⟩ : ∃ p : List Int × List Int × Unit, ((bif (decide (((a.length : Nat) : Int) < ((b.length : Nat) : Int))) then some (b, a, ()) else some (a, b, ())) : Option ((List Int) × (List Int) × Unit)) = some p ∧
      p.2.1.length ≤ p.1.length ∧ dig (4294967296 : Int) p.1 ∧ dig (4294967296 : Int) p.2.1 ∧ bv (4294967296 : Int) p.1 + bv (4294967296 : Int) p.2.1 = bv (4294967296 : Int) a + bv (4294967296 : Int) b ∧ p.1.length = max a.length b.length ∧ p.1.length ≤ 16000000 := by
    rcases Nat.lt_or_ge a.length b.length with h | h
    · have : decide (((a.length : Nat) : Int) < ((b.length : Nat) : Int)) = true := by simp; omega
      rw [this]
      exact ⟨_, rfl, Nat.le_of_lt h, hb, ha, Int.add_comm _ _, (by show b.length = _; omega), hlb⟩
    · have : decide (((a.length : Nat) : Int) < ((b.length : Nat) : Int)) = false := by simp; omega
      rw [this]
      exact ⟨_, rfl, h, ha, hb, rfl, (by show a.length = _; omega), hla⟩
  rw [hp, Option.bind_some]
  obtain ⟨x, y, u⟩ := p
  simp only at hle h1 h2 hs hm hm2 ⊢
  have hw : IntKind.i64.wrap (((x.length : Nat) : Int) + 1) = ((x.length + 1 : Nat) : Int) := by rw [wrap64 (by omega) (by omega)]; omega
  rw [hw, if_pos ⟨by omega, by omega⟩]
  simp only [Int.toNat_natCast, List.length_replicate]
  have hp32 : ((2 : Int) ^ min (Int.toNat 32) IntKind.u64.bits) = 4294967296 := by decide
  rw [hp32]
  refine iter_bind (Q := fun r : List Int × Unit => bv (4294967296 : Int) r.1 = bv (4294967296 : Int) x + bv (4294967296 : Int) y ∧ dig (4294967296 : Int) r.1 ∧ r.1.length = x.length + 1)
    (fun k s => ∃ c d, s = (c, (k : Int), d ++ List.replicate (x.length + 1 - k) 0, ()) ∧ d.length = k ∧ k ≤ x.length + 1 ∧ dig (4294967296 : Int) d ∧ 0 ≤ c ∧ c ≤ 1 ∧ bv (4294967296 : Int) d + (4294967296 : Int) ^ k * c = bv (4294967296 : Int) (x.take k) + bv (4294967296 : Int) (y.take k))
    (x.length + 1) (by unfold big; omega) ?_ ⟨0, [], by simp, rfl, Nat.zero_le _, (fun z hz => nomatch hz), by omega, by omega, by simp [bv]⟩ ?_
  · rintro k s hk ⟨c, d, rfl, hd, hkn, hdd, hc0, hc1, hv⟩
    rcases Nat.lt_or_ge k (x.length + 1) with hlt | hge
    · refine .inl ⟨((c + dg x k + dg y k) / (4294967296 : Int), ((k + 1 : Nat) : Int), (d ++ [(c + dg x k + dg y k) % (4294967296 : Int)]) ++ List.replicate (x.length + 1 - (k + 1)) 0, ()), ?_, hlt, _, _, rfl, by simp [hd], hlt, ?_, ?_, ?_, ?_⟩
      · have hx := dg_range (by decide) h1 k
        have hy := dg_range (by decide) h2 k
        have e0 : decide ((k : Int) < ((x.length + 1 : Nat) : Int)) = true := by simp; omega
        have e1 : ((bif (decide ((k : Int) < ((x.length : Nat) : Int))) then (idx x (k : Int)).bind fun x18 => some ((IntKind.u64.wrap (c + (IntKind.u64.wrap x18))), ()) else some (c, ())) : Option (Int × Unit)) = some (c + dg x k, ()) := by
          rcases Nat.lt_or_ge k x.length with h | h
          · have : decide ((k : Int) < ((x.length : Nat) : Int)) = true := by simp; omega
            have hg : dg x k = x[k] := by simp [dg, h]
            rw [this, cond_true, idx_nat h, Option.bind_some, ← hg, wrap_u, wrap_u]
            congr 2
            omega
          · have : decide ((k : Int) < ((x.length : Nat) : Int)) = false := by simp; omega
            have hg : dg x k = 0 := by simp [dg, h]
            rw [this, cond_false, hg]; simp
        have e2 : ((bif (decide ((k : Int) < ((y.length : Nat) : Int))) then (idx y (k : Int)).bind fun x20 => some ((IntKind.u64.wrap (c + dg x k + (IntKind.u64.wrap x20))), ()) else some (c + dg x k, ())) : Option (Int × Unit)) = some (c + dg x k + dg y k, ()) := by
          rcases Nat.lt_or_ge k y.length with h | h
          · have : decide ((k : Int) < ((y.length : Nat) : Int)) = true := by simp; omega
            have hg : dg y k = y[k] := by simp [dg, h]
            rw [this, cond_true, idx_nat h, Option.bind_some, ← hg, wrap_u, wrap_u]
            congr 2
            omega
          · have : decide ((k : Int) < ((y.length : Nat) : Int)) = false := by simp; omega
            have hg : dg y k = 0 := by simp [dg, h]
            rw [this, cond_false, hg]; simp
        have hlo : k < (d ++ List.replicate (x.length + 1 - k) (0 : Int)).length := by simp [hd]; omega
        simp only [e0, cond_true]
        rw [e1]
        simp only [Option.bind_some]
        rw [e2]
        simp only [Option.bind_some]
        rw [idx_nat hlo]
        simp only [Option.bind_some, Int.toNat_natCast]
        rw [List.getElem?_eq_getElem hlo]
        simp only [Option.bind_some]
        rw [set_zeros hd hlt, wrap32, wrap64 (n := (k : Int) + 1) (by omega) (by omega), Int.fdiv_eq_ediv_of_nonneg _ (by decide)]
        congr 3
      · have hx := dg_range (by decide) h1 k
        have hy := dg_range (by decide) h2 k
        exact dig_snoc hdd (by omega) (by omega)
      · have hx := dg_range (by decide) h1 k
        have hy := dg_range (by decide) h2 k
        omega
      · have hx := dg_range (by decide) h1 k
        have hy := dg_range (by decide) h2 k
        omega
      · rw [bv_take_succ, bv_take_succ, bv_append, hd]
        have he := Int.emod_add_mul_ediv (c + dg x k + dg y k) (4294967296 : Int)
        simp only [bv, Int.mul_zero, Int.add_zero]
        generalize (c + dg x k + dg y k) % (4294967296 : Int) = q at he ⊢
        generalize (c + dg x k + dg y k) / (4294967296 : Int) = t at he ⊢
        have : (4294967296 : Int) ^ (k + 1) = (4294967296 : Int) ^ k * (4294967296 : Int) := Int.pow_succ _ _
        rw [this]
        grind
    · have hk' : k = x.length + 1 := by omega
      subst hk'
      have e0 : decide (((x.length + 1 : Nat) : Int) < ((x.length + 1 : Nat) : Int)) = false := by simp
      refine .inr ⟨(d, ()), by simp only [e0, cond_false]; simp, ?_, hdd, hd⟩
      rw [List.take_of_length_le (by omega), List.take_of_length_le (by omega)] at hv
      have r1 := bv_range (by decide) h1
      have r2 := bv_range (by decide) h2
      have r3 := (bv_range (by decide) hdd).1
      have hpw : (4294967296 : Int) ^ y.length ≤ (4294967296 : Int) ^ x.length := pow_mono (by decide) hle
      have hps : (4294967296 : Int) ^ (x.length + 1) = (4294967296 : Int) ^ x.length * (4294967296 : Int) := Int.pow_succ _ _
      have hc : c = 0 := by
        rcases Int.lt_or_le c 1 with h | h
        · omega
        · exfalso
          have hc' : c = 1 := by omega
          subst hc'
          rw [Int.mul_one, hps] at hv
          omega
      subst hc
      show bv (4294967296 : Int) d = _
      omega
  · rintro ⟨r, u⟩ ⟨q1, q2, q3⟩
    obtain ⟨t, t1, t2, t3, t4, t5⟩ := f_trimmed r q2 (by simp only at q3; omega)
    refine ⟨t, by simp only; rw [t1]; rfl, by rw [t2, q1, hs], t3, t4, ?_⟩
    simp only at q3
    omega
end Go.Proofs.YtkagmdfhodbfmaaGreat

/- Numbers of many digits: beam.taken, beam.compared. -/
namespace Go.Proofs.YtkagmdfhodbfmaaGreat
set_option linter.unusedVariables false
set_option linter.unusedSimpArgs false

theorem f_taken (a b : List Int) (ha : dig (4294967296 : Int) a) (hb : dig (4294967296 : Int) b) (hla : a.length ≤ 16000000) (hle : b.length ≤ a.length) (hv0 : bv (4294967296 : Int) b ≤ bv (4294967296 : Int) a) :
    ∃ r, F_beam_taken a b = some r ∧ (bv (4294967296 : Int) r = bv (4294967296 : Int) a - bv (4294967296 : Int) b ∧ dig (4294967296 : Int) r ∧ tight r ∧ r.length ≤ a.length) := by
  unfold F_beam_taken
  rw [if_pos ⟨by omega, by omega⟩]
  simp only [Int.toNat_natCast]
  refine iter_bind (Q := fun r : List Int × Unit => bv (4294967296 : Int) r.1 = bv (4294967296 : Int) a - bv (4294967296 : Int) b ∧ dig (4294967296 : Int) r.1 ∧ r.1.length = a.length)
    (fun k s => ∃ c d, s = (c, (k : Int), d ++ List.replicate (a.length - k) 0, ()) ∧ d.length = k ∧ k ≤ a.length ∧ dig (4294967296 : Int) d ∧ 0 ≤ c ∧ c ≤ 1 ∧ bv (4294967296 : Int) d - (4294967296 : Int) ^ k * c = bv (4294967296 : Int) (a.take k) - bv (4294967296 : Int) (b.take k))
    a.length (by unfold big; omega) ?_ ⟨0, [], by simp, rfl, Nat.zero_le _, (fun z hz => nomatch hz), by omega, by omega, by simp [bv]⟩ ?_
  · rintro k s hk ⟨c, d, rfl, hd, hkn, hdd, hc0, hc1, hv⟩
    have hx := dg_range (by decide) ha k
    have hy := dg_range (by decide) hb k
    rcases Nat.lt_or_ge k a.length with hlt | hge
    · have hga : dg a k = a[k] := by simp [dg, hlt]
      obtain ⟨t, ht⟩ : ∃ t, dg a k - c - dg b k = t := ⟨_, rfl⟩
      obtain ⟨c', q, hcq, hq0, hq1, hc0', hc1', htq⟩ : ∃ c' q, ((bif (decide (t < 0)) then some (1, (IntKind.i64.wrap (t + 4294967296)), ()) else some (0, t, ())) : Option (Int × Int × Unit)) = some (c', q, ()) ∧ 0 ≤ q ∧ q < (4294967296 : Int) ∧ 0 ≤ c' ∧ c' ≤ 1 ∧ q = t + (4294967296 : Int) * c' := by
        rcases Int.lt_or_le t 0 with h | h
        · have : decide (t < 0) = true := by simpa using h
          rw [this, cond_true, wrap64 (by omega) (by omega)]
          exact ⟨1, t + 4294967296, rfl, by omega, by omega, by omega, by omega, by omega⟩
        · have : decide (t < 0) = false := by simp; omega
          rw [this, cond_false]
          exact ⟨0, t, rfl, by omega, by omega, by omega, by omega, by omega⟩
      refine .inl ⟨(c', ((k + 1 : Nat) : Int), (d ++ [q]) ++ List.replicate (a.length - (k + 1)) 0, ()), ?_, hlt, _, _, rfl, by simp [hd], hlt, dig_snoc hdd hq0 hq1, hc0', hc1', ?_⟩
      · have e0 : decide ((k : Int) < ((a.length : Nat) : Int)) = true := by simp; omega
        have e1 : ((bif (decide ((k : Int) < ((b.length : Nat) : Int))) then (idx b (k : Int)).bind fun x16 => some ((IntKind.i64.wrap ((IntKind.i64.wrap ((IntKind.i64.wrap (dg a k)) - c)) - (IntKind.i64.wrap x16))), ()) else some ((IntKind.i64.wrap ((IntKind.i64.wrap (dg a k)) - c)), ())) : Option (Int × Unit)) = some (t, ()) := by
          rw [wrap64 (n := dg a k) (by omega) (by omega), wrap64 (n := dg a k - c) (by omega) (by omega)]
          rcases Nat.lt_or_ge k b.length with h | h
          · have : decide ((k : Int) < ((b.length : Nat) : Int)) = true := by simp; omega
            have hg : dg b k = b[k] := by simp [dg, h]
            rw [this, cond_true, idx_nat h, Option.bind_some, ← hg, wrap64 (n := dg b k) (by omega) (by omega), wrap64 (by omega) (by omega), ht]
          · have : decide ((k : Int) < ((b.length : Nat) : Int)) = false := by simp; omega
            have hg : dg b k = 0 := by simp [dg, h]
            rw [this, cond_false, ← ht, hg]; simp
        have hlo : k < (d ++ List.replicate (a.length - k) (0 : Int)).length := by simp [hd]; omega
        simp only [e0, cond_true]
        rw [idx_nat hlt]
        simp only [Option.bind_some]
        rw [← hga, e1]
        simp only [Option.bind_some]
        rw [hcq]
        simp only [Option.bind_some]
        rw [idx_nat hlo]
        simp only [Option.bind_some, Int.toNat_natCast]
        rw [List.getElem?_eq_getElem hlo]
        simp only [Option.bind_some]
        rw [set_zeros hd hlt, wrap32, wrap64 (n := (k : Int) + 1) (by omega) (by omega), Int.emod_eq_of_lt hq0 hq1]
        congr 3
      · rw [bv_take_succ, bv_take_succ, bv_append, hd]
        simp only [bv, Int.mul_zero, Int.add_zero]
        have : (4294967296 : Int) ^ (k + 1) = (4294967296 : Int) ^ k * (4294967296 : Int) := Int.pow_succ _ _
        rw [this]
        grind
    · have hk' : k = a.length := by omega
      subst hk'
      have e0 : decide (((a.length : Nat) : Int) < ((a.length : Nat) : Int)) = false := by simp
      refine .inr ⟨(d, ()), by simp only [e0, cond_false]; simp, ?_, hdd, hd⟩
      rw [List.take_of_length_le (by omega), List.take_of_length_le (by omega)] at hv
      have r3 := (bv_range (by decide) hdd).2
      rw [hd] at r3
      have hc : c = 0 := by
        rcases Int.lt_or_le c 1 with h | h
        · omega
        · exfalso
          have hc' : c = 1 := by omega
          subst hc'
          rw [Int.mul_one] at hv
          omega
      subst hc
      show bv (4294967296 : Int) d = _
      omega
  · rintro ⟨r, u⟩ ⟨q1, q2, q3⟩
    obtain ⟨t, t1, t2, t3, t4, t5⟩ := f_trimmed r q2 (by simp only at q3; omega)
    refine ⟨t, by simp only; rw [t1]; rfl, by rw [t2, q1], t3, t4, ?_⟩
    simp only at q3
    omega

/-- Of two numbers without zeros at the end the longer one is greater. -/
theorem bv_lt_len {B : Int} (hB : 1 < B) {a b : List Int} (ha : dig B a) (hb : dig B b) (ht : tight b) (hl : a.length < b.length) : bv B a < bv B b := by
  have hne : b ≠ [] := by rintro rfl; simp at hl
  obtain ⟨d, x, rfl⟩ : ∃ d x, b = d ++ [x] := ⟨b.dropLast, b.getLast hne, (List.dropLast_concat_getLast hne).symm⟩
  have hx := hb x (by simp)
  have hx0 : x ≠ 0 := fun e => ht (by simp [e])
  have hd := (bv_range hB (l := d) fun y hy => hb y (by simp [hy])).1
  have hr := (bv_range hB ha).2
  rw [bv_append]
  have h2 : bv B [x] = x := by simp [bv]
  rw [h2]
  have hp : 0 < B ^ d.length := Int.pow_pos (by omega)
  have h3 : B ^ a.length ≤ B ^ d.length := pow_mono (by omega) (by simp at hl; omega)
  have := Int.mul_le_mul_of_nonneg_left (show 1 ≤ x by omega) (Int.le_of_lt hp)
  rw [Int.mul_one] at this
  omega
end Go.Proofs.YtkagmdfhodbfmaaGreat

/- Numbers of many digits: beam.compared, integer, sign, opposite, plus. -/
namespace Go.Proofs.YtkagmdfhodbfmaaGreat
set_option linter.unusedVariables false
set_option linter.unusedSimpArgs false

/-- A number of the program: its words are right, and this is its value. -/
structure Num (a : Tnumber) (v : Int) : Prop where
  dig : dig (4294967296 : Int) a.words
  tight : tight a.words
  len : a.words.length ≤ 8000000
  val : v = if a.neg then - bv (4294967296 : Int) a.words else bv (4294967296 : Int) a.words
theorem Num.zero {a : Tnumber} {v : Int} (h : Num a v) : a.words = [] ↔ v = 0 := by
  rw [h.val, ← bv_zero (by decide) h.dig h.tight]
  split <;> omega
end Go.Proofs.YtkagmdfhodbfmaaGreat

/- Numbers of many digits: beam.times. -/
namespace Go.Proofs.YtkagmdfhodbfmaaGreat
set_option linter.unusedVariables false
set_option linter.unusedSimpArgs false

theorem step_of {σ ρ : Type} {X : Option (σ ⊕ ρ)} {k n : Nat} {J : σ → Prop} (hk : k < n) (h : ∃ y, X = some y ∧ ∃ s', y = Sum.inl s' ∧ J s') : ∃ s', X = some (.inl s') ∧ k < n ∧ J s' := by
  obtain ⟨y, h1, s', rfl, h2⟩ := h
  exact ⟨s', h1, hk, h2⟩
theorem dg_get {l : List Int} {k : Nat} (h : k < l.length) : dg l k = l[k] := by simp [dg, h]
end Go.Proofs.YtkagmdfhodbfmaaGreat

/- Numbers of many digits: even and odd. -/
namespace Go.Proofs.YtkagmdfhodbfmaaGreat
set_option linter.unusedVariables false
set_option linter.unusedSimpArgs false

/-- Words: their value is a natural number. -/
structure Wd (l : List Int) (v : Nat) : Prop where
  dig : dig (4294967296 : Int) l
  tight : tight l
  len : l.length ≤ 16000000
  val : bv (4294967296 : Int) l = v
theorem Wd.pos {l : List Int} {v : Nat} (h : Wd l v) (hne : l ≠ []) : 0 < v := by
  have := bv_pos (by decide) h.dig h.tight hne
  have := h.val
  omega
theorem Wd.lt {l : List Int} {v : Nat} (h : Wd l v) : v < 2 ^ (32 * l.length) := by
  have h1 := (bv_range (by decide) h.dig).2
  rw [h.val] at h1
  have e : (4294967296 : Int) ^ l.length = ((2 ^ (32 * l.length) : Nat) : Int) := by
    rw [Nat.pow_mul, Int.natCast_pow]; rfl
  rw [e] at h1
  exact_mod_cast h1
end Go.Proofs.YtkagmdfhodbfmaaGreat

/- Numbers of many digits: the greatest common divisor, plain facts. -/
namespace Go.Proofs.YtkagmdfhodbfmaaGreat
set_option linter.unusedVariables false
set_option linter.unusedSimpArgs false

theorem Wd.le {a b : List Int} {u v : Nat} (ha : Wd a u) (hb : Wd b v) (h : u ≤ v) : a.length ≤ b.length := by
  rcases Nat.lt_or_ge b.length a.length with hl | hl
  · have := bv_lt_len (by decide) hb.dig ha.dig ha.tight hl
    rw [ha.val, hb.val] at this
    omega
  · exact hl
theorem Wd.add {a b : List Int} {u v : Nat} (ha : Wd a u) (hb : Wd b v) (hl : max a.length b.length + 1 ≤ 16000000) : ∃ r, F_beam_added a b = some r ∧ Wd r (u + v) := by
  obtain ⟨r, r1, r2, r3, r4, r5⟩ := f_added a b ha.dig hb.dig ha.len hb.len
  exact ⟨r, r1, r3, r4, by omega, by rw [r2, ha.val, hb.val]; omega⟩
theorem Wd.sub {a b : List Int} {u v : Nat} (ha : Wd a u) (hb : Wd b v) (h : v ≤ u) : ∃ r, F_beam_taken a b = some r ∧ Wd r (u - v) ∧ r.length ≤ a.length := by
  obtain ⟨r, r1, r2, r3, r4, r5⟩ := f_taken a b ha.dig hb.dig ha.len (hb.le ha h) (by rw [ha.val, hb.val]; omega)
  exact ⟨r, r1, ⟨r3, r4, by have := ha.len; omega, by rw [r2, ha.val, hb.val]; omega⟩, r5⟩
end Go.Proofs.YtkagmdfhodbfmaaGreat

/- Exact numbers of the program: lowest, whole, over, plus, less, times, by as rational numbers. -/
namespace Go.Proofs.YtkagmdfhodbfmaaGreat
set_option linter.unusedVariables false
set_option linter.unusedSimpArgs false

/-- An exact number of the program: in lowest terms, with at most c words. -/
structure Xq (x : Texact) (q : Rat) (c : Nat) : Prop where
  n : Num x.n q.num
  d : Num x.d q.den
  ln : x.n.words.length ≤ c
  ld : x.d.words.length ≤ c
theorem Xq.mono {x : Texact} {q : Rat} {c e : Nat} (h : Xq x q c) (hc : c ≤ e) : Xq x q e := ⟨h.n, h.d, Nat.le_trans h.ln hc, Nat.le_trans h.ld hc⟩
theorem Xq.cast {x : Texact} {q r : Rat} {c : Nat} (h : Xq x q c) (e : q = r) : Xq x r c := e ▸ h
end Go.Proofs.YtkagmdfhodbfmaaGreat

/- Exact numbers: the common divisor, sizes, products of two words. -/
namespace Go.Proofs.YtkagmdfhodbfmaaGreat

theorem wrapu (n : Int) : IntKind.u64.wrap n = n % 18446744073709551616 := by
  simp only [IntKind.wrap, IntKind.bits, IntKind.signed, Bool.false_and, Bool.false_eq_true, if_false]
  rfl
theorem sh32 (x : Int) : x.fdiv (2 ^ min (Int.toNat 32) IntKind.u64.bits) = x / 4294967296 := by
  rw [show (2 ^ min (Int.toNat 32) IntKind.u64.bits : Int) = 4294967296 from by decide, Int.fdiv_eq_ediv_of_nonneg _ (by omega)]
end Go.Proofs.YtkagmdfhodbfmaaGreat

/- The length of a word, and a double word over a word (the long division by halves of words). -/
namespace Go.Proofs.YtkagmdfhodbfmaaGreat

def lenTab : ByteArray := ⟨#[0, 1, 2, 2, 3, 3, 3, 3, 4, 4, 4, 4, 4, 4, 4, 4, 5, 5, 5, 5, 5, 5, 5, 5, 5, 5, 5, 5, 5, 5, 5, 5, 6, 6, 6, 6, 6, 6, 6, 6, 6, 6, 6, 6, 6, 6, 6, 6, 6, 6, 6, 6, 6, 6, 6, 6, 6, 6, 6, 6, 6, 6, 6, 6, 7, 7, 7, 7, 7, 7, 7, 7, 7, 7, 7, 7, 7, 7, 7, 7, 7, 7, 7, 7, 7, 7, 7, 7, 7, 7, 7, 7, 7, 7, 7, 7, 7, 7, 7, 7, 7, 7, 7, 7, 7, 7, 7, 7, 7, 7, 7, 7, 7, 7, 7, 7, 7, 7, 7, 7, 7, 7, 7, 7, 7, 7, 7, 7, 8, 8, 8, 8, 8, 8, 8, 8, 8, 8, 8, 8, 8, 8, 8, 8, 8, 8, 8, 8, 8, 8, 8, 8, 8, 8, 8, 8, 8, 8, 8, 8, 8, 8, 8, 8, 8, 8, 8, 8, 8, 8, 8, 8, 8, 8, 8, 8, 8, 8, 8, 8, 8, 8, 8, 8, 8, 8, 8, 8, 8, 8, 8, 8, 8, 8, 8, 8, 8, 8, 8, 8, 8, 8, 8, 8, 8, 8, 8, 8, 8, 8, 8, 8, 8, 8, 8, 8, 8, 8, 8, 8, 8, 8, 8, 8, 8, 8, 8, 8, 8, 8, 8, 8, 8, 8, 8, 8, 8, 8, 8, 8, 8, 8, 8, 8, 8, 8, 8, 8, 8, 8, 8, 8, 8, 8, 8, 8]⟩
theorem tab8 : ∀ k : Fin 256, 0 < k.val → ∃ t : Fin 9, 1 ≤ t.val ∧ idxB lenTab (k.val : Int) = some (UInt8.ofNat t.val) ∧ 2 ^ (t.val - 1) ≤ k.val ∧ k.val < 2 ^ t.val := by decide +kernel
theorem tab8i {x : Int} (h0 : 0 < x) (h1 : x < 256) : ∃ t : Nat, 1 ≤ t ∧ t ≤ 8 ∧ idxB lenTab x = some (UInt8.ofNat t) ∧ 2 ^ (t - 1) ≤ x.toNat ∧ x.toNat < 2 ^ t := by
  obtain ⟨n, rfl⟩ := Int.eq_ofNat_of_zero_le (Int.le_of_lt h0)
  obtain ⟨t, h2, h3, h4, h5⟩ := tab8 ⟨n, by omega⟩ (by simpa using h0)
  exact ⟨t.val, h2, by have := t.isLt; omega, h3, h4, h5⟩
theorem wrap8 {x : Int} (h0 : 0 ≤ x) (h1 : x < 256) : IntKind.u8.wrap x = x := by
  simp only [IntKind.wrap, IntKind.bits, IntKind.signed, Bool.false_and, Bool.false_eq_true, if_false]
  rw [show ((2 : Int) ^ 8) = 256 from rfl]
  omega
theorem len_end {y x : Int} {n : Nat} (hn : n ≤ 56) (h0 : 0 < x) (h1 : x < 256) (hl : x * 2 ^ n ≤ y) (hu : y < (x + 1) * 2 ^ n) :
    ∃ s : Nat, s ≤ 63 ∧ ((idxB lenTab (IntKind.u8.wrap x)).bind fun b4 => some (IntKind.i64.wrap ((n : Int) + (IntKind.i64.wrap ((b4.toNat : Nat) : Int))))) = some (64 - (s : Int)) ∧ 9223372036854775808 ≤ y * 2 ^ s ∧ y * 2 ^ s < 18446744073709551616 := by
  obtain ⟨t, t1, t8, e, l, u⟩ := tab8i h0 h1
  have et : (UInt8.ofNat t).toNat = t := by rw [UInt8.toNat_ofNat']; omega
  rw [wrap8 (by omega) h1, e]
  simp only [Option.bind_some]
  rw [et, wrap64 (n := (t : Int)) (by omega) (by omega), wrap64 (by omega) (by omega)]
  refine ⟨64 - (n + t), by omega, by congr 1; omega, ?_, ?_⟩
  · have h2 : (2 : Int) ^ (t - 1) ≤ x := by
      have : ((2 ^ (t - 1) : Nat) : Int) = (2 : Int) ^ (t - 1) := Int.natCast_pow 2 _
      omega
    have h3 : (2 : Int) ^ (t - 1) * 2 ^ n * 2 ^ (64 - (n + t)) ≤ y * 2 ^ (64 - (n + t)) :=
      Int.mul_le_mul_of_nonneg_right (Int.le_trans (Int.mul_le_mul_of_nonneg_right h2 (Int.le_of_lt (Int.pow_pos (by decide)))) hl) (Int.le_of_lt (Int.pow_pos (by decide)))
    have h4 : (2 : Int) ^ (t - 1) * 2 ^ n * 2 ^ (64 - (n + t)) = 9223372036854775808 := by
      rw [← Int.pow_add, ← Int.pow_add, show t - 1 + n + (64 - (n + t)) = 63 from by omega]
      rfl
    omega
  · have h2 : x + 1 ≤ (2 : Int) ^ t := by
      have : ((2 ^ t : Nat) : Int) = (2 : Int) ^ t := Int.natCast_pow 2 _
      omega
    have h3 : y * 2 ^ (64 - (n + t)) < (2 : Int) ^ t * 2 ^ n * 2 ^ (64 - (n + t)) :=
      Int.mul_lt_mul_of_pos_right (Int.lt_of_lt_of_le hu (Int.mul_le_mul_of_nonneg_right h2 (Int.le_of_lt (Int.pow_pos (by decide))))) (Int.pow_pos (by decide))
    have h4 : (2 : Int) ^ t * 2 ^ n * 2 ^ (64 - (n + t)) = 18446744073709551616 := by
      rw [← Int.pow_add, ← Int.pow_add, show t + n + (64 - (n + t)) = 64 from by omega]
      rfl
    omega
theorem sh16 (x : Int) : x.fdiv (2 ^ min (Int.toNat 16) IntKind.u64.bits) = x / 65536 := by
  rw [show (2 ^ min (Int.toNat 16) IntKind.u64.bits : Int) = 65536 from by decide, Int.fdiv_eq_ediv_of_nonneg _ (by omega)]
theorem sh8 (x : Int) : x.fdiv (2 ^ min (Int.toNat 8) IntKind.u64.bits) = x / 256 := by
  rw [show (2 ^ min (Int.toNat 8) IntKind.u64.bits : Int) = 256 from by decide, Int.fdiv_eq_ediv_of_nonneg _ (by omega)]
theorem len_eq (x : Int) : F_math_bits_Len64 x = (((bif (decide (x ≥ 4294967296)) then some ((x.fdiv (2 ^ min (Int.toNat 32) IntKind.u64.bits)), 32, ()) else some (x, 0, ())) : Option (Int × Int × Unit)).bind fun y1 => ((bif (decide (y1.1 ≥ 65536)) then some ((y1.1.fdiv (2 ^ min (Int.toNat 16) IntKind.u64.bits)), (IntKind.i64.wrap (y1.2.1 + 16)), ()) else some (y1.1, y1.2.1, ())) : Option (Int × Int × Unit)).bind fun y2 => ((bif (decide (y2.1 ≥ 256)) then some ((y2.1.fdiv (2 ^ min (Int.toNat 8) IntKind.u64.bits)), (IntKind.i64.wrap (y2.2.1 + 8)), ()) else some (y2.1, y2.2.1, ())) : Option (Int × Int × Unit)).bind fun y3 => (idxB lenTab (IntKind.u8.wrap y3.1)).bind fun b4 => some (IntKind.i64.wrap (y3.2.1 + (IntKind.i64.wrap ((b4.toNat : Nat) : Int))))) := by kernel_rfl
theorem f_len64 {y : Int} (h0 : 0 < y) (h1 : y < 18446744073709551616) : ∃ s : Nat, s ≤ 63 ∧ F_math_bits_Len64 y = some (64 - (s : Int)) ∧ 9223372036854775808 ≤ y * 2 ^ s ∧ y * 2 ^ s < 18446744073709551616 := by
  rw [len_eq]
  simp only [sh32, sh16, sh8]
  have fin : ∀ (x : Int) (n : Nat) (k : Int), (n : Int) = k → n ≤ 56 → 0 < x → x < 256 → x * 2 ^ n ≤ y → y < (x + 1) * 2 ^ n → ∃ s : Nat, s ≤ 63 ∧ ((idxB lenTab (IntKind.u8.wrap x)).bind fun b4 => some (IntKind.i64.wrap (k + (IntKind.i64.wrap ((b4.toNat : Nat) : Int))))) = some (64 - (s : Int)) ∧ 9223372036854775808 ≤ y * 2 ^ s ∧ y * 2 ^ s < 18446744073709551616 := by
    rintro x n k rfl hn hx hx2 hl hu
    exact len_end hn hx hx2 hl hu
  by_cases c1 : y ≥ 4294967296
  · rw [decide_eq_true c1]
    simp only [cond_true, Option.bind_some]
    by_cases c2 : y / 4294967296 ≥ 65536
    · rw [decide_eq_true c2]
      simp only [cond_true, Option.bind_some]
      by_cases c3 : y / 4294967296 / 65536 ≥ 256
      · rw [decide_eq_true c3]
        simp only [cond_true, Option.bind_some]
        exact fin _ 56 _ (by rfl) (by omega) (by omega) (by omega) (by omega) (by omega)
      · rw [decide_eq_false c3]
        simp only [cond_false, Option.bind_some]
        exact fin _ 48 _ (by rfl) (by omega) (by omega) (by omega) (by omega) (by omega)
    · rw [decide_eq_false c2]
      simp only [cond_false, Option.bind_some]
      by_cases c3 : y / 4294967296 ≥ 256
      · rw [decide_eq_true c3]
        simp only [cond_true, Option.bind_some]
        exact fin _ 40 _ (by rfl) (by omega) (by omega) (by omega) (by omega) (by omega)
      · rw [decide_eq_false c3]
        simp only [cond_false, Option.bind_some]
        exact fin _ 32 _ (by rfl) (by omega) (by omega) (by omega) (by omega) (by omega)
  · rw [decide_eq_false c1]
    simp only [cond_false, Option.bind_some]
    by_cases c2 : y ≥ 65536
    · rw [decide_eq_true c2]
      simp only [cond_true, Option.bind_some]
      by_cases c3 : y / 65536 ≥ 256
      · rw [decide_eq_true c3]
        simp only [cond_true, Option.bind_some]
        exact fin _ 24 _ (by rfl) (by omega) (by omega) (by omega) (by omega) (by omega)
      · rw [decide_eq_false c3]
        simp only [cond_false, Option.bind_some]
        exact fin _ 16 _ (by rfl) (by omega) (by omega) (by omega) (by omega) (by omega)
    · rw [decide_eq_false c2]
      simp only [cond_false, Option.bind_some]
      by_cases c3 : y ≥ 256
      · rw [decide_eq_true c3]
        simp only [cond_true, Option.bind_some]
        exact fin _ 8 _ (by rfl) (by omega) (by omega) (by omega) (by omega) (by omega)
      · rw [decide_eq_false c3]
        simp only [cond_false, Option.bind_some]
        exact fin _ 0 _ (by rfl) (by omega) (by omega) (by omega) (by omega) (by omega)
end Go.Proofs.YtkagmdfhodbfmaaGreat

/- Exact numbers as rational numbers: Valid, Make. -/
namespace Go.Proofs.YtkagmdfhodbfmaaGreat

structure RV (a : TFrac) : Prop where
  d0 : 1 ≤ a.den
  d1 : a.den ≤ 1152921504606846976
  n0 : -1152921504606846976 ≤ a.num
  n1 : a.num ≤ 1152921504606846976
  cop : Nat.gcd a.num.natAbs a.den.toNat = 1
structure RW (a : TFrac) : Prop where
  d0 : -9223372036854775808 ≤ a.den
  d1 : a.den ≤ 9223372036854775807
  n0 : -9223372036854775808 ≤ a.num
  n1 : a.num ≤ 9223372036854775807
def fitQ (q : Rat) : Prop := q.num.natAbs ≤ 1152921504606846976 ∧ q.den ≤ 1152921504606846976
instance (q : Rat) : Decidable (fitQ q) := inferInstanceAs (Decidable (_ ∧ _))
end Go.Proofs.YtkagmdfhodbfmaaGreat

/- The program's beams as rational numbers: overhang, side, lever, beyond. -/
namespace Go.Proofs.YtkagmdfhodbfmaaGreat
set_option linter.unusedVariables false
set_option linter.unusedSimpArgs false

def lds (w : List TLoad) : List Ld := w.map fun x => (x.at_, x.weight)
theorem Xq.skip {x : Texact} {q : Rat} {c e : Nat} (h : Xq x q c) : Xq x (q + 0) (c + e) := (h.mono (Nat.le_add_right _ _)).cast (by grind)
end Go.Proofs.YtkagmdfhodbfmaaGreat

/- Steps through a function's text: one bind after the other, without rewriting what follows. -/
namespace Go.Proofs.YtkagmdfhodbfmaaGreat
set_option linter.unusedVariables false

def Gs {γ : Type} (X : Option γ) (P : γ → Prop) : Prop := ∃ y, X = some y ∧ P y
theorem go {α γ : Type} {X : Option α} {a : α} {K : α → Option γ} {P : γ → Prop} (h : X = some a) (g : Gs (K a) P) : Gs (X.bind K) P := by subst h; exact g
theorem goo {α β γ : Type} {X : Option α} {a : α} {K : α → Option β} {L : β → Option γ} {P : γ → Prop} (h : X = some a) (g : Gs ((K a).bind L) P) : Gs ((X.bind K).bind L) P := by subst h; exact g
theorem gt {γ : Type} {c : Bool} {X Y : Option γ} {P : γ → Prop} (h : c = true) (g : Gs X P) : Gs (bif c then X else Y) P := by subst h; exact g
theorem gf {γ : Type} {c : Bool} {X Y : Option γ} {P : γ → Prop} (h : c = false) (g : Gs Y P) : Gs (bif c then X else Y) P := by subst h; exact g
theorem gbt {α γ : Type} {c : Bool} {X Y : Option α} {K : α → Option γ} {P : γ → Prop} (h : c = true) (g : Gs (X.bind K) P) : Gs ((bif c then X else Y).bind K) P := by subst h; exact g
theorem gbf {α γ : Type} {c : Bool} {X Y : Option α} {K : α → Option γ} {P : γ → Prop} (h : c = false) (g : Gs (Y.bind K) P) : Gs ((bif c then X else Y).bind K) P := by subst h; exact g
theorem gif {γ : Type} {c : Prop} [Decidable c] {X Y : Option γ} {P : γ → Prop} (h : c) (g : Gs X P) : Gs (if c then X else Y) P := by rw [if_pos h]; exact g
theorem gbif {α γ : Type} {c : Prop} [Decidable c] {X Y : Option α} {K : α → Option γ} {P : γ → Prop} (h : c) (g : Gs (X.bind K) P) : Gs ((if c then X else Y).bind K) P := by rw [if_pos h]; exact g
theorem gs {α γ : Type} {a : α} {K : α → Option γ} {P : γ → Prop} (g : Gs (K a) P) : Gs ((some a).bind K) P := g
theorem gend {γ : Type} {a : γ} {P : γ → Prop} (g : P a) : Gs (some a) P := ⟨a, rfl, g⟩
/-- One step of what has told its answer already. -/
theorem gcall {α γ : Type} {X : Option α} {Q : α → Prop} {K : α → Option γ} {P : γ → Prop} (h : Gs X Q) (g : ∀ a, Q a → Gs (K a) P) : Gs (X.bind K) P := by
  obtain ⟨a, h1, h2⟩ := h
  exact go h1 (g a h2)
/-- A loop, and what follows it. -/
theorem gloop {σ ρ γ : Type} {F : σ → Option (σ ⊕ ρ)} {K : ρ → Option γ} {P : γ → Prop} (Q : ρ → Prop) (I : Nat → σ → Prop) (n : Nat) (hn : n < big) {s : σ}
    (h : I 0 s) (step : ∀ k s, k ≤ n → I k s → Gs (F s) fun y => match y with | .inl s' => k < n ∧ I (k + 1) s' | .inr r => Q r) (hK : ∀ r, Q r → Gs (K r) P) : Gs ((iterF F big s).bind K) P := by
  obtain ⟨r, h1, h2⟩ := iter_inv (F := F) (Q := Q) I n hn (fun k s hk hi => by
    obtain ⟨y, h1, h2⟩ := step k s hk hi
    cases y with
    | inl s' => exact .inl ⟨s', h1, h2.1, h2.2⟩
    | inr r => exact .inr ⟨r, h1, h2⟩) h
  exact go h1 (hK r h2)
theorem gs_eq {γ : Type} {X : Option γ} {a : γ} (h : Gs X fun r => r = a) : X = some a := by
  obtain ⟨y, h1, rfl⟩ := h
  exact h1
end Go.Proofs.YtkagmdfhodbfmaaGreat

/- The program's beams as rational numbers: turned, moments. -/
namespace Go.Proofs.YtkagmdfhodbfmaaGreat
set_option linter.unusedVariables false
set_option linter.unusedSimpArgs false

def sp (b : TBeam) (i : Nat) : Int := b.supports.getD i 0
def Rp (b : TBeam) (i : Nat) : Rat := 0 - sideQ b.even (lds b.loads) (sp b (i - 1)) (sp b i) true - sideQ b.even (lds b.loads) (sp b i) (sp b (i + 1)) false
theorem idx_q {α : Type} {l : List α} {k : Nat} {x : α} (h : l[k]? = some x) : idx l (k : Int) = some x := by
  unfold idx
  rw [if_pos (by omega), Int.toNat_natCast, h]
end Go.Proofs.YtkagmdfhodbfmaaGreat

/- The program's moments as rational numbers. -/
namespace Go.Proofs.YtkagmdfhodbfmaaGreat
set_option linter.unusedVariables false
set_option linter.unusedSimpArgs false

theorem get_set {α : Type} {l : List α} {i j : Nat} {v : α} (hi : i < l.length) : (l.set i v)[j]? = if i = j then some v else l[j]? := by
  rw [List.getElem?_set]
  by_cases h : i = j
  · subst h; rw [if_pos rfl, if_pos rfl, if_pos hi]
  · rw [if_neg h, if_neg h]
theorem at_w {α : Type} {l : List α} {k : Nat} {z : Int} {x : α} (e : z = (k : Int)) (h : l[k]? = some x) : l[Int.toNat z]? = some x := by subst e; rw [Int.toNat_natCast]; exact h
end Go.Proofs.YtkagmdfhodbfmaaGreat

/- The program's reactions as rational numbers. -/
namespace Go.Proofs.YtkagmdfhodbfmaaGreat
set_option linter.unusedVariables false
set_option linter.unusedSimpArgs false

/-- The row under way: what is done, and what is added up at i. -/
def Rk (n i : Nat) (O t : List Texact) (q : Rat) (c : Nat) : Prop := t.length = n ∧ (∀ j, j < i → t[j]? = O[j]?) ∧ ∃ v, t[i]? = some v ∧ Xq v q c
theorem Rk.set {n i : Nat} {O t : List Texact} {q r : Rat} {c e : Nat} {z : Texact} (h : Rk n i O t q c) (hi : i < n) (hz : Xq z r e) : Rk n i O (t.set i z) r e := by
  obtain ⟨h1, h2, h3⟩ := h
  refine ⟨by simp [h1], fun j hj => ?_, z, by rw [get_set (by omega), if_pos rfl], hz⟩
  rw [get_set (by omega), if_neg (by omega)]
  exact h2 j hj
theorem Rk.mono {n i : Nat} {O t : List Texact} {q : Rat} {c e : Nat} (h : Rk n i O t q c) (hc : c ≤ e) : Rk n i O t q e := by
  obtain ⟨h1, h2, v, h3, h4⟩ := h
  exact ⟨h1, h2, v, h3, h4.mono hc⟩
theorem Rk.cast {n i : Nat} {O t : List Texact} {q r : Rat} {c : Nat} (h : Rk n i O t q c) (e : q = r) : Rk n i O t r c := e ▸ h
end Go.Proofs.YtkagmdfhodbfmaaGreat

/- The reference's numbers of many digits (base 2^24): trim, larger, digit, plus, minus. -/
namespace Go.Proofs.YtkagmdfhodbfmaaGreat
set_option linter.unusedVariables false
set_option linter.unusedSimpArgs false

theorem tight_snoc {d : List Int} {x : Int} (h : x ≠ 0) : tight (d ++ [x]) := by
  unfold tight; simpa using h
theorem dg_out {l : List Int} {k : Nat} (h : l.length ≤ k) : dg l k = 0 := by simp [dg, h]
theorem tight_take {l : List Int} {m : Nat} (h : m < l.length) (hx : dg l m ≠ 0) : tight (l.take (m + 1)) := by
  rw [take_snoc h]
  rw [dg_get h] at hx
  exact tight_snoc hx
theorem g_trim {neg : Bool} {l : List Int} (hd : dig (16777216 : Int) l) (hl : l.length ≤ 16500000) : ∃ r : TBig, F_ref08_trim ⟨neg, l⟩ = some r ∧ (bv (16777216 : Int) r.d = bv (16777216 : Int) l ∧ dig (16777216 : Int) r.d ∧ tight r.d ∧ r.d.length ≤ l.length ∧ (r.neg = true ↔ neg = true ∧ bv (16777216 : Int) l ≠ 0)) := by
  unfold F_ref08_trim
  refine iter_bind (Q := fun r : Int × Unit => ∃ m : Nat, r = ((m : Int), ()) ∧ m ≤ l.length ∧ bv (16777216 : Int) (l.take m) = bv (16777216 : Int) l ∧ tight (l.take m))
    (fun k s => ∃ m : Nat, s = ((m : Int), ()) ∧ m + k = l.length ∧ bv (16777216 : Int) (l.take m) = bv (16777216 : Int) l) l.length (by unfold big; omega) ?_ ⟨l.length, rfl, rfl, by rw [List.take_length]⟩ ?_
  · rintro k s hk ⟨m, rfl, hm, hv⟩
    cases m with
    | zero =>
      have e0 : decide (((0 : Nat) : Int) > 0) = false := by decide
      refine .inr ⟨_, ?_, 0, rfl, Nat.zero_le _, hv, by simp [tight]⟩
      simp only [e0, cond_false, Option.bind_some]
    | succ m =>
      have e0 : decide (((m + 1 : Nat) : Int) > 0) = true := by simp
      have e1 : IntKind.i64.wrap (((m + 1 : Nat) : Int) - 1) = (m : Int) := by rw [wrap64 (by omega) (by omega)]; omega
      have hlt : m < l.length := by omega
      simp only [e0, cond_true, e1]
      rw [idx_nat hlt, ← dg_get hlt]
      simp only [Option.bind_some]
      rcases Decidable.em (dg l m = 0) with h | h
      · have e2 : (dg l m == 0) = true := by rw [h]; rfl
        rw [e2, cond_true]
        refine .inl ⟨_, rfl, by omega, m, rfl, by omega, ?_⟩
        rw [bv_take_succ, h] at hv
        simpa using hv
      · have e2 : (dg l m == 0) = false := by simpa using h
        rw [e2, cond_false]
        exact .inr ⟨_, rfl, m + 1, rfl, by omega, hv, tight_take hlt h⟩
  · rintro _ ⟨m, rfl, hm, hv, ht⟩
    simp only [Int.toNat_natCast]
    rw [if_pos ⟨by omega, by omega, by omega⟩]
    have hd2 := dig_take hd m
    have hz := bv_zero (by decide) hd2 ht
    rw [hv] at hz
    have hd0 : List.drop (Int.toNat 0) (l.take m) = l.take m := rfl
    rw [hd0]
    rcases Decidable.em (m = 0) with h | h
    · have e2 : ((m : Int) == 0) = true := by simp [h]
      rw [e2, cond_true]
      refine ⟨_, rfl, hv, hd2, ht, by simp; omega, ?_⟩
      have : bv (16777216 : Int) l = 0 := hz.2 (by rw [h]; rfl)
      simp [this]
    · have e2 : ((m : Int) == 0) = false := by simp; omega
      rw [e2, cond_false]
      refine ⟨_, rfl, hv, hd2, ht, by simp; omega, ?_⟩
      have : bv (16777216 : Int) l ≠ 0 := fun e => by
        have hl2 : (l.take m).length = m := by simp; omega
        rw [hz.1 e] at hl2
        simp at hl2
        omega
      simp [this]
theorem g_digit (l : List Int) (k : Nat) : F_ref08_digit l (k : Int) = some (dg l k) := by
  unfold F_ref08_digit
  rcases Nat.lt_or_ge k l.length with h | h
  · have e0 : decide ((k : Int) < ((l.length : Nat) : Int)) = true := by simp; omega
    rw [e0, cond_true, idx_nat h, dg_get h]; rfl
  · have e0 : decide ((k : Int) < ((l.length : Nat) : Int)) = false := by simp; omega
    rw [e0, cond_false]
    have : dg l k = 0 := by simp [dg, h]
    rw [this]
theorem bv_take_all {l : List Int} {k : Nat} (h : l.length ≤ k) : bv (16777216 : Int) (l.take k) = bv (16777216 : Int) l := by rw [List.take_of_length_le h]
/-- What a sum leaves: its last digit is not 0. -/
theorem h_plus (a b : List Int) (ha : dig (16777216 : Int) a) (hb : dig (16777216 : Int) b) (hta : tight a) (htb : tight b) (hla : a.length ≤ 16500000) (hlb : b.length ≤ 16500000) :
    ∃ r, F_ref08_plus a b = some r ∧ (bv (16777216 : Int) r = bv (16777216 : Int) a + bv (16777216 : Int) b ∧ dig (16777216 : Int) r ∧ tight r ∧ r.length ≤ max a.length b.length + 1) := by
  unfold F_ref08_plus
  obtain ⟨m, hm⟩ : ∃ m, max a.length b.length = m := ⟨_, rfl⟩
  rw [hm]
  refine iter_bind (Q := fun r : List Int × Unit => bv (16777216 : Int) r.1 = bv (16777216 : Int) a + bv (16777216 : Int) b ∧ dig (16777216 : Int) r.1 ∧ tight r.1 ∧ r.1.length ≤ m + 1)
    (fun k s => ∃ c out, s = (c, (k : Int), out, ()) ∧ out.length = k ∧ dig (16777216 : Int) out ∧ 0 ≤ c ∧ c ≤ 1 ∧ bv (16777216 : Int) out + (16777216 : Int) ^ k * c = bv (16777216 : Int) (a.take k) + bv (16777216 : Int) (b.take k) ∧ (m < k → c = 0) ∧ (m ≤ k → c = 0 → tight out)) (m + 1) (by unfold big; omega) ?_ ⟨0, [], rfl, rfl, (fun x hx => nomatch hx), by omega, by omega, by simp [bv], fun _ => rfl, fun _ _ => by simp [tight]⟩ ?_
  · rintro k s hk ⟨c, out, rfl, hlo, hdo, hc0, hc1, hv, hcm, htm⟩
    simp only
    obtain ⟨t, ht1, ht2⟩ : ∃ t : Bool, ((bif (decide ((k : Int) < ((a.length : Nat) : Int))) then some (true, ()) else (bif (decide ((k : Int) < ((b.length : Nat) : Int))) then some (true, ()) else some ((decide (c > 0)), ()))) : Option (Bool × Unit)) = some (t, ()) ∧ (t = true ↔ k < m ∨ 0 < c) := by
      rcases Nat.lt_or_ge k a.length with h | h
      · have e0 : decide ((k : Int) < ((a.length : Nat) : Int)) = true := by simp; omega
        rw [e0]; exact ⟨true, rfl, by simp; omega⟩
      · have e0 : decide ((k : Int) < ((a.length : Nat) : Int)) = false := by simp; omega
        rw [e0, cond_false]
        rcases Nat.lt_or_ge k b.length with h2 | h2
        · have e0 : decide ((k : Int) < ((b.length : Nat) : Int)) = true := by simp; omega
          rw [e0]; exact ⟨true, rfl, by simp; omega⟩
        · have e0 : decide ((k : Int) < ((b.length : Nat) : Int)) = false := by simp; omega
          rw [e0, cond_false]
          exact ⟨_, rfl, by simp; omega⟩
    rw [ht1]
    simp only [Option.bind_some]
    rcases Bool.eq_false_or_eq_true t with h | h
    · have hor := ht2.1 h
      subst h
      have hkm : k < m + 1 := by
        rcases hor with h | h
        · omega
        · rcases Nat.lt_or_ge m k with h2 | h2
          · have := hcm h2; omega
          · omega
      simp only [cond_true]
      rw [g_digit, g_digit]
      simp only [Option.bind_some]
      have hx := dg_range (by decide) ha k
      have hy := dg_range (by decide) hb k
      have h1 := bv_take_succ (16777216 : Int) a k
      have h2 := bv_take_succ (16777216 : Int) b k
      obtain ⟨x, hxe⟩ : ∃ x, dg a k = x := ⟨_, rfl⟩
      obtain ⟨y, hye⟩ : ∃ y, dg b k = y := ⟨_, rfl⟩
      rw [hxe] at hx h1 ⊢
      rw [hye] at hy h2 ⊢
      have w1 : IntKind.i64.wrap (IntKind.i64.wrap (x + y) + c) = x + y + c := by rw [wrap64 (n := x + y) (by omega) (by omega), wrap64 (by omega) (by omega)]
      rw [w1, if_pos (by simp; omega), Int.tmod_eq_emod_of_nonneg (by omega), Int.tdiv_eq_ediv_of_nonneg (by omega), wrap64 (n := (x + y + c) / 16777216) (by omega) (by omega), wrap64 (n := (k : Int) + 1) (by omega) (by omega)]
      refine .inl ⟨_, rfl, hkm, _, _, rfl, by simp [hlo], dig_snoc hdo (by omega) (by omega), by omega, by omega, ?_, ?_, ?_⟩
      · rw [bv_append, hlo, h1, h2]
        simp only [bv, Int.mul_zero, Int.add_zero]
        have h3 : (16777216 : Int) ^ (k + 1) = (16777216 : Int) ^ k * (16777216 : Int) := Int.pow_succ _ _
        have h4 := Int.emod_add_mul_ediv (x + y + c) (16777216 : Int)
        rw [h3]
        generalize (x + y + c) % (16777216 : Int) = q at h4 ⊢
        generalize (x + y + c) / (16777216 : Int) = t at h4 ⊢
        generalize bv (16777216 : Int) (a.take k) = A at *
        generalize bv (16777216 : Int) (b.take k) = D at *
        grind
      · intro hlt
        have hk2 : m = k := by omega
        have : x = 0 := by rw [← hxe]; exact dg_out (by omega)
        have : y = 0 := by rw [← hye]; exact dg_out (by omega)
        omega
      · intro hle hz
        rcases Nat.lt_or_ge k m with h | h
        · -- the last digit of the longer one
          have hk2 : m = k + 1 := by omega
          have hone : x ≠ 0 ∨ y ≠ 0 := by
            rcases Nat.lt_or_ge k a.length with h3 | h3
            · left
              intro e
              have : a = a.take k ++ [a[k]] := by rw [← take_snoc h3, List.take_of_length_le (by omega)]
              apply hta
              rw [this, ← dg_get h3, hxe, e]; simp
            · right
              intro e
              have h4 : k < b.length := by omega
              have : b = b.take k ++ [b[k]] := by rw [← take_snoc h4, List.take_of_length_le (by omega)]
              apply htb
              rw [this, ← dg_get h4, hye, e]; simp
          exact tight_snoc (by omega)
        · have : x = 0 := by rw [← hxe]; exact dg_out (by omega)
          have : y = 0 := by rw [← hye]; exact dg_out (by omega)
          exact tight_snoc (by omega)
    · have hor : ¬(k < m ∨ 0 < c) := by rw [← ht2, h]; simp
      subst h
      have hc : c = 0 := by omega
      refine .inr ⟨(out, ()), by simp only [cond_false], ?_, hdo, htm (by omega) hc, by show out.length ≤ _; omega⟩
      rw [hc, bv_take_all (by omega), bv_take_all (by omega)] at hv
      show bv (16777216 : Int) out = _
      rw [← hv]; simp
  · rintro ⟨r, u⟩ ⟨q1, q2, q3, q4⟩
    exact ⟨r, rfl, q1, q2, q3, q4⟩
theorem h_minus (a b : List Int) (ha : dig (16777216 : Int) a) (hb : dig (16777216 : Int) b) (hla : a.length ≤ 16500000) (hle : b.length ≤ a.length) (hv0 : bv (16777216 : Int) b ≤ bv (16777216 : Int) a) :
    ∃ r, F_ref08_minus a b = some r ∧ (bv (16777216 : Int) r = bv (16777216 : Int) a - bv (16777216 : Int) b ∧ dig (16777216 : Int) r ∧ r.length = a.length) := by
  unfold F_ref08_minus
  refine iter_bind (Q := fun r : List Int × Unit => bv (16777216 : Int) r.1 = bv (16777216 : Int) a - bv (16777216 : Int) b ∧ dig (16777216 : Int) r.1 ∧ r.1.length = a.length)
    (fun k s => ∃ c out, s = (c, (k : Int), out, ()) ∧ k ≤ a.length ∧ out.length = k ∧ dig (16777216 : Int) out ∧ 0 ≤ c ∧ c ≤ 1 ∧ bv (16777216 : Int) out - (16777216 : Int) ^ k * c = bv (16777216 : Int) (a.take k) - bv (16777216 : Int) (b.take k)) a.length (by unfold big; omega) ?_ ⟨0, [], rfl, Nat.zero_le _, rfl, (fun x hx => nomatch hx), by omega, by omega, by simp [bv]⟩ ?_
  · rintro k s hk ⟨c, out, rfl, _, hlo, hdo, hc0, hc1, hv⟩
    rcases Nat.lt_or_ge k a.length with hlt | hge
    · have e0 : decide ((k : Int) < ((a.length : Nat) : Int)) = true := by simp; omega
      simp only [e0, cond_true]
      rw [idx_nat hlt, ← dg_get hlt, g_digit]
      simp only [Option.bind_some]
      have hx := dg_range (by decide) ha k
      have hy := dg_range (by decide) hb k
      have h1 := bv_take_succ (16777216 : Int) a k
      have h2 := bv_take_succ (16777216 : Int) b k
      obtain ⟨x, hxe⟩ : ∃ x, dg a k = x := ⟨_, rfl⟩
      obtain ⟨y, hye⟩ : ∃ y, dg b k = y := ⟨_, rfl⟩
      rw [hxe] at hx h1 ⊢
      rw [hye] at hy h2 ⊢
      have w1 : IntKind.i64.wrap (IntKind.i64.wrap (x - y) - c) = x - y - c := by rw [wrap64 (n := x - y) (by omega) (by omega), wrap64 (by omega) (by omega)]
      rw [w1]
      refine .inl (step_of hlt ?_)
      have hp : ∃ c' z, ((bif (decide (x - y - c < 0)) then some (1, (IntKind.i64.wrap (x - y - c + 16777216)), ()) else some (0, (x - y - c), ()) : Option (Int × Int × Unit))) = some (c', z, ()) ∧ 0 ≤ c' ∧ c' ≤ 1 ∧ 0 ≤ z ∧ z < 16777216 ∧ z - 16777216 * c' = x - y - c := by
        rcases Int.lt_or_le (x - y - c) 0 with h | h
        · have e : decide (x - y - c < 0) = true := by simpa using h
          rw [e]
          exact ⟨1, x - y - c + 16777216, by rw [wrap64 (by omega) (by omega)]; rfl, by omega, by omega, by omega, by omega, by omega⟩
        · have e : decide (x - y - c < 0) = false := by simpa using h
          rw [e]
          exact ⟨0, x - y - c, rfl, by omega, by omega, by omega, by omega, by omega⟩
      obtain ⟨c', z, p1, p2, p3, p4, p5, p6⟩ := hp
      rw [p1]
      simp only [Option.bind_some]
      rw [if_pos (by simp; omega), wrap64 (n := (k : Int) + 1) (by omega) (by omega)]
      refine ⟨_, rfl, _, rfl, c', _, rfl, hlt, by simp [hlo], dig_snoc hdo p4 p5, p2, p3, ?_⟩
      rw [bv_append, hlo, h1, h2]
      simp only [bv, Int.mul_zero, Int.add_zero]
      have h3 : (16777216 : Int) ^ (k + 1) = (16777216 : Int) ^ k * (16777216 : Int) := Int.pow_succ _ _
      rw [h3]
      generalize bv (16777216 : Int) (a.take k) = A at *
      generalize bv (16777216 : Int) (b.take k) = D at *
      grind
    · have hk' : k = a.length := by omega
      subst hk'
      have e0 : decide (((a.length : Nat) : Int) < ((a.length : Nat) : Int)) = false := by simp
      refine .inr ⟨(out, ()), by simp only [e0, cond_false], ?_, hdo, hlo⟩
      rw [List.take_length, bv_take_all hle] at hv
      have hr := bv_range (by decide) hdo
      rw [hlo] at hr
      show bv (16777216 : Int) out = _
      have hc : c = 0 := by
        rcases Int.lt_or_le c 1 with h | h
        · omega
        · have : c = 1 := by omega
          rw [this, Int.mul_one] at hv
          omega
      rw [hc, Int.mul_zero, Int.sub_zero] at hv
      exact hv
  · rintro ⟨r, u⟩ ⟨q1, q2, q3⟩
    exact ⟨r, rfl, q1, q2, q3⟩
end Go.Proofs.YtkagmdfhodbfmaaGreat

/- The reference's numbers of many digits: Int, Neg, Product, Sum, half, even. -/
namespace Go.Proofs.YtkagmdfhodbfmaaGreat
set_option linter.unusedVariables false
set_option linter.unusedSimpArgs false

/-- Digits of the reference: their value is a natural number. -/
structure Wg (l : List Int) (v : Nat) : Prop where
  dig : dig (16777216 : Int) l
  tight : tight l
  len : l.length ≤ 16000000
  val : bv (16777216 : Int) l = v
/-- An integer of the reference. -/
structure Nb (a : TBig) (v : Int) : Prop where
  w : Wg a.d v.natAbs
  neg : a.neg = true ↔ v < 0
  len : a.d.length ≤ 8000000
theorem Wg.zero {l : List Int} {v : Nat} (h : Wg l v) : l = [] ↔ v = 0 := by
  rw [← bv_zero (by decide) h.dig h.tight, h.val]; omega
theorem Wg.lt {l : List Int} {v : Nat} (h : Wg l v) : v < 2 ^ (24 * l.length) := by
  have h1 := (bv_range (by decide) h.dig).2
  rw [h.val] at h1
  have e : (16777216 : Int) ^ l.length = ((2 ^ (24 * l.length) : Nat) : Int) := by
    rw [Nat.pow_mul, Int.natCast_pow]; rfl
  rw [e] at h1
  exact_mod_cast h1
theorem Wg.le {a b : List Int} {u v : Nat} (ha : Wg a u) (hb : Wg b v) (h : u ≤ v) : a.length ≤ b.length := by
  rcases Nat.lt_or_ge b.length a.length with hl | hl
  · have := bv_lt_len (by decide) hb.dig ha.dig ha.tight hl
    rw [ha.val, hb.val] at this
    omega
  · exact hl
theorem Wg.add {a b : List Int} {u v : Nat} (ha : Wg a u) (hb : Wg b v) (hl : max a.length b.length + 1 ≤ 16000000) : ∃ r, F_ref08_plus a b = some r ∧ Wg r (u + v) ∧ r.length ≤ max a.length b.length + 1 := by
  obtain ⟨r, r1, r2, r3, r4, r5⟩ := h_plus a b ha.dig hb.dig ha.tight hb.tight (by have := ha.len; omega) (by have := hb.len; omega)
  exact ⟨r, r1, ⟨r3, r4, by omega, by rw [r2, ha.val, hb.val]; omega⟩, r5⟩
/-- minus, and trim after it. -/
theorem Wg.sub {a b : List Int} {u v : Nat} (neg : Bool) (ha : Wg a u) (hb : Wg b v) (h : v ≤ u) : ∃ r t, F_ref08_minus a b = some r ∧ F_ref08_trim ⟨neg, r⟩ = some t ∧ Wg t.d (u - v) ∧ t.d.length ≤ a.length ∧ (t.neg = true ↔ neg = true ∧ u - v ≠ 0) := by
  obtain ⟨r, r1, r2, r3, r4⟩ := h_minus a b ha.dig hb.dig (by have := ha.len; omega) (hb.le ha h) (by rw [ha.val, hb.val]; omega)
  obtain ⟨t, t1, t2, t3, t4, t5, t6⟩ := g_trim (neg := neg) r3 (by rw [r4]; have := ha.len; omega)
  have hv : bv (16777216 : Int) r = ((u - v : Nat) : Int) := by rw [r2, ha.val, hb.val]; omega
  refine ⟨r, t, r1, t1, ⟨t3, t4, by have := ha.len; omega, by rw [t2, hv]⟩, by omega, ?_⟩
  rw [t6, hv]
  exact and_congr_right fun _ => by omega
end Go.Proofs.YtkagmdfhodbfmaaGreat

/- The reference's exact numbers: Quotient, Lower; Plus, Less, Times, Over, Sign, Cmp as rational numbers. -/
namespace Go.Proofs.YtkagmdfhodbfmaaGreat
set_option linter.unusedVariables false
set_option linter.unusedSimpArgs false

/-- An exact number of the reference, with at most c digits. -/
structure Gq (x : TExact) (q : Rat) (c : Nat) : Prop where
  ex : ∃ v w : Int, Nb x.n v ∧ Nb x.d w ∧ 0 < w ∧ q * (w : Rat) = (v : Rat)
  ln : x.n.d.length ≤ c
  ld : x.d.d.length ≤ c
theorem Gq.mono {x : TExact} {q : Rat} {c e : Nat} (h : Gq x q c) (hc : c ≤ e) : Gq x q e := ⟨h.ex, Nat.le_trans h.ln hc, Nat.le_trans h.ld hc⟩
theorem Gq.cast {x : TExact} {q r : Rat} {c : Nat} (h : Gq x q c) (e : q = r) : Gq x r c := e ▸ h
end Go.Proofs.YtkagmdfhodbfmaaGreat

/- The reference's beams as rational numbers: Turned, Left, Right, far. -/
namespace Go.Proofs.YtkagmdfhodbfmaaGreat
set_option linter.unusedVariables false
set_option linter.unusedSimpArgs false

theorem Gq.skip {x : TExact} {q : Rat} {c e : Nat} (h : Gq x q c) : Gq x (q + 0) (c + e) := (h.mono (Nat.le_add_right _ _)).cast (by grind)
end Go.Proofs.YtkagmdfhodbfmaaGreat

/- What the supports bear adds up, and is multiplied with the weights. -/
namespace Go.Proofs.YtkagmdfhodbfmaaGreat
set_option linter.unusedVariables false
set_option linter.unusedSimpArgs false

def wS (w : List Ld) (g : Int → Rat) : Rat := sumQ (fun x => (x.2 : Rat) * g x.1) w
/-- Weights that are put together of those of two others. -/
structure CombW (E E1 E2 : Int) (w w1 w2 : List Ld) (c d : Rat) : Prop where
  ev : (E : Rat) = c * (E1 : Rat) + d * (E2 : Rat)
  ld : ∀ g : Int → Rat, wS w g = c * wS w1 g + d * wS w2 g
section
variable {E E1 E2 : Int} {w w1 w2 : List Ld} {c d : Rat}
theorem CombW.sum (h : CombW E E1 E2 w w1 w2 c d) {f : Ld → Rat} (g : Int → Rat) (hf : ∀ x, f x = (x.2 : Rat) * g x.1) : sumQ f w = c * sumQ f w1 + d * sumQ f w2 := by
  have e : ∀ l : List Ld, sumQ f l = wS l g := fun l => sumQ_congr fun x _ => hf x
  rw [e, e, e]
  exact h.ld g
theorem CombW.over (h : CombW E E1 E2 w w1 w2 c d) (a : Int) : overQ E w a = c * overQ E1 w1 a + d * overQ E2 w2 a := by
  unfold overQ
  rw [h.sum (fun p => if p < a then (a : Rat) - (p : Rat) else 0) (fun x => by split <;> grind), h.ev]
  grind
theorem CombW.beyond (h : CombW E E1 E2 w w1 w2 c d) (a : Int) : beyondQ E w a = c * beyondQ E1 w1 a + d * beyondQ E2 w2 a := by
  unfold beyondQ
  rw [h.sum (fun p => if p < a then 1 else 0) (fun x => by split <;> grind), h.ev]
  grind
theorem CombW.at_ (h : CombW E E1 E2 w w1 w2 c d) (a : Int) : atQ w a = c * atQ w1 a + d * atQ w2 a := by
  unfold atQ
  exact h.sum (fun p => if p = a then 1 else 0) (fun x => by split <;> grind)
theorem CombW.side (h : CombW E E1 E2 w w1 w2 c d) (fr to : Int) (left : Bool) : sideQ E w fr to left = c * sideQ E1 w1 fr to left + d * sideQ E2 w2 fr to left := by
  unfold sideQ
  rw [h.sum (fun p => if p ≤ fr ∨ to ≤ p then 0 else ((if left then p - fr else to - p : Int) : Rat) * (((to - fr) * (to - fr) - (if left then p - fr else to - p) * (if left then p - fr else to - p) : Int) : Rat) / ((to - fr : Int) : Rat)) (fun x => by split <;> grind), h.ev]
  grind
theorem CombW.turn (h : CombW E E1 E2 w w1 w2 c d) (L : Int) : CombW E E1 E2 (turnW L w) (turnW L w1) (turnW L w2) c d := by
  refine ⟨h.ev, fun g => ?_⟩
  have e : ∀ l : List Ld, wS (turnW L l) g = wS l fun p => g (L - p) := fun l => by
    unfold wS turnW
    rw [sumQ_map]
  rw [e, e, e]
  exact h.ld _
end
/-- A beam whose weights are put together of those of two others. -/
structure Comb (b b1 b2 : TBeam) (c d : Rat) : Prop where
  s1 : b1.supports = b.supports
  s2 : b2.supports = b.supports
  l1 : b1.length = b.length
  l2 : b2.length = b.length
  w : CombW b.even b1.even b2.even (lds b.loads) (lds b1.loads) (lds b2.loads) c d
section
variable {b b1 b2 : TBeam} {c d : Rat}
theorem sp_of {b b1 : TBeam} (h : b1.supports = b.supports) (i : Nat) : sp b1 i = sp b i := by unfold sp; rw [h]
theorem Comb.rp (h : Comb b b1 b2 c d) (i : Nat) : Rp b i = c * Rp b1 i + d * Rp b2 i := by
  unfold Rp
  simp only [sp_of h.s1, sp_of h.s2]
  rw [h.w.side, h.w.side]
  grind
end
end Go.Proofs.YtkagmdfhodbfmaaGreat

/- Exact numbers: Mul. -/
namespace Go.Proofs.YtkagmdfhodbfmaaGreat

theorem RV.w {a : TFrac} (h : RV a) : RW a := ⟨by have := h.d0; omega, by have := h.d1; omega, by have := h.n0; omega, by have := h.n1; omega⟩
end Go.Proofs.YtkagmdfhodbfmaaGreat

/- Exact numbers of the reference: magnitudes of two words. -/
namespace Go.Proofs.YtkagmdfhodbfmaaGreat
set_option linter.unusedSimpArgs false
set_option linter.unusedVariables false

theorem iter_run_inv {σ ρ : Type} {F : σ → Option (σ ⊕ ρ)} {Q : ρ → Prop} (I : Nat → σ → Prop) (n : Nat) (hn : n < big)
    (step : ∀ k s, I k s → (∃ s', F s = some (.inl s') ∧ k < n ∧ I (k + 1) s') ∨ ∃ r, F s = some (.inr r) ∧ Q r) {s : σ} (h : I 0 s) : ∃ r, iterF F big s = some r ∧ Q r :=
  iter_inv I n hn (fun k s _ hi => step k s hi) h
end Go.Proofs.YtkagmdfhodbfmaaGreat

/- The loads of the lines, by batten and by the reference of layer 21. -/
namespace Go.Proofs.YtkagmdfhodbfmaaGreat
set_option linter.unusedVariables false
set_option linter.unusedSimpArgs false

/-- What is small. -/
structure Sm (s : TSet) : Prop where
  fits : Fits s
  name : s.name.size ≤ 1000000
theorem sm_of {s : TSet} {m : Int} (h : smallB s m = true) : Sm s := by
  refine ⟨small_fits h, ?_⟩
  simp only [smallB, smallH, Bool.and_eq_true, decide_eq_true_eq, List.all_eq_true] at h
  omega
theorem t_weight {s : TSet} (h : Sm s) : F_batten_Weight s = some (if validB s = true then (weightI s, 0) else (0, 1)) := by
  apply gs_eq
  unfold F_batten_Weight
  refine go (f_valid s h.fits) ?_
  cases hv : validB s with
  | false => exact gt rfl (gend rfl)
  | true => exact gf rfl (go (f_weight s (Good.of hv)) (gend rfl))
end Go.Proofs.YtkagmdfhodbfmaaGreat

/- Sorting by insertion, as the library does it with few elements. -/
namespace Go.Proofs.YtkagmdfhodbfmaaGreat
set_option linter.unusedVariables false
set_option linter.unusedSimpArgs false

theorem swap_at {α : Type} (A R : List α) (y x : α) : ((A ++ y :: x :: R).set (A.length + 1) y).set A.length x = A ++ x :: y :: R := by
  rw [List.set_append_right _ _ (by omega), show A.length + 1 - A.length = 1 from by omega, List.set_append_right _ _ (by omega), Nat.sub_self]
  rfl
section
variable {α : Type} (key : α → Int)
def SortK (L : List α) : Prop := L.Pairwise fun a b => key a ≤ key b
/-- The inner loop. -/
theorem ins_inner {F : Int × List α × Unit → Option ((Int × List α × Unit) ⊕ (List α × Unit))} (V : α → Prop)
    (hstop : ∀ (x : α) (R : List α), F (0, x :: R, ()) = some (.inr (x :: R, ())))
    (hstep : ∀ (A : List α) (y x : α) (R : List α), V y → V x → A.length + 2 + R.length ≤ 1000000 → F (((A.length + 1 : Nat) : Int), A ++ y :: x :: R, ()) = some (if key x < key y then .inl ((A.length : Int), A ++ x :: y :: R, ()) else .inr (A ++ y :: x :: R, ())))
    (L : List α) (x : α) (C : List α) (hs : SortK key L) (hV : ∀ z ∈ L ++ [x], V z) (hlen : L.length + 1 + C.length ≤ 1000000) :
    ∃ L', iterF F big ((L.length : Int), L ++ x :: C, ()) = some (L' ++ C, ()) ∧ SortK key L' ∧ L'.Perm (L ++ [x]) := by
  obtain ⟨r, e, L', rfl, h1, h2⟩ := iter_run_inv (F := F) (Q := fun r => ∃ L', r = (L' ++ C, ()) ∧ SortK key L' ∧ L'.Perm (L ++ [x]))
    (fun j s => ∃ A B : List α, s = ((A.length : Int), A ++ x :: (B ++ C), ()) ∧ A.length + j = L.length ∧ A ++ B = L ∧ ∀ b ∈ B, key x < key b) L.length (by unfold big; omega) (by
    rintro j s ⟨A, B, rfl, hj, hAB, hB⟩
    rcases List.eq_nil_or_concat A with rfl | ⟨A', y, rfl⟩
    · refine .inr ⟨_, hstop _ _, x :: B, rfl, ?_, ?_⟩
      · simp only [List.nil_append] at hAB
        subst hAB
        exact List.pairwise_cons.2 ⟨fun b hb => Int.le_of_lt (hB b hb), hs⟩
      · simp only [List.nil_append] at hAB
        subst hAB
        exact (List.perm_append_comm (l₁ := [x]) (l₂ := B))
    · rw [List.concat_eq_append] at *
      have hVy : V y := hV y (by rw [← hAB]; simp)
      have hVx : V x := hV x (by simp)
      have hl : A'.length + 1 + B.length = L.length := by rw [← hAB]; simp; omega
      have hst := hstep A' y x (B ++ C) hVy hVx (by rw [List.length_append]; omega)
      have e1 : (A' ++ [y]) ++ x :: (B ++ C) = A' ++ y :: x :: (B ++ C) := by simp
      have e2 : (((A' ++ [y]).length : Nat) : Int) = ((A'.length + 1 : Nat) : Int) := by simp
      rw [e1, e2, hst]
      by_cases hc : key x < key y
      · rw [if_pos hc]
        refine .inl ⟨_, rfl, by simp at hj; omega, A', y :: B, rfl, by simp at hj; omega, by rw [← hAB]; simp, ?_⟩
        intro b hb
        rcases List.mem_cons.1 hb with rfl | hb
        · exact hc
        · exact hB b hb
      · rw [if_neg hc]
        have hs' := hs
        rw [← hAB] at hs'
        have hperm : (A' ++ [y] ++ x :: B).Perm (L ++ [x]) := by
          rw [← hAB]
          exact (List.perm_middle.trans (List.perm_append_comm (l₁ := [x]) (l₂ := A' ++ [y] ++ B)))
        refine .inr ⟨_, rfl, (A' ++ [y]) ++ x :: B, by simp, ?_, hperm⟩
        unfold SortK at *
        rw [List.pairwise_append] at hs'
        obtain ⟨p1, p2, p3⟩ := hs'
        rw [List.pairwise_append]
        refine ⟨p1, List.pairwise_cons.2 ⟨fun b hb => Int.le_of_lt (hB b hb), p2⟩, fun a ha b hb => ?_⟩
        rcases List.mem_cons.1 hb with rfl | hb
        · rcases List.mem_append.1 ha with ha | ha
          · have := (List.pairwise_append.1 p1).2.2 a ha y (by simp)
            omega
          · obtain rfl := List.mem_singleton.1 ha
            omega
        · exact p3 a ha b hb) (s := ((L.length : Int), L ++ x :: C, ())) ⟨L, [], rfl, rfl, by simp, by simp⟩
  exact ⟨L', e, h1, h2⟩
/-- The outer loop, from the second element on. -/
theorem ins_outer {G : Int × List α × Unit → Option ((Int × List α × Unit) ⊕ (List α × Unit))} (V : α → Prop) (P : List α) (hP : P.length ≤ 1000000) (hp0 : 1 ≤ P.length)
    (hin : ∀ (L : List α) (x : α) (C : List α), L.length + 1 + C.length = P.length → SortK key L → (∀ z ∈ L ++ [x], V z) → ∃ L', G ((L.length : Int), L ++ x :: C, ()) = some (.inl (((L.length + 1 : Nat) : Int), L' ++ C, ())) ∧ SortK key L' ∧ L'.Perm (L ++ [x]))
    (hout : ∀ L : List α, L.length = P.length → G ((P.length : Int), L, ()) = some (.inr (L, ()))) (hV : ∀ z ∈ P, V z) :
    ∃ L, iterF G big (1, P, ()) = some (L, ()) ∧ SortK key L ∧ L.Perm P := by
  obtain ⟨r, e, L, rfl, h1, h2⟩ := iter_run_inv (F := G) (Q := fun r => ∃ L, r = (L, ()) ∧ SortK key L ∧ L.Perm P)
    (fun j s => j + 1 ≤ P.length ∧ ∃ L, s = (((j + 1 : Nat) : Int), L ++ P.drop (j + 1), ()) ∧ SortK key L ∧ L.Perm (P.take (j + 1))) P.length (by unfold big; omega) (by
    rintro j s ⟨hj, L, rfl, hs, hp⟩
    have hl : L.length = j + 1 := by have := hp.length_eq; rw [List.length_take] at this; omega
    by_cases hlt : j + 1 < P.length
    · rw [List.drop_eq_getElem_cons hlt]
      obtain ⟨L', e1, e2, e3⟩ := hin L (P[j + 1]) (P.drop (j + 1 + 1)) (by rw [List.length_drop]; omega) hs (by
        intro z hz
        rcases List.mem_append.1 hz with hz | hz
        · exact hV z (List.mem_of_mem_take (hp.mem_iff.1 hz))
        · obtain rfl := List.mem_singleton.1 hz
          exact hV _ (List.getElem_mem _))
      rw [hl] at e1
      rw [e1]
      refine .inl ⟨_, rfl, by omega, by omega, L', rfl, e2, e3.trans ?_⟩
      rw [List.take_succ_eq_append_getElem hlt]
      exact hp.append_right _
    · have hje : j + 1 = P.length := by omega
      rw [hje, List.drop_length, List.append_nil, hout L (by omega)]
      refine .inr ⟨_, rfl, L, rfl, hs, ?_⟩
      rw [hje, List.take_length] at hp
      exact hp) (s := (1, P, ())) ⟨hp0, P.take 1, by rw [List.take_append_drop]; rfl, by
        cases P with
        | nil => exact .nil
        | cons a P => simp [SortK], .refl _⟩
  exact ⟨L, e, h1, h2⟩
theorem ins_innerG {F : Int × List α × Unit → Option ((Int × List α × Unit) ⊕ (List α × Unit))} (V : α → Prop)
    (hstop : ∀ (x : α) (R : List α), F (0, x :: R, ()) = some (.inr (x :: R, ())))
    (hstep : ∀ (A : List α) (y x : α) (R : List α), V y → V x → A.length + 2 + R.length ≤ 1000000 → F (((A.length + 1 : Nat) : Int), A ++ y :: x :: R, ()) = some (if key x < key y then .inl ((A.length : Int), A ++ x :: y :: R, ()) else .inr (A ++ y :: x :: R, ())))
    (L : List α) (x : α) (C : List α) (hs : SortK key L) (hV : ∀ z ∈ L ++ [x], V z) (hlen : L.length + 1 + C.length ≤ 1000000) :
    Gs (iterF F big ((L.length : Int), L ++ x :: C, ())) fun r => ∃ L', r = (L' ++ C, ()) ∧ SortK key L' ∧ L'.Perm (L ++ [x]) := by
  obtain ⟨L', e, h⟩ := ins_inner key V hstop hstep L x C hs hV hlen
  exact ⟨_, e, L', rfl, h⟩
theorem ins_outerG {G : Int × List α × Unit → Option ((Int × List α × Unit) ⊕ (List α × Unit))} (V : α → Prop) (P : List α) (hP : P.length ≤ 1000000) (hV : ∀ z ∈ P, V z)
    (hin : ∀ (L : List α) (x : α) (C : List α), L.length + 1 + C.length = P.length → SortK key L → (∀ z ∈ L ++ [x], V z) → Gs (G ((L.length : Int), L ++ x :: C, ())) fun y => ∃ L', y = .inl (((L.length + 1 : Nat) : Int), L' ++ C, ()) ∧ SortK key L' ∧ L'.Perm (L ++ [x]))
    (hout : ∀ (k : Int) (L : List α), (P.length : Int) ≤ k → L.length = P.length → G (k, L, ()) = some (.inr (L, ()))) :
    Gs (iterF G big (1, P, ())) fun r => ∃ L, r = (L, ()) ∧ SortK key L ∧ L.Perm P := by
  cases P with
  | nil =>
    refine ⟨([], ()), ?_, [], rfl, by simp [SortK], .refl _⟩
    have h := hout 1 [] (by simp) rfl
    show (G (1, [], ())).bind _ = _
    rw [h]; rfl
  | cons a P =>
    obtain ⟨L, e, h⟩ := ins_outer key V (a :: P) hP (by simp) (fun L x C h1 h2 h3 => by
      obtain ⟨y, e, L', rfl, h⟩ := hin L x C h1 h2 h3
      exact ⟨L', e, h⟩) (fun L hL => hout _ L (Int.le_refl _) hL) hV
    exact ⟨_, e, L, rfl, h⟩
end
end Go.Proofs.YtkagmdfhodbfmaaGreat

/- The room between items that do not overlap: plain lists. -/
namespace Go.Proofs.YtkagmdfhodbfmaaGreat
set_option linter.unusedVariables false
set_option linter.unusedSimpArgs false

/-- One item ends where the other one begins, or before. -/
def Aft (x y : TItem) : Prop := x.at_ + x.width ≤ y.at_
def Apt (x y : TItem) : Prop := Aft x y ∨ Aft y x
/-- Items on a pipe, apart from each other. -/
structure Lay (L : Int) (l : List TItem) : Prop where
  it : ∀ x ∈ l, 0 ≤ x.at_ ∧ 1 ≤ x.width ∧ x.at_ + x.width ≤ L
  ap : l.Pairwise Apt
theorem Apt.sym {x y : TItem} (h : Apt x y) : Apt y x := Or.symm h
theorem Lay.perm {L : Int} {l l' : List TItem} (h : Lay L l) (hp : l'.Perm l) : Lay L l' :=
  ⟨fun x hx => h.it x (hp.mem_iff.1 hx), (hp.pairwise_iff Apt.sym).2 h.ap⟩
/-- In order, from a place on. -/
structure Row (L a : Int) (l : List TItem) : Prop where
  it : ∀ x ∈ l, a ≤ x.at_ ∧ 1 ≤ x.width ∧ x.at_ + x.width ≤ L
  ap : l.Pairwise Aft
  aL : a ≤ L
def roomL (L : Int) : Int → List TItem → List (Int × Int)
  | a, [] => if a < L then [(a, L)] else []
  | a, x :: l => (if a < x.at_ then [(a, x.at_)] else []) ++ roomL L (x.at_ + x.width) l
theorem roomL_nil (L a : Int) : roomL L a [] = if a < L then [(a, L)] else [] := rfl
theorem roomL_cons (L a : Int) (x : TItem) (l : List TItem) : roomL L a (x :: l) = (if a < x.at_ then [(a, x.at_)] else []) ++ roomL L (x.at_ + x.width) l := rfl
theorem Row.tail {L a : Int} {x : TItem} {l : List TItem} (h : Row L a (x :: l)) : Row L (x.at_ + x.width) l := by
  obtain ⟨h1, h2, h3⟩ := h
  rw [List.pairwise_cons] at h2
  refine ⟨fun y hy => ?_, h2.2, ?_⟩
  · have := h1 y (List.mem_cons_of_mem _ hy)
    have := h2.1 y hy
    unfold Aft at this
    omega
  · have := h1 x List.mem_cons_self
    omega
theorem Row.head {L a : Int} {x : TItem} {l : List TItem} (h : Row L a (x :: l)) : a ≤ x.at_ ∧ 1 ≤ x.width ∧ x.at_ + x.width ≤ L := h.it x List.mem_cons_self
theorem room_in {L : Int} : ∀ (l : List TItem) (a : Int), Row L a l → ∀ p ∈ roomL L a l, a ≤ p.1 ∧ p.1 < p.2 ∧ p.2 ≤ L
  | [], a, h, p, hp => by
    unfold roomL at hp
    split at hp
    · simp at hp; subst hp; simp; omega
    · simp at hp
  | x :: l, a, h, p, hp => by
    have h1 := h.head
    unfold roomL at hp
    rw [List.mem_append] at hp
    rcases hp with hp | hp
    · split at hp
      · simp at hp; subst hp; simp; omega
      · simp at hp
    · have := room_in l _ h.tail p hp
      omega
/-- A place of some width is in the room exactly if no item is there. -/
theorem room_fits {L : Int} {p w : Int} (hw : 1 ≤ w) : ∀ (l : List TItem) (a : Int), Row L a l → ((∃ q ∈ roomL L a l, q.1 ≤ p ∧ p + w ≤ q.2) ↔ a ≤ p ∧ p + w ≤ L ∧ ∀ y ∈ l, p + w ≤ y.at_ ∨ y.at_ + y.width ≤ p)
  | [], a, h => by
    unfold roomL
    split
    · simp
    · simp; omega
  | x :: l, a, h => by
    have h1 := h.head
    have ih := room_fits (p := p) hw l _ h.tail
    have hx := h.tail
    unfold roomL
    constructor
    · rintro ⟨q, hq, h2, h3⟩
      rw [List.mem_append] at hq
      rcases hq with hq | hq
      · split at hq
        · simp at hq
          subst hq
          simp only at h2 h3
          refine ⟨h2, by omega, fun y hy => ?_⟩
          rcases List.mem_cons.1 hy with rfl | hy
          · omega
          · have := hx.it y hy; omega
        · simp at hq
      · obtain ⟨a1, a2, a3⟩ := ih.1 ⟨q, hq, h2, h3⟩
        refine ⟨by omega, a2, fun y hy => ?_⟩
        rcases List.mem_cons.1 hy with rfl | hy
        · omega
        · exact a3 y hy
    · rintro ⟨a1, a2, a3⟩
      rcases a3 x List.mem_cons_self with h4 | h4
      · refine ⟨(a, x.at_), ?_, a1, h4⟩
        rw [if_pos (by omega)]
        simp
      · obtain ⟨q, hq, h5⟩ := ih.2 ⟨h4, a2, fun y hy => a3 y (List.mem_cons_of_mem _ hy)⟩
        exact ⟨q, List.mem_append_right _ hq, h5⟩
theorem room_len {L : Int} : ∀ (l : List TItem) (a : Int), (roomL L a l).length ≤ l.length + 1
  | [], a => by unfold roomL; split <;> simp
  | x :: l, a => by
    have := room_len (L := L) l (x.at_ + x.width)
    unfold roomL
    rw [List.length_append, List.length_cons]
    split <;> simp <;> omega
/-- The items in order. -/
def srtI (l : List TItem) : List TItem := l.mergeSort fun a b => decide (a.at_ ≤ b.at_)
theorem srt_perm (l : List TItem) : (srtI l).Perm l := List.mergeSort_perm _ _
theorem srt_le (l : List TItem) : (srtI l).Pairwise fun a b => a.at_ ≤ b.at_ :=
  (List.pairwise_mergeSort (le := fun a b : TItem => decide (a.at_ ≤ b.at_)) (by simp; omega) (by simp; omega) l).imp (by simp)
theorem Lay.aft {L : Int} {l : List TItem} (h : Lay L l) (hs : l.Pairwise fun a b => a.at_ ≤ b.at_) : l.Pairwise Aft := by
  have := h.ap.and hs
  refine List.Pairwise.imp_of_mem ?_ this
  rintro x y hx hy ⟨h1, h2⟩
  rcases h1 with h1 | h1
  · exact h1
  · have := h.it x hx
    have := h.it y hy
    unfold Aft at h1 ⊢
    omega
theorem Lay.row {L : Int} {l : List TItem} (h : Lay L l) (hL : 0 ≤ L) (hs : l.Pairwise fun a b => a.at_ ≤ b.at_) : Row L 0 l := ⟨h.it, h.aft hs, hL⟩
/-- There is one order. -/
theorem srt_one {L : Int} {l l' : List TItem} (h : Lay L l) (hp : l'.Perm l) (hs : l'.Pairwise fun a b => a.at_ ≤ b.at_) : l' = srtI l := by
  have h1 := h.perm hp
  have h2 := h.perm (srt_perm l)
  have a1 := h1.aft hs
  have a2 := h2.aft (srt_le l)
  refine List.Perm.eq_of_pairwise (le := Aft) ?_ a1 a2 (hp.trans (srt_perm l).symm)
  intro a b ha hb h3 h4
  have := h1.it a ha
  have := h2.it b hb
  unfold Aft at h3 h4
  omega
def roomI (s : TSet) : List (Int × Int) := roomL s.length 0 (srtI s.items)
theorem lay_of {s : TSet} (hv : validB s = true) : Lay s.length s.items := by
  have hg := Good.of hv
  refine ⟨fun x hx => ?_, ?_⟩
  · have h := hg.items x hx
    exact ⟨h.p0, h.w1, h.pw⟩
  · unfold validB at hv
    rw [Bool.and_eq_true, Bool.and_eq_true, Bool.and_eq_true, Bool.and_eq_true] at hv
    obtain ⟨h1, h2, h3, h4, h5⟩ := hv
    unfold itemsB at h4
    rw [Bool.and_eq_true, Bool.and_eq_true] at h4
    rw [pairs_iff] at h4
    rw [List.pairwise_iff_getElem]
    intro i j hi hj hij
    have := (h4.2.1 j hj).2 i hij
    unfold apartB at this
    simpa [Apt, Aft] using this
theorem row_of {s : TSet} (hv : validB s = true) : Row s.length 0 (srtI s.items) :=
  ((lay_of hv).perm (srt_perm _)).row (by have := (Good.of hv).n0; omega) (srt_le _)
end Go.Proofs.YtkagmdfhodbfmaaGreat

/- The room of a set, by the program and by the reference. -/
namespace Go.Proofs.YtkagmdfhodbfmaaGreat
set_option linter.unusedVariables false
set_option linter.unusedSimpArgs false

theorem f_cmpI (x y : Int) : F_cmp_Compare_int x y = some (if x < y then -1 else if y < x then 1 else 0) := by
  apply gs_eq
  unfold F_cmp_Compare_int
  have hn : ∀ z : Int, F_cmp_isNaN_int z = some false := fun z => by unfold F_cmp_isNaN_int; simp
  refine go (hn x) (go (hn y) (gf rfl (gf rfl ?_)))
  by_cases h1 : x < y
  · rw [if_pos h1]; exact gt (decide_eq_true h1) (gend rfl)
  · rw [if_neg h1]
    refine gf (decide_eq_false h1) ?_
    by_cases h2 : y < x
    · rw [if_pos h2]; exact gt (decide_eq_true h2) (gend rfl)
    · rw [if_neg h2]; exact gf (decide_eq_false h2) (gend rfl)
theorem f_room1 (a b : TItem) : F_batten_Room_1 a b = some (if a.at_ < b.at_ then -1 else if b.at_ < a.at_ then 1 else 0) := by
  unfold F_batten_Room_1
  rw [f_cmpI]; rfl
theorem fold_app {α : Type} : ∀ (l : List (Nat × α)) (a : List α), a.length + l.length ≤ 2147483648 → foldR (σ := List α × Unit) (τ := Nat × α) (fun s x => if s.1.length + ([x.2] : List α).length ≤ 2147483648 then some (s.1 ++ ([x.2] : List α), ()) else none) l (a, ()) = some (a ++ l.map (fun x => x.2), ())
  | [], a, h => by simp [foldR]
  | x :: l, a, h => by
    have h2 : a.length + ([x.2] : List α).length ≤ 2147483648 := by simp at h ⊢; omega
    have ih := fold_app l (a ++ [x.2]) (by simp at h ⊢; omega)
    unfold foldR
    simp only
    rw [if_pos h2]
    rw [Option.bind_some, ih]
    simp
theorem ordS_all {α : Type} (l : List α) : (ordS false l).map (fun x => x.2) = l := by
  unfold ordS
  rw [List.map_map]
  show l.zipIdx.map (fun p => p.1) = l
  simp
theorem f_lenok {n : Nat} (h2 : n ≤ 1000) : ∃ r, F_math_bits_Len (IntKind.u64.wrap ((n : Nat) : Int)) = some r := by
  cases n with
  | zero => exact ⟨0, by kernel_rfl⟩
  | succ n =>
    unfold F_math_bits_Len
    rw [wrapu, show ((n + 1 : Nat) : Int) % 18446744073709551616 = ((n + 1 : Nat) : Int) from by omega]
    obtain ⟨s, _, e, _⟩ := f_len64 (y := ((n + 1 : Nat) : Int)) (by omega) (by omega)
    rw [e]
    exact ⟨_, rfl⟩
theorem mid_fst {α : Type} (A R : List α) (y : α) : (A ++ y :: R)[A.length]? = some y := by simp
theorem mid_snd {α : Type} (A R : List α) (y x : α) : (A ++ y :: x :: R)[A.length + 1]? = some x := by
  rw [List.getElem?_append_right (by omega), show A.length + 1 - A.length = 1 from by omega]; rfl
def spans (l : List (Int × Int)) : List TSpan := l.map fun p => ⟨p.1, p.2⟩
theorem span_app (l m : List (Int × Int)) : spans (l ++ m) = spans l ++ spans m := List.map_append
theorem t_room {s : TSet} (h : Fits s) (h12 : s.items.length ≤ 12 ∨ validB s = false) : F_batten_Room s = some (if validB s = true then (spans (roomI s), 0) else ([], 1)) := by
  apply gs_eq
  unfold F_batten_Room
  refine go (f_valid s h) ?_
  cases hv : validB s with
  | false => exact gt rfl (gend rfl)
  | true =>
    have hg := Good.of hv
    have h12 : s.items.length ≤ 12 := by rcases h12 with h | h; exact h; rw [hv] at h; cases h
    have hfold := fold_app (ordS false s.items) [] (by rw [← List.length_map (f := fun x : Nat × TItem => x.2), ordS_all]; simp; omega)
    rw [ordS_all, List.nil_append] at hfold
    obtain ⟨r6, hr6⟩ := f_lenok (n := s.items.length) (by omega)
    refine gf rfl (gbif (by omega) (go hfold (gs (go hr6 ?_))))
    refine gloop (fun r => ∃ L, r = (L, ()) ∧ SortK (fun x : TItem => x.at_) L ∧ L.Perm s.items) (fun k t => k = 0 ∧ t = (0, ((s.items.length : Nat) : Int), r6, true, true, s.items, ())) 0 (by unfold big; omega) ⟨rfl, rfl⟩ ?_ ?_
    · rintro k t _ ⟨rfl, rfl⟩
      refine gt (by show decide (IntKind.i64.wrap (((s.items.length : Nat) : Int) - 0) ≤ 12) = true; rw [wrap64 (by omega) (by omega)]; exact decide_eq_true (by omega)) (gcall (Q := fun r => ∃ L, r = (L, ()) ∧ SortK (fun x : TItem => x.at_) L ∧ L.Perm s.items) ?_ fun r hr => gend hr)
      rw [show IntKind.i64.wrap ((0 : Int) + 1) = 1 from by decide]
      refine ins_outerG (fun x : TItem => x.at_) (fun _ => True) s.items (by omega) (fun _ _ => trivial) ?_ ?_
      · intro L x C hlen hs _
        refine gt (decide_eq_true (by show ((L.length : Nat) : Int) < ((s.items.length : Nat) : Int); omega)) (gcall (ins_innerG (fun x : TItem => x.at_) (fun _ => True) ?_ ?_ L x C hs (fun _ _ => trivial) (by omega)) fun r hr => ?_)
        · intro x R; rfl
        · intro A y x R _ _ hl
          apply gs_eq
          have m0 := mid_fst A (x :: R) y
          have m1 := mid_snd A R y x
          have w1 : IntKind.i64.wrap (((A.length + 1 : Nat) : Int) - 1) = (A.length : Int) := by rw [wrap64 (by omega) (by omega)]; omega
          refine gbt (decide_eq_true (by show ((A.length + 1 : Nat) : Int) > 0; omega)) (goo (idx_q m1) (goo (at_w rfl m1) ?_))
          simp only [w1]
          refine goo (idx_q m0) (goo (at_w rfl m0) (goo (f_room1 x y) (gs ?_)))
          by_cases hc : x.at_ < y.at_
          · simp only [if_pos hc]
            have s1 : (A ++ y :: x :: R).set (A.length + 1) y = A ++ y :: y :: R := by
              rw [List.set_append_right _ _ (by omega), show A.length + 1 - A.length = 1 from by omega]; rfl
            have m2 := mid_fst A (y :: R) y
            have s2 := swap_at A R y x
            rw [s1] at s2
            refine gt rfl (go (idx_q m0) (go (at_w rfl m0) (go (idx_q m1) (go (at_w rfl m1) (go (idx_q m1) (go (at_w rfl m1) ?_))))))
            simp only [Int.toNat_natCast, s1]
            refine go (idx_q m2) (go m2 (gend ?_))
            rw [s2]
          · simp only [if_neg hc]
            refine gf ?_ (gend rfl)
            split <;> rfl
        · obtain ⟨L', rfl, h1, h2⟩ := hr
          refine gend ⟨L', ?_, h1, h2⟩
          rw [wrap64 (by omega) (by omega)]
          rfl
      · intro k L hk hL
        show (bif decide (k < ((s.items.length : Nat) : Int)) then _ else _) = _
        rw [decide_eq_false (by omega)]
        rfl
    · rintro r ⟨L, rfl, hs, hp⟩
      have hL : L = srtI s.items := srt_one (lay_of hv) hp hs
      subst hL
      have hn : (srtI s.items).length = s.items.length := (srt_perm _).length_eq
      have hrow := row_of hv
      have hroom : roomI s = roomL s.length 0 (srtI s.items) := rfl
      generalize srtI s.items = l at *
      have a1 := hg.n0; have a2 := hg.n1
      refine gif (by simp; omega) ?_
      simp only [if_true]
      rw [hroom]
      -- the items, and the end of the pipe
      have hlen : (l ++ ([(TItem.mk (⟨#[]⟩ : ByteArray) s.length 0 0 0 0 0)] : List TItem)).length = l.length + 1 := by simp
      refine gloop (fun r => r = (spans (roomL s.length 0 l), ())) (fun k t => k ≤ l.length + 1 ∧ ((k ≤ l.length ∧ ∃ out a, t = (a, (k : Int), spans out, ()) ∧ Row s.length a (l.drop k) ∧ out.length ≤ k ∧ out ++ roomL s.length a (l.drop k) = roomL s.length 0 l) ∨ (k = l.length + 1 ∧ ∃ a, t = (a, (k : Int), spans (roomL s.length 0 l), ())))) (l.length + 1) (by unfold big; omega) ⟨Nat.zero_le _, .inl ⟨Nat.zero_le _, [], 0, rfl, hrow, by simp, rfl⟩⟩ ?_ ?_
      · rintro k t hk ⟨_, ⟨hk2, out, a, rfl, hr, ho, he⟩ | ⟨rfl, a, rfl⟩⟩
        · refine gt (decide_eq_true (by show (k : Int) < (((l ++ _).length : Nat) : Int); rw [hlen]; omega)) ?_
          rcases Nat.lt_or_ge k l.length with hlt | hge
          · have g1 : (l ++ ([(TItem.mk (⟨#[]⟩ : ByteArray) s.length 0 0 0 0 0)] : List TItem))[k]? = some l[k] := by
              rw [List.getElem?_append_left hlt, List.getElem?_eq_getElem hlt]
            rw [List.drop_eq_getElem_cons hlt] at hr he
            have hh := hr.head
            have ht := hr.tail
            have ha := hr.aL
            have h0 : 0 ≤ a ∨ a < 0 := by omega
            have hb : 0 ≤ l[k].at_ := (hrow.it _ (List.getElem_mem hlt)).1
            refine go (idx_q g1) (go (at_w rfl g1) ?_)
            rw [roomL_cons] at he
            by_cases hc : a < l[k].at_
            · rw [if_pos hc, ← List.append_assoc] at he
              refine gbt (decide_eq_true hc) (gbif (by simp [spans]; omega) (gs (gend ⟨by omega, by omega, .inl ⟨hlt, out ++ [(a, l[k].at_)], _, ?_, ht, by simp; omega, he⟩⟩)))
              show (IntKind.i64.wrap (l[k].at_ + l[k].width), IntKind.i64.wrap ((k : Int) + 1), spans out ++ [(⟨a, l[k].at_⟩ : TSpan)], ()) = _
              rw [span_app, wrap64 (by omega) (by omega), wrap64 (by omega) (by omega)]
              rfl
            · rw [if_neg hc] at he
              refine gbf (decide_eq_false hc) (gs (gend ⟨by omega, by omega, .inl ⟨hlt, out, _, ?_, ht, by omega, he⟩⟩))
              show (IntKind.i64.wrap (l[k].at_ + l[k].width), IntKind.i64.wrap ((k : Int) + 1), spans out, ()) = _
              rw [wrap64 (by omega) (by omega), wrap64 (by omega) (by omega)]
              rfl
          · have hke : k = l.length := by omega
            subst hke
            rw [List.drop_length] at hr he
            have g1 : (l ++ ([(TItem.mk (⟨#[]⟩ : ByteArray) s.length 0 0 0 0 0)] : List TItem))[l.length]? = some (TItem.mk (⟨#[]⟩ : ByteArray) s.length 0 0 0 0 0) := by simp
            have ha := hr.aL
            refine go (idx_q g1) (go (at_w rfl g1) ?_)
            rw [roomL_nil] at he
            by_cases hc : a < s.length
            · rw [if_pos hc] at he
              refine gbt (decide_eq_true hc) (gbif (by simp [spans]; omega) (gs (gend ⟨by omega, by omega, .inr ⟨rfl, IntKind.i64.wrap (s.length + 0), ?_⟩⟩)))
              show (_, IntKind.i64.wrap (((l.length : Nat) : Int) + 1), spans out ++ [(⟨a, s.length⟩ : TSpan)], ()) = _
              rw [← he, span_app, wrap64 (n := ((l.length : Nat) : Int) + 1) (by omega) (by omega)]
              rfl
            · rw [if_neg hc, List.append_nil] at he
              refine gbf (decide_eq_false hc) (gs (gend ⟨by omega, by omega, .inr ⟨rfl, IntKind.i64.wrap (s.length + 0), ?_⟩⟩))
              show (_, IntKind.i64.wrap (((l.length : Nat) : Int) + 1), spans out, ()) = _
              rw [he, wrap64 (n := ((l.length : Nat) : Int) + 1) (by omega) (by omega)]
              rfl
        · refine gf (decide_eq_false (by show ¬ ((l.length + 1 : Nat) : Int) < (((l ++ _).length : Nat) : Int); rw [hlen]; omega)) (gend rfl)
      · rintro r rfl
        exact gend rfl
end Go.Proofs.YtkagmdfhodbfmaaGreat

/- The sentences on sets and on the loads of their lines. -/
namespace Go.Proofs.YtkagmdfhodbfmaaGreat
set_option linter.unusedVariables false
set_option linter.unusedSimpArgs false

theorem awake21 : F_law21_awake = some true := by kernel_rfl
theorem t_large (s : TSet) : F_law21_large s = some (!smallB s 8) := by
  unfold F_law21_large
  rw [f_small]; rfl
theorem small_12 {s : TSet} (h : smallB s 8 = true) : s.items.length ≤ 8 ∨ validB s = false := by
  simp only [smallB, smallH, Bool.and_eq_true, decide_eq_true_eq] at h
  by_cases hv : validB s = true
  · have := (Good.of hv).ni
    omega
  · right; simpa using hv
theorem list_same {α : Type} {n : Nat} (hn : n ≤ 1000000) {F : Int × Unit → Option ((Int × Unit) ⊕ ((Bool × Unit) ⊕ Unit))} (hin : ∀ k, k < n → F ((k : Int), ()) = some (.inl (((k + 1 : Nat) : Int), ()))) (hout : F ((n : Int), ()) = some (.inr (.inr ()))) {γ : Type} {K : (Bool × Unit) ⊕ Unit → Option γ} {P : γ → Prop} (hK : Gs (K (.inr ())) P) : Gs ((iterF F big (0, ())).bind K) P := by
  refine gloop (fun r => r = .inr ()) (fun k t => k ≤ n ∧ t = ((k : Int), ())) n (by unfold big; omega) ⟨Nat.zero_le _, rfl⟩ ?_ ?_
  · rintro k t hk ⟨_, rfl⟩
    rcases Nat.lt_or_ge k n with hlt | hge
    · exact ⟨_, hin k hlt, hlt, hlt, rfl⟩
    · have : k = n := by omega
      subst this
      exact ⟨_, hout, rfl⟩
  · rintro r rfl
    exact hK
end Go.Proofs.YtkagmdfhodbfmaaGreat

/- A further item, by the program and by the reference; the room's sentence. -/
namespace Go.Proofs.YtkagmdfhodbfmaaGreat
set_option linter.unusedVariables false
set_option linter.unusedSimpArgs false

def zeroSet : TSet := TSet.mk (⟨#[]⟩ : ByteArray) 0 0 0 0 ([] : List Int) 0 0 0 0 0 ([] : List TItem) ([] : List TBrick)
def putS (s : TSet) (x : TItem) : TSet := { s with items := s.items ++ [x] }
def putT (s : TSet) (x : TItem) : TSet × Int :=
  if validB s = false then (zeroSet, 1) else if s.items.any (fun y => sameName y.name x.name) = true then (zeroSet, 15) else if s.items.length = 40 then (zeroSet, 4)
  else if (aloneB x && insideB x s.length) = false then (zeroSet, 1) else if s.items.any (fun y => !apartB x y) = true then (zeroSet, 22) else (putS s x, 0)
theorem item_sum {s : TSet} (hg : Good s) {y : TItem} (hy : y ∈ s.items) : -4611686018427387904 ≤ y.at_ + y.width ∧ y.at_ + y.width ≤ 4611686018427387904 := by
  have h := hg.items y hy
  have b1 := h.p0; have b2 := h.w1; have b3 := h.pw; have a2 := hg.n1
  omega
theorem t_put {s : TSet} (h : Sm s) {x : TItem} (hx : x.name.size ≤ 60) : F_batten_Put s x = some (putT s x) := by
  apply gs_eq
  unfold F_batten_Put putT
  refine go (f_valid s h.fits) ?_
  cases hv : validB s with
  | false => exact gt rfl (gend rfl)
  | true =>
    have hg := Good.of hv
    have a1 := hg.n0; have a2 := hg.n1; have a7 := hg.ni
    rw [if_neg (by simp)]
    refine gf rfl (go (f_slices_ContainsFunc_api_Item s.items (by omega) (fun z3 => F_batten_Put_1 z3 x) (fun y => sameName y.name x.name) (fun y _ => rfl)) ?_)
    cases hn : s.items.any (fun y => sameName y.name x.name) with
    | true => rw [if_pos rfl]; exact gt rfl (gend rfl)
    | false =>
      rw [if_neg (by simp)]
      refine gf rfl ?_
      by_cases h40 : s.items.length = 40
      · rw [if_pos h40]
        exact gt (by rw [beq_iff_eq]; omega) (gend rfl)
      · rw [if_neg h40]
        refine gf (by rw [beq_eq_false_iff_ne]; omega) (goo (f_alone x (by omega)) ?_)
        cases ha : aloneB x with
        | false => exact gbt rfl (gs (gt rfl (gend rfl)))
        | true =>
          refine gbf rfl (goo (f_inside x s.length (by omega) (by omega)) ?_)
          cases hi : insideB x s.length with
          | false => exact gs (gt rfl (gend rfl))
          | true =>
            have hxs := inside_sum hi (by omega)
            have hp2 : ∀ y ∈ s.items, F_batten_Put_2 y x = some (!apartB x y) := fun y hy => by
              unfold F_batten_Put_2
              rw [f_apart x y hxs (item_sum hg hy)]; rfl
            refine gs (gf rfl (go (f_slices_ContainsFunc_api_Item s.items (by omega) (fun z11 => F_batten_Put_2 z11 x) (fun y => !apartB x y) hp2) ?_))
            rw [if_neg (by simp)]
            cases hap : s.items.any (fun y => !apartB x y) with
            | true => exact gt rfl (gend rfl)
            | false => exact gf rfl (go (f_copy s h.fits) (gif (by simp; omega) (gend rfl)))
theorem t_sameSet (a : TSet) (h1 : a.lines.length ≤ 1000000) (h2 : a.items.length ≤ 1000000) (h3 : a.bricks.length ≤ 1000000) : F_ref21_Same a a = some true := by
  apply gs_eq
  unfold F_ref21_Same
  refine gbf (by simp) (gbf (by simp) (gbf (by simp) (gbf (by simp) (gbf (by simp) (gbf (by simp) (gbf (by simp) (gbf (by simp) (gbf (by simp) (gs (gf (by simp) (gbf (by simp) (gbf (by simp) (gs (gf (by simp) ?_))))))))))))))
  refine list_same (α := Unit) (n := a.lines.length) h1 ?_ ?_ ?_
  · intro k hk
    apply gs_eq
    refine gt (decide_eq_true (by show (k : Int) < ((a.lines.length : Nat) : Int); omega)) (go (idx_at hk) (go (idx_at hk) (gf (by simp) (gend ?_))))
    rw [wrap64 (by omega) (by omega)]; rfl
  · apply gs_eq
    exact gf (decide_eq_false (by show ¬ ((a.lines.length : Nat) : Int) < ((a.lines.length : Nat) : Int); omega)) (gend rfl)
  refine list_same (α := Unit) (n := a.items.length) h2 ?_ ?_ ?_
  · intro k hk
    apply gs_eq
    refine gt (decide_eq_true (by show (k : Int) < ((a.items.length : Nat) : Int); omega)) (go (idx_at hk) (go (idx_at hk) (gf (by simp) (gend ?_))))
    rw [wrap64 (by omega) (by omega)]; rfl
  · apply gs_eq
    exact gf (decide_eq_false (by show ¬ ((a.items.length : Nat) : Int) < ((a.items.length : Nat) : Int); omega)) (gend rfl)
  refine list_same (α := Unit) (n := a.bricks.length) h3 ?_ ?_ (gend rfl)
  · intro k hk
    apply gs_eq
    refine gt (decide_eq_true (by show (k : Int) < ((a.bricks.length : Nat) : Int); omega)) (go (idx_at hk) (go (idx_at hk) (gf (by simp) (gend ?_))))
    rw [wrap64 (by omega) (by omega)]; rfl
  · apply gs_eq
    exact gf (decide_eq_false (by show ¬ ((a.bricks.length : Nat) : Int) < ((a.bricks.length : Nat) : Int); omega)) (gend rfl)
theorem span_len (l : List (Int × Int)) : (spans l).length = l.length := List.length_map _
theorem room_len2 {s : TSet} (h : s.items.length ≤ 40) : (spans (roomI s)).length ≤ 1000000 := by
  rw [span_len]
  unfold roomI
  have h1 := room_len (L := s.length) (srtI s.items) 0
  have h2 := (srt_perm s.items).length_eq
  omega
end Go.Proofs.YtkagmdfhodbfmaaGreat

/- Room and items fill the pipe; what can be put. -/
namespace Go.Proofs.YtkagmdfhodbfmaaGreat
set_option linter.unusedVariables false
set_option linter.unusedSimpArgs false

theorem sumTo_all {α : Type} (f : α → Int) (l : List α) : sumTo f l l.length = (l.map f).sum := by unfold sumTo; rw [List.take_length]
theorem pairs_snoc {α : Type} {one : α → Bool} {two : α → α → Bool} {l : List α} {x : α} : pairsB one two (l ++ [x]) = true ↔ pairsB one two l = true ∧ one x = true ∧ ∀ y ∈ l, two y x = true := by
  rw [pairs_iff, pairs_iff]
  constructor
  · intro h
    refine ⟨fun i hi => ?_, ?_, fun y hy => ?_⟩
    · have h1 := h i (by simp; omega)
      rw [List.getElem_append_left hi] at h1
      refine ⟨h1.1, fun k hk => ?_⟩
      have h2 := h1.2 k hk
      rwa [List.getElem_append_left (by omega)] at h2
    · have h1 := (h l.length (by simp)).1
      simpa using h1
    · obtain ⟨k, hk, rfl⟩ := List.mem_iff_getElem.1 hy
      have h1 := (h l.length (by simp)).2 k hk
      rw [List.getElem_append_left hk] at h1
      simpa using h1
  · rintro ⟨h1, h2, h3⟩ i hi
    have hi2 : i < l.length + 1 := by simpa using hi
    rcases Nat.lt_or_ge i l.length with hlt | hge
    · rw [List.getElem_append_left hlt]
      refine ⟨(h1 i hlt).1, fun k hk => ?_⟩
      rw [List.getElem_append_left (by omega)]
      exact (h1 i hlt).2 k hk
    · have : i = l.length := by omega
      subst this
      have e : (l ++ [x])[l.length] = x := by simp
      rw [e]
      refine ⟨h2, fun k hk => ?_⟩
      rw [List.getElem_append_left hk]
      exact h3 _ (List.getElem_mem hk)
theorem put_valid {s : TSet} {x : TItem} (hv : validB s = true) (hn : s.items.any (fun y => sameName y.name x.name) = false) (h40 : s.items.length ≠ 40) (hb : (aloneB x && insideB x s.length) = true) (hap : s.items.any (fun y => !apartB x y) = false) : validB (putS s x) = true := by
  have a7 := (Good.of hv).ni
  unfold validB at hv ⊢
  rw [Bool.and_eq_true, Bool.and_eq_true, Bool.and_eq_true, Bool.and_eq_true] at hv ⊢
  obtain ⟨h1, h2, h3, h4, h5⟩ := hv
  refine ⟨h1, h2, h3, ?_, h5⟩
  unfold itemsB at h4 ⊢
  rw [Bool.and_eq_true, Bool.and_eq_true] at h4 ⊢
  show decide ((s.items ++ [x]).length ≤ 40) = true ∧ pairsB (fun y => aloneB y && insideB y s.length) apartB (s.items ++ [x]) = true ∧ pairsB (fun _ => true) (fun x y => !sameName x.name y.name) (s.items ++ [x]) = true
  refine ⟨decide_eq_true (by simp; omega), pairs_snoc.2 ⟨h4.2.1, hb, fun y hy => ?_⟩, pairs_snoc.2 ⟨h4.2.2, rfl, fun y hy => ?_⟩⟩
  · have := List.any_eq_false.1 hap y hy
    rw [apart_comm]
    simpa using this
  · have := List.any_eq_false.1 hn y hy
    simpa using this
def fitB (s : TSet) (x : TItem) : Bool := decide (x.width > 0) && (decide (x.at_ ≥ 0) && (spans (roomI s)).any fun y => decide (x.at_ ≥ y.lo) && (decide (x.at_ ≤ y.hi) && decide (x.width ≤ y.hi - x.at_)))
theorem fit_iff {s : TSet} {x : TItem} (hv : validB s = true) : fitB s x = true ↔ 1 ≤ x.width ∧ 0 ≤ x.at_ ∧ x.at_ + x.width ≤ s.length ∧ s.items.any (fun y => !apartB x y) = false := by
  have hrow := row_of hv
  unfold fitB
  rw [Bool.and_eq_true, Bool.and_eq_true, decide_eq_true_iff, decide_eq_true_iff, List.any_eq_true, List.any_eq_false]
  constructor
  · rintro ⟨h1, h2, y, hy, h3⟩
    unfold spans at hy
    obtain ⟨q, hq, rfl⟩ := List.mem_map.1 hy
    simp only [Bool.and_eq_true, decide_eq_true_iff] at h3
    obtain ⟨b1, b2, b3⟩ := (room_fits (p := x.at_) (w := x.width) (by omega) _ _ hrow).1 ⟨q, hq, by omega, by omega⟩
    refine ⟨by omega, by omega, b2, fun y hy => ?_⟩
    have := b3 y ((srt_perm _).mem_iff.2 hy)
    unfold apartB
    simp only [Bool.not_eq_true', Bool.or_eq_false_iff, decide_eq_false_iff_not]
    omega
  · rintro ⟨h1, h2, h3, h4⟩
    obtain ⟨q, hq, c1, c2⟩ := (room_fits (p := x.at_) (w := x.width) h1 _ _ hrow).2 ⟨h2, h3, fun y hy => by
      have := h4 y ((srt_perm _).mem_iff.1 hy)
      unfold apartB at this
      simp only [Bool.not_eq_true', Bool.or_eq_false_iff, decide_eq_false_iff_not] at this
      omega⟩
    refine ⟨by omega, by omega, ⟨q.1, q.2⟩, List.mem_map.2 ⟨q, hq, rfl⟩, ?_⟩
    simp only [Bool.and_eq_true, decide_eq_true_iff]
    omega
theorem weight_put (s : TSet) (x : TItem) : weightI (putS s x) = weightI s + x.weight := by
  unfold weightI
  have e : pipeI (putS s x) = pipeI s := rfl
  have e2 : (putS s x).items = s.items ++ [x] := rfl
  rw [e, e2, sumTo_all, sumTo_all, List.map_append, List.sum_append]
  simp
  omega
theorem sm_put {s : TSet} {x : TItem} (h : Sm s) (hx : x.name.size ≤ 60) (h40 : s.items.length ≤ 40) : Sm (putS s x) := by
  obtain ⟨⟨f1, f2, f3, f4, f5, f6⟩, f7⟩ := h
  refine ⟨⟨f1, f2, by show (s.items ++ [x]).length ≤ _; simp; omega, f4, fun y hy => ?_, f6⟩, f7⟩
  rcases List.mem_append.1 hy with hy | hy
  · exact f5 y hy
  · obtain rfl := List.mem_singleton.1 hy; omega
theorem main_BattenPuts (x0 : TSet) (x1 : TItem) (w0 : W_Set x0) (w1 : W_Item x1) : F_law21_BattenPuts x0 x1 = some true := by
  apply gs_eq
  unfold F_law21_BattenPuts
  refine go awake21 (gf rfl (goo (t_large x0) ?_))
  cases hm : smallB x0 8 with
  | false => exact gbt rfl (gs (gt rfl (gend rfl)))
  | true =>
    have h := sm_of hm
    refine gbf rfl (gs ?_)
    by_cases hx : x1.name.size ≤ 60
    · have h12 : x0.items.length ≤ 12 ∨ validB x0 = false := by rcases small_12 hm with h | h; exact .inl (by omega); exact .inr h
      refine gf (decide_eq_false (by show ¬ ((x1.name.size : Nat) : Int) > 60; omega)) (go (t_put h hx) (go (t_room h.fits h12) ?_))
      cases hv : validB x0 with
      | false =>
        refine gt rfl (gend ?_)
        unfold putT
        rw [if_pos hv]; rfl
      | true =>
        have hg := Good.of hv
        have a1 := hg.n0; have a2 := hg.n1; have a6 := hg.ln1; have a7 := hg.ni; have a8 := hg.nb
        simp only [if_true]
        refine gf rfl ?_
        have hcont := f_slices_ContainsFunc_api_Span (spans (roomI x0)) (by have := room_len2 (s := x0) a7; omega) (fun z11 => F_law21_BattenPuts_1 z11 x1) (fun y => decide (x1.at_ ≥ y.lo) && (decide (x1.at_ ≤ y.hi) && decide (x1.width ≤ y.hi - x1.at_))) (fun y hy => by
          unfold spans at hy
          obtain ⟨q, hq, rfl⟩ := List.mem_map.1 hy
          have hq2 := room_in _ _ (row_of hv) q hq
          apply gs_eq
          unfold F_law21_BattenPuts_1
          by_cases c1 : x1.at_ ≥ q.1
          · have d1 : decide (x1.at_ ≥ q.1) = true := decide_eq_true c1
            simp only [d1]
            by_cases c2 : x1.at_ ≤ q.2
            · have d2 : decide (x1.at_ ≤ q.2) = true := decide_eq_true c2
              simp only [d2]
              rw [wrap64 (by omega) (by omega)]
              exact gbt rfl (gbt rfl (gs (gend (by simp))))
            · have d2 : decide (x1.at_ ≤ q.2) = false := decide_eq_false c2
              simp only [d2]
              exact gbt rfl (gbf rfl (gs (gend (by simp))))
          · have d1 : decide (x1.at_ ≥ q.1) = false := decide_eq_false c1
            simp only [d1]
            exact gbf rfl (gs (gend (by simp))))
        have hfit : ∀ {K : Bool × Unit → Option Bool} {P : Bool → Prop}, Gs (K (fitB x0 x1, ())) P → Gs ((((bif (decide (x1.width > 0)) then (bif (decide (x1.at_ ≥ 0)) then (F_slices_ContainsFunc_api_Span (spans (roomI x0)) (fun z11 => F_law21_BattenPuts_1 z11 x1)).bind fun r12 => some (r12, ()) else some (false, ())) else some (false, ())) : Option (Bool × Unit)).bind K)) P := by
          intro K P hK
          unfold fitB at hK
          by_cases c1 : x1.width > 0
          · rw [decide_eq_true c1, Bool.true_and] at hK
            refine gbt (decide_eq_true c1) ?_
            by_cases c2 : x1.at_ ≥ 0
            · rw [decide_eq_true c2, Bool.true_and] at hK
              exact gbt (decide_eq_true c2) (goo hcont (gs hK))
            · rw [decide_eq_false c2, Bool.false_and] at hK
              exact gbf (decide_eq_false c2) (gs hK)
          · rw [decide_eq_false c1, Bool.false_and] at hK
            exact gbf (decide_eq_false c1) (gs hK)
        refine hfit ?_
        have hiff := fit_iff (x := x1) hv
        have hput : putT x0 x1 = putT x0 x1 := rfl
        have hput2 := hput
        unfold putT at hput
        rw [if_neg (by rw [hv]; simp)] at hput
        have other : ∀ e : Int, e ≠ 0 → e ≠ 22 → putT x0 x1 = (zeroSet, e) → (putT x0 x1).2 ≠ 0 ∧ (putT x0 x1).2 ≠ 22 := fun e h1 h2 h3 => by rw [h3]; exact ⟨h1, h2⟩
        have fin1 : (putT x0 x1).2 ≠ 0 → (putT x0 x1).2 ≠ 22 → ∀ {X : Option Bool}, Gs (bif ((putT x0 x1).2 != 0) then ((bif ((putT x0 x1).2 != 22) then some (true, ()) else some ((!fitB x0 x1), ())) : Option (Bool × Unit)).bind fun y14 => some y14.1 else X) (fun r => r = true) := fun h1 h2 X => gt (by simpa using h1) (gbt (by simpa using h2) (gs (gend rfl)))
        cases hn : x0.items.any (fun y => sameName y.name x1.name) with
        | true =>
          have e : putT x0 x1 = (zeroSet, 15) := by rw [hput2]; unfold putT; rw [if_neg (by rw [hv]; simp), if_pos hn]
          obtain ⟨e1, e2⟩ := other 15 (by decide) (by decide) e
          exact fin1 e1 e2
        | false =>
          by_cases h40 : x0.items.length = 40
          · have e : putT x0 x1 = (zeroSet, 4) := by unfold putT; rw [if_neg (by rw [hv]; simp), if_neg (by rw [hn]; simp), if_pos h40]
            obtain ⟨e1, e2⟩ := other 4 (by decide) (by decide) e
            exact fin1 e1 e2
          · cases hb : (aloneB x1 && insideB x1 x0.length) with
            | false =>
              have e : putT x0 x1 = (zeroSet, 1) := by unfold putT; rw [if_neg (by rw [hv]; simp), if_neg (by rw [hn]; simp), if_neg h40, if_pos hb]
              obtain ⟨e1, e2⟩ := other 1 (by decide) (by decide) e
              exact fin1 e1 e2
            | true =>
              cases hap : x0.items.any (fun y => !apartB x1 y) with
              | true =>
                have e : putT x0 x1 = (zeroSet, 22) := by unfold putT; rw [if_neg (by rw [hv]; simp), if_neg (by rw [hn]; simp), if_neg h40, if_neg (by rw [hb]; simp), if_pos hap]
                have hf : fitB x0 x1 = false := by
                  rw [Bool.eq_false_iff]
                  intro hc
                  have := (hiff.1 hc).2.2.2
                  rw [hap] at this
                  cases this
                rw [e, hf]
                exact gt rfl (gbf rfl (gs (gend rfl)))
              | false =>
                have e : putT x0 x1 = (putS x0 x1, 0) := by unfold putT; rw [if_neg (by rw [hv]; simp), if_neg (by rw [hn]; simp), if_neg h40, if_neg (by rw [hb]; simp), if_neg (by rw [hap]; simp)]
                have hin : insideB x1 x0.length = true := by rw [Bool.and_eq_true] at hb; exact hb.2
                have hal : aloneB x1 = true := by rw [Bool.and_eq_true] at hb; exact hb.1
                have hf : fitB x0 x1 = true := by
                  unfold insideB at hin
                  rw [Bool.and_eq_true, Bool.and_eq_true, between_iff, decide_eq_true_iff, decide_eq_true_iff] at hin
                  exact hiff.2 ⟨by omega, by omega, by omega, hap⟩
                have hv2 := put_valid hv hn h40 hb hap
                have hsm := sm_put h hx a7
                have hw1 := t_weight h
                have hw2 := t_weight hsm
                rw [hv] at hw1
                rw [hv2, weight_put] at hw2
                have hwb := weight_bound hg
                have hxw : 0 ≤ x1.weight ∧ x1.weight ≤ 1048576 := by
                  unfold aloneB at hal
                  rw [Bool.and_eq_true, Bool.and_eq_true, between_iff] at hal
                  exact hal.2.1
                have hput3 := t_put h hx
                rw [e] at hput3
                rw [e, hf]
                have hl : (x0.items ++ [x1]).length = x0.items.length + 1 := by simp
                have g1 : (x0.items ++ [x1])[x0.items.length]? = some x1 := by simp
                refine gf rfl (go hw1 (go hw2 ?_))
                simp only [if_true]
                rw [wrap64 (n := weightI x0 + x1.weight - weightI x0) (by omega) (by omega), wrap64 (n := ((x0.items.length : Nat) : Int) + 1) (by omega) (by omega)]
                refine gbf rfl (gbf rfl (gbf rfl (gbf (by rw [bne_eq_false_iff_eq]; omega) (gbf (by show ((((x0.items ++ [x1]).length : Nat) : Int) != ((x0.items.length : Nat) : Int) + 1) = false; rw [hl, bne_eq_false_iff_eq]; omega) (goo (idx_q g1) (goo (at_w rfl g1) (gbf (by simp) (goo (f_valid _ hsm.fits) ?_))))))))
                rw [hv2]
                refine gs (gf rfl (gif ⟨by omega, by omega, by show ((x0.items.length : Nat) : Int) ≤ (((x0.items ++ [x1]).length : Nat) : Int); rw [hl]; omega⟩ ?_))
                have hback : (TSet.mk x0.name x0.depth x0.low x0.high x0.length x0.lines x0.pipe x0.arbor x0.purchase x0.most x0.brake (((x0.items ++ [x1]).take (Int.toNat ((x0.items.length : Nat) : Int))).drop (Int.toNat (0 : Int))) x0.bricks) = x0 := by
                  have : (((x0.items ++ [x1]).take (Int.toNat ((x0.items.length : Nat) : Int))).drop (Int.toNat (0 : Int))) = x0.items := by
                    rw [Int.toNat_natCast]
                    show (List.take x0.items.length (x0.items ++ [x1])).drop 0 = _
                    rw [List.take_left, List.drop_zero]
                  rw [this]
                have hsame := t_sameSet x0 (by omega) (by omega) (by omega)
                refine go (a := true) ?_ (gf rfl (go hput3 (gend rfl)))
                show F_ref21_Same (TSet.mk x0.name x0.depth x0.low x0.high x0.length x0.lines x0.pipe x0.arbor x0.purchase x0.most x0.brake (((x0.items ++ [x1]).take (Int.toNat ((x0.items.length : Nat) : Int))).drop (Int.toNat (0 : Int))) x0.bricks) x0 = some true
                rw [hback]
                exact hsame
    · exact gt (decide_eq_true (by show ((x1.name.size : Nat) : Int) > 60; omega)) (gend rfl)
end Go.Proofs.YtkagmdfhodbfmaaGreat
