/- From the form's readings to plain data: a line set, a list of bricks, a list of integers, by value. No function of the program in sight. -/
import Derived.Test.YtlaplbkekfnldaaMem2
import Derived.ProofKit
import Derived.Deep.Slices
import Derived.Deep.Fields
import Derived.ChangeSame
namespace Go.Proofs.Ytlaplbkekfnldaa
open Go.RowKit Go.ChangeShapes Go.WideShapes Go.Deep

section
variable {H : Type} {enc : TypeId × Value → H} {P : Program} {w : World} {base : Nat} {spare : Nat → Bool} {held : Bool}

theorem cell_lt {w : World} {a : Addr} {v : Value} (h : w.cell? a = some v) : a.block < w.heap.size := by
  unfold World.cell? at h
  rcases Nat.lt_or_ge a.block w.heap.size with h1 | h1
  · exact h1
  · rw [Array.getElem?_eq_none h1] at h; cases h

/-- A slice of structs of one-cell fields, as a list of whatever the fields make up. -/
theorem open_list {α : Type} [Inhabited α] {t e : TypeId} {fs : Array Field} {fuel : Nat} {cs : List Value} {x : DataW H × List MemPlace} (row : α → List Value) (good : α → Prop) (ht : P.underlying t = some (.slice e)) (he : P.underlying e = some (.struct fs))
    (hone : oneCellFields P fs = true) (hC : P.cellsOf e = fs.size) (hrow : ∀ a, (row a).length = fs.size) (h0 : 0 < fs.size)
    (conv : ∀ V : Nat → Value, (∀ (j : Nat) (f : Field), fs[j]? = some f → ∃ (y : DataW H × List MemPlace) (n : Nat), DataW.trod enc P w base spare held n f.type [V j] = some y) → ∃ a : α, good a ∧ ∀ j, j < fs.size → (row a)[j]? = some (V j))
    (h : DataW.trod enc P w base spare held fuel t cs = some x) :
    ∃ (A : Option Addr) (cap : Nat) (l : List α), cs = [.slice A l.length cap] ∧ RowsAt w w.heap.size fs.size A (l.map row) ∧ l.length ≤ cap ∧ cap ≤ maxLen ∧ ∀ a, a ∈ l → good a := by
  rcases open_slice ht h with ⟨h1, _⟩ | ⟨a, len, cap, m, n, D, Pl, hcs, hb, hl, hm, hmm, hx, hi⟩
  · exact ⟨none, 0, [], h1, RowsAt.nil, Nat.le_refl _, Nat.zero_le _, fun _ h => by simp at h⟩
  · have hlm : len ≤ m := by rw [hmm]; split <;> omega
    have hel : ∀ i, i < len → ∃ z : α, good z ∧ ∀ j, j < fs.size → ∃ v, (row z)[j]? = some v ∧ w.cell? (a.add (i * fs.size + j)) = some v := by
      intro i hil
      obtain ⟨cs', hc, ht'⟩ := hi i (by omega)
      rw [hC] at hc
      obtain ⟨ys, n', hn', hy, hlen, hyl, hf⟩ := DataW.trod_struct he ht'
      obtain ⟨_, hcl, hat⟩ := World.cells?_some hc
      obtain ⟨z, hz, hzr⟩ := conv (fun j => cs'.getD j undef) (fun j f hj => by
        obtain ⟨ho, hk⟩ := hone_of hone j f hj
        have hjl : j < fs.size := (Array.getElem?_eq_some_iff.1 hj).1
        have h1 := hf j f hj
        rw [ho, hk] at h1
        have hone' : (cs'.drop j).take 1 = [cs'.getD j undef] := by
          have e : cs'.getD j undef = cs'[j]'(by omega) := by simp [List.getD, List.getElem?_eq_getElem (show j < cs'.length by omega)]
          rw [List.drop_eq_getElem_cons (by omega), e]
          rfl
        rw [hone'] at h1
        exact ⟨ys[j]'(by omega), _, h1.trans (List.getElem?_eq_getElem (by omega))⟩)
      refine ⟨z, hz, fun j hj => ⟨_, hzr j hj, ?_⟩⟩
      have := hat j hj
      rw [← Go.Deep.add_add, this]
      simp [List.getD, List.getElem?_eq_getElem (show j < cs'.length by omega)]
    obtain ⟨f, hf⟩ := choose_lt hel
    have hlen : ((List.range len).map f).length = len := by simp
    refine ⟨some a, cap, (List.range len).map f, by rw [hlen]; exact hcs, fun hp => ?_, by rw [hlen]; exact hl, hm, fun z hz => ?_⟩
    · have hlp : 0 < len := by simpa using hp
      obtain ⟨v0, _, hc0⟩ := (hf 0 hlp).2 0 h0
      have hs := World.cell?_spot hc0
      have hlt := cell_lt hc0
      have hsp : a.spot = none := by simpa [Addr.add] using hs
      obtain ⟨b, off, spot⟩ := a
      simp only at hsp
      subst hsp
      refine ⟨b, off, rfl, by simpa [Addr.add] using hlt, fun k r hr j v hv => ?_⟩
      rw [List.getElem?_map, List.getElem?_map] at hr
      have hk : k < len := by
        rcases Nat.lt_or_ge k len with h1 | h1
        · exact h1
        · rw [List.getElem?_eq_none (by simpa using h1)] at hr; simp at hr
      rw [List.getElem?_range hk] at hr
      simp only [Option.map_some, Option.some.injEq] at hr
      subst hr
      have hj : j < fs.size := by rw [← hrow (f k)]; exact (List.getElem?_eq_some_iff.1 hv).1
      obtain ⟨v', hv', hc'⟩ := (hf k hk).2 j hj
      rw [hv] at hv'
      obtain rfl := Option.some.inj hv'
      rw [Addr.add_lit] at hc'
      rw [Nat.add_assoc]
      exact hc'
    · obtain ⟨i, hi, rfl⟩ := List.mem_map.1 hz
      exact (hf i (List.mem_range.1 hi)).1

theorem open_fields {r : Reach} {b0 : Nat} {t : TypeId} {fs : Array Field} {v : Value} {d : DataW H} {p : List MemPlace} (hs : P.underlying t = some (.struct fs)) (hone : oneCellFields P fs = true) (hC : P.cellsOf t = fs.size)
    (hv : Value.okWide P w r b0 t v) (h : DataW.Trod enc P w base spare held t v d p) :
    ∃ cs : List Value, v = .agg cs.toArray ∧ cs.length = fs.size ∧ ∀ (j : Nat) (f : Field), fs[j]? = some f → ∃ (y : DataW H × List MemPlace) (n : Nat), DataW.trod enc P w base spare held n f.type [cs.getD j undef] = some y := by
  obtain ⟨cs, rfl, hsz⟩ := okWide_struct hs hv
  obtain ⟨cs'⟩ := cs
  rw [hC] at hsz
  have hl : cs'.length = fs.size := hsz
  obtain ⟨fuel, hf⟩ := h
  obtain ⟨xs, n, _, hx, _, hlen, hg⟩ := DataW.trod_struct hs hf
  refine ⟨cs', rfl, hl, fun j f hj => ?_⟩
  obtain ⟨ho, hk⟩ := hone_of hone j f hj
  have hjl : j < fs.size := (Array.getElem?_eq_some_iff.1 hj).1
  have h1 := hg j f hj
  rw [ho, hk] at h1
  have hone' : (cs'.drop j).take 1 = [cs'.getD j undef] := by
    have e : cs'.getD j undef = cs'[j]'(by omega) := by simp [List.getD, List.getElem?_eq_getElem (show j < cs'.length by omega)]
    rw [List.drop_eq_getElem_cons (by omega), e]
    rfl
  refine ⟨xs[j]'(by omega), n, ?_⟩
  have h2 : DataW.trod enc P w base spare held n f.type ((cs'.drop j).take 1) = xs[j]? := h1
  rw [hone'] at h2
  exact h2.trans (List.getElem?_eq_getElem (by omega))

theorem open_intlist {t e : TypeId} {fuel : Nat} {cs : List Value} {x : DataW H × List MemPlace} (ht : P.underlying t = some (.slice e)) (he : P.underlying e = some (.int .i64)) (hC : P.cellsOf e = 1) (h : DataW.trod enc P w base spare held fuel t cs = some x) :
    ∃ (A : Option Addr) (cap : Nat) (l : List Int), cs = [.slice A l.length cap] ∧ IntsAt w w.heap.size A l ∧ l.length ≤ cap ∧ cap ≤ maxLen ∧ ∀ z, z ∈ l → (Lit.int .i64 z).wf = true := by
  rcases open_slice1 ht hC h with ⟨h1, _⟩ | ⟨a, len, cap, m, n, V, D, Pl, hcs, hb, hl, hm, hmm, hx, hi⟩
  · exact ⟨none, 0, [], h1, RowsAt.nil, Nat.le_refl _, Nat.zero_le _, fun _ h => by simp at h⟩
  · have hlm : len ≤ m := by rw [hmm]; split <;> omega
    have hel : ∀ i, i < len → ∃ z : Int, (Lit.int .i64 z).wf = true ∧ w.cell? (a.add i) = some (.int .i64 z) := by
      intro i hil
      obtain ⟨hc, ht'⟩ := hi i (by omega)
      obtain ⟨z, hz, _, hw⟩ := DataW.trod_int he ht'
      rw [List.cons.injEq] at hz
      exact ⟨z, hw, by rw [hc, hz.1]⟩
    obtain ⟨f, hf⟩ := choose_lt hel
    have hlen : ((List.range len).map f).length = len := by simp
    refine ⟨some a, cap, (List.range len).map f, by rw [hlen]; exact hcs, fun hp => ?_, by rw [hlen]; exact hl, hm, fun z hz => ?_⟩
    · have hlp : 0 < len := by simpa using hp
      have hc0 := (hf 0 hlp).2
      have hs := World.cell?_spot hc0
      have hlt := cell_lt hc0
      have hsp : a.spot = none := by simpa [Addr.add] using hs
      obtain ⟨b, off, spot⟩ := a
      simp only at hsp
      subst hsp
      refine ⟨b, off, rfl, by simpa [Addr.add] using hlt, fun k r hr j v hv => ?_⟩
      rw [List.getElem?_map, List.getElem?_map] at hr
      have hk : k < len := by
        rcases Nat.lt_or_ge k len with h1 | h1
        · exact h1
        · rw [List.getElem?_eq_none (by simpa using h1)] at hr; simp at hr
      rw [List.getElem?_range hk] at hr
      simp only [Option.map_some, Option.some.injEq] at hr
      subst hr
      have hc' := (hf k hk).2
      rw [Addr.add_lit] at hc'
      match j, hv with
      | 0, hv =>
        have : Value.int .i64 (f k) = v := by simpa [intCells] using hv
        rw [← this, Nat.mul_one, Nat.add_zero]
        exact hc'
      | j + 1, hv => simp [intCells] at hv
    · obtain ⟨i, hi, rfl⟩ := List.mem_map.1 hz
      exact (hf i (List.mem_range.1 hi)).1
end

instance : Inhabited Item := ⟨⟨ByteArray.empty, 0, 0, 0, 0, 0, 0⟩⟩
instance : Inhabited Brick := ⟨⟨ByteArray.empty, 0, 0⟩⟩
def ItemFits (x : Item) : Prop := x.name.size ≤ maxLen ∧ (Lit.int .i64 x.pos).wf = true ∧ (Lit.int .i64 x.width).wf = true ∧ (Lit.int .i64 x.weight).wf = true ∧ (Lit.int .i64 x.hang).wf = true ∧ (Lit.int .i64 x.front).wf = true ∧ (Lit.int .i64 x.back).wf = true
def BrickFits (x : Brick) : Prop := x.name.size ≤ maxLen ∧ (Lit.int .i64 x.weight).wf = true ∧ (Lit.int .i64 x.count).wf = true

section
variable {H : Type} {enc : TypeId × Value → H} {w : World} {base : Nat} {spare : Nat → Bool} {held : Bool}
theorem int_of {n : Nat} {v : Value} {y : DataW H × List MemPlace} (h : DataW.trod enc Try.prog w base spare held n 3 [v] = some y) : ∃ z, v = .int .i64 z ∧ (Lit.int .i64 z).wf = true := by
  obtain ⟨z, hz, _, hw⟩ := DataW.trod_int Try.underlying3 h
  rw [List.cons.injEq] at hz
  exact ⟨z, hz.1, hw⟩
theorem str_of {n : Nat} {v : Value} {y : DataW H × List MemPlace} (h : DataW.trod enc Try.prog w base spare held n 9 [v] = some y) : ∃ s : ByteArray, v = .string s ∧ s.size ≤ maxLen := by
  obtain ⟨s, hz, _, hw⟩ := DataW.trod_string Try.underlying9 h
  rw [List.cons.injEq] at hz
  exact ⟨s, hz.1, hw⟩
theorem open_items {fuel : Nat} {cs : List Value} {x : DataW H × List MemPlace} (h : DataW.trod enc Try.prog w base spare held fuel 23 cs = some x) :
    ∃ (A : Option Addr) (cap : Nat) (l : List Item), cs = [.slice A l.length cap] ∧ ItemsAt w w.heap.size A l ∧ l.length ≤ cap ∧ cap ≤ maxLen ∧ ∀ a, a ∈ l → ItemFits a := by
  refine open_list Item.cells ItemFits Try.underlying23 Try.underlying56 (by kernel_rfl) (by kernel_rfl) (fun _ => rfl) (by decide) (fun V hV => ?_) h
  obtain ⟨_, _, h0⟩ := hV 0 _ rfl
  obtain ⟨_, _, h1⟩ := hV 1 _ rfl
  obtain ⟨_, _, h2⟩ := hV 2 _ rfl
  obtain ⟨_, _, h3⟩ := hV 3 _ rfl
  obtain ⟨_, _, h4⟩ := hV 4 _ rfl
  obtain ⟨_, _, h5⟩ := hV 5 _ rfl
  obtain ⟨_, _, h6⟩ := hV 6 _ rfl
  obtain ⟨s, e0, w0⟩ := str_of h0
  obtain ⟨z1, e1, w1⟩ := int_of h1
  obtain ⟨z2, e2, w2⟩ := int_of h2
  obtain ⟨z3, e3, w3⟩ := int_of h3
  obtain ⟨z4, e4, w4⟩ := int_of h4
  obtain ⟨z5, e5, w5⟩ := int_of h5
  obtain ⟨z6, e6, w6⟩ := int_of h6
  refine ⟨⟨s, z1, z2, z3, z4, z5, z6⟩, ⟨w0, w1, w2, w3, w4, w5, w6⟩, fun j hj => ?_⟩
  match j, hj with
  | 0, _ => rw [e0]; rfl
  | 1, _ => rw [e1]; rfl
  | 2, _ => rw [e2]; rfl
  | 3, _ => rw [e3]; rfl
  | 4, _ => rw [e4]; rfl
  | 5, _ => rw [e5]; rfl
  | 6, _ => rw [e6]; rfl
  | j + 7, hj => exact absurd (show j + 7 < 7 from hj) (by omega)
theorem open_bricks {fuel : Nat} {cs : List Value} {x : DataW H × List MemPlace} (h : DataW.trod enc Try.prog w base spare held fuel 24 cs = some x) :
    ∃ (A : Option Addr) (cap : Nat) (l : List Brick), cs = [.slice A l.length cap] ∧ BricksAt w w.heap.size A l ∧ l.length ≤ cap ∧ cap ≤ maxLen ∧ ∀ a, a ∈ l → BrickFits a := by
  refine open_list Brick.cells BrickFits Try.underlying24 Try.underlying50 (by kernel_rfl) (by kernel_rfl) (fun _ => rfl) (by decide) (fun V hV => ?_) h
  obtain ⟨_, _, h0⟩ := hV 0 _ rfl
  obtain ⟨_, _, h1⟩ := hV 1 _ rfl
  obtain ⟨_, _, h2⟩ := hV 2 _ rfl
  obtain ⟨s, e0, w0⟩ := str_of h0
  obtain ⟨z1, e1, w1⟩ := int_of h1
  obtain ⟨z2, e2, w2⟩ := int_of h2
  refine ⟨⟨s, z1, z2⟩, ⟨w0, w1, w2⟩, fun j hj => ?_⟩
  match j, hj with
  | 0, _ => rw [e0]; rfl
  | 1, _ => rw [e1]; rfl
  | 2, _ => rw [e2]; rfl
  | j + 3, hj => exact absurd (show j + 3 < 3 from hj) (by omega)

/-- A line set as an argument: its fields and lists. -/
theorem open_set {r : Reach} {b0 : Nat} {v : Value} {d : DataW H} {p : List MemPlace} (hv : Value.okWide Try.prog w r b0 26 v) (h : DataW.Trod enc Try.prog w base spare held 26 v d p) : ∃ S : LSet, v = S.val ∧ S.At w w.heap.size := by
  obtain ⟨cs, rfl, hsz, hg⟩ := open_fields Try.underlying26 (by kernel_rfl) (by kernel_rfl) hv h
  match cs, hsz with
  | [c0, c1, c2, c3, c4, c5, c6, c7, c8, c9, c10, c11, c12], _ =>
      obtain ⟨_, _, g0⟩ := hg 0 _ rfl
      obtain ⟨_, _, g1⟩ := hg 1 _ rfl
      obtain ⟨_, _, g2⟩ := hg 2 _ rfl
      obtain ⟨_, _, g3⟩ := hg 3 _ rfl
      obtain ⟨_, _, g4⟩ := hg 4 _ rfl
      obtain ⟨_, _, g5⟩ := hg 5 _ rfl
      obtain ⟨_, _, g6⟩ := hg 6 _ rfl
      obtain ⟨_, _, g7⟩ := hg 7 _ rfl
      obtain ⟨_, _, g8⟩ := hg 8 _ rfl
      obtain ⟨_, _, g9⟩ := hg 9 _ rfl
      obtain ⟨_, _, g10⟩ := hg 10 _ rfl
      obtain ⟨_, _, g11⟩ := hg 11 _ rfl
      obtain ⟨_, _, g12⟩ := hg 12 _ rfl
      have k3 : Try.prog.cellsOf 3 = 1 := by kernel_rfl
      obtain ⟨s, rfl, ws⟩ := str_of (v := c0) g0
      obtain ⟨z1, rfl, w1⟩ := int_of (v := c1) g1
      obtain ⟨z2, rfl, w2⟩ := int_of (v := c2) g2
      obtain ⟨z3, rfl, w3⟩ := int_of (v := c3) g3
      obtain ⟨z4, rfl, w4⟩ := int_of (v := c4) g4
      obtain ⟨la, lc, ll, el, al, bl, ml, _⟩ := open_intlist (cs := [c5]) Try.underlying22 Try.underlying3 k3 g5
      obtain ⟨z6, rfl, w6⟩ := int_of (v := c6) g6
      obtain ⟨z7, rfl, w7⟩ := int_of (v := c7) g7
      obtain ⟨z8, rfl, w8⟩ := int_of (v := c8) g8
      obtain ⟨z9, rfl, w9⟩ := int_of (v := c9) g9
      obtain ⟨z10, rfl, w10⟩ := int_of (v := c10) g10
      obtain ⟨ia, ic, il, ei, ai, bi, mi, fi⟩ := open_items (cs := [c11]) g11
      obtain ⟨ba, bc, bl', eb, ab, bb, mb, fb⟩ := open_bricks (cs := [c12]) g12
      rw [List.cons.injEq] at el ei eb
      obtain ⟨rfl, _⟩ := el
      obtain ⟨rfl, _⟩ := ei
      obtain ⟨rfl, _⟩ := eb
      exact ⟨⟨s, z1, z2, z3, z4, la, lc, ll, z6, z7, z8, z9, z10, ia, ic, il, ba, bc, bl'⟩, rfl,
        ⟨al, ai, ab, ws, Nat.le_trans bl ml, Nat.le_trans bi mi, Nat.le_trans bb mb, bl, bi, bb, fun x hx => (fi x hx).1, fun x hx => (fb x hx).1⟩⟩
end
end Go.Proofs.Ytlaplbkekfnldaa
