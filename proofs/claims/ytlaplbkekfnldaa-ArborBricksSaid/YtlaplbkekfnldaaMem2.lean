/- More plain lemmas on memory: rows that lie in one block; a row of the call's own. -/
import Derived.Test.YtlaplbkekfnldaaMem
namespace Go.Proofs.Ytlaplbkekfnldaa
open Go.RowKit

theorem flat_get {α : Type} {size : Nat} : ∀ (rs : List (List α)) (k : Nat) (r : List α) (j : Nat) (v : α), (∀ r, r ∈ rs → r.length = size) → rs[k]? = some r → r[j]? = some v → rs.flatten[k * size + j]? = some v
  | [], k, r, j, v, _, h, _ => by simp at h
  | x :: rs, 0, r, j, v, hs, h, hv => by
    simp at h
    subst h
    have hj : j < x.length := (List.getElem?_eq_some_iff.1 hv).1
    rw [List.flatten_cons, Nat.zero_mul, Nat.zero_add, List.getElem?_append_left hj]
    exact hv
  | x :: rs, k + 1, r, j, v, hs, h, hv => by
    have hx : x.length = size := hs x (by simp)
    have ih := flat_get rs k r j v (fun r hr => hs r (by simp [hr])) (by simpa using h) hv
    rw [List.flatten_cons, List.getElem?_append_right (by rw [hx, Nat.succ_mul]; omega)]
    rw [show (k + 1) * size + j - x.length = k * size + j from by rw [hx, Nat.succ_mul]; omega]
    exact ih
theorem flat_inv {α : Type} {size : Nat} : ∀ (rs : List (List α)) (i : Nat) (v : α), (∀ r, r ∈ rs → r.length = size) → rs.flatten[i]? = some v → ∃ k r j, rs[k]? = some r ∧ r[j]? = some v ∧ i = k * size + j
  | [], i, v, _, h => by simp at h
  | x :: rs, i, v, hs, h => by
    have hx : x.length = size := hs x (by simp)
    rw [List.flatten_cons] at h
    rcases Nat.lt_or_ge i x.length with h1 | h1
    · rw [List.getElem?_append_left h1] at h
      exact ⟨0, x, i, rfl, h, by simp⟩
    · rw [List.getElem?_append_right h1] at h
      obtain ⟨k, r, j, a, b, c⟩ := flat_inv rs (i - x.length) v (fun r hr => hs r (by simp [hr])) h
      exact ⟨k + 1, r, j, by simpa using a, b, by rw [Nat.succ_mul]; omega⟩
theorem flat_len {α : Type} {size : Nat} : ∀ (rs : List (List α)), (∀ r, r ∈ rs → r.length = size) → rs.flatten.length = rs.length * size
  | [], _ => by simp
  | x :: rs, hs => by
    rw [List.flatten_cons, List.length_append, flat_len rs (fun r hr => hs r (by simp [hr])), hs x (by simp), List.length_cons, Nat.succ_mul, Nat.add_comm]

section
variable {w w' : World} {B size : Nat} {A : Option Addr} {rs : List (List Value)}
theorem RowsAt.of_flat {b off : Nat} (hs : ∀ r, r ∈ rs → r.length = size) (hb : b < B) (hc : ∀ i v, rs.flatten[i]? = some v → w.cell? ⟨b, off + i, none⟩ = some v) : RowsAt w B size (some ⟨b, off, none⟩) rs :=
  fun _ => ⟨b, off, rfl, hb, fun k r hr j v hv => by rw [Nat.add_assoc]; exact hc _ v (flat_get rs k r j v hs hr hv)⟩
/-- A block whose cells are just these rows. -/
theorem RowsAt.of_block {b : Nat} {cs : Array Value} (hc : ∀ i, w.cell? ⟨b, i, none⟩ = cs[i]?) (hs : ∀ r, r ∈ rs → r.length = size) (hb : b < B) (hf : cs.toList = rs.flatten) : RowsAt w B size (some ⟨b, 0, none⟩) rs :=
  RowsAt.of_flat hs hb fun i v hv => by
    rw [Nat.zero_add, hc i, ← Array.getElem?_toList, hf]
    exact hv
/-- The cells one by one, off the slice's address. -/
theorem RowsAt.flat (h : RowsAt w B size A rs) (hs : ∀ r, r ∈ rs → r.length = size) (hp : 0 < rs.length) : ∃ b off, A = some ⟨b, off, none⟩ ∧ b < B ∧ ∀ i v, rs.flatten[i]? = some v → w.cell? ⟨b, off + i, none⟩ = some v := by
  obtain ⟨b, off, e, hb, hc⟩ := h hp
  refine ⟨b, off, e, hb, fun i v hv => ?_⟩
  obtain ⟨k, r, j, h1, h2, rfl⟩ := flat_inv rs i v hs hv
  rw [← Nat.add_assoc]
  exact hc k r h1 j v h2
end
theorem Item.cells_len (l : List Item) : ∀ r, r ∈ l.map Item.cells → r.length = 7 := by
  intro r hr
  obtain ⟨x, _, rfl⟩ := List.mem_map.1 hr
  rfl
theorem Brick.cells_len (l : List Brick) : ∀ r, r ∈ l.map Brick.cells → r.length = 3 := by
  intro r hr
  obtain ⟨x, _, rfl⟩ := List.mem_map.1 hr
  rfl
theorem intCells_len (l : List Int) : ∀ r, r ∈ l.map intCells → r.length = 1 := by
  intro r hr
  obtain ⟨x, _, rfl⟩ := List.mem_map.1 hr
  rfl
/-- Block g holds just these cells, none frozen. -/
structure Blk (w : World) (g : Nat) (cs : Array Value) : Prop where
  cell : ∀ i, w.cell? ⟨g, i, none⟩ = cs[i]?
  free : ∀ i, w.frozen? ⟨g, i, none⟩ = false
  lt : g < w.heap.size
theorem Blk.new (w : World) (cs : Array Value) (t : TypeId) : Blk (w.alloc (.cells cs t)) w.heap.size cs :=
  ⟨fun i => World.cell?_alloc_at cs t _ i rfl, fun i => by
    have h : (w.alloc (.cells cs t)).heap[w.heap.size]? = some (.cells cs t (0, 0)) := heap_alloc_new w _
    unfold World.frozen?
    rw [h]
    simp, by simp⟩
theorem Blk.below {w w' : World} {g B : Nat} {cs : Array Value} (h : Blk w g cs) (hb : Below B w w') (hB : g < B) : Blk w' g cs :=
  ⟨fun i => (hb.cell (p := ⟨g, i, none⟩) hB).trans (h.cell i), fun i => (hb.frozen (p := ⟨g, i, none⟩) hB).trans (h.free i), Nat.lt_of_lt_of_le h.lt hb.size⟩
theorem Blk.call {w w' : World} {g : Nat} {cs : Array Value} (h : Blk w g cs) (hb : Below w.heap.size w w') : Blk w' g cs := h.below hb h.lt
theorem Blk.set_ {w : World} {g i : Nat} {cs cs' : Array Value} (h : Blk w g cs) (u : Value) (hi : i < cs.size) (e : cs' = cs.setIfInBounds i u) : Blk (w.setCell ⟨g, i, none⟩ u) g cs' where
  cell j := by
    subst e
    by_cases hj : j = i
    · subst hj
      rw [World.cell?_setCell_same (w := w) (a := ⟨g, j, none⟩) (v := u) (u := cs[j]) (by rw [h.cell j, Array.getElem?_eq_getElem hi])]
      simp [hi]
    · have hne : (⟨g, i, none⟩ : Addr) ≠ ⟨g, j, none⟩ := fun e => hj (by cases e; rfl)
      rw [World.cell?_setCell_other _ _ _ _ hne]
      rw [h.cell j, Array.getElem?_setIfInBounds, if_neg (fun e => hj e.symm)]
  free j := by rw [World.frozen?_setCell]; exact h.free j
  lt := by simpa [World.setCell] using h.lt
theorem below4 (w : World) (o1 o2 o3 o4 : Obj) : Below w.heap.size w ((((w.alloc o1).alloc o2).alloc o3).alloc o4) :=
  bthen (bthen (bthen (below_box _ _) (below_box _ _)) (below_box _ _)) (below_box _ _)
end Go.Proofs.Ytlaplbkekfnldaa
