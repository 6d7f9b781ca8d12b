/- Plain lemmas on memory: a slice that reads as a list of rows of cells. No program in sight. -/
import Derived.Test.YtlaplbkekfnldaaRows
import Derived.WalkKit
import Derived.WalkSpells
import Derived.WalkLawsBesides
import Derived.Lib.Hide
import Derived.Deep.AppendLies
import Derived.Deep.Draws
namespace Go.Proofs.Ytlaplbkekfnldaa
open Go.RowKit

structure Item where
  name : ByteArray
  pos : Int
  width : Int
  weight : Int
  hang : Int
  front : Int
  back : Int
structure Brick where
  name : ByteArray
  weight : Int
  count : Int

def Item.cells (x : Item) : List Value := [.string x.name, .int .i64 x.pos, .int .i64 x.width, .int .i64 x.weight, .int .i64 x.hang, .int .i64 x.front, .int .i64 x.back]
def Brick.cells (x : Brick) : List Value := [.string x.name, .int .i64 x.weight, .int .i64 x.count]
def Item.val (x : Item) : Value := .agg #[.string x.name, .int .i64 x.pos, .int .i64 x.width, .int .i64 x.weight, .int .i64 x.hang, .int .i64 x.front, .int .i64 x.back]
def Brick.val (x : Brick) : Value := .agg #[.string x.name, .int .i64 x.weight, .int .i64 x.count]
def intCells (x : Int) : List Value := [.int .i64 x]

/-- The slice value with address A holds, below block B, the rows 'rs', each of 'size' cells. -/
def RowsAt (w : World) (B size : Nat) (A : Option Addr) (rs : List (List Value)) : Prop :=
  0 < rs.length → ∃ b off, A = some ⟨b, off, none⟩ ∧ b < B ∧ ∀ k r, rs[k]? = some r → ∀ j v, r[j]? = some v → w.cell? ⟨b, off + k * size + j, none⟩ = some v

section
variable {w w' : World} {B B' size : Nat} {A : Option Addr} {rs : List (List Value)}
theorem RowsAt.keep (h : RowsAt w B size A rs) (hk : ∀ b o, b < B → w'.cell? ⟨b, o, none⟩ = w.cell? ⟨b, o, none⟩) : RowsAt w' B size A rs := fun hp => by
  obtain ⟨b, off, e, hb, hc⟩ := h hp
  exact ⟨b, off, e, hb, fun k r hr j v hv => (hk b _ hb).trans (hc k r hr j v hv)⟩
theorem RowsAt.below (h : RowsAt w B size A rs) (hb : Below B w w') : RowsAt w' B size A rs := h.keep fun b o hlt => hb.cell (p := ⟨b, o, none⟩) hlt
theorem RowsAt.more (h : RowsAt w B size A rs) (hB : B ≤ B') : RowsAt w B' size A rs := fun hp => by
  obtain ⟨b, off, e, hb, hc⟩ := h hp
  exact ⟨b, off, e, by omega, hc⟩
theorem RowsAt.take (h : RowsAt w B size A rs) (n : Nat) : RowsAt w B size A (rs.take n) := fun hp => by
  obtain ⟨b, off, e, hb, hc⟩ := h (by simp at hp; omega)
  exact ⟨b, off, e, hb, fun k r hr => hc k r (by rw [List.getElem?_take] at hr; split at hr <;> simp_all)⟩
theorem RowsAt.nil : RowsAt w B size A [] := fun h => absurd h (by simp)
end

def ItemsAt (w : World) (B : Nat) (A : Option Addr) (l : List Item) : Prop := RowsAt w B 7 A (l.map Item.cells)
def BricksAt (w : World) (B : Nat) (A : Option Addr) (l : List Brick) : Prop := RowsAt w B 3 A (l.map Brick.cells)
def IntsAt (w : World) (B : Nat) (A : Option Addr) (l : List Int) : Prop := RowsAt w B 1 A (l.map intCells)

section
variable {w w' : World} {B k : Nat} {A : Option Addr}
theorem ItemsAt.at_ {l : List Item} (h : ItemsAt w B A l) (hk : k < l.length) :
    ∃ b off, A = some ⟨b, off, none⟩ ∧ b < B ∧ w.cell? ⟨b, off + k * 7, none⟩ = some (.string l[k].name) ∧ w.cell? ⟨b, off + k * 7 + 1, none⟩ = some (.int .i64 l[k].pos) ∧
      w.cell? ⟨b, off + k * 7 + 2, none⟩ = some (.int .i64 l[k].width) ∧ w.cell? ⟨b, off + k * 7 + 3, none⟩ = some (.int .i64 l[k].weight) ∧ w.cell? ⟨b, off + k * 7 + 4, none⟩ = some (.int .i64 l[k].hang) ∧
      w.cell? ⟨b, off + k * 7 + 5, none⟩ = some (.int .i64 l[k].front) ∧ w.cell? ⟨b, off + k * 7 + 6, none⟩ = some (.int .i64 l[k].back) := by
  obtain ⟨b, off, e, hb, hc⟩ := h (by simp; omega)
  have hr : (l.map Item.cells)[k]? = some (Item.cells l[k]) := by simp [hk]
  exact ⟨b, off, e, hb, hc k _ hr 0 _ rfl, hc k _ hr 1 _ rfl, hc k _ hr 2 _ rfl, hc k _ hr 3 _ rfl, hc k _ hr 4 _ rfl, hc k _ hr 5 _ rfl, hc k _ hr 6 _ rfl⟩
theorem BricksAt.at_ {l : List Brick} (h : BricksAt w B A l) (hk : k < l.length) :
    ∃ b off, A = some ⟨b, off, none⟩ ∧ b < B ∧ w.cell? ⟨b, off + k * 3, none⟩ = some (.string l[k].name) ∧ w.cell? ⟨b, off + k * 3 + 1, none⟩ = some (.int .i64 l[k].weight) ∧
      w.cell? ⟨b, off + k * 3 + 2, none⟩ = some (.int .i64 l[k].count) := by
  obtain ⟨b, off, e, hb, hc⟩ := h (by simp; omega)
  have hr : (l.map Brick.cells)[k]? = some (Brick.cells l[k]) := by simp [hk]
  exact ⟨b, off, e, hb, hc k _ hr 0 _ rfl, hc k _ hr 1 _ rfl, hc k _ hr 2 _ rfl⟩
theorem IntsAt.at_ {l : List Int} (h : IntsAt w B A l) (hk : k < l.length) : ∃ b off, A = some ⟨b, off, none⟩ ∧ b < B ∧ w.cell? ⟨b, off + k, none⟩ = some (.int .i64 l[k]) := by
  obtain ⟨b, off, e, hb, hc⟩ := h (by simp; omega)
  have hr : (l.map intCells)[k]? = some (intCells l[k]) := by simp [hk]
  have := hc k _ hr 0 _ rfl
  rw [Nat.mul_one] at this
  exact ⟨b, off, e, hb, this⟩
theorem ItemsAt.below {l : List Item} (h : ItemsAt w B A l) (hb : Below B w w') : ItemsAt w' B A l := RowsAt.below h hb
theorem BricksAt.below {l : List Brick} (h : BricksAt w B A l) (hb : Below B w w') : BricksAt w' B A l := RowsAt.below h hb
theorem IntsAt.below {l : List Int} (h : IntsAt w B A l) (hb : Below B w w') : IntsAt w' B A l := RowsAt.below h hb
end

/-- Behind calls: the block that was laid at w's end holds 'cs', and nothing older has turned. -/
def InBox (w : World) (cs : Array Value) (wr : World) : Prop := (∀ i, wr.cell? ⟨w.heap.size, i, none⟩ = cs[i]?) ∧ w.heap.size + 1 ≤ wr.heap.size ∧ Below w.heap.size w wr
theorem InBox.of {w w1 : World} {cs : Array Value} {t : TypeId} (h : Below (w.alloc (.cells cs t)).heap.size (w.alloc (.cells cs t)) w1) : InBox w cs w1 := by
  have hz : (w.alloc (.cells cs t)).heap.size = w.heap.size + 1 := by simp
  refine ⟨fun i => ?_, by have := h.size; omega, ((Below.refl _ _).alloc (Nat.le_refl _) _).trans (h.mono (by omega))⟩
  rw [h.cell (p := ⟨w.heap.size, i, none⟩) (by rw [hz]; simp)]
  exact World.cell?_alloc_at cs t _ i rfl
theorem InBox.step {w wr w1 : World} {cs : Array Value} (h : InBox w cs wr) (hb : Below (w.heap.size + 1) wr w1) : InBox w cs w1 :=
  ⟨fun i => (hb.cell (p := ⟨w.heap.size, i, none⟩) (by simp)).trans (h.1 i), Nat.le_trans h.2.1 hb.size, h.2.2.trans (hb.mono (by omega))⟩

/-- A line set: its fields, and what its three lists hold. -/
structure LSet where
  name : ByteArray
  depth : Int
  low : Int
  high : Int
  len : Int
  la : Option Addr
  lc : Nat
  lines : List Int
  pipe : Int
  arbor : Int
  purchase : Int
  most : Int
  brake : Int
  ia : Option Addr
  ic : Nat
  items : List Item
  ba : Option Addr
  bc : Nat
  bricks : List Brick
def LSet.val (S : LSet) : Value := .agg #[.string S.name, .int .i64 S.depth, .int .i64 S.low, .int .i64 S.high, .int .i64 S.len, .slice S.la S.lines.length S.lc, .int .i64 S.pipe, .int .i64 S.arbor,
  .int .i64 S.purchase, .int .i64 S.most, .int .i64 S.brake, .slice S.ia S.items.length S.ic, .slice S.ba S.bricks.length S.bc]
/-- Its three lists lie below block B, and no length is more than an int can count. -/
structure LSet.At (w : World) (B : Nat) (S : LSet) : Prop where
  lines : IntsAt w B S.la S.lines
  items : ItemsAt w B S.ia S.items
  bricks : BricksAt w B S.ba S.bricks
  name : S.name.size ≤ maxLen
  nlines : S.lines.length ≤ maxLen
  nitems : S.items.length ≤ maxLen
  nbricks : S.bricks.length ≤ maxLen
  clines : S.lines.length ≤ S.lc
  citems : S.items.length ≤ S.ic
  cbricks : S.bricks.length ≤ S.bc
  inames : ∀ x, x ∈ S.items → x.name.size ≤ maxLen
  bnames : ∀ x, x ∈ S.bricks → x.name.size ≤ maxLen
theorem LSet.At.below {w w' : World} {B : Nat} {S : LSet} (h : S.At w B) (hb : Below B w w') : S.At w' B :=
  ⟨h.lines.below hb, h.items.below hb, h.bricks.below hb, h.name, h.nlines, h.nitems, h.nbricks, h.clines, h.citems, h.cbricks, h.inames, h.bnames⟩
theorem LSet.At.more {w : World} {B B' : Nat} {S : LSet} (h : S.At w B) (hB : B ≤ B') : S.At w B' :=
  ⟨RowsAt.more h.lines hB, RowsAt.more h.items hB, RowsAt.more h.bricks hB, h.name, h.nlines, h.nitems, h.nbricks, h.clines, h.citems, h.cbricks, h.inames, h.bnames⟩
/-- One step: what lay below the heap's end lies below the new heap's end. -/
theorem LSet.At.on {w w' : World} {S : LSet} (h : S.At w w.heap.size) (hb : Below w.heap.size w w') : S.At w' w'.heap.size := (h.below hb).more hb.size
theorem LSet.At.alloc {w : World} {S : LSet} (h : S.At w w.heap.size) (o : Obj) : S.At (w.alloc o) (w.alloc o).heap.size := h.on ((Below.refl _ _).alloc (Nat.le_refl _) o)
theorem ItemsAt.on {w w' : World} {A : Option Addr} {l : List Item} (h : ItemsAt w w.heap.size A l) (hb : Below w.heap.size w w') : ItemsAt w' w'.heap.size A l := RowsAt.more (RowsAt.below h hb) hb.size
theorem BricksAt.on {w w' : World} {A : Option Addr} {l : List Brick} (h : BricksAt w w.heap.size A l) (hb : Below w.heap.size w w') : BricksAt w' w'.heap.size A l := RowsAt.more (RowsAt.below h hb) hb.size
theorem IntsAt.on {w w' : World} {A : Option Addr} {l : List Int} (h : IntsAt w w.heap.size A l) (hb : Below w.heap.size w w') : IntsAt w' w'.heap.size A l := RowsAt.more (RowsAt.below h hb) hb.size
theorem below_box (w : World) (o : Obj) : Below w.heap.size w (w.alloc o) := (Below.refl _ _).alloc (Nat.le_refl _) o
theorem below_drewN {B : Nat} {a w : World} (h : Below B a w) (n : Nat) : Below B a (w.drewN n) := ⟨h.os, h.tape, h.output, h.size, h.block⟩
/-- A call behind a box: nothing older has turned. -/
theorem bpast {w w1 : World} {o : Obj} (h : Below (w.alloc o).heap.size (w.alloc o) w1) : Below w.heap.size w w1 := (below_box w o).trans (h.mono (by simp))
theorem bthen {w w1 w2 : World} (h : Below w.heap.size w w1) (k : Below w1.heap.size w1 w2) : Below w.heap.size w w2 := h.trans (k.mono h.size)

theorem ret_bool {a b : Bool} (h : a = b) : Ending.returned (.bool a) = .returned (.bool b) := by rw [h]
theorem ret_b2 {a b : Bool} {n : Int} (h : a = b) : Ending.returned (.tuple #[.bool a, .int .i64 n]) = .returned (.tuple #[.bool b, .int .i64 n]) := by rw [h]
theorem ret_i2 {a b n : Int} (h : a = b) : Ending.returned (.tuple #[.int .i64 a, .int .i64 n]) = .returned (.tuple #[.int .i64 b, .int .i64 n]) := by rw [h]
theorem ret_int {k : IntKind} {a b : Int} (h : a = b) : Ending.returned (.int k a) = .returned (.int k b) := by rw [h]

end Go.Proofs.Ytlaplbkekfnldaa
