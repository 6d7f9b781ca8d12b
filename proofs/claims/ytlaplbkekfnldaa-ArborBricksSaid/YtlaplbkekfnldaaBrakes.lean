/- Layer 25: the examples of the chapter. -/
import Derived.Test.YtlaplbkekfnldaaArb
import Derived.Test.YtlaplbkekfnldaaSmall
import Derived.Test.YtlaplbkekfnldaaMem2
namespace Go.Proofs.Ytlaplbkekfnldaa
open Go.RowKit

def exItems : List Item := [⟨⟨#[120]⟩, 900, 201, 600, 0, 0, 0⟩]
def exBricks : List Brick := [⟨⟨#[98]⟩, 1500, 1⟩]
def exSet (p : Int) (b : Nat) : LSet := { name := ⟨#[97]⟩, depth := 0, low := 0, high := 9000, len := 4000, la := some ⟨b + 1, 0, none⟩, lc := 2, lines := [0, 4000], pipe := 500, arbor := 600, purchase := p, most := 1, brake := 0, ia := some ⟨b + 1 + 1, 0, none⟩, ic := 1, items := exItems, ba := some ⟨b + 1 + 1 + 1, 0, none⟩, bc := 1, bricks := exBricks }
theorem exValid1 (b : Nat) : validB (exSet 1 b) = true := by rfl
theorem exValid2 (b : Nat) : validB (exSet 2 b) = true := by rfl
theorem exNeeded1 (b : Nat) : neededI (exSet 1 b) = 2000 := by rfl
theorem exNeeded2 (b : Nat) : neededI (exSet 2 b) = 4600 := by rfl
theorem exBalance1 (b : Nat) : balanceI (exSet 1 b) = 500 := by rfl
theorem ex_at (p : Int) (w : World) (o1 : Obj) (t2 t3 t4 : TypeId) (c2 c3 c4 : Array Value) (e2 : c2.toList = ((([0, 4000] : List Int).map intCells)).flatten) (e3 : c3.toList = (exItems.map Item.cells).flatten) (e4 : c4.toList = (exBricks.map Brick.cells).flatten) :
    (exSet p w.heap.size).At ((((w.alloc o1).alloc (.cells c2 t2)).alloc (.cells c3 t3)).alloc (.cells c4 t4)) ((((w.alloc o1).alloc (.cells c2 t2)).alloc (.cells c3 t3)).alloc (.cells c4 t4)).heap.size where
  lines := RowsAt.of_block (cs := c2) (fun i => by
      rw [World.cell?_alloc_past _ _ _ (by simp), World.cell?_alloc_past _ _ _ (by simp), World.cell?_alloc_at _ _ _ _ (by simp)]) (intCells_len _) (by simp) e2
  items := RowsAt.of_block (cs := c3) (fun i => by
      rw [World.cell?_alloc_past _ _ _ (by simp), World.cell?_alloc_at _ _ _ _ (by simp)]) (Item.cells_len _) (by simp) e3
  bricks := RowsAt.of_block (cs := c4) (fun i => by
      rw [World.cell?_alloc_at _ _ _ _ (by simp)]) (Brick.cells_len _) (by simp) e4
  name := show (1 : Nat) ≤ maxLen by decide
  nlines := show (2 : Nat) ≤ maxLen by decide
  nitems := show (1 : Nat) ≤ maxLen by decide
  nbricks := show (1 : Nat) ≤ maxLen by decide
  clines := Nat.le_refl 2
  citems := Nat.le_refl 1
  cbricks := Nat.le_refl 1
  inames := by intro x hx; simp [exSet, exItems] at hx; subst hx; decide
  bnames := by intro x hx; simp [exSet, exBricks] at hx; subst hx; decide
def ExPost (p : Int) (w : World) (e : Ending) (w' : World) : Prop := ∃ b, e = .returned (exSet p b).val ∧ (exSet p b).At w' w'.heap.size ∧ Below w.heap.size w w'
set_option maxHeartbeats 400000 in
theorem example_any (p : Int) (w : World) : Calls Try.prog 36 #[.int .i64 p] w (ExPost p w) := by
  go_enter Try.func36, Try.ntmps36
  go_wp2_with fail
  exact bodyPost_ret (v := (exSet p w.heap.size).val) (by simp [results, Try.results36, go_sem]; rfl) rfl ⟨w.heap.size, rfl, ex_at p w _ _ _ _ _ _ _ rfl rfl rfl, below4 _ _ _ _ _⟩

set_option maxHeartbeats 1000000 in
theorem awake25 (w : World) : Calls Try.prog 10 #[] w fun e w' => e = .returned (.bool true) ∧ Below w.heap.size w w' := by
  go_enter Try.func10, Try.ntmps10
  go_wp2_with fail
  refine (example_any 1 _).mono ?_
  rintro e w1 ⟨b1, rfl, hA1, hb1⟩
  go_wp2_with fail
  refine (needed_yes (exSet 1 b1) _ hA1 (exValid1 b1)).mono ?_
  rintro e w2 ⟨rfl, hb2⟩
  rw [exNeeded1]
  have hb12 := bthen hb1 hb2
  clear hA1 hb1 hb2
  go_wp2_with fail
  refine (example_any 1 _).mono ?_
  rintro e w3 ⟨b3, rfl, hA1, hb1⟩
  go_wp2_with fail
  refine (balance_yes (exSet 1 b3) _ hA1 (exValid1 b3)).mono ?_
  rintro e w4 ⟨rfl, hb2⟩
  rw [exBalance1]
  have hb14 := bthen hb12 (bthen hb1 hb2)
  clear hA1 hb1 hb2 hb12
  go_wp2_with fail
  refine (example_any 2 _).mono ?_
  rintro e w5 ⟨b5, rfl, hA1, hb1⟩
  go_wp2_with fail
  refine (needed_yes (exSet 2 b5) _ hA1 (exValid2 b5)).mono ?_
  rintro e w6 ⟨rfl, hb2⟩
  rw [exNeeded2]
  have hb16 := bthen hb14 (bthen hb1 hb2)
  clear hA1 hb1 hb2 hb14
  go_wp2_with fail
  go_ret
  exact ⟨rfl, hb16⟩
end Go.Proofs.Ytlaplbkekfnldaa
