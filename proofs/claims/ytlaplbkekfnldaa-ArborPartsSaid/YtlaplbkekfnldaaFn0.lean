/- Functions, as plain data. Printed by mkev.py. -/
import Derived.Test.YtlaplbkekfnldaaSg
namespace Go.Proofs.Ytlaplbkekfnldaa
open Go.RowKit
set_option linter.unusedVariables false

def F_ref21_Same (a : TSet) (b : TSet) : Option (Bool) :=
  ((bif (!(a.name.toList == b.name.toList)) then some (true, ()) else (bif (a.depth != b.depth) then some (true, ()) else (bif (a.low != b.low) then some (true, ()) else (bif (a.high != b.high) then some (true, ()) else (bif (a.length != b.length) then some (true, ()) else (bif (a.pipe != b.pipe) then some (true, ()) else (bif (a.arbor != b.arbor) then some (true, ()) else (bif (a.purchase != b.purchase) then some (true, ()) else (bif (a.most != b.most) then some (true, ()) else some ((a.brake != b.brake), ())))))))))) : Option (Bool × Unit)).bind fun y1 => (bif y1.1 then some false else ((bif (((a.lines.length : Nat) : Int) != ((b.lines.length : Nat) : Int)) then some (true, ()) else (bif (((a.items.length : Nat) : Int) != ((b.items.length : Nat) : Int)) then some (true, ()) else some ((((a.bricks.length : Nat) : Int) != ((b.bricks.length : Nat) : Int)), ()))) : Option (Bool × Unit)).bind fun y2 => (bif y2.1 then some false else (iterF (σ := Int × Unit) (ρ := (Bool × Unit) ⊕ (Unit)) (fun s5 => (bif (decide (s5.1 < ((a.lines.length : Nat) : Int))) then (idx a.lines s5.1).bind fun x6 => (idx b.lines s5.1).bind fun x7 => (bif (x6 != x7) then some (.inr (.inl (false, ()))) else some (.inl ((IntKind.i64.wrap (s5.1 + 1)), ()))) else some (.inr (.inr ((())))))) big (0, ())).bind fun y8 => (match y8 with | .inl y9 => some y9.1 | .inr y10 => (iterF (σ := Int × Unit) (ρ := (Bool × Unit) ⊕ (Unit)) (fun s13 => (bif (decide (s13.1 < ((a.items.length : Nat) : Int))) then (idx a.items s13.1).bind fun x14 => (idx b.items s13.1).bind fun x15 => (bif (!((x14.name.toList == x15.name.toList) && ((x14.at_ == x15.at_) && ((x14.width == x15.width) && ((x14.weight == x15.weight) && ((x14.hang == x15.hang) && ((x14.front == x15.front) && (x14.back == x15.back)))))))) then some (.inr (.inl (false, ()))) else some (.inl ((IntKind.i64.wrap (s13.1 + 1)), ()))) else some (.inr (.inr ((())))))) big (0, ())).bind fun y16 => (match y16 with | .inl y17 => some y17.1 | .inr y18 => (iterF (σ := Int × Unit) (ρ := (Bool × Unit) ⊕ (Unit)) (fun s21 => (bif (decide (s21.1 < ((a.bricks.length : Nat) : Int))) then (idx a.bricks s21.1).bind fun x22 => (idx b.bricks s21.1).bind fun x23 => (bif (!((x22.name.toList == x23.name.toList) && ((x22.weight == x23.weight) && (x22.count == x23.count)))) then some (.inr (.inl (false, ()))) else some (.inl ((IntKind.i64.wrap (s21.1 + 1)), ()))) else some (.inr (.inr ((())))))) big (0, ())).bind fun y24 => (match y24 with | .inl y25 => some y25.1 | .inr y26 => some true)))))
def an_ref21_Same : An U := (.node none .nil (.node none (.node (some ⟨[2, 3, 4], [], ⟨[], []⟩, [(.normal, ⟨[(75, .tv .bool)], []⟩)]⟩) .nil .nil) (.node none (.node (some ⟨[2, 3, 4], [], ⟨[], []⟩, [(.normal, ⟨[(100, .tv .bool)], []⟩)]⟩) .nil .nil) (.node none (.node none .nil (.node none (.node (some ⟨[2, 3], [], ⟨[(5, .tv .int)], []⟩, [(.ret, ⟨[(4, .tv .bool)], []⟩), (.exit 0, ⟨[], []⟩)]⟩) .nil .nil) .nil)) (.node none (.node none .nil (.node none (.node (some ⟨[2, 3], [], ⟨[(6, .tv .int)], []⟩, [(.ret, ⟨[(4, .tv .bool)], []⟩), (.exit 2, ⟨[], []⟩)]⟩) .nil .nil) .nil)) (.node none (.node none .nil (.node none (.node (some ⟨[2, 3], [], ⟨[(7, .tv .int)], []⟩, [(.ret, ⟨[(4, .tv .bool)], []⟩), (.exit 4, ⟨[], []⟩)]⟩) .nil .nil) .nil)) .nil))))))
def fe_ref21_Same : Fe G := ⟨[.v .Set, .v .Set], [.bool], fun x => F_ref21_Same x.1 x.2.1⟩
def tb_ref21_Same : List (FuncId × Fe G) := []
theorem ev_ref21_Same (x : TyP G fe_ref21_Same.ps) : evF G (lstK G tb_ref21_Same) (bodyOf Try.f23) an_ref21_Same 155 [.tmp 4] fe_ref21_Same.rs (argT G fe_ref21_Same.ps x) = fe_ref21_Same.fn x := by kernel_rfl
theorem ok_ref21_Same : FnOk G 23 fe_ref21_Same := fnOk_of G_ok (lstK_ok G_ok (lnil)) Try.func23 (by kernel_rfl) (by kernel_rfl) (by kernel_rfl) (by kernel_rfl) ev_ref21_Same

def F_slices_Clone_int (s : List Int) : Option ((List Int)) :=
  (if ([] : List Int).length + s.length ≤ 2147483648 then some (([] : List Int) ++ s) else none)
def an_slices_Clone_int : An U := .nil
def fe_slices_Clone_int : Fe G := ⟨[.v .l_int1], [.l_int1], fun x => F_slices_Clone_int x.1⟩
def tb_slices_Clone_int : List (FuncId × Fe G) := []
theorem ok_slices_Clone_int : FnOk G 29 fe_slices_Clone_int := clone_ok G_ok (lstK_ok G_ok lnil) Try.func29 (by kernel_rfl) (by kernel_rfl) (k := 8) (by kernel_rfl) (by decide) (res := [.tmp 2]) (by kernel_rfl) (t := 22) (by kernel_rfl) (u := .int1) (lu := .l_int1) (by kernel_rfl) (cast := fun x => x) (fun _ => by kernel_rfl) (F := F_slices_Clone_int) (fun _ => by kernel_rfl) (fun x y hx h => by obtain rfl : x = ([] : List Int) := hx; rw [← h]; kernel_rfl)

def F_slices_Clone_api_Brick (s : List TBrick) : Option ((List TBrick)) :=
  (if ([] : List TBrick).length + s.length ≤ 2147483648 then some (([] : List TBrick) ++ s) else none)
def an_slices_Clone_api_Brick : An U := .nil
def fe_slices_Clone_api_Brick : Fe G := ⟨[.v .l_Brick], [.l_Brick], fun x => F_slices_Clone_api_Brick x.1⟩
def tb_slices_Clone_api_Brick : List (FuncId × Fe G) := []
theorem ok_slices_Clone_api_Brick : FnOk G 30 fe_slices_Clone_api_Brick := clone_ok G_ok (lstK_ok G_ok lnil) Try.func30 (by kernel_rfl) (by kernel_rfl) (k := 8) (by kernel_rfl) (by decide) (res := [.tmp 2]) (by kernel_rfl) (t := 24) (by kernel_rfl) (u := .Brick) (lu := .l_Brick) (by kernel_rfl) (cast := fun x => x) (fun _ => by kernel_rfl) (F := F_slices_Clone_api_Brick) (fun _ => by kernel_rfl) (fun x y hx h => by obtain rfl : x = ([] : List TBrick) := hx; rw [← h]; kernel_rfl)

def F_ref25_Counts (l : List TBrick) : Option ((List Int)) :=
  (iterF (σ := Int × List Int × Unit) (ρ := List Int × Unit) (fun s3 => (bif (decide (s3.1 < ((l.length : Nat) : Int))) then (idx l s3.1).bind fun x4 => (if s3.2.1.length + ([x4.count] : List Int).length ≤ 2147483648 then some (.inl ((IntKind.i64.wrap (s3.1 + 1)), (s3.2.1 ++ ([x4.count] : List Int)), ())) else none) else some (.inr (s3.2.1, ())))) big (0, ([] : List Int), ())).bind fun y5 => some y5.1
def an_ref25_Counts : An U := (.node none .nil (.node none .nil (.node none (.node none .nil (.node none (.node (some ⟨[0, 2], [1], ⟨[(3, .os 1), (4, .tv .int)], [(1, .row .int1)]⟩, [(.exit 0, ⟨[(3, .os 1)], [(1, .row .int1)]⟩)]⟩) .nil .nil) .nil)) .nil)))
def fe_ref25_Counts : Fe G := ⟨[.v .l_Brick], [.l_int1], fun x => F_ref25_Counts x.1⟩
def tb_ref25_Counts : List (FuncId × Fe G) := []
theorem ev_ref25_Counts (x : TyP G fe_ref25_Counts.ps) : evF G (lstK G tb_ref25_Counts) (bodyOf Try.f34) an_ref25_Counts 20 [.tmp 2] fe_ref25_Counts.rs (argT G fe_ref25_Counts.ps x) = fe_ref25_Counts.fn x := by kernel_rfl
theorem ok_ref25_Counts : FnOk G 34 fe_ref25_Counts := fnOk_of G_ok (lstK_ok G_ok (lnil)) Try.func34 (by kernel_rfl) (by kernel_rfl) (by kernel_rfl) (by kernel_rfl) ev_ref25_Counts

def F_law25_example (purchase : Int) : Option (TSet) :=
  some (TSet.mk (⟨#[97]⟩ : ByteArray) 0 0 9000 4000 ([0, 4000] : List Int) 500 600 purchase 1 0 ([(TItem.mk (⟨#[120]⟩ : ByteArray) 900 201 600 0 0 0)] : List TItem) ([(TBrick.mk (⟨#[98]⟩ : ByteArray) 1500 1)] : List TBrick))
def an_law25_example : An U := .nil
def fe_law25_example : Fe G := ⟨[.v .int1], [.Set], fun x => F_law25_example x.1⟩
def tb_law25_example : List (FuncId × Fe G) := []
theorem ev_law25_example (x : TyP G fe_law25_example.ps) : evF G (lstK G tb_law25_example) (bodyOf Try.f36) an_law25_example 10 [.cell 2 26] fe_law25_example.rs (argT G fe_law25_example.ps x) = fe_law25_example.fn x := by kernel_rfl
theorem ok_law25_example : FnOk G 36 fe_law25_example := fnOk_of G_ok (lstK_ok G_ok (lnil)) Try.func36 (by kernel_rfl) (by kernel_rfl) (by kernel_rfl) (by kernel_rfl) ev_law25_example

def F_ref21_Small (s : TSet) (most : Int) : Option (Bool) :=
  ((bif (decide (((s.name.size : Nat) : Int) > 60)) then some (true, ()) else (bif (decide (((s.lines.length : Nat) : Int) > 12)) then some (true, ()) else (bif (decide (((s.items.length : Nat) : Int) > most)) then (bif (decide (((s.items.length : Nat) : Int) ≤ 40)) then some (true, ()) else (bif (decide (((s.items.length : Nat) : Int) > 45)) then some (true, ()) else some ((decide (((s.bricks.length : Nat) : Int) > 10)), ()))) else (bif (decide (((s.items.length : Nat) : Int) > 45)) then some (true, ()) else some ((decide (((s.bricks.length : Nat) : Int) > 10)), ()))))) : Option (Bool × Unit)).bind fun y1 => (bif y1.1 then some false else (iterF (σ := Int × Unit) (ρ := (Bool × Unit) ⊕ (Unit)) (fun s3 => (bif (decide (s3.1 < ((s.items.length : Nat) : Int))) then (idx s.items s3.1).bind fun x4 => (bif (decide (((x4.name.size : Nat) : Int) > 60)) then some (.inr (.inl (false, ()))) else some (.inl ((IntKind.i64.wrap (s3.1 + 1)), ()))) else some (.inr (.inr ((())))))) big (0, ())).bind fun y5 => (match y5 with | .inl y6 => some y6.1 | .inr y7 => (iterF (σ := Int × Unit) (ρ := (Bool × Unit) ⊕ (Unit)) (fun s9 => (bif (decide (s9.1 < ((s.bricks.length : Nat) : Int))) then (idx s.bricks s9.1).bind fun x10 => (bif (decide (((x10.name.size : Nat) : Int) > 60)) then some (.inr (.inl (false, ()))) else some (.inl ((IntKind.i64.wrap (s9.1 + 1)), ()))) else some (.inr (.inr ((())))))) big (0, ())).bind fun y11 => (match y11 with | .inl y12 => some y12.1 | .inr y13 => some true)))
def an_ref21_Small : An U := (.node none .nil (.node none (.node (some ⟨[2, 4], [], ⟨[], []⟩, [(.normal, ⟨[(41, .tv .bool)], []⟩)]⟩) .nil .nil) (.node none (.node none .nil (.node none (.node (some ⟨[2], [], ⟨[(5, .tv .int)], []⟩, [(.ret, ⟨[(4, .tv .bool)], []⟩), (.exit 0, ⟨[], []⟩)]⟩) .nil .nil) .nil)) (.node none (.node none .nil (.node none (.node (some ⟨[2], [], ⟨[(6, .tv .int)], []⟩, [(.ret, ⟨[(4, .tv .bool)], []⟩), (.exit 2, ⟨[], []⟩)]⟩) .nil .nil) .nil)) .nil))))
def fe_ref21_Small : Fe G := ⟨[.v .Set, .v .int1], [.bool], fun x => F_ref21_Small x.1 x.2.1⟩
def tb_ref21_Small : List (FuncId × Fe G) := []
theorem ev_ref21_Small (x : TyP G fe_ref21_Small.ps) : evF G (lstK G tb_ref21_Small) (bodyOf Try.f37) an_ref21_Small 72 [.tmp 4] fe_ref21_Small.rs (argT G fe_ref21_Small.ps x) = fe_ref21_Small.fn x := by kernel_rfl
theorem ok_ref21_Small : FnOk G 37 fe_ref21_Small := fnOk_of G_ok (lstK_ok G_ok (lnil)) Try.func37 (by kernel_rfl) (by kernel_rfl) (by kernel_rfl) (by kernel_rfl) ev_ref21_Small

def F_arbor_there (s : TSet) : Option (Int × Int) :=
  (iterF (σ := Int × Int × Int × Unit) (ρ := Int × Int × Unit) (fun s2 => (bif (decide (s2.2.2.1 < ((s.bricks.length : Nat) : Int))) then (idx s.bricks s2.2.2.1).bind fun x3 => some (.inl ((IntKind.i64.wrap (s2.1 + (IntKind.i64.wrap (x3.weight * x3.count)))), (IntKind.i64.wrap (s2.2.1 + x3.count)), (IntKind.i64.wrap (s2.2.2.1 + 1)), ())) else some (.inr (s2.1, s2.2.1, ())))) big (0, 0, 0, ())).bind fun y4 => some (y4.1, y4.2.1)
def an_arbor_there : An U := (.node none .nil (.node none (.node none .nil (.node none (.node (some ⟨[7, 8], [], ⟨[(2, .tv .int), (3, .tv .int), (9, .tv .int)], []⟩, [(.exit 0, ⟨[(2, .tv .int), (3, .tv .int)], []⟩)]⟩) .nil .nil) .nil)) .nil))
def fe_arbor_there : Fe G := ⟨[.v .Set], [.int1, .int1], fun x => F_arbor_there x.1⟩
def tb_arbor_there : List (FuncId × Fe G) := []
theorem ev_arbor_there (x : TyP G fe_arbor_there.ps) : evF G (lstK G tb_arbor_there) (bodyOf Try.f38) an_arbor_there 25 [.tmp 2, .tmp 3] fe_arbor_there.rs (argT G fe_arbor_there.ps x) = fe_arbor_there.fn x := by kernel_rfl
theorem ok_arbor_there : FnOk G 38 fe_arbor_there := fnOk_of G_ok (lstK_ok G_ok (lnil)) Try.func38 (by kernel_rfl) (by kernel_rfl) (by kernel_rfl) (by kernel_rfl) ev_arbor_there

def F_ref21_between (n : Int) (low : Int) (high : Int) : Option (Bool) :=
  ((bif (decide (n ≥ low)) then some ((decide (n ≤ high)), ()) else some (false, ())) : Option (Bool × Unit)).bind fun y1 => some y1.1
def an_ref21_between : An U := (.node none .nil (.node (some ⟨[], [], ⟨[], []⟩, [(.normal, ⟨[(6, .tv .bool)], []⟩)]⟩) .nil .nil))
def fe_ref21_between : Fe G := ⟨[.v .int1, .v .int1, .v .int1], [.bool], fun x => F_ref21_between x.1 x.2.1 x.2.2.1⟩
def tb_ref21_between : List (FuncId × Fe G) := []
theorem ev_ref21_between (x : TyP G fe_ref21_between.ps) : evF G (lstK G tb_ref21_between) (bodyOf Try.f41) an_ref21_between 15 [.tmp 6] fe_ref21_between.rs (argT G fe_ref21_between.ps x) = fe_ref21_between.fn x := by kernel_rfl
theorem ok_ref21_between : FnOk G 41 fe_ref21_between := fnOk_of G_ok (lstK_ok G_ok (lnil)) Try.func41 (by kernel_rfl) (by kernel_rfl) (by kernel_rfl) (by kernel_rfl) ev_ref21_between

def F_ref25_Sum (l : List TBrick) (counts : List Int) : Option (Int) :=
  (iterF (σ := Int × Int × Unit) (ρ := Int × Unit) (fun s3 => (bif (decide (s3.2.1 < ((l.length : Nat) : Int))) then (idx l s3.2.1).bind fun x4 => (idx counts s3.2.1).bind fun x5 => some (.inl ((IntKind.i64.wrap (s3.1 + (IntKind.i64.wrap (x4.weight * x5)))), (IntKind.i64.wrap (s3.2.1 + 1)), ())) else some (.inr (s3.1, ())))) big (0, 0, ())).bind fun y6 => some y6.1
def an_ref25_Sum : An U := (.node none .nil (.node none .nil (.node none (.node none .nil (.node none (.node (some ⟨[0, 1, 4], [], ⟨[(5, .tv .int), (6, .tv .int)], []⟩, [(.exit 0, ⟨[(5, .tv .int)], []⟩)]⟩) .nil .nil) .nil)) .nil)))
def fe_ref25_Sum : Fe G := ⟨[.v .l_Brick, .v .l_int1], [.int1], fun x => F_ref25_Sum x.1 x.2.1⟩
def tb_ref25_Sum : List (FuncId × Fe G) := []
theorem ev_ref25_Sum (x : TyP G fe_ref25_Sum.ps) : evF G (lstK G tb_ref25_Sum) (bodyOf Try.f44) an_ref25_Sum 26 [.tmp 4] fe_ref25_Sum.rs (argT G fe_ref25_Sum.ps x) = fe_ref25_Sum.fn x := by kernel_rfl
theorem ok_ref25_Sum : FnOk G 44 fe_ref25_Sum := fnOk_of G_ok (lstK_ok G_ok (lnil)) Try.func44 (by kernel_rfl) (by kernel_rfl) (by kernel_rfl) (by kernel_rfl) ev_ref25_Sum

def F_ref25_Within (s : TSet) (imbalance : Int) : Option (Bool) :=
  ((bif (decide (imbalance ≥ (IntKind.i64.wrap (0 - s.brake)))) then some ((decide (imbalance ≤ s.brake)), ()) else some (false, ())) : Option (Bool × Unit)).bind fun y1 => some y1.1
def an_ref25_Within : An U := (.node none .nil (.node (some ⟨[], [], ⟨[], []⟩, [(.normal, ⟨[(4, .tv .bool)], []⟩)]⟩) .nil .nil))
def fe_ref25_Within : Fe G := ⟨[.v .Set, .v .int1], [.bool], fun x => F_ref25_Within x.1 x.2.1⟩
def tb_ref25_Within : List (FuncId × Fe G) := []
theorem ev_ref25_Within (x : TyP G fe_ref25_Within.ps) : evF G (lstK G tb_ref25_Within) (bodyOf Try.f45) an_ref25_Within 16 [.tmp 4] fe_ref25_Within.rs (argT G fe_ref25_Within.ps x) = fe_ref25_Within.fn x := by kernel_rfl
theorem ok_ref25_Within : FnOk G 45 fe_ref25_Within := fnOk_of G_ok (lstK_ok G_ok (lnil)) Try.func45 (by kernel_rfl) (by kernel_rfl) (by kernel_rfl) (by kernel_rfl) ev_ref25_Within

def F_ref25_Number (counts : List Int) : Option (Int) :=
  (iterF (σ := Int × Int × Unit) (ρ := Int × Unit) (fun s2 => (bif (decide (s2.2.1 < ((counts.length : Nat) : Int))) then (idx counts s2.2.1).bind fun x3 => some (.inl ((IntKind.i64.wrap (s2.1 + x3)), (IntKind.i64.wrap (s2.2.1 + 1)), ())) else some (.inr (s2.1, ())))) big (0, 0, ())).bind fun y4 => some y4.1
def an_ref25_Number : An U := (.node none .nil (.node none .nil (.node none (.node none .nil (.node none (.node (some ⟨[0, 2], [], ⟨[(3, .tv .int), (4, .tv .int)], []⟩, [(.exit 0, ⟨[(3, .tv .int)], []⟩)]⟩) .nil .nil) .nil)) .nil)))
def fe_ref25_Number : Fe G := ⟨[.v .l_int1], [.int1], fun x => F_ref25_Number x.1⟩
def tb_ref25_Number : List (FuncId × Fe G) := []
theorem ev_ref25_Number (x : TyP G fe_ref25_Number.ps) : evF G (lstK G tb_ref25_Number) (bodyOf Try.f46) an_ref25_Number 18 [.tmp 2] fe_ref25_Number.rs (argT G fe_ref25_Number.ps x) = fe_ref25_Number.fn x := by kernel_rfl
theorem ok_ref25_Number : FnOk G 46 fe_ref25_Number := fnOk_of G_ok (lstK_ok G_ok (lnil)) Try.func46 (by kernel_rfl) (by kernel_rfl) (by kernel_rfl) (by kernel_rfl) ev_ref25_Number

def F_arbor_Loaded_1 (n : Int) : Option (Bool) :=
  ((bif (decide (n < 0)) then some (true, ()) else some ((decide (n > 60)), ())) : Option (Bool × Unit)).bind fun y1 => some y1.1
def an_arbor_Loaded_1 : An U := (.node none .nil (.node (some ⟨[], [], ⟨[], []⟩, [(.normal, ⟨[(2, .tv .bool)], []⟩)]⟩) .nil .nil))
def fe_arbor_Loaded_1 : Fe G := ⟨[.v .int1], [.bool], fun x => F_arbor_Loaded_1 x.1⟩
def tb_arbor_Loaded_1 : List (FuncId × Fe G) := []
theorem ev_arbor_Loaded_1 (x : TyP G fe_arbor_Loaded_1.ps) : evF G (lstK G tb_arbor_Loaded_1) (bodyOf Try.f48) an_arbor_Loaded_1 9 [.tmp 2] fe_arbor_Loaded_1.rs (argT G fe_arbor_Loaded_1.ps x) = fe_arbor_Loaded_1.fn x := by kernel_rfl
theorem ok_arbor_Loaded_1 : FnOk G 48 fe_arbor_Loaded_1 := fnOk_of G_ok (lstK_ok G_ok (lnil)) Try.func48 (by kernel_rfl) (by kernel_rfl) (by kernel_rfl) (by kernel_rfl) ev_arbor_Loaded_1

def F_slices_Clone_api_Item (s : List TItem) : Option ((List TItem)) :=
  (if ([] : List TItem).length + s.length ≤ 2147483648 then some (([] : List TItem) ++ s) else none)
def an_slices_Clone_api_Item : An U := .nil
def fe_slices_Clone_api_Item : Fe G := ⟨[.v .l_Item], [.l_Item], fun x => F_slices_Clone_api_Item x.1⟩
def tb_slices_Clone_api_Item : List (FuncId × Fe G) := []
theorem ok_slices_Clone_api_Item : FnOk G 49 fe_slices_Clone_api_Item := clone_ok G_ok (lstK_ok G_ok lnil) Try.func49 (by kernel_rfl) (by kernel_rfl) (k := 8) (by kernel_rfl) (by decide) (res := [.tmp 2]) (by kernel_rfl) (t := 23) (by kernel_rfl) (u := .Item) (lu := .l_Item) (by kernel_rfl) (cast := fun x => x) (fun _ => by kernel_rfl) (F := F_slices_Clone_api_Item) (fun _ => by kernel_rfl) (fun x y hx h => by obtain rfl : x = ([] : List TItem) := hx; rw [← h]; kernel_rfl)

def F_ref21_Copy (s : TSet) : Option (TSet) :=
  (if ([] : List Int).length + s.lines.length ≤ 2147483648 then (if ([] : List TItem).length + s.items.length ≤ 2147483648 then (if ([] : List TBrick).length + s.bricks.length ≤ 2147483648 then some (TSet.mk s.name s.depth s.low s.high s.length (([] : List Int) ++ s.lines) s.pipe s.arbor s.purchase s.most s.brake (([] : List TItem) ++ s.items) (([] : List TBrick) ++ s.bricks)) else none) else none) else none)
def an_ref21_Copy : An U := .nil
def fe_ref21_Copy : Fe G := ⟨[.v .Set], [.Set], fun x => F_ref21_Copy x.1⟩
def tb_ref21_Copy : List (FuncId × Fe G) := []
theorem ev_ref21_Copy (x : TyP G fe_ref21_Copy.ps) : evF G (lstK G tb_ref21_Copy) (bodyOf Try.f50) an_ref21_Copy 19 [.cell 2 26] fe_ref21_Copy.rs (argT G fe_ref21_Copy.ps x) = fe_ref21_Copy.fn x := by kernel_rfl
theorem ok_ref21_Copy : FnOk G 50 fe_ref21_Copy := fnOk_of G_ok (lstK_ok G_ok (lnil)) Try.func50 (by kernel_rfl) (by kernel_rfl) (by kernel_rfl) (by kernel_rfl) ev_ref21_Copy

def F_law25_few_1 (b : TBrick) : Option (Bool) :=
  some (decide (((b.name.size : Nat) : Int) > 60))
def an_law25_few_1 : An U := .nil
def fe_law25_few_1 : Fe G := ⟨[.v .Brick], [.bool], fun x => F_law25_few_1 x.1⟩
def tb_law25_few_1 : List (FuncId × Fe G) := []
theorem ev_law25_few_1 (x : TyP G fe_law25_few_1.ps) : evF G (lstK G tb_law25_few_1) (bodyOf Try.f52) an_law25_few_1 7 [.tmp 2] fe_law25_few_1.rs (argT G fe_law25_few_1.ps x) = fe_law25_few_1.fn x := by kernel_rfl
theorem ok_law25_few_1 : FnOk G 52 fe_law25_few_1 := fnOk_of G_ok (lstK_ok G_ok (lnil)) Try.func52 (by kernel_rfl) (by kernel_rfl) (by kernel_rfl) (by kernel_rfl) ev_law25_few_1

def F_arbor_Valid_1 (c : TBrick) (a1 : TBrick) : Option (Bool) :=
  some (c.name.toList == a1.name.toList)
def an_arbor_Valid_1 : An U := .nil
def fe_arbor_Valid_1 : Fe G := ⟨[.v .Brick, .rp .Brick], [.bool], fun x => F_arbor_Valid_1 x.1 x.2.1⟩
def tb_arbor_Valid_1 : List (FuncId × Fe G) := []
theorem ev_arbor_Valid_1 (x : TyP G fe_arbor_Valid_1.ps) : evF G (lstK G tb_arbor_Valid_1) (bodyOf Try.f54) an_arbor_Valid_1 9 [.tmp 3] fe_arbor_Valid_1.rs (argT G fe_arbor_Valid_1.ps x) = fe_arbor_Valid_1.fn x := by kernel_rfl
theorem ok_arbor_Valid_1 : FnOk G 54 fe_arbor_Valid_1 := fnOk_of G_ok (lstK_ok G_ok (lnil)) Try.func54 (by kernel_rfl) (by kernel_rfl) (by kernel_rfl) (by kernel_rfl) ev_arbor_Valid_1

def F_batten_Put_1 (y : TItem) (a1 : TItem) : Option (Bool) :=
  some (y.name.toList == a1.name.toList)
def an_batten_Put_1 : An U := .nil
def fe_batten_Put_1 : Fe G := ⟨[.v .Item, .rp .Item], [.bool], fun x => F_batten_Put_1 x.1 x.2.1⟩
def tb_batten_Put_1 : List (FuncId × Fe G) := []
theorem ev_batten_Put_1 (x : TyP G fe_batten_Put_1.ps) : evF G (lstK G tb_batten_Put_1) (bodyOf Try.f56) an_batten_Put_1 9 [.tmp 3] fe_batten_Put_1.rs (argT G fe_batten_Put_1.ps x) = fe_batten_Put_1.fn x := by kernel_rfl
theorem ok_batten_Put_1 : FnOk G 56 fe_batten_Put_1 := fnOk_of G_ok (lstK_ok G_ok (lnil)) Try.func56 (by kernel_rfl) (by kernel_rfl) (by kernel_rfl) (by kernel_rfl) ev_batten_Put_1

def F_batten_apart (a : TItem) (b : TItem) : Option (Bool) :=
  ((bif (decide ((IntKind.i64.wrap (a.at_ + a.width)) ≤ b.at_)) then some (true, ()) else some ((decide ((IntKind.i64.wrap (b.at_ + b.width)) ≤ a.at_)), ())) : Option (Bool × Unit)).bind fun y1 => some y1.1
def an_batten_apart : An U := (.node none .nil (.node (some ⟨[], [], ⟨[], []⟩, [(.normal, ⟨[(4, .tv .bool)], []⟩)]⟩) .nil .nil))
def fe_batten_apart : Fe G := ⟨[.v .Item, .v .Item], [.bool], fun x => F_batten_apart x.1 x.2.1⟩
def tb_batten_apart : List (FuncId × Fe G) := []
theorem ev_batten_apart (x : TyP G fe_batten_apart.ps) : evF G (lstK G tb_batten_apart) (bodyOf Try.f60) an_batten_apart 23 [.tmp 4] fe_batten_apart.rs (argT G fe_batten_apart.ps x) = fe_batten_apart.fn x := by kernel_rfl
theorem ok_batten_apart : FnOk G 60 fe_batten_apart := fnOk_of G_ok (lstK_ok G_ok (lnil)) Try.func60 (by kernel_rfl) (by kernel_rfl) (by kernel_rfl) (by kernel_rfl) ev_batten_apart

def F_batten_between (n : Int) (low : Int) (high : Int) : Option (Bool) :=
  ((bif (decide (n ≥ low)) then some ((decide (n ≤ high)), ()) else some (false, ())) : Option (Bool × Unit)).bind fun y1 => some y1.1
def an_batten_between : An U := (.node none .nil (.node (some ⟨[], [], ⟨[], []⟩, [(.normal, ⟨[(6, .tv .bool)], []⟩)]⟩) .nil .nil))
def fe_batten_between : Fe G := ⟨[.v .int1, .v .int1, .v .int1], [.bool], fun x => F_batten_between x.1 x.2.1 x.2.2.1⟩
def tb_batten_between : List (FuncId × Fe G) := []
theorem ev_batten_between (x : TyP G fe_batten_between.ps) : evF G (lstK G tb_batten_between) (bodyOf Try.f62) an_batten_between 15 [.tmp 6] fe_batten_between.rs (argT G fe_batten_between.ps x) = fe_batten_between.fn x := by kernel_rfl
theorem ok_batten_between : FnOk G 62 fe_batten_between := fnOk_of G_ok (lstK_ok G_ok (lnil)) Try.func62 (by kernel_rfl) (by kernel_rfl) (by kernel_rfl) (by kernel_rfl) ev_batten_between

def F_ref01_Letter (c : Int) : Option (Bool) :=
  ((bif (decide (c ≥ 97)) then (bif (decide (c ≤ 122)) then some (true, ()) else (bif (decide (c ≥ 65)) then some ((decide (c ≤ 90)), ()) else some (false, ()))) else (bif (decide (c ≥ 65)) then some ((decide (c ≤ 90)), ()) else some (false, ()))) : Option (Bool × Unit)).bind fun y1 => some y1.1
def an_ref01_Letter : An U := (.node none .nil (.node (some ⟨[], [], ⟨[], []⟩, [(.normal, ⟨[(2, .tv .bool)], []⟩)]⟩) .nil .nil))
def fe_ref01_Letter : Fe G := ⟨[.v .u8], [.bool], fun x => F_ref01_Letter x.1⟩
def tb_ref01_Letter : List (FuncId × Fe G) := []
theorem ev_ref01_Letter (x : TyP G fe_ref01_Letter.ps) : evF G (lstK G tb_ref01_Letter) (bodyOf Try.f67) an_ref01_Letter 17 [.tmp 2] fe_ref01_Letter.rs (argT G fe_ref01_Letter.ps x) = fe_ref01_Letter.fn x := by kernel_rfl
theorem ok_ref01_Letter : FnOk G 67 fe_ref01_Letter := fnOk_of G_ok (lstK_ok G_ok (lnil)) Try.func67 (by kernel_rfl) (by kernel_rfl) (by kernel_rfl) (by kernel_rfl) ev_ref01_Letter

def F_ref21_Apart (x : TItem) (y : TItem) : Option (Bool) :=
  ((bif (decide ((IntKind.i64.wrap (x.at_ + x.width)) ≤ y.at_)) then some (true, ()) else some ((decide ((IntKind.i64.wrap (y.at_ + y.width)) ≤ x.at_)), ())) : Option (Bool × Unit)).bind fun y1 => some y1.1
def an_ref21_Apart : An U := (.node none .nil (.node (some ⟨[], [], ⟨[], []⟩, [(.normal, ⟨[(4, .tv .bool)], []⟩)]⟩) .nil .nil))
def fe_ref21_Apart : Fe G := ⟨[.v .Item, .v .Item], [.bool], fun x => F_ref21_Apart x.1 x.2.1⟩
def tb_ref21_Apart : List (FuncId × Fe G) := []
theorem ev_ref21_Apart (x : TyP G fe_ref21_Apart.ps) : evF G (lstK G tb_ref21_Apart) (bodyOf Try.f70) an_ref21_Apart 23 [.tmp 4] fe_ref21_Apart.rs (argT G fe_ref21_Apart.ps x) = fe_ref21_Apart.fn x := by kernel_rfl
theorem ok_ref21_Apart : FnOk G 70 fe_ref21_Apart := fnOk_of G_ok (lstK_ok G_ok (lnil)) Try.func70 (by kernel_rfl) (by kernel_rfl) (by kernel_rfl) (by kernel_rfl) ev_ref21_Apart

def F_ref21_Pipe (s : TSet) : Option (Int) :=
  some (IntKind.i64.wrap (s.pipe * (IntKind.i64.wrap (s.length.tdiv 1000))))
def an_ref21_Pipe : An U := .nil
def fe_ref21_Pipe : Fe G := ⟨[.v .Set], [.int1], fun x => F_ref21_Pipe x.1⟩
def tb_ref21_Pipe : List (FuncId × Fe G) := []
theorem ev_ref21_Pipe (x : TyP G fe_ref21_Pipe.ps) : evF G (lstK G tb_ref21_Pipe) (bodyOf Try.f71) an_ref21_Pipe 9 [.tmp 2] fe_ref21_Pipe.rs (argT G fe_ref21_Pipe.ps x) = fe_ref21_Pipe.fn x := by kernel_rfl
theorem ok_ref21_Pipe : FnOk G 71 fe_ref21_Pipe := fnOk_of G_ok (lstK_ok G_ok (lnil)) Try.func71 (by kernel_rfl) (by kernel_rfl) (by kernel_rfl) (by kernel_rfl) ev_ref21_Pipe

def F_slices_IndexFunc_int (s : List Int) (f : Int → Option Bool) : Option (Int) :=
  (iterF (σ := Int × Unit) (ρ := (Int × Unit) ⊕ (Unit)) (fun s3 => (bif (decide (s3.1 < ((s.length : Nat) : Int))) then (idx s s3.1).bind fun x4 => (f x4).bind fun r5 => (bif r5 then some (.inr (.inl (s3.1, ()))) else some (.inl ((IntKind.i64.wrap (s3.1 + 1)), ()))) else some (.inr (.inr ((())))))) big (0, ())).bind fun y6 => (match y6 with | .inl y7 => some y7.1 | .inr y8 => some (-1))
def an_slices_IndexFunc_int : An U := (.node none .nil (.node none (.node none .nil (.node none (.node (some ⟨[0, 1, 7], [], ⟨[(8, .tv .int)], []⟩, [(.ret, ⟨[(4, .tv .int)], []⟩), (.exit 0, ⟨[], []⟩)]⟩) .nil .nil) .nil)) .nil))
def fe_slices_IndexFunc_int : Fe G := ⟨[.v .l_int1, .fn .int1 .bool], [.int1], fun x => F_slices_IndexFunc_int x.1 x.2.1⟩
def tb_slices_IndexFunc_int : List (FuncId × Fe G) := []
theorem ev_slices_IndexFunc_int (x : TyP G fe_slices_IndexFunc_int.ps) : evF G (lstK G tb_slices_IndexFunc_int) (bodyOf Try.f72) an_slices_IndexFunc_int 19 [.tmp 4] fe_slices_IndexFunc_int.rs (argT G fe_slices_IndexFunc_int.ps x) = fe_slices_IndexFunc_int.fn x := by kernel_rfl
theorem ok_slices_IndexFunc_int : FnOk G 72 fe_slices_IndexFunc_int := fnOk_of G_ok (lstK_ok G_ok (lnil)) Try.func72 (by kernel_rfl) (by kernel_rfl) (by kernel_rfl) (by kernel_rfl) ev_slices_IndexFunc_int

def F_slices_IndexFunc_api_Brick (s : List TBrick) (f : TBrick → Option Bool) : Option (Int) :=
  (iterF (σ := Int × Unit) (ρ := (Int × Unit) ⊕ (Unit)) (fun s3 => (bif (decide (s3.1 < ((s.length : Nat) : Int))) then (idx s s3.1).bind fun x4 => (f x4).bind fun r5 => (bif r5 then some (.inr (.inl (s3.1, ()))) else some (.inl ((IntKind.i64.wrap (s3.1 + 1)), ()))) else some (.inr (.inr ((())))))) big (0, ())).bind fun y6 => (match y6 with | .inl y7 => some y7.1 | .inr y8 => some (-1))
def an_slices_IndexFunc_api_Brick : An U := (.node none .nil (.node none (.node none .nil (.node none (.node (some ⟨[0, 1, 7], [], ⟨[(8, .tv .int)], []⟩, [(.ret, ⟨[(4, .tv .int)], []⟩), (.exit 0, ⟨[], []⟩)]⟩) .nil .nil) .nil)) .nil))
def fe_slices_IndexFunc_api_Brick : Fe G := ⟨[.v .l_Brick, .fn .Brick .bool], [.int1], fun x => F_slices_IndexFunc_api_Brick x.1 x.2.1⟩
def tb_slices_IndexFunc_api_Brick : List (FuncId × Fe G) := []
theorem ev_slices_IndexFunc_api_Brick (x : TyP G fe_slices_IndexFunc_api_Brick.ps) : evF G (lstK G tb_slices_IndexFunc_api_Brick) (bodyOf Try.f73) an_slices_IndexFunc_api_Brick 19 [.tmp 4] fe_slices_IndexFunc_api_Brick.rs (argT G fe_slices_IndexFunc_api_Brick.ps x) = fe_slices_IndexFunc_api_Brick.fn x := by kernel_rfl
theorem ok_slices_IndexFunc_api_Brick : FnOk G 73 fe_slices_IndexFunc_api_Brick := fnOk_of G_ok (lstK_ok G_ok (lnil)) Try.func73 (by kernel_rfl) (by kernel_rfl) (by kernel_rfl) (by kernel_rfl) ev_slices_IndexFunc_api_Brick

def F_decimal_letter (c : Int) : Option (Bool) :=
  ((bif (decide (c ≥ 97)) then (bif (decide (c ≤ 122)) then some (true, ()) else (bif (decide (c ≥ 65)) then some ((decide (c ≤ 90)), ()) else some (false, ()))) else (bif (decide (c ≥ 65)) then some ((decide (c ≤ 90)), ()) else some (false, ()))) : Option (Bool × Unit)).bind fun y1 => some y1.1
def an_decimal_letter : An U := (.node none .nil (.node (some ⟨[], [], ⟨[], []⟩, [(.normal, ⟨[(2, .tv .bool)], []⟩)]⟩) .nil .nil))
def fe_decimal_letter : Fe G := ⟨[.v .u8], [.bool], fun x => F_decimal_letter x.1⟩
def tb_decimal_letter : List (FuncId × Fe G) := []
theorem ev_decimal_letter (x : TyP G fe_decimal_letter.ps) : evF G (lstK G tb_decimal_letter) (bodyOf Try.f74) an_decimal_letter 17 [.tmp 2] fe_decimal_letter.rs (argT G fe_decimal_letter.ps x) = fe_decimal_letter.fn x := by kernel_rfl
theorem ok_decimal_letter : FnOk G 74 fe_decimal_letter := fnOk_of G_ok (lstK_ok G_ok (lnil)) Try.func74 (by kernel_rfl) (by kernel_rfl) (by kernel_rfl) (by kernel_rfl) ev_decimal_letter

def F_slices_IndexFunc_api_Item (s : List TItem) (f : TItem → Option Bool) : Option (Int) :=
  (iterF (σ := Int × Unit) (ρ := (Int × Unit) ⊕ (Unit)) (fun s3 => (bif (decide (s3.1 < ((s.length : Nat) : Int))) then (idx s s3.1).bind fun x4 => (f x4).bind fun r5 => (bif r5 then some (.inr (.inl (s3.1, ()))) else some (.inl ((IntKind.i64.wrap (s3.1 + 1)), ()))) else some (.inr (.inr ((())))))) big (0, ())).bind fun y6 => (match y6 with | .inl y7 => some y7.1 | .inr y8 => some (-1))
def an_slices_IndexFunc_api_Item : An U := (.node none .nil (.node none (.node none .nil (.node none (.node (some ⟨[0, 1, 7], [], ⟨[(8, .tv .int)], []⟩, [(.ret, ⟨[(4, .tv .int)], []⟩), (.exit 0, ⟨[], []⟩)]⟩) .nil .nil) .nil)) .nil))
def fe_slices_IndexFunc_api_Item : Fe G := ⟨[.v .l_Item, .fn .Item .bool], [.int1], fun x => F_slices_IndexFunc_api_Item x.1 x.2.1⟩
def tb_slices_IndexFunc_api_Item : List (FuncId × Fe G) := []
theorem ev_slices_IndexFunc_api_Item (x : TyP G fe_slices_IndexFunc_api_Item.ps) : evF G (lstK G tb_slices_IndexFunc_api_Item) (bodyOf Try.f76) an_slices_IndexFunc_api_Item 19 [.tmp 4] fe_slices_IndexFunc_api_Item.rs (argT G fe_slices_IndexFunc_api_Item.ps x) = fe_slices_IndexFunc_api_Item.fn x := by kernel_rfl
theorem ok_slices_IndexFunc_api_Item : FnOk G 76 fe_slices_IndexFunc_api_Item := fnOk_of G_ok (lstK_ok G_ok (lnil)) Try.func76 (by kernel_rfl) (by kernel_rfl) (by kernel_rfl) (by kernel_rfl) ev_slices_IndexFunc_api_Item

def F_batten_twice_api_Item (l : List TItem) (name : TItem → Option ByteArray) : Option (Bool) :=
  (iterF (σ := Int × List (ByteArray × Bool) × Unit) (ρ := List (ByteArray × Bool) × Unit) (fun s5 => (bif (decide (s5.1 < ((l.length : Nat) : Int))) then (idx l s5.1).bind fun x6 => (name x6).bind fun r7 => (if r7.size ≤ 2147483648 ∧ s5.2.1.length ≤ 2147483648 then some (.inl ((IntKind.i64.wrap (s5.1 + 1)), (setM r7 true s5.2.1), ())) else none) else some (.inr (s5.2.1, ())))) big (0, ([] : List (ByteArray × Bool)), ())).bind fun y8 => some (decide (((y8.1.length : Nat) : Int) < ((l.length : Nat) : Int)))
def an_batten_twice_api_Item : An U := (.node none .nil (.node none .nil (.node none (.node none .nil (.node none (.node (some ⟨[0, 1, 4, 5, 9, 10], [0], ⟨[(11, .tv .int)], [(0, .map 89 false)]⟩, [(.exit 0, ⟨[], [(0, .map 89 false)]⟩)]⟩) .nil .nil) .nil)) .nil)))
def fe_batten_twice_api_Item : Fe G := ⟨[.v .l_Item, .fn .Item .str], [.bool], fun x => F_batten_twice_api_Item x.1 x.2.1⟩
def tb_batten_twice_api_Item : List (FuncId × Fe G) := []
theorem ev_batten_twice_api_Item (x : TyP G fe_batten_twice_api_Item.ps) : evF G (lstK G tb_batten_twice_api_Item) (bodyOf Try.f77) an_batten_twice_api_Item 26 [.tmp 4] fe_batten_twice_api_Item.rs (argT G fe_batten_twice_api_Item.ps x) = fe_batten_twice_api_Item.fn x := by kernel_rfl
theorem ok_batten_twice_api_Item : FnOk G 77 fe_batten_twice_api_Item := fnOk_of G_ok (lstK_ok G_ok (lnil)) Try.func77 (by kernel_rfl) (by kernel_rfl) (by kernel_rfl) (by kernel_rfl) ev_batten_twice_api_Item

def F_batten_items_1 (x : TItem) : Option (ByteArray) :=
  some x.name
def an_batten_items_1 : An U := .nil
def fe_batten_items_1 : Fe G := ⟨[.v .Item], [.str], fun x => F_batten_items_1 x.1⟩
def tb_batten_items_1 : List (FuncId × Fe G) := []
theorem ev_batten_items_1 (x : TyP G fe_batten_items_1.ps) : evF G (lstK G tb_batten_items_1) (bodyOf Try.f78) an_batten_items_1 5 [.tmp 2] fe_batten_items_1.rs (argT G fe_batten_items_1.ps x) = fe_batten_items_1.fn x := by kernel_rfl
theorem ok_batten_items_1 : FnOk G 78 fe_batten_items_1 := fnOk_of G_ok (lstK_ok G_ok (lnil)) Try.func78 (by kernel_rfl) (by kernel_rfl) (by kernel_rfl) (by kernel_rfl) ev_batten_items_1

def F_batten_twice_api_Brick (l : List TBrick) (name : TBrick → Option ByteArray) : Option (Bool) :=
  (iterF (σ := Int × List (ByteArray × Bool) × Unit) (ρ := List (ByteArray × Bool) × Unit) (fun s5 => (bif (decide (s5.1 < ((l.length : Nat) : Int))) then (idx l s5.1).bind fun x6 => (name x6).bind fun r7 => (if r7.size ≤ 2147483648 ∧ s5.2.1.length ≤ 2147483648 then some (.inl ((IntKind.i64.wrap (s5.1 + 1)), (setM r7 true s5.2.1), ())) else none) else some (.inr (s5.2.1, ())))) big (0, ([] : List (ByteArray × Bool)), ())).bind fun y8 => some (decide (((y8.1.length : Nat) : Int) < ((l.length : Nat) : Int)))
def an_batten_twice_api_Brick : An U := (.node none .nil (.node none .nil (.node none (.node none .nil (.node none (.node (some ⟨[0, 1, 4, 5, 9, 10], [0], ⟨[(11, .tv .int)], [(0, .map 89 false)]⟩, [(.exit 0, ⟨[], [(0, .map 89 false)]⟩)]⟩) .nil .nil) .nil)) .nil)))
def fe_batten_twice_api_Brick : Fe G := ⟨[.v .l_Brick, .fn .Brick .str], [.bool], fun x => F_batten_twice_api_Brick x.1 x.2.1⟩
def tb_batten_twice_api_Brick : List (FuncId × Fe G) := []
theorem ev_batten_twice_api_Brick (x : TyP G fe_batten_twice_api_Brick.ps) : evF G (lstK G tb_batten_twice_api_Brick) (bodyOf Try.f80) an_batten_twice_api_Brick 26 [.tmp 4] fe_batten_twice_api_Brick.rs (argT G fe_batten_twice_api_Brick.ps x) = fe_batten_twice_api_Brick.fn x := by kernel_rfl
theorem ok_batten_twice_api_Brick : FnOk G 80 fe_batten_twice_api_Brick := fnOk_of G_ok (lstK_ok G_ok (lnil)) Try.func80 (by kernel_rfl) (by kernel_rfl) (by kernel_rfl) (by kernel_rfl) ev_batten_twice_api_Brick

def F_batten_bricks_1 (b : TBrick) : Option (ByteArray) :=
  some b.name
def an_batten_bricks_1 : An U := .nil
def fe_batten_bricks_1 : Fe G := ⟨[.v .Brick], [.str], fun x => F_batten_bricks_1 x.1⟩
def tb_batten_bricks_1 : List (FuncId × Fe G) := []
theorem ev_batten_bricks_1 (x : TyP G fe_batten_bricks_1.ps) : evF G (lstK G tb_batten_bricks_1) (bodyOf Try.f81) an_batten_bricks_1 5 [.tmp 2] fe_batten_bricks_1.rs (argT G fe_batten_bricks_1.ps x) = fe_batten_bricks_1.fn x := by kernel_rfl
theorem ok_batten_bricks_1 : FnOk G 81 fe_batten_bricks_1 := fnOk_of G_ok (lstK_ok G_ok (lnil)) Try.func81 (by kernel_rfl) (by kernel_rfl) (by kernel_rfl) (by kernel_rfl) ev_batten_bricks_1

def F_batten_pipe (s : TSet) : Option (Int) :=
  some (IntKind.i64.wrap (s.pipe * (IntKind.i64.wrap (s.length.tdiv 1000))))
def an_batten_pipe : An U := .nil
def fe_batten_pipe : Fe G := ⟨[.v .Set], [.int1], fun x => F_batten_pipe x.1⟩
def tb_batten_pipe : List (FuncId × Fe G) := []
theorem ev_batten_pipe (x : TyP G fe_batten_pipe.ps) : evF G (lstK G tb_batten_pipe) (bodyOf Try.f82) an_batten_pipe 9 [.tmp 2] fe_batten_pipe.rs (argT G fe_batten_pipe.ps x) = fe_batten_pipe.fn x := by kernel_rfl
theorem ok_batten_pipe : FnOk G 82 fe_batten_pipe := fnOk_of G_ok (lstK_ok G_ok (lnil)) Try.func82 (by kernel_rfl) (by kernel_rfl) (by kernel_rfl) (by kernel_rfl) ev_batten_pipe

def F_ref01_Digit (c : Int) : Option (Bool) :=
  ((bif (decide (c ≥ 48)) then some ((decide (c ≤ 57)), ()) else some (false, ())) : Option (Bool × Unit)).bind fun y1 => some y1.1
def an_ref01_Digit : An U := (.node none .nil (.node (some ⟨[], [], ⟨[], []⟩, [(.normal, ⟨[(2, .tv .bool)], []⟩)]⟩) .nil .nil))
def fe_ref01_Digit : Fe G := ⟨[.v .u8], [.bool], fun x => F_ref01_Digit x.1⟩
def tb_ref01_Digit : List (FuncId × Fe G) := []
theorem ev_ref01_Digit (x : TyP G fe_ref01_Digit.ps) : evF G (lstK G tb_ref01_Digit) (bodyOf Try.f83) an_ref01_Digit 9 [.tmp 2] fe_ref01_Digit.rs (argT G fe_ref01_Digit.ps x) = fe_ref01_Digit.fn x := by kernel_rfl
theorem ok_ref01_Digit : FnOk G 83 fe_ref01_Digit := fnOk_of G_ok (lstK_ok G_ok (lnil)) Try.func83 (by kernel_rfl) (by kernel_rfl) (by kernel_rfl) (by kernel_rfl) ev_ref01_Digit

def F_decimal_digit (c : Int) : Option (Bool) :=
  ((bif (decide (c ≥ 48)) then some ((decide (c ≤ 57)), ()) else some (false, ())) : Option (Bool × Unit)).bind fun y1 => some y1.1
def an_decimal_digit : An U := (.node none .nil (.node (some ⟨[], [], ⟨[], []⟩, [(.normal, ⟨[(2, .tv .bool)], []⟩)]⟩) .nil .nil))
def fe_decimal_digit : Fe G := ⟨[.v .u8], [.bool], fun x => F_decimal_digit x.1⟩
def tb_decimal_digit : List (FuncId × Fe G) := []
theorem ev_decimal_digit (x : TyP G fe_decimal_digit.ps) : evF G (lstK G tb_decimal_digit) (bodyOf Try.f84) an_decimal_digit 9 [.tmp 2] fe_decimal_digit.rs (argT G fe_decimal_digit.ps x) = fe_decimal_digit.fn x := by kernel_rfl
theorem ok_decimal_digit : FnOk G 84 fe_decimal_digit := fnOk_of G_ok (lstK_ok G_ok (lnil)) Try.func84 (by kernel_rfl) (by kernel_rfl) (by kernel_rfl) (by kernel_rfl) ev_decimal_digit

def F_law25_large (s : TSet) : Option (Bool) :=
  (F_ref21_Small s 8).bind fun r1 => some (!r1)
def an_law25_large : An U := .nil
def fe_law25_large : Fe G := ⟨[.v .Set], [.bool], fun x => F_law25_large x.1⟩
def tb_law25_large : List (FuncId × Fe G) := [(37, fe_ref21_Small)]
theorem ev_law25_large (x : TyP G fe_law25_large.ps) : evF G (lstK G tb_law25_large) (bodyOf Try.f11) an_law25_large 6 [.tmp 2] fe_law25_large.rs (argT G fe_law25_large.ps x) = fe_law25_large.fn x := by kernel_rfl
theorem ok_law25_large : FnOk G 11 fe_law25_large := fnOk_of G_ok (lstK_ok G_ok (lcons ok_ref21_Small (lnil))) Try.func11 (by kernel_rfl) (by kernel_rfl) (by kernel_rfl) (by kernel_rfl) ev_law25_large

def F_ref25_Room (s : TSet) : Option (Int) :=
  (F_ref25_Counts s.bricks).bind fun r1 => (F_ref25_Number r1).bind fun r2 => some (IntKind.i64.wrap (60 - r2))
def an_ref25_Room : An U := .nil
def fe_ref25_Room : Fe G := ⟨[.v .Set], [.int1], fun x => F_ref25_Room x.1⟩
def tb_ref25_Room : List (FuncId × Fe G) := [(34, fe_ref25_Counts), (46, fe_ref25_Number)]
theorem ev_ref25_Room (x : TyP G fe_ref25_Room.ps) : evF G (lstK G tb_ref25_Room) (bodyOf Try.f20) an_ref25_Room 8 [.tmp 2] fe_ref25_Room.rs (argT G fe_ref25_Room.ps x) = fe_ref25_Room.fn x := by kernel_rfl
theorem ok_ref25_Room : FnOk G 20 fe_ref25_Room := fnOk_of G_ok (lstK_ok G_ok (lcons ok_ref25_Counts (lcons ok_ref25_Number (lnil)))) Try.func20 (by kernel_rfl) (by kernel_rfl) (by kernel_rfl) (by kernel_rfl) ev_ref25_Room

def F_ref21_Weight (s : TSet) : Option (Int) :=
  (F_ref21_Pipe s).bind fun r1 => (iterF (σ := Int × Int × Unit) (ρ := Int × Unit) (fun s3 => (bif (decide (s3.2.1 < ((s.items.length : Nat) : Int))) then (idx s.items s3.2.1).bind fun x4 => some (.inl ((IntKind.i64.wrap (s3.1 + x4.weight)), (IntKind.i64.wrap (s3.2.1 + 1)), ())) else some (.inr (s3.1, ())))) big (r1, 0, ())).bind fun y5 => some y5.1
def an_ref21_Weight : An U := (.node none .nil (.node none .nil (.node none (.node none .nil (.node none (.node (some ⟨[1, 2], [], ⟨[(3, .tv .int), (4, .tv .int)], []⟩, [(.exit 0, ⟨[(3, .tv .int)], []⟩)]⟩) .nil .nil) .nil)) .nil)))
def fe_ref21_Weight : Fe G := ⟨[.v .Set], [.int1], fun x => F_ref21_Weight x.1⟩
def tb_ref21_Weight : List (FuncId × Fe G) := [(71, fe_ref21_Pipe)]
theorem ev_ref21_Weight (x : TyP G fe_ref21_Weight.ps) : evF G (lstK G tb_ref21_Weight) (bodyOf Try.f43) an_ref21_Weight 23 [.tmp 2] fe_ref21_Weight.rs (argT G fe_ref21_Weight.ps x) = fe_ref21_Weight.fn x := by kernel_rfl
theorem ok_ref21_Weight : FnOk G 43 fe_ref21_Weight := fnOk_of G_ok (lstK_ok G_ok (lcons ok_ref21_Pipe (lnil))) Try.func43 (by kernel_rfl) (by kernel_rfl) (by kernel_rfl) (by kernel_rfl) ev_ref21_Weight

def F_slices_ContainsFunc_int (s : List Int) (f : Int → Option Bool) : Option (Bool) :=
  (F_slices_IndexFunc_int s f).bind fun r1 => some (decide (r1 ≥ 0))
def an_slices_ContainsFunc_int : An U := .nil
def fe_slices_ContainsFunc_int : Fe G := ⟨[.v .l_int1, .fn .int1 .bool], [.bool], fun x => F_slices_ContainsFunc_int x.1 x.2.1⟩
def tb_slices_ContainsFunc_int : List (FuncId × Fe G) := [(72, fe_slices_IndexFunc_int)]
theorem ev_slices_ContainsFunc_int (x : TyP G fe_slices_ContainsFunc_int.ps) : evF G (lstK G tb_slices_ContainsFunc_int) (bodyOf Try.f47) an_slices_ContainsFunc_int 9 [.tmp 4] fe_slices_ContainsFunc_int.rs (argT G fe_slices_ContainsFunc_int.ps x) = fe_slices_ContainsFunc_int.fn x := by kernel_rfl
theorem ok_slices_ContainsFunc_int : FnOk G 47 fe_slices_ContainsFunc_int := fnOk_of G_ok (lstK_ok G_ok (lcons ok_slices_IndexFunc_int (lnil))) Try.func47 (by kernel_rfl) (by kernel_rfl) (by kernel_rfl) (by kernel_rfl) ev_slices_ContainsFunc_int
end Go.Proofs.Ytlaplbkekfnldaa
