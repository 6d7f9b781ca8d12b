/- Functions, as plain data. Printed by mkev.py. -/
import Derived.Test.YtlaplbkekfnldaaFn0
namespace Go.Proofs.Ytlaplbkekfnldaa
open Go.RowKit
set_option linter.unusedVariables false

def F_slices_ContainsFunc_api_Brick (s : List TBrick) (f : TBrick → Option Bool) : Option (Bool) :=
  (F_slices_IndexFunc_api_Brick s f).bind fun r1 => some (decide (r1 ≥ 0))
def an_slices_ContainsFunc_api_Brick : An U := .nil
def fe_slices_ContainsFunc_api_Brick : Fe G := ⟨[.v .l_Brick, .fn .Brick .bool], [.bool], fun x => F_slices_ContainsFunc_api_Brick x.1 x.2.1⟩
def tb_slices_ContainsFunc_api_Brick : List (FuncId × Fe G) := [(73, fe_slices_IndexFunc_api_Brick)]
theorem ev_slices_ContainsFunc_api_Brick (x : TyP G fe_slices_ContainsFunc_api_Brick.ps) : evF G (lstK G tb_slices_ContainsFunc_api_Brick) (bodyOf Try.f51) an_slices_ContainsFunc_api_Brick 9 [.tmp 4] fe_slices_ContainsFunc_api_Brick.rs (argT G fe_slices_ContainsFunc_api_Brick.ps x) = fe_slices_ContainsFunc_api_Brick.fn x := by kernel_rfl
theorem ok_slices_ContainsFunc_api_Brick : FnOk G 51 fe_slices_ContainsFunc_api_Brick := fnOk_of G_ok (lstK_ok G_ok (lcons ok_slices_IndexFunc_api_Brick (lnil))) Try.func51 (by kernel_rfl) (by kernel_rfl) (by kernel_rfl) (by kernel_rfl) ev_slices_ContainsFunc_api_Brick

def F_slices_ContainsFunc_api_Item (s : List TItem) (f : TItem → Option Bool) : Option (Bool) :=
  (F_slices_IndexFunc_api_Item s f).bind fun r1 => some (decide (r1 ≥ 0))
def an_slices_ContainsFunc_api_Item : An U := .nil
def fe_slices_ContainsFunc_api_Item : Fe G := ⟨[.v .l_Item, .fn .Item .bool], [.bool], fun x => F_slices_ContainsFunc_api_Item x.1 x.2.1⟩
def tb_slices_ContainsFunc_api_Item : List (FuncId × Fe G) := [(76, fe_slices_IndexFunc_api_Item)]
theorem ev_slices_ContainsFunc_api_Item (x : TyP G fe_slices_ContainsFunc_api_Item.ps) : evF G (lstK G tb_slices_ContainsFunc_api_Item) (bodyOf Try.f55) an_slices_ContainsFunc_api_Item 9 [.tmp 4] fe_slices_ContainsFunc_api_Item.rs (argT G fe_slices_ContainsFunc_api_Item.ps x) = fe_slices_ContainsFunc_api_Item.fn x := by kernel_rfl
theorem ok_slices_ContainsFunc_api_Item : FnOk G 55 fe_slices_ContainsFunc_api_Item := fnOk_of G_ok (lstK_ok G_ok (lcons ok_slices_IndexFunc_api_Item (lnil))) Try.func55 (by kernel_rfl) (by kernel_rfl) (by kernel_rfl) (by kernel_rfl) ev_slices_ContainsFunc_api_Item

def F_batten_inside (x : TItem) (length : Int) : Option (Bool) :=
  ((bif (decide (x.at_ ≥ 0)) then (F_batten_between x.width 1 1048576).bind fun r2 => (bif r2 then some ((decide (x.at_ ≤ (IntKind.i64.wrap (length - x.width)))), ()) else some (false, ())) else some (false, ())) : Option (Bool × Unit)).bind fun y3 => some y3.1
def an_batten_inside : An U := (.node none .nil (.node (some ⟨[], [], ⟨[], []⟩, [(.normal, ⟨[(4, .tv .bool)], []⟩)]⟩) .nil .nil))
def fe_batten_inside : Fe G := ⟨[.v .Item, .v .int1], [.bool], fun x => F_batten_inside x.1 x.2.1⟩
def tb_batten_inside : List (FuncId × Fe G) := [(62, fe_batten_between)]
theorem ev_batten_inside (x : TyP G fe_batten_inside.ps) : evF G (lstK G tb_batten_inside) (bodyOf Try.f58) an_batten_inside 22 [.tmp 4] fe_batten_inside.rs (argT G fe_batten_inside.ps x) = fe_batten_inside.fn x := by kernel_rfl
theorem ok_batten_inside : FnOk G 58 fe_batten_inside := fnOk_of G_ok (lstK_ok G_ok (lcons ok_batten_between (lnil))) Try.func58 (by kernel_rfl) (by kernel_rfl) (by kernel_rfl) (by kernel_rfl) ev_batten_inside

def F_batten_Put_2 (y : TItem) (a1 : TItem) : Option (Bool) :=
  (F_batten_apart a1 y).bind fun r1 => some (!r1)
def an_batten_Put_2 : An U := .nil
def fe_batten_Put_2 : Fe G := ⟨[.v .Item, .rp .Item], [.bool], fun x => F_batten_Put_2 x.1 x.2.1⟩
def tb_batten_Put_2 : List (FuncId × Fe G) := [(60, fe_batten_apart)]
theorem ev_batten_Put_2 (x : TyP G fe_batten_Put_2.ps) : evF G (lstK G tb_batten_Put_2) (bodyOf Try.f59) an_batten_Put_2 8 [.tmp 3] fe_batten_Put_2.rs (argT G fe_batten_Put_2.ps x) = fe_batten_Put_2.fn x := by kernel_rfl
theorem ok_batten_Put_2 : FnOk G 59 fe_batten_Put_2 := fnOk_of G_ok (lstK_ok G_ok (lcons ok_batten_apart (lnil))) Try.func59 (by kernel_rfl) (by kernel_rfl) (by kernel_rfl) (by kernel_rfl) ev_batten_Put_2

def F_batten_copyOf (s : TSet) : Option (TSet) :=
  (F_slices_Clone_int s.lines).bind fun r1 => (F_slices_Clone_api_Item s.items).bind fun r2 => (F_slices_Clone_api_Brick s.bricks).bind fun r3 => some (TSet.mk s.name s.depth s.low s.high s.length r1 s.pipe s.arbor s.purchase s.most s.brake r2 r3)
def an_batten_copyOf : An U := .nil
def fe_batten_copyOf : Fe G := ⟨[.v .Set], [.Set], fun x => F_batten_copyOf x.1⟩
def tb_batten_copyOf : List (FuncId × Fe G) := [(29, fe_slices_Clone_int), (30, fe_slices_Clone_api_Brick), (49, fe_slices_Clone_api_Item)]
theorem ev_batten_copyOf (x : TyP G fe_batten_copyOf.ps) : evF G (lstK G tb_batten_copyOf) (bodyOf Try.f61) an_batten_copyOf 16 [.cell 2 26] fe_batten_copyOf.rs (argT G fe_batten_copyOf.ps x) = fe_batten_copyOf.fn x := by kernel_rfl
theorem ok_batten_copyOf : FnOk G 61 fe_batten_copyOf := fnOk_of G_ok (lstK_ok G_ok (lcons ok_slices_Clone_int (lcons ok_slices_Clone_api_Brick (lcons ok_slices_Clone_api_Item (lnil))))) Try.func61 (by kernel_rfl) (by kernel_rfl) (by kernel_rfl) (by kernel_rfl) ev_batten_copyOf

def F_batten_lines (l : List Int) (length : Int) : Option (Bool) :=
  ((F_batten_between ((l.length : Nat) : Int) 2 10).bind fun r4 => (bif (!r4) then some (true, ()) else (idx l 0).bind fun x5 => (bif (decide (x5 < 0)) then some (true, ()) else (idx l (IntKind.i64.wrap (((l.length : Nat) : Int) - 1))).bind fun x6 => some ((decide (x6 > length)), ()))) : Option (Bool × Unit)).bind fun y7 => (bif y7.1 then some false else (iterF (σ := Int × Unit) (ρ := (Bool × Unit) ⊕ (Unit)) (fun s10 => (bif (decide (s10.1 < ((l.length : Nat) : Int))) then (idx l s10.1).bind fun x11 => (idx l (IntKind.i64.wrap (s10.1 - 1))).bind fun x12 => (bif (decide (x11 ≤ x12)) then some (.inr (.inl (false, ()))) else some (.inl ((IntKind.i64.wrap (s10.1 + 1)), ()))) else some (.inr (.inr ((())))))) big (1, ())).bind fun y13 => (match y13 with | .inl y14 => some y14.1 | .inr y15 => some true))
def an_batten_lines : An U := (.node none .nil (.node none (.node (some ⟨[0, 4], [], ⟨[], []⟩, [(.normal, ⟨[(25, .tv .bool)], []⟩)]⟩) .nil .nil) (.node none (.node none .nil (.node none (.node (some ⟨[0], [], ⟨[(5, .tv .int)], []⟩, [(.ret, ⟨[(4, .tv .bool)], []⟩), (.exit 0, ⟨[], []⟩)]⟩) .nil .nil) .nil)) .nil)))
def fe_batten_lines : Fe G := ⟨[.v .l_int1, .v .int1], [.bool], fun x => F_batten_lines x.1 x.2.1⟩
def tb_batten_lines : List (FuncId × Fe G) := [(62, fe_batten_between)]
theorem ev_batten_lines (x : TyP G fe_batten_lines.ps) : evF G (lstK G tb_batten_lines) (bodyOf Try.f63) an_batten_lines 42 [.tmp 4] fe_batten_lines.rs (argT G fe_batten_lines.ps x) = fe_batten_lines.fn x := by kernel_rfl
theorem ok_batten_lines : FnOk G 63 fe_batten_lines := fnOk_of G_ok (lstK_ok G_ok (lcons ok_batten_between (lnil))) Try.func63 (by kernel_rfl) (by kernel_rfl) (by kernel_rfl) (by kernel_rfl) ev_batten_lines

def F_batten_weight (s : TSet) : Option (Int) :=
  (F_batten_pipe s).bind fun r1 => (iterF (σ := Int × Int × Unit) (ρ := Int × Unit) (fun s3 => (bif (decide (s3.2.1 < ((s.items.length : Nat) : Int))) then (idx s.items s3.2.1).bind fun x4 => some (.inl ((IntKind.i64.wrap (s3.1 + x4.weight)), (IntKind.i64.wrap (s3.2.1 + 1)), ())) else some (.inr (s3.1, ())))) big (r1, 0, ())).bind fun y5 => some y5.1
def an_batten_weight : An U := (.node none .nil (.node none .nil (.node none (.node none .nil (.node none (.node (some ⟨[2, 9, 10], [], ⟨[(3, .tv .int), (11, .tv .int)], []⟩, [(.exit 0, ⟨[(3, .tv .int)], []⟩)]⟩) .nil .nil) .nil)) .nil)))
def fe_batten_weight : Fe G := ⟨[.v .Set], [.int1], fun x => F_batten_weight x.1⟩
def tb_batten_weight : List (FuncId × Fe G) := [(82, fe_batten_pipe)]
theorem ev_batten_weight (x : TyP G fe_batten_weight.ps) : evF G (lstK G tb_batten_weight) (bodyOf Try.f66) an_batten_weight 21 [.tmp 2] fe_batten_weight.rs (argT G fe_batten_weight.ps x) = fe_batten_weight.fn x := by kernel_rfl
theorem ok_batten_weight : FnOk G 66 fe_batten_weight := fnOk_of G_ok (lstK_ok G_ok (lcons ok_batten_pipe (lnil))) Try.func66 (by kernel_rfl) (by kernel_rfl) (by kernel_rfl) (by kernel_rfl) ev_batten_weight

def F_ref01_word (s : ByteArray) (i : Int) : Option (Int) :=
  (iterF (σ := Int × Unit) (ρ := Int × Unit) (fun s11 => (bif (decide (s11.1 < ((s.size : Nat) : Int))) then (idxB s s11.1).bind fun b12 => (F_ref01_Letter ((b12.toNat : Nat) : Int)).bind fun r13 => (bif r13 then some (.inl ((IntKind.i64.wrap (s11.1 + 1)), ())) else (idxB s s11.1).bind fun b14 => (F_ref01_Digit ((b14.toNat : Nat) : Int)).bind fun r15 => (bif r15 then some (.inl ((IntKind.i64.wrap (s11.1 + 1)), ())) else (idxB s s11.1).bind fun b16 => (bif (((b16.toNat : Nat) : Int) == 95) then some (.inl ((IntKind.i64.wrap (s11.1 + 1)), ())) else some (.inr (s11.1, ()))))) else some (.inr (s11.1, ())))) big (i, ())).bind fun y17 => some y17.1
def an_ref01_word : An U := (.node none .nil (.node none (.node none (.node (some ⟨[0, 4], [], ⟨[(1, .tv .int)], []⟩, [(.exit 0, ⟨[(1, .tv .int)], []⟩)]⟩) .nil .nil) .nil) .nil))
def fe_ref01_word : Fe G := ⟨[.v .str, .v .int1], [.int1], fun x => F_ref01_word x.1 x.2.1⟩
def tb_ref01_word : List (FuncId × Fe G) := [(67, fe_ref01_Letter), (83, fe_ref01_Digit)]
theorem ev_ref01_word (x : TyP G fe_ref01_word.ps) : evF G (lstK G tb_ref01_word) (bodyOf Try.f68) an_ref01_word 30 [.tmp 4] fe_ref01_word.rs (argT G fe_ref01_word.ps x) = fe_ref01_word.fn x := by kernel_rfl
theorem ok_ref01_word : FnOk G 68 fe_ref01_word := fnOk_of G_ok (lstK_ok G_ok (lcons ok_ref01_Letter (lcons ok_ref01_Digit (lnil)))) Try.func68 (by kernel_rfl) (by kernel_rfl) (by kernel_rfl) (by kernel_rfl) ev_ref01_word

def F_decimal_word (s : ByteArray) : Option (Int) :=
  (iterF (σ := Int × Unit) (ρ := Int × Unit) (fun s11 => (bif (decide (s11.1 < ((s.size : Nat) : Int))) then (idxB s s11.1).bind fun b12 => (F_decimal_letter ((b12.toNat : Nat) : Int)).bind fun r13 => (bif r13 then some (.inl ((IntKind.i64.wrap (s11.1 + 1)), ())) else (idxB s s11.1).bind fun b14 => (F_decimal_digit ((b14.toNat : Nat) : Int)).bind fun r15 => (bif r15 then some (.inl ((IntKind.i64.wrap (s11.1 + 1)), ())) else (idxB s s11.1).bind fun b16 => (bif (((b16.toNat : Nat) : Int) == 95) then some (.inl ((IntKind.i64.wrap (s11.1 + 1)), ())) else some (.inr (s11.1, ()))))) else some (.inr (s11.1, ())))) big (0, ())).bind fun y17 => some y17.1
def an_decimal_word : An U := (.node none .nil (.node none .nil (.node none (.node none (.node (some ⟨[0, 2], [], ⟨[(3, .tv .int)], []⟩, [(.exit 0, ⟨[(3, .tv .int)], []⟩)]⟩) .nil .nil) .nil) .nil)))
def fe_decimal_word : Fe G := ⟨[.v .str], [.int1], fun x => F_decimal_word x.1⟩
def tb_decimal_word : List (FuncId × Fe G) := [(74, fe_decimal_letter), (84, fe_decimal_digit)]
theorem ev_decimal_word (x : TyP G fe_decimal_word.ps) : evF G (lstK G tb_decimal_word) (bodyOf Try.f75) an_decimal_word 29 [.tmp 2] fe_decimal_word.rs (argT G fe_decimal_word.ps x) = fe_decimal_word.fn x := by kernel_rfl
theorem ok_decimal_word : FnOk G 75 fe_decimal_word := fnOk_of G_ok (lstK_ok G_ok (lcons ok_decimal_letter (lcons ok_decimal_digit (lnil)))) Try.func75 (by kernel_rfl) (by kernel_rfl) (by kernel_rfl) (by kernel_rfl) ev_decimal_word

def F_batten_items_2 (y : TItem) (a1 : TItem) : Option (Bool) :=
  (F_batten_apart a1 y).bind fun r1 => some (!r1)
def an_batten_items_2 : An U := .nil
def fe_batten_items_2 : Fe G := ⟨[.v .Item, .rp .Item], [.bool], fun x => F_batten_items_2 x.1 x.2.1⟩
def tb_batten_items_2 : List (FuncId × Fe G) := [(60, fe_batten_apart)]
theorem ev_batten_items_2 (x : TyP G fe_batten_items_2.ps) : evF G (lstK G tb_batten_items_2) (bodyOf Try.f79) an_batten_items_2 8 [.tmp 3] fe_batten_items_2.rs (argT G fe_batten_items_2.ps x) = fe_batten_items_2.fn x := by kernel_rfl
theorem ok_batten_items_2 : FnOk G 79 fe_batten_items_2 := fnOk_of G_ok (lstK_ok G_ok (lcons ok_batten_apart (lnil))) Try.func79 (by kernel_rfl) (by kernel_rfl) (by kernel_rfl) (by kernel_rfl) ev_batten_items_2

def F_ref25_Needed (s : TSet) : Option (Int) :=
  (F_ref21_Weight s).bind fun r1 => some (IntKind.i64.wrap ((IntKind.i64.wrap (s.purchase * r1)) - s.arbor))
def an_ref25_Needed : An U := .nil
def fe_ref25_Needed : Fe G := ⟨[.v .Set], [.int1], fun x => F_ref25_Needed x.1⟩
def tb_ref25_Needed : List (FuncId × Fe G) := [(43, fe_ref21_Weight)]
theorem ev_ref25_Needed (x : TyP G fe_ref25_Needed.ps) : evF G (lstK G tb_ref25_Needed) (bodyOf Try.f17) an_ref25_Needed 11 [.tmp 2] fe_ref25_Needed.rs (argT G fe_ref25_Needed.ps x) = fe_ref25_Needed.fn x := by kernel_rfl
theorem ok_ref25_Needed : FnOk G 17 fe_ref25_Needed := fnOk_of G_ok (lstK_ok G_ok (lcons ok_ref21_Weight (lnil))) Try.func17 (by kernel_rfl) (by kernel_rfl) (by kernel_rfl) (by kernel_rfl) ev_ref25_Needed

def F_law25_few (l : List TBrick) : Option (Bool) :=
  ((bif (decide (((l.length : Nat) : Int) ≤ 12)) then (F_slices_ContainsFunc_api_Brick l (fun z3 => F_law25_few_1 z3)).bind fun r4 => some ((!r4), ()) else some (false, ())) : Option (Bool × Unit)).bind fun y5 => some y5.1
def an_law25_few : An U := (.node none .nil (.node (some ⟨[], [], ⟨[], []⟩, [(.normal, ⟨[(2, .tv .bool)], []⟩)]⟩) .nil .nil))
def fe_law25_few : Fe G := ⟨[.v .l_Brick], [.bool], fun x => F_law25_few x.1⟩
def tb_law25_few : List (FuncId × Fe G) := [(51, fe_slices_ContainsFunc_api_Brick), (52, fe_law25_few_1)]
theorem ev_law25_few (x : TyP G fe_law25_few.ps) : evF G (lstK G tb_law25_few) (bodyOf Try.f24) an_law25_few 11 [.tmp 2] fe_law25_few.rs (argT G fe_law25_few.ps x) = fe_law25_few.fn x := by kernel_rfl
theorem ok_law25_few : FnOk G 24 fe_law25_few := fnOk_of G_ok (lstK_ok G_ok (lcons ok_slices_ContainsFunc_api_Brick (lcons ok_law25_few_1 (lnil)))) Try.func24 (by kernel_rfl) (by kernel_rfl) (by kernel_rfl) (by kernel_rfl) ev_law25_few

def F_ref01_IsName (s : ByteArray) : Option (Bool) :=
  ((bif (((s.size : Nat) : Int) == 0) then some (true, ()) else (bif (decide (((s.size : Nat) : Int) > 20)) then some (true, ()) else (idxB s 0).bind fun b3 => (F_ref01_Letter ((b3.toNat : Nat) : Int)).bind fun r4 => some ((!r4), ()))) : Option (Bool × Unit)).bind fun y5 => (bif y5.1 then some false else (F_ref01_word s 0).bind fun r6 => some (r6 == ((s.size : Nat) : Int)))
def an_ref01_IsName : An U := (.node none .nil (.node none (.node (some ⟨[0, 2], [], ⟨[], []⟩, [(.normal, ⟨[(16, .tv .bool)], []⟩)]⟩) .nil .nil) .nil))
def fe_ref01_IsName : Fe G := ⟨[.v .str], [.bool], fun x => F_ref01_IsName x.1⟩
def tb_ref01_IsName : List (FuncId × Fe G) := [(67, fe_ref01_Letter), (68, fe_ref01_word)]
theorem ev_ref01_IsName (x : TyP G fe_ref01_IsName.ps) : evF G (lstK G tb_ref01_IsName) (bodyOf Try.f40) an_ref01_IsName 22 [.tmp 2] fe_ref01_IsName.rs (argT G fe_ref01_IsName.ps x) = fe_ref01_IsName.fn x := by kernel_rfl
theorem ok_ref01_IsName : FnOk G 40 fe_ref01_IsName := fnOk_of G_ok (lstK_ok G_ok (lcons ok_ref01_Letter (lcons ok_ref01_word (lnil)))) Try.func40 (by kernel_rfl) (by kernel_rfl) (by kernel_rfl) (by kernel_rfl) ev_ref01_IsName

def F_decimal_IsName (s : ByteArray) : Option (Bool) :=
  ((bif (!(s.toList == (⟨#[]⟩ : ByteArray).toList)) then (bif (decide (((s.size : Nat) : Int) ≤ 20)) then (idxB s 0).bind fun b4 => (F_decimal_letter ((b4.toNat : Nat) : Int)).bind fun r5 => (bif r5 then (F_decimal_word s).bind fun r6 => some ((r6 == ((s.size : Nat) : Int)), ()) else some (false, ())) else some (false, ())) else some (false, ())) : Option (Bool × Unit)).bind fun y7 => some y7.1
def an_decimal_IsName : An U := (.node none .nil (.node (some ⟨[], [], ⟨[], []⟩, [(.normal, ⟨[(2, .tv .bool)], []⟩)]⟩) .nil .nil))
def fe_decimal_IsName : Fe G := ⟨[.v .str], [.bool], fun x => F_decimal_IsName x.1⟩
def tb_decimal_IsName : List (FuncId × Fe G) := [(74, fe_decimal_letter), (75, fe_decimal_word)]
theorem ev_decimal_IsName (x : TyP G fe_decimal_IsName.ps) : evF G (lstK G tb_decimal_IsName) (bodyOf Try.f53) an_decimal_IsName 22 [.tmp 2] fe_decimal_IsName.rs (argT G fe_decimal_IsName.ps x) = fe_decimal_IsName.fn x := by kernel_rfl
theorem ok_decimal_IsName : FnOk G 53 fe_decimal_IsName := fnOk_of G_ok (lstK_ok G_ok (lcons ok_decimal_letter (lcons ok_decimal_word (lnil)))) Try.func53 (by kernel_rfl) (by kernel_rfl) (by kernel_rfl) (by kernel_rfl) ev_decimal_IsName

def F_ref25_Balance (s : TSet) : Option (Int) :=
  (F_ref25_Needed s).bind fun r1 => (F_ref25_Counts s.bricks).bind fun r2 => (F_ref25_Sum s.bricks r2).bind fun r3 => some (IntKind.i64.wrap (r1 - r3))
def an_ref25_Balance : An U := .nil
def fe_ref25_Balance : Fe G := ⟨[.v .Set], [.int1], fun x => F_ref25_Balance x.1⟩
def tb_ref25_Balance : List (FuncId × Fe G) := [(17, fe_ref25_Needed), (34, fe_ref25_Counts), (44, fe_ref25_Sum)]
theorem ev_ref25_Balance (x : TyP G fe_ref25_Balance.ps) : evF G (lstK G tb_ref25_Balance) (bodyOf Try.f18) an_ref25_Balance 12 [.tmp 2] fe_ref25_Balance.rs (argT G fe_ref25_Balance.ps x) = fe_ref25_Balance.fn x := by kernel_rfl
theorem ok_ref25_Balance : FnOk G 18 fe_ref25_Balance := fnOk_of G_ok (lstK_ok G_ok (lcons ok_ref25_Needed (lcons ok_ref25_Counts (lcons ok_ref25_Sum (lnil))))) Try.func18 (by kernel_rfl) (by kernel_rfl) (by kernel_rfl) (by kernel_rfl) ev_ref25_Balance

def F_arbor_Valid (l : List TBrick) : Option (Bool) :=
  (bif (decide (((l.length : Nat) : Int) > 8)) then some false else (iterF (σ := Int × Int × Unit) (ρ := (Bool × Unit) ⊕ (Int × Unit)) (fun s7 => (bif (decide (s7.2.1 < ((l.length : Nat) : Int))) then (idx l s7.2.1).bind fun x8 => ((F_decimal_IsName x8.name).bind fun r9 => (bif (!r9) then some (true, ()) else (bif (decide (x8.weight < 1)) then some (true, ()) else (bif (decide (x8.weight > 1048576)) then some (true, ()) else (bif (decide (x8.count < 0)) then some (true, ()) else some ((decide (x8.count > 60)), ()))))) : Option (Bool × Unit)).bind fun y10 => (bif y10.1 then some (.inr (.inl (false, ()))) else (if 0 ≤ (0 : Int) ∧ (0 : Int) ≤ s7.2.1 ∧ s7.2.1 ≤ ((l.length : Nat) : Int) then (F_slices_ContainsFunc_api_Brick ((l.take (Int.toNat s7.2.1)).drop (Int.toNat (0 : Int))) (fun z11 => F_arbor_Valid_1 z11 x8)).bind fun r12 => (bif r12 then some (.inr (.inl (false, ()))) else some (.inl ((IntKind.i64.wrap (s7.1 + x8.count)), (IntKind.i64.wrap (s7.2.1 + 1)), ()))) else none)) else some (.inr (.inr ((s7.1, ())))))) big (0, 0, ())).bind fun y13 => (match y13 with | .inl y14 => some y14.1 | .inr y15 => some (decide (y15.1 ≤ 60))))
def an_arbor_Valid : An U := (.node none .nil (.node none .nil (.node none .nil (.node none (.node none .nil (.node none (.node (some ⟨[0, 9, 10], [], ⟨[(3, .tv .int), (11, .tv .int)], []⟩, [(.ret, ⟨[(2, .tv .bool)], []⟩), (.exit 0, ⟨[(3, .tv .int)], []⟩)]⟩) (.node none .nil (.node none .nil (.node none (.node none (.node none .nil (.node none (.node (some ⟨[3, 4, 5, 11], [], ⟨[], []⟩, [(.normal, ⟨[(39, .tv .bool)], []⟩)]⟩) .nil .nil) .nil)) .nil) .nil))) .nil) .nil)) .nil))))
def fe_arbor_Valid : Fe G := ⟨[.v .l_Brick], [.bool], fun x => F_arbor_Valid x.1⟩
def tb_arbor_Valid : List (FuncId × Fe G) := [(51, fe_slices_ContainsFunc_api_Brick), (53, fe_decimal_IsName), (54, fe_arbor_Valid_1)]
theorem ev_arbor_Valid (x : TyP G fe_arbor_Valid.ps) : evF G (lstK G tb_arbor_Valid) (bodyOf Try.f27) an_arbor_Valid 52 [.tmp 2] fe_arbor_Valid.rs (argT G fe_arbor_Valid.ps x) = fe_arbor_Valid.fn x := by kernel_rfl
theorem ok_arbor_Valid : FnOk G 27 fe_arbor_Valid := fnOk_of G_ok (lstK_ok G_ok (lcons ok_slices_ContainsFunc_api_Brick (lcons ok_decimal_IsName (lcons ok_arbor_Valid_1 (lnil))))) Try.func27 (by kernel_rfl) (by kernel_rfl) (by kernel_rfl) (by kernel_rfl) ev_arbor_Valid

def F_ref21_Bricks (l : List TBrick) : Option (Bool) :=
  (bif (decide (((l.length : Nat) : Int) > 8)) then some false else (iterF (σ := Int × Int × Unit) (ρ := (Bool × Unit) ⊕ (Int × Unit)) (fun s23 => (bif (decide (s23.2.1 < ((l.length : Nat) : Int))) then ((idx l s23.2.1).bind fun x24 => (F_ref01_IsName x24.name).bind fun r25 => (bif (!r25) then some (true, ()) else (idx l s23.2.1).bind fun x26 => (F_ref21_between x26.weight 1 1048576).bind fun r27 => (bif (!r27) then some (true, ()) else (idx l s23.2.1).bind fun x28 => (F_ref21_between x28.count 0 60).bind fun r29 => some ((!r29), ()))) : Option (Bool × Unit)).bind fun y30 => (bif y30.1 then some (.inr (.inl (false, ()))) else (idx l s23.2.1).bind fun x31 => (iterF (σ := Int × Unit) (ρ := (Bool × Unit) ⊕ (Unit)) (fun s32 => (bif (decide (s32.1 < s23.2.1)) then (idx l s32.1).bind fun x33 => (idx l s23.2.1).bind fun x34 => (bif (x33.name.toList == x34.name.toList) then some (.inr (.inl (false, ()))) else some (.inl ((IntKind.i64.wrap (s32.1 + 1)), ()))) else some (.inr (.inr ((())))))) big (0, ())).bind fun y35 => (match y35 with | .inl y36 => some (.inr (.inl (y36.1, ()))) | .inr y37 => some (.inl ((IntKind.i64.wrap (s23.1 + x31.count)), (IntKind.i64.wrap (s23.2.1 + 1)), ())))) else some (.inr (.inr ((s23.1, ())))))) big (0, 0, ())).bind fun y38 => (match y38 with | .inl y39 => some y39.1 | .inr y40 => some (decide (y40.1 ≤ 60))))
def an_ref21_Bricks : An U := (.node none .nil (.node none .nil (.node none .nil (.node none (.node none .nil (.node none (.node (some ⟨[0], [], ⟨[(3, .tv .int), (4, .tv .int)], []⟩, [(.ret, ⟨[(2, .tv .bool)], []⟩), (.exit 0, ⟨[(3, .tv .int)], []⟩)]⟩) (.node none .nil (.node none (.node none (.node none (.node (some ⟨[3, 4], [], ⟨[], []⟩, [(.normal, ⟨[(39, .tv .bool)], []⟩)]⟩) .nil .nil) (.node none .nil (.node none .nil (.node none (.node (some ⟨[3, 4], [], ⟨[(5, .tv .int)], []⟩, [(.ret, ⟨[(2, .tv .bool)], []⟩), (.exit 2, ⟨[], []⟩)]⟩) .nil .nil) .nil)))) .nil) .nil)) .nil) .nil)) .nil))))
def fe_ref21_Bricks : Fe G := ⟨[.v .l_Brick], [.bool], fun x => F_ref21_Bricks x.1⟩
def tb_ref21_Bricks : List (FuncId × Fe G) := [(40, fe_ref01_IsName), (41, fe_ref21_between)]
theorem ev_ref21_Bricks (x : TyP G fe_ref21_Bricks.ps) : evF G (lstK G tb_ref21_Bricks) (bodyOf Try.f28) an_ref21_Bricks 65 [.tmp 2] fe_ref21_Bricks.rs (argT G fe_ref21_Bricks.ps x) = fe_ref21_Bricks.fn x := by kernel_rfl
theorem ok_ref21_Bricks : FnOk G 28 fe_ref21_Bricks := fnOk_of G_ok (lstK_ok G_ok (lcons ok_ref01_IsName (lcons ok_ref21_between (lnil)))) Try.func28 (by kernel_rfl) (by kernel_rfl) (by kernel_rfl) (by kernel_rfl) ev_ref21_Bricks

def F_batten_alone (x : TItem) : Option (Bool) :=
  ((F_decimal_IsName x.name).bind fun r6 => (bif r6 then (F_batten_between x.weight 0 1048576).bind fun r7 => (bif r7 then (F_batten_between x.hang 0 1048576).bind fun r8 => (bif r8 then (F_batten_between x.front 0 1048576).bind fun r9 => (bif r9 then (F_batten_between x.back 0 1048576).bind fun r10 => some (r10, ()) else some (false, ())) else some (false, ())) else some (false, ())) else some (false, ())) : Option (Bool × Unit)).bind fun y11 => some y11.1
def an_batten_alone : An U := (.node none .nil (.node (some ⟨[], [], ⟨[], []⟩, [(.normal, ⟨[(2, .tv .bool)], []⟩)]⟩) .nil .nil))
def fe_batten_alone : Fe G := ⟨[.v .Item], [.bool], fun x => F_batten_alone x.1⟩
def tb_batten_alone : List (FuncId × Fe G) := [(53, fe_decimal_IsName), (62, fe_batten_between)]
theorem ev_batten_alone (x : TyP G fe_batten_alone.ps) : evF G (lstK G tb_batten_alone) (bodyOf Try.f57) an_batten_alone 26 [.tmp 2] fe_batten_alone.rs (argT G fe_batten_alone.ps x) = fe_batten_alone.fn x := by kernel_rfl
theorem ok_batten_alone : FnOk G 57 fe_batten_alone := fnOk_of G_ok (lstK_ok G_ok (lcons ok_decimal_IsName (lcons ok_batten_between (lnil)))) Try.func57 (by kernel_rfl) (by kernel_rfl) (by kernel_rfl) (by kernel_rfl) ev_batten_alone

def F_batten_bricks (l : List TBrick) : Option (Bool) :=
  ((bif (decide (((l.length : Nat) : Int) > 8)) then some (true, ()) else (F_batten_twice_api_Brick l (fun z3 => F_batten_bricks_1 z3)).bind fun r4 => some (r4, ())) : Option (Bool × Unit)).bind fun y5 => (bif y5.1 then some false else (iterF (σ := Int × Int × Unit) (ρ := (Bool × Unit) ⊕ (Int × Unit)) (fun s14 => (bif (decide (s14.2.1 < ((l.length : Nat) : Int))) then (idx l s14.2.1).bind fun x15 => ((F_decimal_IsName x15.name).bind fun r16 => (bif (!r16) then some (true, ()) else (F_batten_between x15.weight 1 1048576).bind fun r17 => (bif (!r17) then some (true, ()) else (F_batten_between x15.count 0 60).bind fun r18 => some ((!r18), ()))) : Option (Bool × Unit)).bind fun y19 => (bif y19.1 then some (.inr (.inl (false, ()))) else some (.inl ((IntKind.i64.wrap (s14.1 + x15.count)), (IntKind.i64.wrap (s14.2.1 + 1)), ()))) else some (.inr (.inr ((s14.1, ())))))) big (0, 0, ())).bind fun y20 => (match y20 with | .inl y21 => some y21.1 | .inr y22 => some (decide (y22.1 ≤ 60))))
def an_batten_bricks : An U := (.node none .nil (.node none (.node (some ⟨[0, 2], [], ⟨[], []⟩, [(.normal, ⟨[(12, .tv .bool)], []⟩)]⟩) .nil .nil) (.node none .nil (.node none (.node none .nil (.node none (.node (some ⟨[13, 14], [], ⟨[(3, .tv .int), (15, .tv .int)], []⟩, [(.ret, ⟨[(2, .tv .bool)], []⟩), (.exit 0, ⟨[(3, .tv .int)], []⟩)]⟩) (.node none .nil (.node none .nil (.node none (.node none (.node none .nil (.node none (.node (some ⟨[3, 5, 15], [], ⟨[], []⟩, [(.normal, ⟨[(34, .tv .bool)], []⟩)]⟩) .nil .nil) .nil)) .nil) .nil))) .nil) .nil)) .nil))))
def fe_batten_bricks : Fe G := ⟨[.v .l_Brick], [.bool], fun x => F_batten_bricks x.1⟩
def tb_batten_bricks : List (FuncId × Fe G) := [(53, fe_decimal_IsName), (62, fe_batten_between), (80, fe_batten_twice_api_Brick), (81, fe_batten_bricks_1)]
theorem ev_batten_bricks (x : TyP G fe_batten_bricks.ps) : evF G (lstK G tb_batten_bricks) (bodyOf Try.f65) an_batten_bricks 42 [.tmp 2] fe_batten_bricks.rs (argT G fe_batten_bricks.ps x) = fe_batten_bricks.fn x := by kernel_rfl
theorem ok_batten_bricks : FnOk G 65 fe_batten_bricks := fnOk_of G_ok (lstK_ok G_ok (lcons ok_decimal_IsName (lcons ok_batten_between (lcons ok_batten_twice_api_Brick (lcons ok_batten_bricks_1 (lnil)))))) Try.func65 (by kernel_rfl) (by kernel_rfl) (by kernel_rfl) (by kernel_rfl) ev_batten_bricks

def F_ref21_alone (x : TItem) (length : Int) : Option (Bool) :=
  ((F_ref01_IsName x.name).bind fun r8 => (bif r8 then (F_ref21_between x.width 1 1048576).bind fun r9 => (bif r9 then (F_ref21_between x.at_ 0 (IntKind.i64.wrap (length - x.width))).bind fun r10 => (bif r10 then (F_ref21_between x.weight 0 1048576).bind fun r11 => (bif r11 then (F_ref21_between x.hang 0 1048576).bind fun r12 => (bif r12 then (F_ref21_between x.front 0 1048576).bind fun r13 => (bif r13 then (F_ref21_between x.back 0 1048576).bind fun r14 => some (r14, ()) else some (false, ())) else some (false, ())) else some (false, ())) else some (false, ())) else some (false, ())) else some (false, ())) : Option (Bool × Unit)).bind fun y15 => some y15.1
def an_ref21_alone : An U := (.node none .nil (.node (some ⟨[], [], ⟨[], []⟩, [(.normal, ⟨[(4, .tv .bool)], []⟩)]⟩) .nil .nil))
def fe_ref21_alone : Fe G := ⟨[.v .Item, .v .int1], [.bool], fun x => F_ref21_alone x.1 x.2.1⟩
def tb_ref21_alone : List (FuncId × Fe G) := [(40, fe_ref01_IsName), (41, fe_ref21_between)]
theorem ev_ref21_alone (x : TyP G fe_ref21_alone.ps) : evF G (lstK G tb_ref21_alone) (bodyOf Try.f69) an_ref21_alone 42 [.tmp 4] fe_ref21_alone.rs (argT G fe_ref21_alone.ps x) = fe_ref21_alone.fn x := by kernel_rfl
theorem ok_ref21_alone : FnOk G 69 fe_ref21_alone := fnOk_of G_ok (lstK_ok G_ok (lcons ok_ref01_IsName (lcons ok_ref21_between (lnil)))) Try.func69 (by kernel_rfl) (by kernel_rfl) (by kernel_rfl) (by kernel_rfl) ev_ref21_alone

def F_ref25_Holds (s : TSet) : Option (Bool) :=
  (F_ref25_Balance s).bind fun r1 => (F_ref25_Within s r1).bind fun r2 => some r2
def an_ref25_Holds : An U := .nil
def fe_ref25_Holds : Fe G := ⟨[.v .Set], [.bool], fun x => F_ref25_Holds x.1⟩
def tb_ref25_Holds : List (FuncId × Fe G) := [(18, fe_ref25_Balance), (45, fe_ref25_Within)]
theorem ev_ref25_Holds (x : TyP G fe_ref25_Holds.ps) : evF G (lstK G tb_ref25_Holds) (bodyOf Try.f19) an_ref25_Holds 7 [.tmp 2] fe_ref25_Holds.rs (argT G fe_ref25_Holds.ps x) = fe_ref25_Holds.fn x := by kernel_rfl
theorem ok_ref25_Holds : FnOk G 19 fe_ref25_Holds := fnOk_of G_ok (lstK_ok G_ok (lcons ok_ref25_Balance (lcons ok_ref25_Within (lnil)))) Try.func19 (by kernel_rfl) (by kernel_rfl) (by kernel_rfl) (by kernel_rfl) ev_ref25_Holds

def F_arbor_Weight (l : List TBrick) (counts : List Int) : Option (Int × Int) :=
  (F_arbor_Valid l).bind fun r1 => (bif (!r1) then some (0, 1) else (bif (((counts.length : Nat) : Int) != ((l.length : Nat) : Int)) then some (0, 3) else (iterF (σ := Int × Int × Unit) (ρ := (Int × Int × Unit) ⊕ (Int × Unit)) (fun s7 => (bif (decide (s7.2.1 < ((counts.length : Nat) : Int))) then (idx counts s7.2.1).bind fun x8 => ((bif (decide (x8 < 0)) then some (true, ()) else (idx l s7.2.1).bind fun x9 => some ((decide (x8 > x9.count)), ())) : Option (Bool × Unit)).bind fun y10 => (bif y10.1 then some (.inr (.inl (0, 2, ()))) else (idx l s7.2.1).bind fun x11 => some (.inl ((IntKind.i64.wrap (s7.1 + (IntKind.i64.wrap (x8 * x11.weight)))), (IntKind.i64.wrap (s7.2.1 + 1)), ()))) else some (.inr (.inr ((s7.1, ())))))) big (0, 0, ())).bind fun y12 => (match y12 with | .inl y13 => some (y13.1, y13.2.1) | .inr y14 => some (y14.1, 0))))
def an_arbor_Weight : An U := (.node none .nil (.node none .nil (.node none .nil (.node none (.node none .nil (.node none (.node (some ⟨[0, 19, 20], [], ⟨[(6, .tv .int), (21, .tv .int)], []⟩, [(.ret, ⟨[(4, .tv .int), (5, .tv .int)], []⟩), (.exit 1, ⟨[(6, .tv .int)], []⟩)]⟩) (.node none .nil (.node none .nil (.node none (.node none (.node none .nil (.node none (.node (some ⟨[6, 7, 8, 21], [], ⟨[], []⟩, [(.normal, ⟨[(36, .tv .bool)], []⟩)]⟩) .nil .nil) .nil)) .nil) .nil))) .nil) .nil)) .nil))))
def fe_arbor_Weight : Fe G := ⟨[.v .l_Brick, .v .l_int1], [.int1, .Errno], fun x => F_arbor_Weight x.1 x.2.1⟩
def tb_arbor_Weight : List (FuncId × Fe G) := [(27, fe_arbor_Valid)]
theorem ev_arbor_Weight (x : TyP G fe_arbor_Weight.ps) : evF G (lstK G tb_arbor_Weight) (bodyOf Try.f25) an_arbor_Weight 48 [.tmp 4, .tmp 5] fe_arbor_Weight.rs (argT G fe_arbor_Weight.ps x) = fe_arbor_Weight.fn x := by kernel_rfl
theorem ok_arbor_Weight : FnOk G 25 fe_arbor_Weight := fnOk_of G_ok (lstK_ok G_ok (lcons ok_arbor_Valid (lnil))) Try.func25 (by kernel_rfl) (by kernel_rfl) (by kernel_rfl) (by kernel_rfl) ev_arbor_Weight

def F_ref25_Weight (l : List TBrick) (counts : List Int) : Option (Int × Int) :=
  (F_ref21_Bricks l).bind fun r1 => (bif (!r1) then some (0, 1) else (bif (((counts.length : Nat) : Int) != ((l.length : Nat) : Int)) then some (0, 3) else (iterF (σ := Int × Unit) (ρ := (Int × Int × Unit) ⊕ (Unit)) (fun s9 => (bif (decide (s9.1 < ((l.length : Nat) : Int))) then ((idx counts s9.1).bind fun x10 => (bif (decide (x10 < 0)) then some (true, ()) else (idx counts s9.1).bind fun x11 => (idx l s9.1).bind fun x12 => some ((decide (x11 > x12.count)), ())) : Option (Bool × Unit)).bind fun y13 => (bif y13.1 then some (.inr (.inl (0, 2, ()))) else some (.inl ((IntKind.i64.wrap (s9.1 + 1)), ()))) else some (.inr (.inr ((())))))) big (0, ())).bind fun y14 => (match y14 with | .inl y15 => some (y15.1, y15.2.1) | .inr y16 => (F_ref25_Sum l counts).bind fun r17 => some (r17, 0))))
def an_ref25_Weight : An U := (.node none .nil (.node none .nil (.node none .nil (.node none (.node none .nil (.node none (.node (some ⟨[0, 1], [], ⟨[(6, .tv .int)], []⟩, [(.ret, ⟨[(4, .tv .int), (5, .tv .int)], []⟩), (.exit 0, ⟨[], []⟩)]⟩) (.node none .nil (.node none (.node none (.node (some ⟨[6], [], ⟨[], []⟩, [(.normal, ⟨[(37, .tv .bool)], []⟩)]⟩) .nil .nil) .nil) .nil)) .nil) .nil)) .nil))))
def fe_ref25_Weight : Fe G := ⟨[.v .l_Brick, .v .l_int1], [.int1, .int1], fun x => F_ref25_Weight x.1 x.2.1⟩
def tb_ref25_Weight : List (FuncId × Fe G) := [(28, fe_ref21_Bricks), (44, fe_ref25_Sum)]
theorem ev_ref25_Weight (x : TyP G fe_ref25_Weight.ps) : evF G (lstK G tb_ref25_Weight) (bodyOf Try.f26) an_ref25_Weight 41 [.tmp 4, .tmp 5] fe_ref25_Weight.rs (argT G fe_ref25_Weight.ps x) = fe_ref25_Weight.fn x := by kernel_rfl
theorem ok_ref25_Weight : FnOk G 26 fe_ref25_Weight := fnOk_of G_ok (lstK_ok G_ok (lcons ok_ref21_Bricks (lcons ok_ref25_Sum (lnil)))) Try.func26 (by kernel_rfl) (by kernel_rfl) (by kernel_rfl) (by kernel_rfl) ev_ref25_Weight

def F_ref21_items (s : TSet) : Option (Bool) :=
  (bif (decide (((s.items.length : Nat) : Int) > 40)) then some false else (iterF (σ := Int × Unit) (ρ := (Bool × Unit) ⊕ (Unit)) (fun s24 => (bif (decide (s24.1 < ((s.items.length : Nat) : Int))) then (idx s.items s24.1).bind fun x25 => (F_ref21_alone x25 s.length).bind fun r26 => (bif (!r26) then some (.inr (.inl (false, ()))) else (iterF (σ := Int × Unit) (ρ := (Bool × Unit) ⊕ (Unit)) (fun s27 => (bif (decide (s27.1 < s24.1)) then ((idx s.items s27.1).bind fun x28 => (idx s.items s24.1).bind fun x29 => (bif (x28.name.toList == x29.name.toList) then some (true, ()) else (idx s.items s27.1).bind fun x30 => (idx s.items s24.1).bind fun x31 => (F_ref21_Apart x30 x31).bind fun r32 => some ((!r32), ())) : Option (Bool × Unit)).bind fun y33 => (bif y33.1 then some (.inr (.inl (false, ()))) else some (.inl ((IntKind.i64.wrap (s27.1 + 1)), ()))) else some (.inr (.inr ((())))))) big (0, ())).bind fun y34 => (match y34 with | .inl y35 => some (.inr (.inl (y35.1, ()))) | .inr y36 => some (.inl ((IntKind.i64.wrap (s24.1 + 1)), ())))) else some (.inr (.inr ((())))))) big (0, ())).bind fun y37 => (match y37 with | .inl y38 => some y38.1 | .inr y39 => some true))
def an_ref21_items : An U := (.node none .nil (.node none .nil (.node none (.node none .nil (.node none (.node (some ⟨[1], [], ⟨[(3, .tv .int)], []⟩, [(.ret, ⟨[(2, .tv .bool)], []⟩), (.exit 0, ⟨[], []⟩)]⟩) (.node none .nil (.node none (.node none (.node none .nil (.node none .nil (.node none (.node (some ⟨[3], [], ⟨[(4, .tv .int)], []⟩, [(.ret, ⟨[(2, .tv .bool)], []⟩), (.exit 2, ⟨[], []⟩)]⟩) (.node none .nil (.node none (.node none (.node (some ⟨[4], [], ⟨[], []⟩, [(.normal, ⟨[(56, .tv .bool)], []⟩)]⟩) .nil .nil) .nil) .nil)) .nil) .nil))) .nil) .nil)) .nil) .nil)) .nil)))
def fe_ref21_items : Fe G := ⟨[.v .Set], [.bool], fun x => F_ref21_items x.1⟩
def tb_ref21_items : List (FuncId × Fe G) := [(69, fe_ref21_alone), (70, fe_ref21_Apart)]
theorem ev_ref21_items (x : TyP G fe_ref21_items.ps) : evF G (lstK G tb_ref21_items) (bodyOf Try.f42) an_ref21_items 57 [.tmp 2] fe_ref21_items.rs (argT G fe_ref21_items.ps x) = fe_ref21_items.fn x := by kernel_rfl
theorem ok_ref21_items : FnOk G 42 fe_ref21_items := fnOk_of G_ok (lstK_ok G_ok (lcons ok_ref21_alone (lcons ok_ref21_Apart (lnil)))) Try.func42 (by kernel_rfl) (by kernel_rfl) (by kernel_rfl) (by kernel_rfl) ev_ref21_items

def F_batten_items (l : List TItem) (length : Int) : Option (Bool) :=
  ((bif (decide (((l.length : Nat) : Int) > 40)) then some (true, ()) else (F_batten_twice_api_Item l (fun z3 => F_batten_items_1 z3)).bind fun r4 => some (r4, ())) : Option (Bool × Unit)).bind fun y5 => (bif y5.1 then some false else (iterF (σ := Int × Unit) (ρ := (Bool × Unit) ⊕ (Unit)) (fun s16 => (bif (decide (s16.1 < ((l.length : Nat) : Int))) then (idx l s16.1).bind fun x17 => ((F_batten_alone x17).bind fun r18 => (bif (!r18) then some (true, ()) else (F_batten_inside x17 length).bind fun r19 => (bif (!r19) then some (true, ()) else (if 0 ≤ (0 : Int) ∧ (0 : Int) ≤ s16.1 ∧ s16.1 ≤ ((l.length : Nat) : Int) then (F_slices_ContainsFunc_api_Item ((l.take (Int.toNat s16.1)).drop (Int.toNat (0 : Int))) (fun z20 => F_batten_items_2 z20 x17)).bind fun r21 => some (r21, ()) else none))) : Option (Bool × Unit)).bind fun y22 => (bif y22.1 then some (.inr (.inl (false, ()))) else some (.inl ((IntKind.i64.wrap (s16.1 + 1)), ()))) else some (.inr (.inr ((())))))) big (0, ())).bind fun y23 => (match y23 with | .inl y24 => some y24.1 | .inr y25 => some true))
def an_batten_items : An U := (.node none .nil (.node none (.node (some ⟨[0, 1, 4], [], ⟨[], []⟩, [(.normal, ⟨[(13, .tv .bool)], []⟩)]⟩) .nil .nil) (.node none (.node none .nil (.node none (.node (some ⟨[0, 1, 14, 15], [], ⟨[(16, .tv .int)], []⟩, [(.ret, ⟨[(4, .tv .bool)], []⟩), (.exit 0, ⟨[], []⟩)]⟩) (.node none .nil (.node none .nil (.node none (.node none (.node none .nil (.node (some ⟨[16], [], ⟨[], []⟩, [(.normal, ⟨[(36, .tv .bool)], []⟩)]⟩) .nil .nil)) .nil) .nil))) .nil) .nil)) .nil)))
def fe_batten_items : Fe G := ⟨[.v .l_Item, .v .int1], [.bool], fun x => F_batten_items x.1 x.2.1⟩
def tb_batten_items : List (FuncId × Fe G) := [(55, fe_slices_ContainsFunc_api_Item), (57, fe_batten_alone), (58, fe_batten_inside), (77, fe_batten_twice_api_Item), (78, fe_batten_items_1), (79, fe_batten_items_2)]
theorem ev_batten_items (x : TyP G fe_batten_items.ps) : evF G (lstK G tb_batten_items) (bodyOf Try.f64) an_batten_items 38 [.tmp 4] fe_batten_items.rs (argT G fe_batten_items.ps x) = fe_batten_items.fn x := by kernel_rfl
theorem ok_batten_items : FnOk G 64 fe_batten_items := fnOk_of G_ok (lstK_ok G_ok (lcons ok_slices_ContainsFunc_api_Item (lcons ok_batten_alone (lcons ok_batten_inside (lcons ok_batten_twice_api_Item (lcons ok_batten_items_1 (lcons ok_batten_items_2 (lnil)))))))) Try.func64 (by kernel_rfl) (by kernel_rfl) (by kernel_rfl) (by kernel_rfl) ev_batten_items

def F_ref21_Valid (s : TSet) : Option (Bool) :=
  ((F_ref01_IsName s.name).bind fun r6 => (bif (!r6) then some (true, ()) else (F_ref21_between s.depth 0 1048576).bind fun r7 => (bif (!r7) then some (true, ()) else (F_ref21_between s.low 0 s.high).bind fun r8 => (bif (!r8) then some (true, ()) else (F_ref21_between s.high 0 1048576).bind fun r9 => (bif (!r9) then some (true, ()) else (F_ref21_between s.length 1000 1048576).bind fun r10 => (bif (!r10) then some (true, ()) else some (((s.length.tmod 1000) != 0), ())))))) : Option (Bool × Unit)).bind fun y11 => (bif y11.1 then some false else ((F_ref21_between ((s.lines.length : Nat) : Int) 2 10).bind fun r18 => (bif (!r18) then some (true, ()) else (F_ref21_between s.pipe 0 1048576).bind fun r19 => (bif (!r19) then some (true, ()) else (F_ref21_between s.arbor 0 1048576).bind fun r20 => (bif (!r20) then some (true, ()) else (F_ref21_between s.purchase 1 2).bind fun r21 => (bif (!r21) then some (true, ()) else (F_ref21_between s.most 1 67108864).bind fun r22 => (bif (!r22) then some (true, ()) else (F_ref21_between s.brake 0 67108864).bind fun r23 => some ((!r23), ())))))) : Option (Bool × Unit)).bind fun y24 => (bif y24.1 then some false else (iterF (σ := Int × Unit) (ρ := (Bool × Unit) ⊕ (Unit)) (fun s34 => (bif (decide (s34.1 < ((s.lines.length : Nat) : Int))) then ((idx s.lines s34.1).bind fun x35 => (F_ref21_between x35 0 s.length).bind fun r36 => (bif (!r36) then some (true, ()) else (bif (decide (s34.1 > 0)) then (idx s.lines s34.1).bind fun x37 => (idx s.lines (IntKind.i64.wrap (s34.1 - 1))).bind fun x38 => some ((decide (x37 ≤ x38)), ()) else some (false, ()))) : Option (Bool × Unit)).bind fun y39 => (bif y39.1 then some (.inr (.inl (false, ()))) else some (.inl ((IntKind.i64.wrap (s34.1 + 1)), ()))) else some (.inr (.inr ((())))))) big (0, ())).bind fun y40 => (match y40 with | .inl y41 => some y41.1 | .inr y42 => ((F_ref21_items s).bind fun r45 => (bif r45 then (F_ref21_Bricks s.bricks).bind fun r46 => some (r46, ()) else some (false, ())) : Option (Bool × Unit)).bind fun y47 => some y47.1)))
def an_ref21_Valid : An U := (.node none .nil (.node none (.node (some ⟨[1, 2], [], ⟨[], []⟩, [(.normal, ⟨[(39, .tv .bool)], []⟩)]⟩) .nil .nil) (.node none (.node (some ⟨[1, 2], [], ⟨[], []⟩, [(.normal, ⟨[(74, .tv .bool)], []⟩)]⟩) .nil .nil) (.node none (.node none .nil (.node none (.node (some ⟨[1], [], ⟨[(3, .tv .int)], []⟩, [(.ret, ⟨[(2, .tv .bool)], []⟩), (.exit 0, ⟨[], []⟩)]⟩) (.node none .nil (.node none (.node none (.node (some ⟨[3], [], ⟨[], []⟩, [(.normal, ⟨[(108, .tv .bool)], []⟩)]⟩) .nil .nil) .nil) .nil)) .nil) .nil)) (.node (some ⟨[], [], ⟨[], []⟩, [(.normal, ⟨[(2, .tv .bool)], []⟩)]⟩) .nil .nil)))))
def fe_ref21_Valid : Fe G := ⟨[.v .Set], [.bool], fun x => F_ref21_Valid x.1⟩
def tb_ref21_Valid : List (FuncId × Fe G) := [(28, fe_ref21_Bricks), (40, fe_ref01_IsName), (41, fe_ref21_between), (42, fe_ref21_items)]
theorem ev_ref21_Valid (x : TyP G fe_ref21_Valid.ps) : evF G (lstK G tb_ref21_Valid) (bodyOf Try.f16) an_ref21_Valid 116 [.tmp 2] fe_ref21_Valid.rs (argT G fe_ref21_Valid.ps x) = fe_ref21_Valid.fn x := by kernel_rfl
theorem ok_ref21_Valid : FnOk G 16 fe_ref21_Valid := fnOk_of G_ok (lstK_ok G_ok (lcons ok_ref21_Bricks (lcons ok_ref01_IsName (lcons ok_ref21_between (lcons ok_ref21_items (lnil)))))) Try.func16 (by kernel_rfl) (by kernel_rfl) (by kernel_rfl) (by kernel_rfl) ev_ref21_Valid
end Go.Proofs.Ytlaplbkekfnldaa
