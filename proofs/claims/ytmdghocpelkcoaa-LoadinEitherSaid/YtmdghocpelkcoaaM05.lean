/- Joined by merge.py: Fn1. -/
import Derived.Test.YtmdghocpelkcoaaM04
/- Functions, as plain data. Printed by mkev.py. -/
namespace Go.Proofs.Ytmdghocpelkcoaa
open Go.RowKit
set_option linter.unusedVariables false

def F_slices_IndexFunc_api_Item (s : List TItem) (f : TItem → Option Bool) : Option (Int) :=
  (iterF (σ := Int × Unit) (ρ := (Int × Unit) ⊕ (Unit)) (fun s3 => (bif (decide (s3.1 < ((s.length : Nat) : Int))) then (idx s s3.1).bind fun x4 => (f x4).bind fun r5 => (bif r5 then some (.inr (.inl (s3.1, ()))) else some (.inl ((IntKind.i64.wrap (s3.1 + 1)), ()))) else some (.inr (.inr ((())))))) big (0, ())).bind fun y6 => (match y6 with | .inl y7 => some y7.1 | .inr y8 => some (-1))
def an_slices_IndexFunc_api_Item : An U := (.node none .nil (.node none (.node none .nil (.node none (.node (some ⟨[0, 1, 7], [], ⟨[(8, .tv .int)], []⟩, [(.ret, ⟨[(4, .tv .int)], []⟩), (.exit 0, ⟨[], []⟩)]⟩) .nil .nil) .nil)) .nil))
def fe_slices_IndexFunc_api_Item : Fe G := ⟨[.v .l_Item, .fn .Item .bool], [.int1], fun x => F_slices_IndexFunc_api_Item x.1 x.2.1⟩
def tb_slices_IndexFunc_api_Item : List (FuncId × Fe G) := []
theorem ev_slices_IndexFunc_api_Item (x : TyP G fe_slices_IndexFunc_api_Item.ps) : evF G (lstK G tb_slices_IndexFunc_api_Item) (bodyOf Try.f125) an_slices_IndexFunc_api_Item 19 [.tmp 4] fe_slices_IndexFunc_api_Item.rs (argT G fe_slices_IndexFunc_api_Item.ps x) = fe_slices_IndexFunc_api_Item.fn x := by kernel_rfl
theorem ok_slices_IndexFunc_api_Item : FnOk G 125 fe_slices_IndexFunc_api_Item := fnOk_of G_ok (lstK_ok G_ok (lnil)) Try.func125 (by kernel_rfl) (by kernel_rfl) (by kernel_rfl) (by kernel_rfl) ev_slices_IndexFunc_api_Item

def F_batten_pipe (s : TSet) : Option (Int) :=
  some (IntKind.i64.wrap (s.pipe * (IntKind.i64.wrap (s.length.tdiv 1000))))
def an_batten_pipe : An U := .nil
def fe_batten_pipe : Fe G := ⟨[.v .Set], [.int1], fun x => F_batten_pipe x.1⟩
def tb_batten_pipe : List (FuncId × Fe G) := []
theorem ev_batten_pipe (x : TyP G fe_batten_pipe.ps) : evF G (lstK G tb_batten_pipe) (bodyOf Try.f126) an_batten_pipe 9 [.tmp 2] fe_batten_pipe.rs (argT G fe_batten_pipe.ps x) = fe_batten_pipe.fn x := by kernel_rfl
theorem ok_batten_pipe : FnOk G 126 fe_batten_pipe := fnOk_of G_ok (lstK_ok G_ok (lnil)) Try.func126 (by kernel_rfl) (by kernel_rfl) (by kernel_rfl) (by kernel_rfl) ev_batten_pipe

def F_law27_few (s : TSet) (l : List TJob) : Option (Bool) :=
  ((F_ref21_Small s 12).bind fun r4 => (bif r4 then (F_ref27_Short l 30).bind fun r5 => (bif r5 then some (true, ()) else (bif (decide (((l.length : Nat) : Int) > 100)) then (F_ref27_Short l 110).bind fun r6 => some (r6, ()) else some (false, ()))) else some (false, ())) : Option (Bool × Unit)).bind fun y7 => some y7.1
def an_law27_few : An U := (.node none .nil (.node (some ⟨[], [], ⟨[], []⟩, [(.normal, ⟨[(4, .tv .bool)], []⟩)]⟩) .nil .nil))
def fe_law27_few : Fe G := ⟨[.v .Set, .v .l_Job], [.bool], fun x => F_law27_few x.1 x.2.1⟩
def tb_law27_few : List (FuncId × Fe G) := [(59, fe_ref21_Small), (60, fe_ref27_Short)]
theorem ev_law27_few (x : TyP G fe_law27_few.ps) : evF G (lstK G tb_law27_few) (bodyOf Try.f17) an_law27_few 20 [.tmp 4] fe_law27_few.rs (argT G fe_law27_few.ps x) = fe_law27_few.fn x := by kernel_rfl
theorem ok_law27_few : FnOk G 17 fe_law27_few := fnOk_of G_ok (lstK_ok G_ok (lcons ok_ref21_Small (lcons ok_ref27_Short (lnil)))) Try.func17 (by kernel_rfl) (by kernel_rfl) (by kernel_rfl) (by kernel_rfl) ev_law27_few

def F_ref27_Held (s : TSet) (n : Int) : Option (Bool) :=
  (F_ref27_between n (IntKind.i64.wrap (0 - s.brake)) s.brake).bind fun r1 => some r1
def an_ref27_Held : An U := .nil
def fe_ref27_Held : Fe G := ⟨[.v .Set, .v .int1], [.bool], fun x => F_ref27_Held x.1 x.2.1⟩
def tb_ref27_Held : List (FuncId × Fe G) := [(62, fe_ref27_between)]
theorem ev_ref27_Held (x : TyP G fe_ref27_Held.ps) : evF G (lstK G tb_ref27_Held) (bodyOf Try.f32) an_ref27_Held 12 [.tmp 4] fe_ref27_Held.rs (argT G fe_ref27_Held.ps x) = fe_ref27_Held.fn x := by kernel_rfl
theorem ok_ref27_Held : FnOk G 32 fe_ref27_Held := fnOk_of G_ok (lstK_ok G_ok (lcons ok_ref27_between (lnil))) Try.func32 (by kernel_rfl) (by kernel_rfl) (by kernel_rfl) (by kernel_rfl) ev_ref27_Held

def F_ref27_Further (n : Int) : Option (Bool) :=
  (F_ref27_between n (-1073741824) 1073741824).bind fun r1 => some r1
def an_ref27_Further : An U := .nil
def fe_ref27_Further : Fe G := ⟨[.v .int1], [.bool], fun x => F_ref27_Further x.1⟩
def tb_ref27_Further : List (FuncId × Fe G) := [(62, fe_ref27_between)]
theorem ev_ref27_Further (x : TyP G fe_ref27_Further.ps) : evF G (lstK G tb_ref27_Further) (bodyOf Try.f33) an_ref27_Further 5 [.tmp 2] fe_ref27_Further.rs (argT G fe_ref27_Further.ps x) = fe_ref27_Further.fn x := by kernel_rfl
theorem ok_ref27_Further : FnOk G 33 fe_ref27_Further := fnOk_of G_ok (lstK_ok G_ok (lcons ok_ref27_between (lnil))) Try.func33 (by kernel_rfl) (by kernel_rfl) (by kernel_rfl) (by kernel_rfl) ev_ref27_Further

def F_brake_First_1 (n : Int) (a1 : TSet) : Option (Bool) :=
  (F_brake_held a1 n).bind fun r1 => some (!r1)
def an_brake_First_1 : An U := .nil
def fe_brake_First_1 : Fe G := ⟨[.v .int1, .rp .Set], [.bool], fun x => F_brake_First_1 x.1 x.2.1⟩
def tb_brake_First_1 : List (FuncId × Fe G) := [(66, fe_brake_held)]
theorem ev_brake_First_1 (x : TyP G fe_brake_First_1.ps) : evF G (lstK G tb_brake_First_1) (bodyOf Try.f65) an_brake_First_1 8 [.tmp 3] fe_brake_First_1.rs (argT G fe_brake_First_1.ps x) = fe_brake_First_1.fn x := by kernel_rfl
theorem ok_brake_First_1 : FnOk G 65 fe_brake_First_1 := fnOk_of G_ok (lstK_ok G_ok (lcons ok_brake_held (lnil))) Try.func65 (by kernel_rfl) (by kernel_rfl) (by kernel_rfl) (by kernel_rfl) ev_brake_First_1

def F_slices_ContainsFunc_int (s : List Int) (f : Int → Option Bool) : Option (Bool) :=
  (F_slices_IndexFunc_int s f).bind fun r1 => some (decide (r1 ≥ 0))
def an_slices_ContainsFunc_int : An U := .nil
def fe_slices_ContainsFunc_int : Fe G := ⟨[.v .l_int1, .fn .int1 .bool], [.bool], fun x => F_slices_ContainsFunc_int x.1 x.2.1⟩
def tb_slices_ContainsFunc_int : List (FuncId × Fe G) := [(64, fe_slices_IndexFunc_int)]
theorem ev_slices_ContainsFunc_int (x : TyP G fe_slices_ContainsFunc_int.ps) : evF G (lstK G tb_slices_ContainsFunc_int) (bodyOf Try.f74) an_slices_ContainsFunc_int 9 [.tmp 4] fe_slices_ContainsFunc_int.rs (argT G fe_slices_ContainsFunc_int.ps x) = fe_slices_ContainsFunc_int.fn x := by kernel_rfl
theorem ok_slices_ContainsFunc_int : FnOk G 74 fe_slices_ContainsFunc_int := fnOk_of G_ok (lstK_ok G_ok (lcons ok_slices_IndexFunc_int (lnil))) Try.func74 (by kernel_rfl) (by kernel_rfl) (by kernel_rfl) (by kernel_rfl) ev_slices_ContainsFunc_int

def F_slices_ContainsFunc_api_Job (s : List TJob) (f : TJob → Option Bool) : Option (Bool) :=
  (F_slices_IndexFunc_api_Job s f).bind fun r1 => some (decide (r1 ≥ 0))
def an_slices_ContainsFunc_api_Job : An U := .nil
def fe_slices_ContainsFunc_api_Job : Fe G := ⟨[.v .l_Job, .fn .Job .bool], [.bool], fun x => F_slices_ContainsFunc_api_Job x.1 x.2.1⟩
def tb_slices_ContainsFunc_api_Job : List (FuncId × Fe G) := [(110, fe_slices_IndexFunc_api_Job)]
theorem ev_slices_ContainsFunc_api_Job (x : TyP G fe_slices_ContainsFunc_api_Job.ps) : evF G (lstK G tb_slices_ContainsFunc_api_Job) (bodyOf Try.f84) an_slices_ContainsFunc_api_Job 9 [.tmp 4] fe_slices_ContainsFunc_api_Job.rs (argT G fe_slices_ContainsFunc_api_Job.ps x) = fe_slices_ContainsFunc_api_Job.fn x := by kernel_rfl
theorem ok_slices_ContainsFunc_api_Job : FnOk G 84 fe_slices_ContainsFunc_api_Job := fnOk_of G_ok (lstK_ok G_ok (lcons ok_slices_IndexFunc_api_Job (lnil))) Try.func84 (by kernel_rfl) (by kernel_rfl) (by kernel_rfl) (by kernel_rfl) ev_slices_ContainsFunc_api_Job

def F_cmp_Compare_int (x : Int) (y : Int) : Option (Int) :=
  (F_cmp_isNaN_int x).bind fun r1 => (F_cmp_isNaN_int y).bind fun r2 => (bif r1 then (bif r2 then some 0 else some (-1)) else (bif r2 then some 1 else (bif (decide (x < y)) then some (-1) else (bif (decide (x > y)) then some 1 else some 0))))
def an_cmp_Compare_int : An U := .nil
def fe_cmp_Compare_int : Fe G := ⟨[.v .int1, .v .int1], [.int1], fun x => F_cmp_Compare_int x.1 x.2.1⟩
def tb_cmp_Compare_int : List (FuncId × Fe G) := [(111, fe_cmp_isNaN_int)]
theorem ev_cmp_Compare_int (x : TyP G fe_cmp_Compare_int.ps) : evF G (lstK G tb_cmp_Compare_int) (bodyOf Try.f95) an_cmp_Compare_int 20 [.tmp 4] fe_cmp_Compare_int.rs (argT G fe_cmp_Compare_int.ps x) = fe_cmp_Compare_int.fn x := by kernel_rfl
theorem ok_cmp_Compare_int : FnOk G 95 fe_cmp_Compare_int := fnOk_of G_ok (lstK_ok G_ok (lcons ok_cmp_isNaN_int (lnil))) Try.func95 (by kernel_rfl) (by kernel_rfl) (by kernel_rfl) (by kernel_rfl) ev_cmp_Compare_int

def F_ref01_word (s : ByteArray) (i : Int) : Option (Int) :=
  (iterF (σ := Int × Unit) (ρ := Int × Unit) (fun s11 => (bif (decide (s11.1 < ((s.size : Nat) : Int))) then (idxB s s11.1).bind fun b12 => (F_ref01_Letter ((b12.toNat : Nat) : Int)).bind fun r13 => (bif r13 then some (.inl ((IntKind.i64.wrap (s11.1 + 1)), ())) else (idxB s s11.1).bind fun b14 => (F_ref01_Digit ((b14.toNat : Nat) : Int)).bind fun r15 => (bif r15 then some (.inl ((IntKind.i64.wrap (s11.1 + 1)), ())) else (idxB s s11.1).bind fun b16 => (bif (((b16.toNat : Nat) : Int) == 95) then some (.inl ((IntKind.i64.wrap (s11.1 + 1)), ())) else some (.inr (s11.1, ()))))) else some (.inr (s11.1, ())))) big (i, ())).bind fun y17 => some y17.1
def an_ref01_word : An U := (.node none .nil (.node none (.node none (.node (some ⟨[0, 4], [], ⟨[(1, .tv .int)], []⟩, [(.exit 0, ⟨[(1, .tv .int)], []⟩)]⟩) .nil .nil) .nil) .nil))
def fe_ref01_word : Fe G := ⟨[.v .str, .v .int1], [.int1], fun x => F_ref01_word x.1 x.2.1⟩
def tb_ref01_word : List (FuncId × Fe G) := [(96, fe_ref01_Letter), (112, fe_ref01_Digit)]
theorem ev_ref01_word (x : TyP G fe_ref01_word.ps) : evF G (lstK G tb_ref01_word) (bodyOf Try.f97) an_ref01_word 30 [.tmp 4] fe_ref01_word.rs (argT G fe_ref01_word.ps x) = fe_ref01_word.fn x := by kernel_rfl
theorem ok_ref01_word : FnOk G 97 fe_ref01_word := fnOk_of G_ok (lstK_ok G_ok (lcons ok_ref01_Letter (lcons ok_ref01_Digit (lnil)))) Try.func97 (by kernel_rfl) (by kernel_rfl) (by kernel_rfl) (by kernel_rfl) ev_ref01_word

def F_decimal_word (s : ByteArray) : Option (Int) :=
  (iterF (σ := Int × Unit) (ρ := Int × Unit) (fun s11 => (bif (decide (s11.1 < ((s.size : Nat) : Int))) then (idxB s s11.1).bind fun b12 => (F_decimal_letter ((b12.toNat : Nat) : Int)).bind fun r13 => (bif r13 then some (.inl ((IntKind.i64.wrap (s11.1 + 1)), ())) else (idxB s s11.1).bind fun b14 => (F_decimal_digit ((b14.toNat : Nat) : Int)).bind fun r15 => (bif r15 then some (.inl ((IntKind.i64.wrap (s11.1 + 1)), ())) else (idxB s s11.1).bind fun b16 => (bif (((b16.toNat : Nat) : Int) == 95) then some (.inl ((IntKind.i64.wrap (s11.1 + 1)), ())) else some (.inr (s11.1, ()))))) else some (.inr (s11.1, ())))) big (0, ())).bind fun y17 => some y17.1
def an_decimal_word : An U := (.node none .nil (.node none .nil (.node none (.node none (.node (some ⟨[0, 2], [], ⟨[(3, .tv .int)], []⟩, [(.exit 0, ⟨[(3, .tv .int)], []⟩)]⟩) .nil .nil) .nil) .nil)))
def fe_decimal_word : Fe G := ⟨[.v .str], [.int1], fun x => F_decimal_word x.1⟩
def tb_decimal_word : List (FuncId × Fe G) := [(98, fe_decimal_letter), (113, fe_decimal_digit)]
theorem ev_decimal_word (x : TyP G fe_decimal_word.ps) : evF G (lstK G tb_decimal_word) (bodyOf Try.f99) an_decimal_word 29 [.tmp 2] fe_decimal_word.rs (argT G fe_decimal_word.ps x) = fe_decimal_word.fn x := by kernel_rfl
theorem ok_decimal_word : FnOk G 99 fe_decimal_word := fnOk_of G_ok (lstK_ok G_ok (lcons ok_decimal_letter (lcons ok_decimal_digit (lnil)))) Try.func99 (by kernel_rfl) (by kernel_rfl) (by kernel_rfl) (by kernel_rfl) ev_decimal_word

def F_batten_lines (l : List Int) (length : Int) : Option (Bool) :=
  ((F_batten_between ((l.length : Nat) : Int) 2 10).bind fun r4 => (bif (!r4) then some (true, ()) else (idx l 0).bind fun x5 => (bif (decide (x5 < 0)) then some (true, ()) else (idx l (IntKind.i64.wrap (((l.length : Nat) : Int) - 1))).bind fun x6 => some ((decide (x6 > length)), ()))) : Option (Bool × Unit)).bind fun y7 => (bif y7.1 then some false else (iterF (σ := Int × Unit) (ρ := (Bool × Unit) ⊕ (Unit)) (fun s10 => (bif (decide (s10.1 < ((l.length : Nat) : Int))) then (idx l s10.1).bind fun x11 => (idx l (IntKind.i64.wrap (s10.1 - 1))).bind fun x12 => (bif (decide (x11 ≤ x12)) then some (.inr (.inl (false, ()))) else some (.inl ((IntKind.i64.wrap (s10.1 + 1)), ()))) else some (.inr (.inr ((())))))) big (1, ())).bind fun y13 => (match y13 with | .inl y14 => some y14.1 | .inr y15 => some true))
def an_batten_lines : An U := (.node none .nil (.node none (.node (some ⟨[0, 4], [], ⟨[], []⟩, [(.normal, ⟨[(25, .tv .bool)], []⟩)]⟩) .nil .nil) (.node none (.node none .nil (.node none (.node (some ⟨[0], [], ⟨[(5, .tv .int)], []⟩, [(.ret, ⟨[(4, .tv .bool)], []⟩), (.exit 0, ⟨[], []⟩)]⟩) .nil .nil) .nil)) .nil)))
def fe_batten_lines : Fe G := ⟨[.v .l_int1, .v .int1], [.bool], fun x => F_batten_lines x.1 x.2.1⟩
def tb_batten_lines : List (FuncId × Fe G) := [(102, fe_batten_between)]
theorem ev_batten_lines (x : TyP G fe_batten_lines.ps) : evF G (lstK G tb_batten_lines) (bodyOf Try.f103) an_batten_lines 42 [.tmp 4] fe_batten_lines.rs (argT G fe_batten_lines.ps x) = fe_batten_lines.fn x := by kernel_rfl
theorem ok_batten_lines : FnOk G 103 fe_batten_lines := fnOk_of G_ok (lstK_ok G_ok (lcons ok_batten_between (lnil))) Try.func103 (by kernel_rfl) (by kernel_rfl) (by kernel_rfl) (by kernel_rfl) ev_batten_lines

def F_ref21_Weight (s : TSet) : Option (Int) :=
  (F_ref21_Pipe s).bind fun r1 => (iterF (σ := Int × Int × Unit) (ρ := Int × Unit) (fun s3 => (bif (decide (s3.2.1 < ((s.items.length : Nat) : Int))) then (idx s.items s3.2.1).bind fun x4 => some (.inl ((IntKind.i64.wrap (s3.1 + x4.weight)), (IntKind.i64.wrap (s3.2.1 + 1)), ())) else some (.inr (s3.1, ())))) big (r1, 0, ())).bind fun y5 => some y5.1
def an_ref21_Weight : An U := (.node none .nil (.node none .nil (.node none (.node none .nil (.node none (.node (some ⟨[1, 2], [], ⟨[(3, .tv .int), (4, .tv .int)], []⟩, [(.exit 0, ⟨[(3, .tv .int)], []⟩)]⟩) .nil .nil) .nil)) .nil)))
def fe_ref21_Weight : Fe G := ⟨[.v .Set], [.int1], fun x => F_ref21_Weight x.1⟩
def tb_ref21_Weight : List (FuncId × Fe G) := [(123, fe_ref21_Pipe)]
theorem ev_ref21_Weight (x : TyP G fe_ref21_Weight.ps) : evF G (lstK G tb_ref21_Weight) (bodyOf Try.f106) an_ref21_Weight 23 [.tmp 2] fe_ref21_Weight.rs (argT G fe_ref21_Weight.ps x) = fe_ref21_Weight.fn x := by kernel_rfl
theorem ok_ref21_Weight : FnOk G 106 fe_ref21_Weight := fnOk_of G_ok (lstK_ok G_ok (lcons ok_ref21_Pipe (lnil))) Try.func106 (by kernel_rfl) (by kernel_rfl) (by kernel_rfl) (by kernel_rfl) ev_ref21_Weight

def F_batten_inside (x : TItem) (length : Int) : Option (Bool) :=
  ((bif (decide (x.at_ ≥ 0)) then (F_batten_between x.width 1 1048576).bind fun r2 => (bif r2 then some ((decide (x.at_ ≤ (IntKind.i64.wrap (length - x.width)))), ()) else some (false, ())) else some (false, ())) : Option (Bool × Unit)).bind fun y3 => some y3.1
def an_batten_inside : An U := (.node none .nil (.node (some ⟨[], [], ⟨[], []⟩, [(.normal, ⟨[(4, .tv .bool)], []⟩)]⟩) .nil .nil))
def fe_batten_inside : Fe G := ⟨[.v .Item, .v .int1], [.bool], fun x => F_batten_inside x.1 x.2.1⟩
def tb_batten_inside : List (FuncId × Fe G) := [(102, fe_batten_between)]
theorem ev_batten_inside (x : TyP G fe_batten_inside.ps) : evF G (lstK G tb_batten_inside) (bodyOf Try.f117) an_batten_inside 22 [.tmp 4] fe_batten_inside.rs (argT G fe_batten_inside.ps x) = fe_batten_inside.fn x := by kernel_rfl
theorem ok_batten_inside : FnOk G 117 fe_batten_inside := fnOk_of G_ok (lstK_ok G_ok (lcons ok_batten_between (lnil))) Try.func117 (by kernel_rfl) (by kernel_rfl) (by kernel_rfl) (by kernel_rfl) ev_batten_inside

def F_slices_ContainsFunc_api_Item (s : List TItem) (f : TItem → Option Bool) : Option (Bool) :=
  (F_slices_IndexFunc_api_Item s f).bind fun r1 => some (decide (r1 ≥ 0))
def an_slices_ContainsFunc_api_Item : An U := .nil
def fe_slices_ContainsFunc_api_Item : Fe G := ⟨[.v .l_Item, .fn .Item .bool], [.bool], fun x => F_slices_ContainsFunc_api_Item x.1 x.2.1⟩
def tb_slices_ContainsFunc_api_Item : List (FuncId × Fe G) := [(125, fe_slices_IndexFunc_api_Item)]
theorem ev_slices_ContainsFunc_api_Item (x : TyP G fe_slices_ContainsFunc_api_Item.ps) : evF G (lstK G tb_slices_ContainsFunc_api_Item) (bodyOf Try.f118) an_slices_ContainsFunc_api_Item 9 [.tmp 4] fe_slices_ContainsFunc_api_Item.rs (argT G fe_slices_ContainsFunc_api_Item.ps x) = fe_slices_ContainsFunc_api_Item.fn x := by kernel_rfl
theorem ok_slices_ContainsFunc_api_Item : FnOk G 118 fe_slices_ContainsFunc_api_Item := fnOk_of G_ok (lstK_ok G_ok (lcons ok_slices_IndexFunc_api_Item (lnil))) Try.func118 (by kernel_rfl) (by kernel_rfl) (by kernel_rfl) (by kernel_rfl) ev_slices_ContainsFunc_api_Item

def F_batten_items_2 (y : TItem) (a1 : TItem) : Option (Bool) :=
  (F_batten_apart a1 y).bind fun r1 => some (!r1)
def an_batten_items_2 : An U := .nil
def fe_batten_items_2 : Fe G := ⟨[.v .Item, .rp .Item], [.bool], fun x => F_batten_items_2 x.1 x.2.1⟩
def tb_batten_items_2 : List (FuncId × Fe G) := [(120, fe_batten_apart)]
theorem ev_batten_items_2 (x : TyP G fe_batten_items_2.ps) : evF G (lstK G tb_batten_items_2) (bodyOf Try.f119) an_batten_items_2 8 [.tmp 3] fe_batten_items_2.rs (argT G fe_batten_items_2.ps x) = fe_batten_items_2.fn x := by kernel_rfl
theorem ok_batten_items_2 : FnOk G 119 fe_batten_items_2 := fnOk_of G_ok (lstK_ok G_ok (lcons ok_batten_apart (lnil))) Try.func119 (by kernel_rfl) (by kernel_rfl) (by kernel_rfl) (by kernel_rfl) ev_batten_items_2

def F_batten_weight (s : TSet) : Option (Int) :=
  (F_batten_pipe s).bind fun r1 => (iterF (σ := Int × Int × Unit) (ρ := Int × Unit) (fun s3 => (bif (decide (s3.2.1 < ((s.items.length : Nat) : Int))) then (idx s.items s3.2.1).bind fun x4 => some (.inl ((IntKind.i64.wrap (s3.1 + x4.weight)), (IntKind.i64.wrap (s3.2.1 + 1)), ())) else some (.inr (s3.1, ())))) big (r1, 0, ())).bind fun y5 => some y5.1
def an_batten_weight : An U := (.node none .nil (.node none .nil (.node none (.node none .nil (.node none (.node (some ⟨[2, 9, 10], [], ⟨[(3, .tv .int), (11, .tv .int)], []⟩, [(.exit 0, ⟨[(3, .tv .int)], []⟩)]⟩) .nil .nil) .nil)) .nil)))
def fe_batten_weight : Fe G := ⟨[.v .Set], [.int1], fun x => F_batten_weight x.1⟩
def tb_batten_weight : List (FuncId × Fe G) := [(126, fe_batten_pipe)]
theorem ev_batten_weight (x : TyP G fe_batten_weight.ps) : evF G (lstK G tb_batten_weight) (bodyOf Try.f124) an_batten_weight 21 [.tmp 2] fe_batten_weight.rs (argT G fe_batten_weight.ps x) = fe_batten_weight.fn x := by kernel_rfl
theorem ok_batten_weight : FnOk G 124 fe_batten_weight := fnOk_of G_ok (lstK_ok G_ok (lcons ok_batten_pipe (lnil))) Try.func124 (by kernel_rfl) (by kernel_rfl) (by kernel_rfl) (by kernel_rfl) ev_batten_weight

def F_ref27_First (s : TSet) (path : List Int) : Option (Int) :=
  (iterF (σ := Int × Unit) (ρ := (Int × Unit) ⊕ (Unit)) (fun s3 => (bif (decide (s3.1 < ((path.length : Nat) : Int))) then (idx path s3.1).bind fun x4 => (F_ref27_Held s x4).bind fun r5 => (bif (!r5) then some (.inr (.inl (s3.1, ()))) else some (.inl ((IntKind.i64.wrap (s3.1 + 1)), ()))) else some (.inr (.inr ((())))))) big (0, ())).bind fun y6 => (match y6 with | .inl y7 => some y7.1 | .inr y8 => some (-1))
def an_ref27_First : An U := (.node none .nil (.node none (.node none .nil (.node none (.node (some ⟨[1, 2], [], ⟨[(5, .tv .int)], []⟩, [(.ret, ⟨[(4, .tv .int)], []⟩), (.exit 0, ⟨[], []⟩)]⟩) .nil .nil) .nil)) .nil))
def fe_ref27_First : Fe G := ⟨[.v .Set, .v .l_int1], [.int1], fun x => F_ref27_First x.1 x.2.1⟩
def tb_ref27_First : List (FuncId × Fe G) := [(32, fe_ref27_Held)]
theorem ev_ref27_First (x : TyP G fe_ref27_First.ps) : evF G (lstK G tb_ref27_First) (bodyOf Try.f27) an_ref27_First 20 [.tmp 4] fe_ref27_First.rs (argT G fe_ref27_First.ps x) = fe_ref27_First.fn x := by kernel_rfl
theorem ok_ref27_First : FnOk G 27 fe_ref27_First := fnOk_of G_ok (lstK_ok G_ok (lcons ok_ref27_Held (lnil))) Try.func27 (by kernel_rfl) (by kernel_rfl) (by kernel_rfl) (by kernel_rfl) ev_ref27_First

def F_law28_long (s : TSet) (l : List TJob) : Option (Bool) :=
  ((F_ref21_Small s 8).bind fun r8 => (bif (!r8) then some (true, ()) else (bif (decide (((s.lines.length : Nat) : Int) > 20)) then some (true, ()) else (bif (decide (((l.length : Nat) : Int) > 7)) then (bif (decide (((l.length : Nat) : Int) ≤ 12)) then some (true, ()) else (bif (decide (((l.length : Nat) : Int) > 110)) then some (true, ()) else (F_slices_ContainsFunc_api_Job l (fun z10 => F_law28_long_1 z10)).bind fun r11 => some (r11, ()))) else (bif (decide (((l.length : Nat) : Int) > 110)) then some (true, ()) else (F_slices_ContainsFunc_api_Job l (fun z13 => F_law28_long_1 z13)).bind fun r14 => some (r14, ()))))) : Option (Bool × Unit)).bind fun y15 => some y15.1
def an_law28_long : An U := (.node none .nil (.node (some ⟨[], [], ⟨[], []⟩, [(.normal, ⟨[(4, .tv .bool)], []⟩)]⟩) .nil .nil))
def fe_law28_long : Fe G := ⟨[.v .Set, .v .l_Job], [.bool], fun x => F_law28_long x.1 x.2.1⟩
def tb_law28_long : List (FuncId × Fe G) := [(59, fe_ref21_Small), (84, fe_slices_ContainsFunc_api_Job), (85, fe_law28_long_1)]
theorem ev_law28_long (x : TyP G fe_law28_long.ps) : evF G (lstK G tb_law28_long) (bodyOf Try.f42) an_law28_long 33 [.tmp 4] fe_law28_long.rs (argT G fe_law28_long.ps x) = fe_law28_long.fn x := by kernel_rfl
theorem ok_law28_long : FnOk G 42 fe_law28_long := fnOk_of G_ok (lstK_ok G_ok (lcons ok_ref21_Small (lcons ok_slices_ContainsFunc_api_Job (lcons ok_law28_long_1 (lnil))))) Try.func42 (by kernel_rfl) (by kernel_rfl) (by kernel_rfl) (by kernel_rfl) ev_law28_long

def F_slices_Compare_int (s1_ : List Int) (s2_ : List Int) : Option (Int) :=
  (iterF (σ := Int × Unit) (ρ := (Int × Unit) ⊕ (Unit)) (fun s4 => (bif (decide (s4.1 < ((s1_.length : Nat) : Int))) then (idx s1_ s4.1).bind fun x5 => (bif (decide (s4.1 ≥ ((s2_.length : Nat) : Int))) then some (.inr (.inl (1, ()))) else (idx s2_ s4.1).bind fun x6 => (F_cmp_Compare_int x5 x6).bind fun r7 => (bif (r7 != 0) then some (.inr (.inl (r7, ()))) else some (.inl ((IntKind.i64.wrap (s4.1 + 1)), ())))) else some (.inr (.inr ((())))))) big (0, ())).bind fun y8 => (match y8 with | .inl y9 => some y9.1 | .inr y10 => (bif (decide (((s1_.length : Nat) : Int) < ((s2_.length : Nat) : Int))) then some (-1) else some 0))
def an_slices_Compare_int : An U := (.node none .nil (.node none (.node none .nil (.node none (.node (some ⟨[0, 1, 9, 10], [], ⟨[(11, .tv .int)], []⟩, [(.ret, ⟨[(4, .tv .int)], []⟩), (.exit 0, ⟨[], []⟩)]⟩) .nil .nil) .nil)) .nil))
def fe_slices_Compare_int : Fe G := ⟨[.v .l_int1, .v .l_int1], [.int1], fun x => F_slices_Compare_int x.1 x.2.1⟩
def tb_slices_Compare_int : List (FuncId × Fe G) := [(95, fe_cmp_Compare_int)]
theorem ev_slices_Compare_int (x : TyP G fe_slices_Compare_int.ps) : evF G (lstK G tb_slices_Compare_int) (bodyOf Try.f57) an_slices_Compare_int 36 [.tmp 4] fe_slices_Compare_int.rs (argT G fe_slices_Compare_int.ps x) = fe_slices_Compare_int.fn x := by kernel_rfl
theorem ok_slices_Compare_int : FnOk G 57 fe_slices_Compare_int := fnOk_of G_ok (lstK_ok G_ok (lcons ok_cmp_Compare_int (lnil))) Try.func57 (by kernel_rfl) (by kernel_rfl) (by kernel_rfl) (by kernel_rfl) ev_slices_Compare_int

def F_ref01_IsName (s : ByteArray) : Option (Bool) :=
  ((bif (((s.size : Nat) : Int) == 0) then some (true, ()) else (bif (decide (((s.size : Nat) : Int) > 20)) then some (true, ()) else (idxB s 0).bind fun b3 => (F_ref01_Letter ((b3.toNat : Nat) : Int)).bind fun r4 => some ((!r4), ()))) : Option (Bool × Unit)).bind fun y5 => (bif y5.1 then some false else (F_ref01_word s 0).bind fun r6 => some (r6 == ((s.size : Nat) : Int)))
def an_ref01_IsName : An U := (.node none .nil (.node none (.node (some ⟨[0, 2], [], ⟨[], []⟩, [(.normal, ⟨[(16, .tv .bool)], []⟩)]⟩) .nil .nil) .nil))
def fe_ref01_IsName : Fe G := ⟨[.v .str], [.bool], fun x => F_ref01_IsName x.1⟩
def tb_ref01_IsName : List (FuncId × Fe G) := [(96, fe_ref01_Letter), (97, fe_ref01_word)]
theorem ev_ref01_IsName (x : TyP G fe_ref01_IsName.ps) : evF G (lstK G tb_ref01_IsName) (bodyOf Try.f61) an_ref01_IsName 22 [.tmp 2] fe_ref01_IsName.rs (argT G fe_ref01_IsName.ps x) = fe_ref01_IsName.fn x := by kernel_rfl
theorem ok_ref01_IsName : FnOk G 61 fe_ref01_IsName := fnOk_of G_ok (lstK_ok G_ok (lcons ok_ref01_Letter (lcons ok_ref01_word (lnil)))) Try.func61 (by kernel_rfl) (by kernel_rfl) (by kernel_rfl) (by kernel_rfl) ev_ref01_IsName

def F_decimal_IsName (s : ByteArray) : Option (Bool) :=
  ((bif (!(s.toList == (⟨#[]⟩ : ByteArray).toList)) then (bif (decide (((s.size : Nat) : Int) ≤ 20)) then (idxB s 0).bind fun b4 => (F_decimal_letter ((b4.toNat : Nat) : Int)).bind fun r5 => (bif r5 then (F_decimal_word s).bind fun r6 => some ((r6 == ((s.size : Nat) : Int)), ()) else some (false, ())) else some (false, ())) else some (false, ())) : Option (Bool × Unit)).bind fun y7 => some y7.1
def an_decimal_IsName : An U := (.node none .nil (.node (some ⟨[], [], ⟨[], []⟩, [(.normal, ⟨[(2, .tv .bool)], []⟩)]⟩) .nil .nil))
def fe_decimal_IsName : Fe G := ⟨[.v .str], [.bool], fun x => F_decimal_IsName x.1⟩
def tb_decimal_IsName : List (FuncId × Fe G) := [(98, fe_decimal_letter), (99, fe_decimal_word)]
theorem ev_decimal_IsName (x : TyP G fe_decimal_IsName.ps) : evF G (lstK G tb_decimal_IsName) (bodyOf Try.f69) an_decimal_IsName 22 [.tmp 2] fe_decimal_IsName.rs (argT G fe_decimal_IsName.ps x) = fe_decimal_IsName.fn x := by kernel_rfl
theorem ok_decimal_IsName : FnOk G 69 fe_decimal_IsName := fnOk_of G_ok (lstK_ok G_ok (lcons ok_decimal_letter (lcons ok_decimal_word (lnil)))) Try.func69 (by kernel_rfl) (by kernel_rfl) (by kernel_rfl) (by kernel_rfl) ev_decimal_IsName

def F_ref25_Needed (s : TSet) : Option (Int) :=
  (F_ref21_Weight s).bind fun r1 => some (IntKind.i64.wrap ((IntKind.i64.wrap (s.purchase * r1)) - s.arbor))
def an_ref25_Needed : An U := .nil
def fe_ref25_Needed : Fe G := ⟨[.v .Set], [.int1], fun x => F_ref25_Needed x.1⟩
def tb_ref25_Needed : List (FuncId × Fe G) := [(106, fe_ref21_Weight)]
theorem ev_ref25_Needed (x : TyP G fe_ref25_Needed.ps) : evF G (lstK G tb_ref25_Needed) (bodyOf Try.f76) an_ref25_Needed 11 [.tmp 2] fe_ref25_Needed.rs (argT G fe_ref25_Needed.ps x) = fe_ref25_Needed.fn x := by kernel_rfl
theorem ok_ref25_Needed : FnOk G 76 fe_ref25_Needed := fnOk_of G_ok (lstK_ok G_ok (lcons ok_ref21_Weight (lnil))) Try.func76 (by kernel_rfl) (by kernel_rfl) (by kernel_rfl) (by kernel_rfl) ev_ref25_Needed

def F_ref27_Valid (l : List TJob) : Option (Bool) :=
  (bif (decide (((l.length : Nat) : Int) > 100)) then some false else (iterF (σ := Int × Unit) (ρ := (Bool × Unit) ⊕ (Unit)) (fun s18 => (bif (decide (s18.1 < ((l.length : Nat) : Int))) then ((idx l s18.1).bind fun x19 => (F_ref01_IsName x19.name).bind fun r20 => (bif (!r20) then some (true, ()) else (idx l s18.1).bind fun x21 => (F_ref27_between x21.weight (-1048576) 1048576).bind fun r22 => some ((!r22), ())) : Option (Bool × Unit)).bind fun y23 => (bif y23.1 then some (.inr (.inl (false, ()))) else (iterF (σ := Int × Unit) (ρ := (Bool × Unit) ⊕ (Unit)) (fun s24 => (bif (decide (s24.1 < s18.1)) then (idx l s24.1).bind fun x25 => (idx l s18.1).bind fun x26 => (bif (x25.name.toList == x26.name.toList) then some (.inr (.inl (false, ()))) else some (.inl ((IntKind.i64.wrap (s24.1 + 1)), ()))) else some (.inr (.inr ((())))))) big (0, ())).bind fun y27 => (match y27 with | .inl y28 => some (.inr (.inl (y28.1, ()))) | .inr y29 => some (.inl ((IntKind.i64.wrap (s18.1 + 1)), ())))) else some (.inr (.inr ((())))))) big (0, ())).bind fun y30 => (match y30 with | .inl y31 => some y31.1 | .inr y32 => some true))
def an_ref27_Valid : An U := (.node none .nil (.node none .nil (.node none (.node none .nil (.node none (.node (some ⟨[0], [], ⟨[(3, .tv .int)], []⟩, [(.ret, ⟨[(2, .tv .bool)], []⟩), (.exit 0, ⟨[], []⟩)]⟩) (.node none .nil (.node none (.node none (.node none (.node (some ⟨[3], [], ⟨[], []⟩, [(.normal, ⟨[(29, .tv .bool)], []⟩)]⟩) .nil .nil) (.node none .nil (.node none (.node (some ⟨[3], [], ⟨[(4, .tv .int)], []⟩, [(.ret, ⟨[(2, .tv .bool)], []⟩), (.exit 2, ⟨[], []⟩)]⟩) .nil .nil) .nil))) .nil) .nil)) .nil) .nil)) .nil)))
def fe_ref27_Valid : Fe G := ⟨[.v .l_Job], [.bool], fun x => F_ref27_Valid x.1⟩
def tb_ref27_Valid : List (FuncId × Fe G) := [(61, fe_ref01_IsName), (62, fe_ref27_between)]
theorem ev_ref27_Valid (x : TyP G fe_ref27_Valid.ps) : evF G (lstK G tb_ref27_Valid) (bodyOf Try.f18) an_ref27_Valid 46 [.tmp 2] fe_ref27_Valid.rs (argT G fe_ref27_Valid.ps x) = fe_ref27_Valid.fn x := by kernel_rfl
theorem ok_ref27_Valid : FnOk G 18 fe_ref27_Valid := fnOk_of G_ok (lstK_ok G_ok (lcons ok_ref01_IsName (lcons ok_ref27_between (lnil)))) Try.func18 (by kernel_rfl) (by kernel_rfl) (by kernel_rfl) (by kernel_rfl) ev_ref27_Valid

def F_brake_Valid (l : List TJob) : Option (Bool) :=
  (bif (decide (((l.length : Nat) : Int) > 100)) then some false else (iterF (σ := Int × List (ByteArray × Bool) × Unit) (ρ := (Bool × List (ByteArray × Bool) × Unit) ⊕ (List (ByteArray × Bool) × Unit)) (fun s9 => (bif (decide (s9.1 < ((l.length : Nat) : Int))) then (idx l s9.1).bind fun x10 => ((F_decimal_IsName x10.name).bind fun r11 => (bif (!r11) then some (true, ()) else (if x10.name.size ≤ 2147483648 then (bif ((findM x10.name s9.2.1).getD false) then some (true, ()) else (bif (decide (x10.weight < (-1048576))) then some (true, ()) else some ((decide (x10.weight > 1048576)), ()))) else none)) : Option (Bool × Unit)).bind fun y12 => (bif y12.1 then some (.inr (.inl (false, s9.2.1, ()))) else (if x10.name.size ≤ 2147483648 ∧ s9.2.1.length ≤ 2147483648 then some (.inl ((IntKind.i64.wrap (s9.1 + 1)), (setM x10.name true s9.2.1), ())) else none)) else some (.inr (.inr ((s9.2.1, ())))))) big (0, ([] : List (ByteArray × Bool)), ())).bind fun y13 => (match y13 with | .inl y14 => some y14.1 | .inr y15 => some true))
def an_brake_Valid : An U := (.node none .nil (.node none .nil (.node none .nil (.node none (.node none .nil (.node none (.node (some ⟨[3, 10, 11], [0], ⟨[(12, .tv .int)], [(0, .map 79 true)]⟩, [(.ret, ⟨[(2, .tv .bool)], [(0, .map 79 true)]⟩), (.exit 0, ⟨[], [(0, .map 79 true)]⟩)]⟩) (.node none .nil (.node none .nil (.node none (.node none (.node none .nil (.node none (.node (some ⟨[5, 12], [], ⟨[], []⟩, [(.normal, ⟨[(35, .tv .bool)], []⟩)]⟩) .nil .nil) .nil)) .nil) .nil))) .nil) .nil)) .nil))))
def fe_brake_Valid : Fe G := ⟨[.v .l_Job], [.bool], fun x => F_brake_Valid x.1⟩
def tb_brake_Valid : List (FuncId × Fe G) := [(69, fe_decimal_IsName)]
theorem ev_brake_Valid (x : TyP G fe_brake_Valid.ps) : evF G (lstK G tb_brake_Valid) (bodyOf Try.f22) an_brake_Valid 40 [.tmp 2] fe_brake_Valid.rs (argT G fe_brake_Valid.ps x) = fe_brake_Valid.fn x := by kernel_rfl
theorem ok_brake_Valid : FnOk G 22 fe_brake_Valid := fnOk_of G_ok (lstK_ok G_ok (lcons ok_decimal_IsName (lnil))) Try.func22 (by kernel_rfl) (by kernel_rfl) (by kernel_rfl) (by kernel_rfl) ev_brake_Valid

def F_ref25_Balance (s : TSet) : Option (Int) :=
  (F_ref25_Needed s).bind fun r1 => (F_ref25_Counts s.bricks).bind fun r2 => (F_ref25_Sum s.bricks r2).bind fun r3 => some (IntKind.i64.wrap (r1 - r3))
def an_ref25_Balance : An U := .nil
def fe_ref25_Balance : Fe G := ⟨[.v .Set], [.int1], fun x => F_ref25_Balance x.1⟩
def tb_ref25_Balance : List (FuncId × Fe G) := [(76, fe_ref25_Needed), (77, fe_ref25_Sum), (78, fe_ref25_Counts)]
theorem ev_ref25_Balance (x : TyP G fe_ref25_Balance.ps) : evF G (lstK G tb_ref25_Balance) (bodyOf Try.f34) an_ref25_Balance 12 [.tmp 2] fe_ref25_Balance.rs (argT G fe_ref25_Balance.ps x) = fe_ref25_Balance.fn x := by kernel_rfl
theorem ok_ref25_Balance : FnOk G 34 fe_ref25_Balance := fnOk_of G_ok (lstK_ok G_ok (lcons ok_ref25_Needed (lcons ok_ref25_Sum (lcons ok_ref25_Counts (lnil))))) Try.func34 (by kernel_rfl) (by kernel_rfl) (by kernel_rfl) (by kernel_rfl) ev_ref25_Balance

def F_ref21_Bricks (l : List TBrick) : Option (Bool) :=
  (bif (decide (((l.length : Nat) : Int) > 8)) then some false else (iterF (σ := Int × Int × Unit) (ρ := (Bool × Unit) ⊕ (Int × Unit)) (fun s23 => (bif (decide (s23.2.1 < ((l.length : Nat) : Int))) then ((idx l s23.2.1).bind fun x24 => (F_ref01_IsName x24.name).bind fun r25 => (bif (!r25) then some (true, ()) else (idx l s23.2.1).bind fun x26 => (F_ref21_between x26.weight 1 1048576).bind fun r27 => (bif (!r27) then some (true, ()) else (idx l s23.2.1).bind fun x28 => (F_ref21_between x28.count 0 60).bind fun r29 => some ((!r29), ()))) : Option (Bool × Unit)).bind fun y30 => (bif y30.1 then some (.inr (.inl (false, ()))) else (idx l s23.2.1).bind fun x31 => (iterF (σ := Int × Unit) (ρ := (Bool × Unit) ⊕ (Unit)) (fun s32 => (bif (decide (s32.1 < s23.2.1)) then (idx l s32.1).bind fun x33 => (idx l s23.2.1).bind fun x34 => (bif (x33.name.toList == x34.name.toList) then some (.inr (.inl (false, ()))) else some (.inl ((IntKind.i64.wrap (s32.1 + 1)), ()))) else some (.inr (.inr ((())))))) big (0, ())).bind fun y35 => (match y35 with | .inl y36 => some (.inr (.inl (y36.1, ()))) | .inr y37 => some (.inl ((IntKind.i64.wrap (s23.1 + x31.count)), (IntKind.i64.wrap (s23.2.1 + 1)), ())))) else some (.inr (.inr ((s23.1, ())))))) big (0, 0, ())).bind fun y38 => (match y38 with | .inl y39 => some y39.1 | .inr y40 => some (decide (y40.1 ≤ 60))))
def an_ref21_Bricks : An U := (.node none .nil (.node none .nil (.node none .nil (.node none (.node none .nil (.node none (.node (some ⟨[0], [], ⟨[(3, .tv .int), (4, .tv .int)], []⟩, [(.ret, ⟨[(2, .tv .bool)], []⟩), (.exit 0, ⟨[(3, .tv .int)], []⟩)]⟩) (.node none .nil (.node none (.node none (.node none (.node (some ⟨[3, 4], [], ⟨[], []⟩, [(.normal, ⟨[(39, .tv .bool)], []⟩)]⟩) .nil .nil) (.node none .nil (.node none .nil (.node none (.node (some ⟨[3, 4], [], ⟨[(5, .tv .int)], []⟩, [(.ret, ⟨[(2, .tv .bool)], []⟩), (.exit 2, ⟨[], []⟩)]⟩) .nil .nil) .nil)))) .nil) .nil)) .nil) .nil)) .nil))))
def fe_ref21_Bricks : Fe G := ⟨[.v .l_Brick], [.bool], fun x => F_ref21_Bricks x.1⟩
def tb_ref21_Bricks : List (FuncId × Fe G) := [(61, fe_ref01_IsName), (70, fe_ref21_between)]
theorem ev_ref21_Bricks (x : TyP G fe_ref21_Bricks.ps) : evF G (lstK G tb_ref21_Bricks) (bodyOf Try.f72) an_ref21_Bricks 65 [.tmp 2] fe_ref21_Bricks.rs (argT G fe_ref21_Bricks.ps x) = fe_ref21_Bricks.fn x := by kernel_rfl
theorem ok_ref21_Bricks : FnOk G 72 fe_ref21_Bricks := fnOk_of G_ok (lstK_ok G_ok (lcons ok_ref01_IsName (lcons ok_ref21_between (lnil)))) Try.func72 (by kernel_rfl) (by kernel_rfl) (by kernel_rfl) (by kernel_rfl) ev_ref21_Bricks

def F_ref21_alone (x : TItem) (length : Int) : Option (Bool) :=
  ((F_ref01_IsName x.name).bind fun r8 => (bif r8 then (F_ref21_between x.width 1 1048576).bind fun r9 => (bif r9 then (F_ref21_between x.at_ 0 (IntKind.i64.wrap (length - x.width))).bind fun r10 => (bif r10 then (F_ref21_between x.weight 0 1048576).bind fun r11 => (bif r11 then (F_ref21_between x.hang 0 1048576).bind fun r12 => (bif r12 then (F_ref21_between x.front 0 1048576).bind fun r13 => (bif r13 then (F_ref21_between x.back 0 1048576).bind fun r14 => some (r14, ()) else some (false, ())) else some (false, ())) else some (false, ())) else some (false, ())) else some (false, ())) else some (false, ())) : Option (Bool × Unit)).bind fun y15 => some y15.1
def an_ref21_alone : An U := (.node none .nil (.node (some ⟨[], [], ⟨[], []⟩, [(.normal, ⟨[(4, .tv .bool)], []⟩)]⟩) .nil .nil))
def fe_ref21_alone : Fe G := ⟨[.v .Item, .v .int1], [.bool], fun x => F_ref21_alone x.1 x.2.1⟩
def tb_ref21_alone : List (FuncId × Fe G) := [(61, fe_ref01_IsName), (70, fe_ref21_between)]
theorem ev_ref21_alone (x : TyP G fe_ref21_alone.ps) : evF G (lstK G tb_ref21_alone) (bodyOf Try.f100) an_ref21_alone 42 [.tmp 4] fe_ref21_alone.rs (argT G fe_ref21_alone.ps x) = fe_ref21_alone.fn x := by kernel_rfl
theorem ok_ref21_alone : FnOk G 100 fe_ref21_alone := fnOk_of G_ok (lstK_ok G_ok (lcons ok_ref01_IsName (lcons ok_ref21_between (lnil)))) Try.func100 (by kernel_rfl) (by kernel_rfl) (by kernel_rfl) (by kernel_rfl) ev_ref21_alone

def F_batten_bricks (l : List TBrick) : Option (Bool) :=
  ((bif (decide (((l.length : Nat) : Int) > 8)) then some (true, ()) else (F_batten_twice_api_Brick l (fun z5 => F_batten_bricks_1 z5)).bind fun r6 => some (r6, ())) : Option (Bool × Unit)).bind fun y7 => (bif y7.1 then some false else (iterF (σ := Int × Int × Unit) (ρ := (Bool × Unit) ⊕ (Int × Unit)) (fun s16 => (bif (decide (s16.2.1 < ((l.length : Nat) : Int))) then (idx l s16.2.1).bind fun x17 => ((F_decimal_IsName x17.name).bind fun r18 => (bif (!r18) then some (true, ()) else (F_batten_between x17.weight 1 1048576).bind fun r19 => (bif (!r19) then some (true, ()) else (F_batten_between x17.count 0 60).bind fun r20 => some ((!r20), ()))) : Option (Bool × Unit)).bind fun y21 => (bif y21.1 then some (.inr (.inl (false, ()))) else some (.inl ((IntKind.i64.wrap (s16.1 + x17.count)), (IntKind.i64.wrap (s16.2.1 + 1)), ()))) else some (.inr (.inr ((s16.1, ())))))) big (0, 0, ())).bind fun y22 => (match y22 with | .inl y23 => some y23.1 | .inr y24 => some (decide (y24.1 ≤ 60))))
def an_batten_bricks : An U := (.node none .nil (.node none (.node (some ⟨[0, 2], [], ⟨[], []⟩, [(.normal, ⟨[(12, .tv .bool)], []⟩)]⟩) .nil .nil) (.node none .nil (.node none (.node none .nil (.node none (.node (some ⟨[13, 14], [], ⟨[(3, .tv .int), (15, .tv .int)], []⟩, [(.ret, ⟨[(2, .tv .bool)], []⟩), (.exit 0, ⟨[(3, .tv .int)], []⟩)]⟩) (.node none .nil (.node none .nil (.node none (.node none (.node none .nil (.node none (.node (some ⟨[3, 5, 15], [], ⟨[], []⟩, [(.normal, ⟨[(34, .tv .bool)], []⟩)]⟩) .nil .nil) .nil)) .nil) .nil))) .nil) .nil)) .nil))))
def fe_batten_bricks : Fe G := ⟨[.v .l_Brick], [.bool], fun x => F_batten_bricks x.1⟩
def tb_batten_bricks : List (FuncId × Fe G) := [(69, fe_decimal_IsName), (102, fe_batten_between), (121, fe_batten_twice_api_Brick), (122, fe_batten_bricks_1)]
theorem ev_batten_bricks (x : TyP G fe_batten_bricks.ps) : evF G (lstK G tb_batten_bricks) (bodyOf Try.f105) an_batten_bricks 42 [.tmp 2] fe_batten_bricks.rs (argT G fe_batten_bricks.ps x) = fe_batten_bricks.fn x := by kernel_rfl
theorem ok_batten_bricks : FnOk G 105 fe_batten_bricks := fnOk_of G_ok (lstK_ok G_ok (lcons ok_decimal_IsName (lcons ok_batten_between (lcons ok_batten_twice_api_Brick (lcons ok_batten_bricks_1 (lnil)))))) Try.func105 (by kernel_rfl) (by kernel_rfl) (by kernel_rfl) (by kernel_rfl) ev_batten_bricks

def F_batten_alone (x : TItem) : Option (Bool) :=
  ((F_decimal_IsName x.name).bind fun r6 => (bif r6 then (F_batten_between x.weight 0 1048576).bind fun r7 => (bif r7 then (F_batten_between x.hang 0 1048576).bind fun r8 => (bif r8 then (F_batten_between x.front 0 1048576).bind fun r9 => (bif r9 then (F_batten_between x.back 0 1048576).bind fun r10 => some (r10, ()) else some (false, ())) else some (false, ())) else some (false, ())) else some (false, ())) : Option (Bool × Unit)).bind fun y11 => some y11.1
def an_batten_alone : An U := (.node none .nil (.node (some ⟨[], [], ⟨[], []⟩, [(.normal, ⟨[(2, .tv .bool)], []⟩)]⟩) .nil .nil))
def fe_batten_alone : Fe G := ⟨[.v .Item], [.bool], fun x => F_batten_alone x.1⟩
def tb_batten_alone : List (FuncId × Fe G) := [(69, fe_decimal_IsName), (102, fe_batten_between)]
theorem ev_batten_alone (x : TyP G fe_batten_alone.ps) : evF G (lstK G tb_batten_alone) (bodyOf Try.f116) an_batten_alone 26 [.tmp 2] fe_batten_alone.rs (argT G fe_batten_alone.ps x) = fe_batten_alone.fn x := by kernel_rfl
theorem ok_batten_alone : FnOk G 116 fe_batten_alone := fnOk_of G_ok (lstK_ok G_ok (lcons ok_decimal_IsName (lcons ok_batten_between (lnil)))) Try.func116 (by kernel_rfl) (by kernel_rfl) (by kernel_rfl) (by kernel_rfl) ev_batten_alone

def F_ref27_Path (s : TSet) (l : List TJob) : Option ((List Int)) :=
  (F_ref25_Balance s).bind fun r1 => (iterF (σ := Int × Int × List Int × Unit) (ρ := List Int × Unit) (fun s6 => (bif (decide (s6.2.1 < ((l.length : Nat) : Int))) then (idx l s6.2.1).bind fun x7 => (F_ref27_Change s x7).bind fun r8 => (if s6.2.2.1.length + ([(IntKind.i64.wrap (s6.1 + r8))] : List Int).length ≤ 2147483648 then some (.inl ((IntKind.i64.wrap (s6.1 + r8)), (IntKind.i64.wrap (s6.2.1 + 1)), (s6.2.2.1 ++ ([(IntKind.i64.wrap (s6.1 + r8))] : List Int)), ())) else none) else some (.inr (s6.2.2.1, ())))) big (r1, 0, ([r1] : List Int), ())).bind fun y9 => some y9.1
def an_ref27_Path : An U := (.node none .nil (.node none .nil (.node none .nil (.node none (.node none .nil (.node none (.node (some ⟨[1, 2, 4], [2], ⟨[(5, .tv .int), (6, .os 2), (7, .tv .int)], [(2, .row .int1)]⟩, [(.exit 0, ⟨[(6, .os 2)], [(2, .row .int1)]⟩)]⟩) .nil .nil) .nil)) .nil))))
def fe_ref27_Path : Fe G := ⟨[.v .Set, .v .l_Job], [.l_int1], fun x => F_ref27_Path x.1 x.2.1⟩
def tb_ref27_Path : List (FuncId × Fe G) := [(29, fe_ref27_Change), (34, fe_ref25_Balance)]
theorem ev_ref27_Path (x : TyP G fe_ref27_Path.ps) : evF G (lstK G tb_ref27_Path) (bodyOf Try.f24) an_ref27_Path 31 [.tmp 4] fe_ref27_Path.rs (argT G fe_ref27_Path.ps x) = fe_ref27_Path.fn x := by kernel_rfl
theorem ok_ref27_Path : FnOk G 24 fe_ref27_Path := fnOk_of G_ok (lstK_ok G_ok (lcons ok_ref27_Change (lcons ok_ref25_Balance (lnil)))) Try.func24 (by kernel_rfl) (by kernel_rfl) (by kernel_rfl) (by kernel_rfl) ev_ref27_Path
end Go.Proofs.Ytmdghocpelkcoaa
