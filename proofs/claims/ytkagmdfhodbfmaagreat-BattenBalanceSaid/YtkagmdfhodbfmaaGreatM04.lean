/- Joined by merge.py: Fn0, Fn1. -/
import Derived.Test.YtkagmdfhodbfmaaGreatM03
/- Functions, as plain data. Printed by mkev.py. -/
namespace Go.Proofs.YtkagmdfhodbfmaaGreat
open Go.RowKit
set_option linter.unusedVariables false
set_option linter.unusedSimpArgs false
noncomputable section

def F_slices_Equal_api_Frac (s1_ : List TFrac) (s2_ : List TFrac) : Option (Bool) :=
  (bif (((s1_.length : Nat) : Int) != ((s2_.length : Nat) : Int)) then some false else (iterF (σ := Int × Unit) (ρ := (Bool × Unit) ⊕ (Unit)) (fun s3 => (bif (decide (s3.1 < ((s1_.length : Nat) : Int))) then (idx s1_ s3.1).bind fun x4 => (idx s2_ s3.1).bind fun x5 => (bif (!((x4.num == x5.num) && (x4.den == x5.den))) then some (.inr (.inl (false, ()))) else some (.inl ((IntKind.i64.wrap (s3.1 + 1)), ()))) else some (.inr (.inr ((())))))) big (0, ())).bind fun y6 => (match y6 with | .inl y7 => some y7.1 | .inr y8 => some true))
def an_slices_Equal_api_Frac : An U := (.node none .nil (.node none .nil (.node none (.node none .nil (.node none (.node (some ⟨[0, 1, 12], [], ⟨[(13, .tv .int)], []⟩, [(.ret, ⟨[(4, .tv .bool)], []⟩), (.exit 0, ⟨[], []⟩)]⟩) .nil .nil) .nil)) .nil)))
def fe_slices_Equal_api_Frac : Fe G := ⟨[.v .l_Frac, .v .l_Frac], [.bool], fun x => F_slices_Equal_api_Frac x.1 x.2.1⟩
def tb_slices_Equal_api_Frac : List (FuncId × Fe G) := []
theorem ev_slices_Equal_api_Frac (x : TyP G fe_slices_Equal_api_Frac.ps) : evF G (lstK G tb_slices_Equal_api_Frac) (bodyOf Tryz.f15) an_slices_Equal_api_Frac 26 [.tmp 4] fe_slices_Equal_api_Frac.rs (argT G fe_slices_Equal_api_Frac.ps x) = fe_slices_Equal_api_Frac.fn x := by kernel_rfl
theorem ok_slices_Equal_api_Frac : FnOk G 15 fe_slices_Equal_api_Frac := fnOk_of G_ok (lstK_ok G_ok (lnil)) Tryz.func15 (by kernel_rfl) (by kernel_rfl) (by kernel_rfl) (by kernel_rfl) (by kernel_rfl) ev_slices_Equal_api_Frac

def F_slices_Equal_api_Span (s1_ : List TSpan) (s2_ : List TSpan) : Option (Bool) :=
  (bif (((s1_.length : Nat) : Int) != ((s2_.length : Nat) : Int)) then some false else (iterF (σ := Int × Unit) (ρ := (Bool × Unit) ⊕ (Unit)) (fun s3 => (bif (decide (s3.1 < ((s1_.length : Nat) : Int))) then (idx s1_ s3.1).bind fun x4 => (idx s2_ s3.1).bind fun x5 => (bif (!((x4.lo == x5.lo) && (x4.hi == x5.hi))) then some (.inr (.inl (false, ()))) else some (.inl ((IntKind.i64.wrap (s3.1 + 1)), ()))) else some (.inr (.inr ((())))))) big (0, ())).bind fun y6 => (match y6 with | .inl y7 => some y7.1 | .inr y8 => some true))
def an_slices_Equal_api_Span : An U := (.node none .nil (.node none .nil (.node none (.node none .nil (.node none (.node (some ⟨[0, 1, 12], [], ⟨[(13, .tv .int)], []⟩, [(.ret, ⟨[(4, .tv .bool)], []⟩), (.exit 0, ⟨[], []⟩)]⟩) .nil .nil) .nil)) .nil)))
def fe_slices_Equal_api_Span : Fe G := ⟨[.v .l_Span, .v .l_Span], [.bool], fun x => F_slices_Equal_api_Span x.1 x.2.1⟩
def tb_slices_Equal_api_Span : List (FuncId × Fe G) := []
theorem ev_slices_Equal_api_Span (x : TyP G fe_slices_Equal_api_Span.ps) : evF G (lstK G tb_slices_Equal_api_Span) (bodyOf Tryz.f24) an_slices_Equal_api_Span 26 [.tmp 4] fe_slices_Equal_api_Span.rs (argT G fe_slices_Equal_api_Span.ps x) = fe_slices_Equal_api_Span.fn x := by kernel_rfl
theorem ok_slices_Equal_api_Span : FnOk G 24 fe_slices_Equal_api_Span := fnOk_of G_ok (lstK_ok G_ok (lnil)) Tryz.func24 (by kernel_rfl) (by kernel_rfl) (by kernel_rfl) (by kernel_rfl) (by kernel_rfl) ev_slices_Equal_api_Span

def F_law21_f (n : Int) : Option (TFrac) :=
  some (TFrac.mk n 1)
def an_law21_f : An U := .nil
def fe_law21_f : Fe G := ⟨[.v .int1], [.Frac], fun x => F_law21_f x.1⟩
def tb_law21_f : List (FuncId × Fe G) := []
theorem ev_law21_f (x : TyP G fe_law21_f.ps) : evF G (lstK G tb_law21_f) (bodyOf Tryz.f38) an_law21_f 5 [.cell 2 37] fe_law21_f.rs (argT G fe_law21_f.ps x) = fe_law21_f.fn x := by kernel_rfl
theorem ok_law21_f : FnOk G 38 fe_law21_f := fnOk_of G_ok (lstK_ok G_ok (lnil)) Tryz.func38 (by kernel_rfl) (by kernel_rfl) (by kernel_rfl) (by kernel_rfl) (by kernel_rfl) ev_law21_f

def F_law21_example : Option (TSet) :=
  some (TSet.mk (⟨#[97]⟩ : ByteArray) 0 0 9000 4000 ([0, 4000] : List Int) 500 0 1 1 0 ([(TItem.mk (⟨#[120]⟩ : ByteArray) 900 201 600 0 0 0)] : List TItem) ([] : List TBrick))
def an_law21_example : An U := .nil
def fe_law21_example : Fe G := ⟨[], [.Set], fun x => F_law21_example⟩
def tb_law21_example : List (FuncId × Fe G) := []
theorem ev_law21_example (x : TyP G fe_law21_example.ps) : evF G (lstK G tb_law21_example) (bodyOf Tryz.f41) an_law21_example 5 [.cell 0 26] fe_law21_example.rs (argT G fe_law21_example.ps x) = fe_law21_example.fn x := by kernel_rfl
theorem ok_law21_example : FnOk G 41 fe_law21_example := fnOk_of G_ok (lstK_ok G_ok (lnil)) Tryz.func41 (by kernel_rfl) (by kernel_rfl) (by kernel_rfl) (by kernel_rfl) (by kernel_rfl) ev_law21_example

def F_ref21_Small (s : TSet) (most : Int) : Option (Bool) :=
  ((bif (decide (((s.name.size : Nat) : Int) > 60)) then some (true, ()) else (bif (decide (((s.lines.length : Nat) : Int) > 12)) then some (true, ()) else (bif (decide (((s.items.length : Nat) : Int) > most)) then (bif (decide (((s.items.length : Nat) : Int) ≤ 40)) then some (true, ()) else (bif (decide (((s.items.length : Nat) : Int) > 45)) then some (true, ()) else some ((decide (((s.bricks.length : Nat) : Int) > 10)), ()))) else (bif (decide (((s.items.length : Nat) : Int) > 45)) then some (true, ()) else some ((decide (((s.bricks.length : Nat) : Int) > 10)), ()))))) : Option (Bool × Unit)).bind fun y1 => (bif y1.1 then some false else (iterF (σ := Int × Unit) (ρ := (Bool × Unit) ⊕ (Unit)) (fun s3 => (bif (decide (s3.1 < ((s.items.length : Nat) : Int))) then (idx s.items s3.1).bind fun x4 => (bif (decide (((x4.name.size : Nat) : Int) > 60)) then some (.inr (.inl (false, ()))) else some (.inl ((IntKind.i64.wrap (s3.1 + 1)), ()))) else some (.inr (.inr ((())))))) big (0, ())).bind fun y5 => (match y5 with | .inl y6 => some y6.1 | .inr y7 => (iterF (σ := Int × Unit) (ρ := (Bool × Unit) ⊕ (Unit)) (fun s9 => (bif (decide (s9.1 < ((s.bricks.length : Nat) : Int))) then (idx s.bricks s9.1).bind fun x10 => (bif (decide (((x10.name.size : Nat) : Int) > 60)) then some (.inr (.inl (false, ()))) else some (.inl ((IntKind.i64.wrap (s9.1 + 1)), ()))) else some (.inr (.inr ((())))))) big (0, ())).bind fun y11 => (match y11 with | .inl y12 => some y12.1 | .inr y13 => some true)))
def an_ref21_Small : An U := (.node none .nil (.node none (.node (some ⟨[2, 4], [], ⟨[], []⟩, [(.normal, ⟨[(41, .tv .bool)], []⟩)]⟩) .nil .nil) (.node none (.node none .nil (.node none (.node (some ⟨[2], [], ⟨[(5, .tv .int)], []⟩, [(.ret, ⟨[(4, .tv .bool)], []⟩), (.exit 0, ⟨[], []⟩)]⟩) .nil .nil) .nil)) (.node none (.node none .nil (.node none (.node (some ⟨[2], [], ⟨[(6, .tv .int)], []⟩, [(.ret, ⟨[(4, .tv .bool)], []⟩), (.exit 2, ⟨[], []⟩)]⟩) .nil .nil) .nil)) .nil))))
def fe_ref21_Small : Fe G := ⟨[.v .Set, .v .int1], [.bool], fun x => F_ref21_Small x.1 x.2.1⟩
def tb_ref21_Small : List (FuncId × Fe G) := []
theorem ev_ref21_Small (x : TyP G fe_ref21_Small.ps) : evF G (lstK G tb_ref21_Small) (bodyOf Tryz.f42) an_ref21_Small 72 [.tmp 4] fe_ref21_Small.rs (argT G fe_ref21_Small.ps x) = fe_ref21_Small.fn x := by kernel_rfl
theorem ok_ref21_Small : FnOk G 42 fe_ref21_Small := fnOk_of G_ok (lstK_ok G_ok (lnil)) Tryz.func42 (by kernel_rfl) (by kernel_rfl) (by kernel_rfl) (by kernel_rfl) (by kernel_rfl) ev_ref21_Small

def F_batten_between (n : Int) (low : Int) (high : Int) : Option (Bool) :=
  ((bif (decide (n ≥ low)) then some ((decide (n ≤ high)), ()) else some (false, ())) : Option (Bool × Unit)).bind fun y1 => some y1.1
def an_batten_between : An U := (.node none .nil (.node (some ⟨[], [], ⟨[], []⟩, [(.normal, ⟨[(6, .tv .bool)], []⟩)]⟩) .nil .nil))
def fe_batten_between : Fe G := ⟨[.v .int1, .v .int1, .v .int1], [.bool], fun x => F_batten_between x.1 x.2.1 x.2.2.1⟩
def tb_batten_between : List (FuncId × Fe G) := []
theorem ev_batten_between (x : TyP G fe_batten_between.ps) : evF G (lstK G tb_batten_between) (bodyOf Tryz.f57) an_batten_between 15 [.tmp 6] fe_batten_between.rs (argT G fe_batten_between.ps x) = fe_batten_between.fn x := by kernel_rfl
theorem ok_batten_between : FnOk G 57 fe_batten_between := fnOk_of G_ok (lstK_ok G_ok (lnil)) Tryz.func57 (by kernel_rfl) (by kernel_rfl) (by kernel_rfl) (by kernel_rfl) (by kernel_rfl) ev_batten_between

def F_slices_IndexFunc_api_Item (s : List TItem) (f : TItem → Option Bool) : Option (Int) :=
  (iterF (σ := Int × Unit) (ρ := (Int × Unit) ⊕ (Unit)) (fun s3 => (bif (decide (s3.1 < ((s.length : Nat) : Int))) then (idx s s3.1).bind fun x4 => (f x4).bind fun r5 => (bif r5 then some (.inr (.inl (s3.1, ()))) else some (.inl ((IntKind.i64.wrap (s3.1 + 1)), ()))) else some (.inr (.inr ((())))))) big (0, ())).bind fun y6 => (match y6 with | .inl y7 => some y7.1 | .inr y8 => some (-1))
def an_slices_IndexFunc_api_Item : An U := (.node none .nil (.node none (.node none .nil (.node none (.node (some ⟨[0, 1, 7], [], ⟨[(8, .tv .int)], []⟩, [(.ret, ⟨[(4, .tv .int)], []⟩), (.exit 0, ⟨[], []⟩)]⟩) .nil .nil) .nil)) .nil))
def fe_slices_IndexFunc_api_Item : Fe G := ⟨[.v .l_Item, .fn .Item .bool], [.int1], fun x => F_slices_IndexFunc_api_Item x.1 x.2.1⟩
def tb_slices_IndexFunc_api_Item : List (FuncId × Fe G) := []
theorem ev_slices_IndexFunc_api_Item (x : TyP G fe_slices_IndexFunc_api_Item.ps) : evF G (lstK G tb_slices_IndexFunc_api_Item) (bodyOf Tryz.f61) an_slices_IndexFunc_api_Item 19 [.tmp 4] fe_slices_IndexFunc_api_Item.rs (argT G fe_slices_IndexFunc_api_Item.ps x) = fe_slices_IndexFunc_api_Item.fn x := by kernel_rfl
theorem ok_slices_IndexFunc_api_Item : FnOk G 61 fe_slices_IndexFunc_api_Item := fnOk_of G_ok (lstK_ok G_ok (lnil)) Tryz.func61 (by kernel_rfl) (by kernel_rfl) (by kernel_rfl) (by kernel_rfl) (by kernel_rfl) ev_slices_IndexFunc_api_Item

def F_ref02_Mul (a : Int) (b : Int) : Option (TU) :=
  some (TU.mk (IntKind.u64.wrap ((IntKind.u64.wrap ((IntKind.u64.wrap ((a.fdiv (2 ^ min (Int.toNat 32) IntKind.u64.bits)) * (b.fdiv (2 ^ min (Int.toNat 32) IntKind.u64.bits)))) + ((IntKind.u64.wrap ((IntKind.u64.wrap ((a.fdiv (2 ^ min (Int.toNat 32) IntKind.u64.bits)) * (bitsOf .and .u64 b 4294967295))) + ((IntKind.u64.wrap ((bitsOf .and .u64 a 4294967295) * (bitsOf .and .u64 b 4294967295))).fdiv (2 ^ min (Int.toNat 32) IntKind.u64.bits)))).fdiv (2 ^ min (Int.toNat 32) IntKind.u64.bits)))) + ((IntKind.u64.wrap ((IntKind.u64.wrap ((bitsOf .and .u64 a 4294967295) * (b.fdiv (2 ^ min (Int.toNat 32) IntKind.u64.bits)))) + (bitsOf .and .u64 (IntKind.u64.wrap ((IntKind.u64.wrap ((a.fdiv (2 ^ min (Int.toNat 32) IntKind.u64.bits)) * (bitsOf .and .u64 b 4294967295))) + ((IntKind.u64.wrap ((bitsOf .and .u64 a 4294967295) * (bitsOf .and .u64 b 4294967295))).fdiv (2 ^ min (Int.toNat 32) IntKind.u64.bits)))) 4294967295))).fdiv (2 ^ min (Int.toNat 32) IntKind.u64.bits)))) (IntKind.u64.wrap ((IntKind.u64.wrap ((IntKind.u64.wrap ((IntKind.u64.wrap ((bitsOf .and .u64 a 4294967295) * (b.fdiv (2 ^ min (Int.toNat 32) IntKind.u64.bits)))) + (bitsOf .and .u64 (IntKind.u64.wrap ((IntKind.u64.wrap ((a.fdiv (2 ^ min (Int.toNat 32) IntKind.u64.bits)) * (bitsOf .and .u64 b 4294967295))) + ((IntKind.u64.wrap ((bitsOf .and .u64 a 4294967295) * (bitsOf .and .u64 b 4294967295))).fdiv (2 ^ min (Int.toNat 32) IntKind.u64.bits)))) 4294967295))) * 2 ^ min (Int.toNat 32) IntKind.u64.bits)) + (bitsOf .and .u64 (IntKind.u64.wrap ((bitsOf .and .u64 a 4294967295) * (bitsOf .and .u64 b 4294967295))) 4294967295))))
def an_ref02_Mul : An U := .nil
def fe_ref02_Mul : Fe G := ⟨[.v .u64, .v .u64], [.U], fun x => F_ref02_Mul x.1 x.2.1⟩
def tb_ref02_Mul : List (FuncId × Fe G) := []
theorem ev_ref02_Mul (x : TyP G fe_ref02_Mul.ps) : evF G (lstK G tb_ref02_Mul) (bodyOf Tryz.f63) an_ref02_Mul 50 [.cell 4 101] fe_ref02_Mul.rs (argT G fe_ref02_Mul.ps x) = fe_ref02_Mul.fn x := by kernel_rfl
theorem ok_ref02_Mul : FnOk G 63 fe_ref02_Mul := fnOk_of G_ok (lstK_ok G_ok (lnil)) Tryz.func63 (by kernel_rfl) (by kernel_rfl) (by kernel_rfl) (by kernel_rfl) (by kernel_rfl) ev_ref02_Mul

def F_ref02_Size (n : Int) : Option (Int) :=
  (bif (decide (n < 0)) then some (IntKind.u64.wrap (0 - (IntKind.u64.wrap n))) else some (IntKind.u64.wrap n))
def an_ref02_Size : An U := .nil
def fe_ref02_Size : Fe G := ⟨[.v .int1], [.u64], fun x => F_ref02_Size x.1⟩
def tb_ref02_Size : List (FuncId × Fe G) := []
theorem ev_ref02_Size (x : TyP G fe_ref02_Size.ps) : evF G (lstK G tb_ref02_Size) (bodyOf Tryz.f64) an_ref02_Size 10 [.tmp 2] fe_ref02_Size.rs (argT G fe_ref02_Size.ps x) = fe_ref02_Size.fn x := by kernel_rfl
theorem ok_ref02_Size : FnOk G 64 fe_ref02_Size := fnOk_of G_ok (lstK_ok G_ok (lnil)) Tryz.func64 (by kernel_rfl) (by kernel_rfl) (by kernel_rfl) (by kernel_rfl) (by kernel_rfl) ev_ref02_Size

def F_ref02_Plus (a : TU) (b : TU) : Option (TU) :=
  ((bif (decide ((IntKind.u64.wrap (a.l + b.l)) < a.l)) then some ((IntKind.u64.wrap ((IntKind.u64.wrap (a.h + b.h)) + 1)), ()) else some ((IntKind.u64.wrap (a.h + b.h)), ())) : Option (Int × Unit)).bind fun y1 => some (TU.mk y1.1 (IntKind.u64.wrap (a.l + b.l)))
def an_ref02_Plus : An U := (.node none .nil (.node none .nil (.node none .nil (.node (some ⟨[4, 5], [], ⟨[], []⟩, [(.normal, ⟨[(6, .tv .u64)], []⟩)]⟩) .nil .nil))))
def fe_ref02_Plus : Fe G := ⟨[.v .U, .v .U], [.U], fun x => F_ref02_Plus x.1 x.2.1⟩
def tb_ref02_Plus : List (FuncId × Fe G) := []
theorem ev_ref02_Plus (x : TyP G fe_ref02_Plus.ps) : evF G (lstK G tb_ref02_Plus) (bodyOf Tryz.f66) an_ref02_Plus 26 [.cell 4 101] fe_ref02_Plus.rs (argT G fe_ref02_Plus.ps x) = fe_ref02_Plus.fn x := by kernel_rfl
theorem ok_ref02_Plus : FnOk G 66 fe_ref02_Plus := fnOk_of G_ok (lstK_ok G_ok (lnil)) Tryz.func66 (by kernel_rfl) (by kernel_rfl) (by kernel_rfl) (by kernel_rfl) (by kernel_rfl) ev_ref02_Plus

def F_ref02_Less (a : TU) (b : TU) : Option (Bool) :=
  ((bif (decide (a.h < b.h)) then some (true, ()) else (bif (a.h == b.h) then some ((decide (a.l < b.l)), ()) else some (false, ()))) : Option (Bool × Unit)).bind fun y1 => some y1.1
def an_ref02_Less : An U := (.node none .nil (.node (some ⟨[], [], ⟨[], []⟩, [(.normal, ⟨[(4, .tv .bool)], []⟩)]⟩) .nil .nil))
def fe_ref02_Less : Fe G := ⟨[.v .U, .v .U], [.bool], fun x => F_ref02_Less x.1 x.2.1⟩
def tb_ref02_Less : List (FuncId × Fe G) := []
theorem ev_ref02_Less (x : TyP G fe_ref02_Less.ps) : evF G (lstK G tb_ref02_Less) (bodyOf Tryz.f67) an_ref02_Less 24 [.tmp 4] fe_ref02_Less.rs (argT G fe_ref02_Less.ps x) = fe_ref02_Less.fn x := by kernel_rfl
theorem ok_ref02_Less : FnOk G 67 fe_ref02_Less := fnOk_of G_ok (lstK_ok G_ok (lnil)) Tryz.func67 (by kernel_rfl) (by kernel_rfl) (by kernel_rfl) (by kernel_rfl) (by kernel_rfl) ev_ref02_Less

def F_ref02_Minus (a : TU) (b : TU) : Option (TU) :=
  ((bif (decide (a.l < b.l)) then some ((IntKind.u64.wrap ((IntKind.u64.wrap (a.h - b.h)) - 1)), ()) else some ((IntKind.u64.wrap (a.h - b.h)), ())) : Option (Int × Unit)).bind fun y1 => some (TU.mk y1.1 (IntKind.u64.wrap (a.l - b.l)))
def an_ref02_Minus : An U := (.node none .nil (.node none .nil (.node (some ⟨[2, 3, 4], [], ⟨[], []⟩, [(.normal, ⟨[(5, .tv .u64)], []⟩)]⟩) .nil .nil)))
def fe_ref02_Minus : Fe G := ⟨[.v .U, .v .U], [.U], fun x => F_ref02_Minus x.1 x.2.1⟩
def tb_ref02_Minus : List (FuncId × Fe G) := []
theorem ev_ref02_Minus (x : TyP G fe_ref02_Minus.ps) : evF G (lstK G tb_ref02_Minus) (bodyOf Tryz.f68) an_ref02_Minus 25 [.cell 4 101] fe_ref02_Minus.rs (argT G fe_ref02_Minus.ps x) = fe_ref02_Minus.fn x := by kernel_rfl
theorem ok_ref02_Minus : FnOk G 68 fe_ref02_Minus := fnOk_of G_ok (lstK_ok G_ok (lnil)) Tryz.func68 (by kernel_rfl) (by kernel_rfl) (by kernel_rfl) (by kernel_rfl) (by kernel_rfl) ev_ref02_Minus

def F_batten_pipe (s : TSet) : Option (Int) :=
  some (IntKind.i64.wrap (s.pipe * (IntKind.i64.wrap (s.length.tdiv 1000))))
def an_batten_pipe : An U := .nil
def fe_batten_pipe : Fe G := ⟨[.v .Set], [.int1], fun x => F_batten_pipe x.1⟩
def tb_batten_pipe : List (FuncId × Fe G) := []
theorem ev_batten_pipe (x : TyP G fe_batten_pipe.ps) : evF G (lstK G tb_batten_pipe) (bodyOf Tryz.f69) an_batten_pipe 9 [.tmp 2] fe_batten_pipe.rs (argT G fe_batten_pipe.ps x) = fe_batten_pipe.fn x := by kernel_rfl
theorem ok_batten_pipe : FnOk G 69 fe_batten_pipe := fnOk_of G_ok (lstK_ok G_ok (lnil)) Tryz.func69 (by kernel_rfl) (by kernel_rfl) (by kernel_rfl) (by kernel_rfl) (by kernel_rfl) ev_batten_pipe

def F_batten_middle (x : TItem) : Option (Int) :=
  some (IntKind.i64.wrap (x.at_ + (IntKind.i64.wrap (x.width.tdiv 2))))
def an_batten_middle : An U := .nil
def fe_batten_middle : Fe G := ⟨[.v .Item], [.int1], fun x => F_batten_middle x.1⟩
def tb_batten_middle : List (FuncId × Fe G) := []
theorem ev_batten_middle (x : TyP G fe_batten_middle.ps) : evF G (lstK G tb_batten_middle) (bodyOf Tryz.f70) an_batten_middle 9 [.tmp 2] fe_batten_middle.rs (argT G fe_batten_middle.ps x) = fe_batten_middle.fn x := by kernel_rfl
theorem ok_batten_middle : FnOk G 70 fe_batten_middle := fnOk_of G_ok (lstK_ok G_ok (lnil)) Tryz.func70 (by kernel_rfl) (by kernel_rfl) (by kernel_rfl) (by kernel_rfl) (by kernel_rfl) ev_batten_middle

def F_batten_apart (a : TItem) (b : TItem) : Option (Bool) :=
  ((bif (decide ((IntKind.i64.wrap (a.at_ + a.width)) ≤ b.at_)) then some (true, ()) else some ((decide ((IntKind.i64.wrap (b.at_ + b.width)) ≤ a.at_)), ())) : Option (Bool × Unit)).bind fun y1 => some y1.1
def an_batten_apart : An U := (.node none .nil (.node (some ⟨[], [], ⟨[], []⟩, [(.normal, ⟨[(4, .tv .bool)], []⟩)]⟩) .nil .nil))
def fe_batten_apart : Fe G := ⟨[.v .Item, .v .Item], [.bool], fun x => F_batten_apart x.1 x.2.1⟩
def tb_batten_apart : List (FuncId × Fe G) := []
theorem ev_batten_apart (x : TyP G fe_batten_apart.ps) : evF G (lstK G tb_batten_apart) (bodyOf Tryz.f79) an_batten_apart 23 [.tmp 4] fe_batten_apart.rs (argT G fe_batten_apart.ps x) = fe_batten_apart.fn x := by kernel_rfl
theorem ok_batten_apart : FnOk G 79 fe_batten_apart := fnOk_of G_ok (lstK_ok G_ok (lnil)) Tryz.func79 (by kernel_rfl) (by kernel_rfl) (by kernel_rfl) (by kernel_rfl) (by kernel_rfl) ev_batten_apart

def F_ratio_gcd (a : Int) (b : Int) : Option (Int) :=
  (iterF (σ := Int × Int × Unit) (ρ := Int × Unit) (fun s1 => (bif (s1.2.1 != 0) then (if s1.2.1 = 0 then none else some (.inl (s1.2.1, (s1.1.tmod s1.2.1), ()))) else some (.inr (s1.1, ())))) big (a, b, ())).bind fun y2 => some y2.1
def an_ratio_gcd : An U := (.node none .nil (.node none (.node none (.node (some ⟨[4], [], ⟨[(0, .tv .u64), (1, .tv .u64)], []⟩, [(.exit 0, ⟨[(0, .tv .u64)], []⟩)]⟩) .nil .nil) .nil) .nil))
def fe_ratio_gcd : Fe G := ⟨[.v .u64, .v .u64], [.u64], fun x => F_ratio_gcd x.1 x.2.1⟩
def tb_ratio_gcd : List (FuncId × Fe G) := []
theorem ev_ratio_gcd (x : TyP G fe_ratio_gcd.ps) : evF G (lstK G tb_ratio_gcd) (bodyOf Tryz.f86) an_ratio_gcd 12 [.tmp 4] fe_ratio_gcd.rs (argT G fe_ratio_gcd.ps x) = fe_ratio_gcd.fn x := by kernel_rfl
theorem ok_ratio_gcd : FnOk G 86 fe_ratio_gcd := fnOk_of G_ok (lstK_ok G_ok (lnil)) Tryz.func86 (by kernel_rfl) (by kernel_rfl) (by kernel_rfl) (by kernel_rfl) (by kernel_rfl) ev_ratio_gcd

def F_ratio_size (n : Int) : Option (Int) :=
  (bif (decide (n < 0)) then some (IntKind.u64.wrap (0 - (IntKind.u64.wrap n))) else some (IntKind.u64.wrap n))
def an_ratio_size : An U := .nil
def fe_ratio_size : Fe G := ⟨[.v .int1], [.u64], fun x => F_ratio_size x.1⟩
def tb_ratio_size : List (FuncId × Fe G) := []
theorem ev_ratio_size (x : TyP G fe_ratio_size.ps) : evF G (lstK G tb_ratio_size) (bodyOf Tryz.f87) an_ratio_size 10 [.tmp 2] fe_ratio_size.rs (argT G fe_ratio_size.ps x) = fe_ratio_size.fn x := by kernel_rfl
theorem ok_ratio_size : FnOk G 87 fe_ratio_size := fnOk_of G_ok (lstK_ok G_ok (lnil)) Tryz.func87 (by kernel_rfl) (by kernel_rfl) (by kernel_rfl) (by kernel_rfl) (by kernel_rfl) ev_ratio_size

def F_ratio_signed (negative : Bool) (num : Int) (den : Int) : Option (TFrac × Int) :=
  ((bif (decide (num > 1152921504606846976)) then some (true, ()) else some ((decide (den > 1152921504606846976)), ())) : Option (Bool × Unit)).bind fun y1 => (bif y1.1 then some ((TFrac.mk 0 0), 5) else ((bif negative then some ((IntKind.i64.wrap (0 - (IntKind.i64.wrap num))), ()) else some ((IntKind.i64.wrap num), ())) : Option (Int × Unit)).bind fun y2 => some ((TFrac.mk y2.1 (IntKind.i64.wrap den)), 0))
def an_ratio_signed : An U := (.node none .nil (.node none (.node (some ⟨[0, 1, 2, 6, 7], [], ⟨[], []⟩, [(.normal, ⟨[(14, .tv .bool)], []⟩)]⟩) .nil .nil) (.node none .nil (.node (some ⟨[2, 6, 7], [], ⟨[], []⟩, [(.normal, ⟨[(8, .tv .int)], []⟩)]⟩) .nil .nil))))
def fe_ratio_signed : Fe G := ⟨[.v .bool, .v .u64, .v .u64], [.Frac, .Errno], fun x => F_ratio_signed x.1 x.2.1 x.2.2.1⟩
def tb_ratio_signed : List (FuncId × Fe G) := []
theorem ev_ratio_signed (x : TyP G fe_ratio_signed.ps) : evF G (lstK G tb_ratio_signed) (bodyOf Tryz.f89) an_ratio_signed 25 [.cell 6 37, .tmp 7] fe_ratio_signed.rs (argT G fe_ratio_signed.ps x) = fe_ratio_signed.fn x := by kernel_rfl
theorem ok_ratio_signed : FnOk G 89 fe_ratio_signed := fnOk_of G_ok (lstK_ok G_ok (lnil)) Tryz.func89 (by kernel_rfl) (by kernel_rfl) (by kernel_rfl) (by kernel_rfl) (by kernel_rfl) ev_ratio_signed

def F_slices_Clone_int (s : List Int) : Option ((List Int)) :=
  (if ([] : List Int).length + s.length ≤ 2147483648 then some (([] : List Int) ++ s) else none)
def fe_slices_Clone_int : Fe G := ⟨[.v .l_int1], [.l_int1], fun x => F_slices_Clone_int x.1⟩
theorem ok_slices_Clone_int : FnOk G 93 fe_slices_Clone_int := clone_ok G_ok (lstK_ok G_ok lnil) Tryz.func93 (by kernel_rfl) (by kernel_rfl) (k := 8) (by kernel_rfl) (by decide) (res := [.tmp 2]) (by kernel_rfl) (by kernel_rfl) (t := 22) (by kernel_rfl) (u := .int1) (lu := .l_int1) (by kernel_rfl) (cast := fun x => x) (fun _ => by kernel_rfl) (F := F_slices_Clone_int) (fun _ => by kernel_rfl) (fun x y hx h => by obtain rfl : x = ([] : List Int) := hx; rw [← h]; kernel_rfl)

def F_slices_Values___api_Item_api_Item__1 (yield : TItem → Option Bool) (a1 : List TItem) : Option (Unit) :=
  (iterF (σ := Int × Unit) (ρ := (Unit) ⊕ (Unit)) (fun s3 => (bif (decide (s3.1 < ((a1.length : Nat) : Int))) then (idx a1 s3.1).bind fun x4 => (yield x4).bind fun r5 => (bif (!r5) then some (.inr (.inl (()))) else some (.inl ((IntKind.i64.wrap (s3.1 + 1)), ()))) else some (.inr (.inr ((())))))) big (0, ())).bind fun y6 => (match y6 with | .inl y7 => some () | .inr y8 => some ())
def an_slices_Values___api_Item_api_Item__1 : An U := (.node none .nil (.node none (.node (some ⟨[0, 5, 6], [], ⟨[(7, .tv .int)], []⟩, [(.ret, ⟨[], []⟩), (.exit 0, ⟨[], []⟩)]⟩) .nil .nil) .nil))
def fe_slices_Values___api_Item_api_Item__1 : Fe G := ⟨[.fn .Item .bool, .rp .l_Item], [], fun x => F_slices_Values___api_Item_api_Item__1 x.1 x.2.1⟩
def tb_slices_Values___api_Item_api_Item__1 : List (FuncId × Fe G) := []
theorem ev_slices_Values___api_Item_api_Item__1 (x : TyP G fe_slices_Values___api_Item_api_Item__1.ps) : evF G (lstK G tb_slices_Values___api_Item_api_Item__1) (bodyOf Tryz.f108) an_slices_Values___api_Item_api_Item__1 16 [] fe_slices_Values___api_Item_api_Item__1.rs (argT G fe_slices_Values___api_Item_api_Item__1.ps x) = fe_slices_Values___api_Item_api_Item__1.fn x := by kernel_rfl
theorem ok_slices_Values___api_Item_api_Item__1 : FnOk G 108 fe_slices_Values___api_Item_api_Item__1 := fnOk_of G_ok (lstK_ok G_ok (lnil)) Tryz.func108 (by kernel_rfl) (by kernel_rfl) (by kernel_rfl) (by kernel_rfl) (by kernel_rfl) ev_slices_Values___api_Item_api_Item__1
end
end Go.Proofs.YtkagmdfhodbfmaaGreat

/- Functions, as plain data. Printed by mkev.py. -/
namespace Go.Proofs.YtkagmdfhodbfmaaGreat
open Go.RowKit
set_option linter.unusedVariables false
set_option linter.unusedSimpArgs false
noncomputable section

def F_cmp_isNaN_int (x : Int) : Option (Bool) :=
  some (x != x)
def an_cmp_isNaN_int : An U := .nil
def fe_cmp_isNaN_int : Fe G := ⟨[.v .int1], [.bool], fun x => F_cmp_isNaN_int x.1⟩
def tb_cmp_isNaN_int : List (FuncId × Fe G) := []
theorem ev_cmp_isNaN_int (x : TyP G fe_cmp_isNaN_int.ps) : evF G (lstK G tb_cmp_isNaN_int) (bodyOf Tryz.f109) an_cmp_isNaN_int 6 [.tmp 2] fe_cmp_isNaN_int.rs (argT G fe_cmp_isNaN_int.ps x) = fe_cmp_isNaN_int.fn x := by kernel_rfl
theorem ok_cmp_isNaN_int : FnOk G 109 fe_cmp_isNaN_int := fnOk_of G_ok (lstK_ok G_ok (lnil)) Tryz.func109 (by kernel_rfl) (by kernel_rfl) (by kernel_rfl) (by kernel_rfl) (by kernel_rfl) ev_cmp_isNaN_int

def F_decimal_letter (c : Int) : Option (Bool) :=
  ((bif (decide (c ≥ 97)) then (bif (decide (c ≤ 122)) then some (true, ()) else (bif (decide (c ≥ 65)) then some ((decide (c ≤ 90)), ()) else some (false, ()))) else (bif (decide (c ≥ 65)) then some ((decide (c ≤ 90)), ()) else some (false, ()))) : Option (Bool × Unit)).bind fun y1 => some y1.1
def an_decimal_letter : An U := (.node none .nil (.node (some ⟨[], [], ⟨[], []⟩, [(.normal, ⟨[(2, .tv .bool)], []⟩)]⟩) .nil .nil))
def fe_decimal_letter : Fe G := ⟨[.v .u8], [.bool], fun x => F_decimal_letter x.1⟩
def tb_decimal_letter : List (FuncId × Fe G) := []
theorem ev_decimal_letter (x : TyP G fe_decimal_letter.ps) : evF G (lstK G tb_decimal_letter) (bodyOf Tryz.f110) an_decimal_letter 17 [.tmp 2] fe_decimal_letter.rs (argT G fe_decimal_letter.ps x) = fe_decimal_letter.fn x := by kernel_rfl
theorem ok_decimal_letter : FnOk G 110 fe_decimal_letter := fnOk_of G_ok (lstK_ok G_ok (lnil)) Tryz.func110 (by kernel_rfl) (by kernel_rfl) (by kernel_rfl) (by kernel_rfl) (by kernel_rfl) ev_decimal_letter

def F_batten_twice_api_Item (l : List TItem) (name : TItem → Option ByteArray) : Option (Bool) :=
  (iterF (σ := Int × List (ByteArray × Bool) × Unit) (ρ := List (ByteArray × Bool) × Unit) (fun s5 => (bif (decide (s5.1 < ((l.length : Nat) : Int))) then (idx l s5.1).bind fun x6 => (name x6).bind fun r7 => (if r7.size ≤ 2147483648 ∧ s5.2.1.length ≤ 2147483648 then some (.inl ((IntKind.i64.wrap (s5.1 + 1)), (setM r7 true s5.2.1), ())) else none) else some (.inr (s5.2.1, ())))) big (0, ([] : List (ByteArray × Bool)), ())).bind fun y8 => some (decide (((y8.1.length : Nat) : Int) < ((l.length : Nat) : Int)))
def an_batten_twice_api_Item : An U := (.node none .nil (.node none .nil (.node none (.node none .nil (.node none (.node (some ⟨[0, 1, 4, 5, 9, 10], [0], ⟨[(11, .tv .int)], [(0, .map 179 false)]⟩, [(.exit 0, ⟨[], [(0, .map 179 false)]⟩)]⟩) .nil .nil) .nil)) .nil)))
def fe_batten_twice_api_Item : Fe G := ⟨[.v .l_Item, .fn .Item .str], [.bool], fun x => F_batten_twice_api_Item x.1 x.2.1⟩
def tb_batten_twice_api_Item : List (FuncId × Fe G) := []
theorem ev_batten_twice_api_Item (x : TyP G fe_batten_twice_api_Item.ps) : evF G (lstK G tb_batten_twice_api_Item) (bodyOf Tryz.f112) an_batten_twice_api_Item 26 [.tmp 4] fe_batten_twice_api_Item.rs (argT G fe_batten_twice_api_Item.ps x) = fe_batten_twice_api_Item.fn x := by kernel_rfl
theorem ok_batten_twice_api_Item : FnOk G 112 fe_batten_twice_api_Item := fnOk_of G_ok (lstK_ok G_ok (lnil)) Tryz.func112 (by kernel_rfl) (by kernel_rfl) (by kernel_rfl) (by kernel_rfl) (by kernel_rfl) ev_batten_twice_api_Item

def F_batten_items_1 (x : TItem) : Option (ByteArray) :=
  some x.name
def an_batten_items_1 : An U := .nil
def fe_batten_items_1 : Fe G := ⟨[.v .Item], [.str], fun x => F_batten_items_1 x.1⟩
def tb_batten_items_1 : List (FuncId × Fe G) := []
theorem ev_batten_items_1 (x : TyP G fe_batten_items_1.ps) : evF G (lstK G tb_batten_items_1) (bodyOf Tryz.f113) an_batten_items_1 5 [.tmp 2] fe_batten_items_1.rs (argT G fe_batten_items_1.ps x) = fe_batten_items_1.fn x := by kernel_rfl
theorem ok_batten_items_1 : FnOk G 113 fe_batten_items_1 := fnOk_of G_ok (lstK_ok G_ok (lnil)) Tryz.func113 (by kernel_rfl) (by kernel_rfl) (by kernel_rfl) (by kernel_rfl) (by kernel_rfl) ev_batten_items_1

def F_batten_twice_api_Brick (l : List TBrick) (name : TBrick → Option ByteArray) : Option (Bool) :=
  (iterF (σ := Int × List (ByteArray × Bool) × Unit) (ρ := List (ByteArray × Bool) × Unit) (fun s5 => (bif (decide (s5.1 < ((l.length : Nat) : Int))) then (idx l s5.1).bind fun x6 => (name x6).bind fun r7 => (if r7.size ≤ 2147483648 ∧ s5.2.1.length ≤ 2147483648 then some (.inl ((IntKind.i64.wrap (s5.1 + 1)), (setM r7 true s5.2.1), ())) else none) else some (.inr (s5.2.1, ())))) big (0, ([] : List (ByteArray × Bool)), ())).bind fun y8 => some (decide (((y8.1.length : Nat) : Int) < ((l.length : Nat) : Int)))
def an_batten_twice_api_Brick : An U := (.node none .nil (.node none .nil (.node none (.node none .nil (.node none (.node (some ⟨[0, 1, 4, 5, 9, 10], [0], ⟨[(11, .tv .int)], [(0, .map 179 false)]⟩, [(.exit 0, ⟨[], [(0, .map 179 false)]⟩)]⟩) .nil .nil) .nil)) .nil)))
def fe_batten_twice_api_Brick : Fe G := ⟨[.v .l_Brick, .fn .Brick .str], [.bool], fun x => F_batten_twice_api_Brick x.1 x.2.1⟩
def tb_batten_twice_api_Brick : List (FuncId × Fe G) := []
theorem ev_batten_twice_api_Brick (x : TyP G fe_batten_twice_api_Brick.ps) : evF G (lstK G tb_batten_twice_api_Brick) (bodyOf Tryz.f115) an_batten_twice_api_Brick 26 [.tmp 4] fe_batten_twice_api_Brick.rs (argT G fe_batten_twice_api_Brick.ps x) = fe_batten_twice_api_Brick.fn x := by kernel_rfl
theorem ok_batten_twice_api_Brick : FnOk G 115 fe_batten_twice_api_Brick := fnOk_of G_ok (lstK_ok G_ok (lnil)) Tryz.func115 (by kernel_rfl) (by kernel_rfl) (by kernel_rfl) (by kernel_rfl) (by kernel_rfl) ev_batten_twice_api_Brick

def F_batten_bricks_1 (b : TBrick) : Option (ByteArray) :=
  some b.name
def an_batten_bricks_1 : An U := .nil
def fe_batten_bricks_1 : Fe G := ⟨[.v .Brick], [.str], fun x => F_batten_bricks_1 x.1⟩
def tb_batten_bricks_1 : List (FuncId × Fe G) := []
theorem ev_batten_bricks_1 (x : TyP G fe_batten_bricks_1.ps) : evF G (lstK G tb_batten_bricks_1) (bodyOf Tryz.f116) an_batten_bricks_1 5 [.tmp 2] fe_batten_bricks_1.rs (argT G fe_batten_bricks_1.ps x) = fe_batten_bricks_1.fn x := by kernel_rfl
theorem ok_batten_bricks_1 : FnOk G 116 fe_batten_bricks_1 := fnOk_of G_ok (lstK_ok G_ok (lnil)) Tryz.func116 (by kernel_rfl) (by kernel_rfl) (by kernel_rfl) (by kernel_rfl) (by kernel_rfl) ev_batten_bricks_1

def F_math_bits_Mul64 (x : Int) (y : Int) : Option (Int × Int) :=
  some ((IntKind.u64.wrap ((IntKind.u64.wrap ((IntKind.u64.wrap ((x.fdiv (2 ^ min (Int.toNat 32) IntKind.u64.bits)) * (y.fdiv (2 ^ min (Int.toNat 32) IntKind.u64.bits)))) + ((IntKind.u64.wrap ((IntKind.u64.wrap ((x.fdiv (2 ^ min (Int.toNat 32) IntKind.u64.bits)) * (bitsOf .and .u64 y 4294967295))) + ((IntKind.u64.wrap ((bitsOf .and .u64 x 4294967295) * (bitsOf .and .u64 y 4294967295))).fdiv (2 ^ min (Int.toNat 32) IntKind.u64.bits)))).fdiv (2 ^ min (Int.toNat 32) IntKind.u64.bits)))) + ((IntKind.u64.wrap ((bitsOf .and .u64 (IntKind.u64.wrap ((IntKind.u64.wrap ((x.fdiv (2 ^ min (Int.toNat 32) IntKind.u64.bits)) * (bitsOf .and .u64 y 4294967295))) + ((IntKind.u64.wrap ((bitsOf .and .u64 x 4294967295) * (bitsOf .and .u64 y 4294967295))).fdiv (2 ^ min (Int.toNat 32) IntKind.u64.bits)))) 4294967295) + (IntKind.u64.wrap ((bitsOf .and .u64 x 4294967295) * (y.fdiv (2 ^ min (Int.toNat 32) IntKind.u64.bits)))))).fdiv (2 ^ min (Int.toNat 32) IntKind.u64.bits)))), (IntKind.u64.wrap (x * y)))
def an_math_bits_Mul64 : An U := .nil
def fe_math_bits_Mul64 : Fe G := ⟨[.v .u64, .v .u64], [.u64, .u64], fun x => F_math_bits_Mul64 x.1 x.2.1⟩
def tb_math_bits_Mul64 : List (FuncId × Fe G) := []
theorem ev_math_bits_Mul64 (x : TyP G fe_math_bits_Mul64.ps) : evF G (lstK G tb_math_bits_Mul64) (bodyOf Tryz.f121) an_math_bits_Mul64 51 [.tmp 4, .tmp 5] fe_math_bits_Mul64.rs (argT G fe_math_bits_Mul64.ps x) = fe_math_bits_Mul64.fn x := by kernel_rfl
theorem ok_math_bits_Mul64 : FnOk G 121 fe_math_bits_Mul64 := fnOk_of G_ok (lstK_ok G_ok (lnil)) Tryz.func121 (by kernel_rfl) (by kernel_rfl) (by kernel_rfl) (by kernel_rfl) (by kernel_rfl) ev_math_bits_Mul64

def F_beam_exact__fraction (a : Texact) : Option (TFrac × Int) :=
  (bif (decide (((a.n.words.length : Nat) : Int) > 2)) then some ((TFrac.mk 0 0), 5) else (iterF (σ := Int × TAr186 × Unit) (ρ := TAr186 × Unit) (fun s7 => (bif (decide (s7.1 < ((a.n.words.length : Nat) : Int))) then (idx a.n.words s7.1).bind fun x8 => (if (IntKind.i64.wrap (32 * s7.1)) < 0 then none else some (.inl ((IntKind.i64.wrap (s7.1 + 1)), (TAr186.mk (bitsOf .or .u64 s7.2.1.e0 (IntKind.u64.wrap ((IntKind.u64.wrap x8) * 2 ^ min (Int.toNat (IntKind.i64.wrap (32 * s7.1))) IntKind.u64.bits))) s7.2.1.e1), ()))) else some (.inr (s7.2.1, ())))) big (0, (TAr186.mk 0 0), ())).bind fun y11 => (bif (decide (y11.1.e0 > 1152921504606846976)) then some ((TFrac.mk 0 0), 5) else (bif (decide (((a.d.words.length : Nat) : Int) > 2)) then some ((TFrac.mk 0 0), 5) else (iterF (σ := Int × TAr186 × Unit) (ρ := TAr186 × Unit) (fun s13 => (bif (decide (s13.1 < ((a.d.words.length : Nat) : Int))) then (idx a.d.words s13.1).bind fun x14 => (if (IntKind.i64.wrap (32 * s13.1)) < 0 then none else some (.inl ((IntKind.i64.wrap (s13.1 + 1)), (TAr186.mk s13.2.1.e0 (bitsOf .or .u64 s13.2.1.e1 (IntKind.u64.wrap ((IntKind.u64.wrap x14) * 2 ^ min (Int.toNat (IntKind.i64.wrap (32 * s13.1))) IntKind.u64.bits)))), ()))) else some (.inr (s13.2.1, ())))) big (0, y11.1, ())).bind fun y17 => (bif (decide (y17.1.e1 > 1152921504606846976)) then some ((TFrac.mk 0 0), 5) else ((bif a.n.neg then some ((TFrac.mk (IntKind.i64.wrap (0 - (IntKind.i64.wrap y17.1.e0))) (IntKind.i64.wrap y17.1.e1)), ()) else some ((TFrac.mk (IntKind.i64.wrap y17.1.e0) (IntKind.i64.wrap y17.1.e1)), ())) : Option (TFrac × Unit)).bind fun y21 => some (y21.1, 0)))))
def an_beam_exact__fraction : An U := (.node none .nil (.node none .nil (.node none (.node none .nil (.node none (.node none (.node none .nil (.node none .nil (.node none (.node none (.node none .nil (.node none .nil (.node none (.node none .nil (.node none (.node (some ⟨[1, 2, 3, 4, 5, 14, 15, 25, 26], [2], ⟨[(27, .tv .int)], [(2, .bx .ar186 [])]⟩, [(.exit 2, ⟨[], [(2, .bx .ar186 [])]⟩)]⟩) .nil .nil) .nil)) .nil))) .nil) .nil))) .nil) .nil)) (.node none .nil (.node (some ⟨[2, 3, 9], [5], ⟨[], []⟩, [(.normal, ⟨[], [(5, .bx .Frac [])]⟩)]⟩) .nil .nil)))))
def fe_beam_exact__fraction : Fe G := ⟨[.v .exact], [.Frac, .Errno], fun x => F_beam_exact__fraction x.1⟩
def tb_beam_exact__fraction : List (FuncId × Fe G) := []
theorem ev_beam_exact__fraction (x : TyP G fe_beam_exact__fraction.ps) : evF G (lstK G tb_beam_exact__fraction) (bodyOf Tryz.f124) an_beam_exact__fraction 64 [.cell 2 37, .tmp 3] fe_beam_exact__fraction.rs (argT G fe_beam_exact__fraction.ps x) = fe_beam_exact__fraction.fn x := by kernel_rfl
theorem ok_beam_exact__fraction : FnOk G 124 fe_beam_exact__fraction := fnOk_of G_ok (lstK_ok G_ok (lnil)) Tryz.func124 (by kernel_rfl) (by kernel_rfl) (by kernel_rfl) (by kernel_rfl) (by kernel_rfl) ev_beam_exact__fraction

def F_decimal_digit (c : Int) : Option (Bool) :=
  ((bif (decide (c ≥ 48)) then some ((decide (c ≤ 57)), ()) else some (false, ())) : Option (Bool × Unit)).bind fun y1 => some y1.1
def an_decimal_digit : An U := (.node none .nil (.node (some ⟨[], [], ⟨[], []⟩, [(.normal, ⟨[(2, .tv .bool)], []⟩)]⟩) .nil .nil))
def fe_decimal_digit : Fe G := ⟨[.v .u8], [.bool], fun x => F_decimal_digit x.1⟩
def tb_decimal_digit : List (FuncId × Fe G) := []
theorem ev_decimal_digit (x : TyP G fe_decimal_digit.ps) : evF G (lstK G tb_decimal_digit) (bodyOf Tryz.f148) an_decimal_digit 9 [.tmp 2] fe_decimal_digit.rs (argT G fe_decimal_digit.ps x) = fe_decimal_digit.fn x := by kernel_rfl
theorem ok_decimal_digit : FnOk G 148 fe_decimal_digit := fnOk_of G_ok (lstK_ok G_ok (lnil)) Tryz.func148 (by kernel_rfl) (by kernel_rfl) (by kernel_rfl) (by kernel_rfl) (by kernel_rfl) ev_decimal_digit

def F_ref02_Half (a : TU) : Option (TU) :=
  some (TU.mk (a.h.fdiv (2 ^ min (Int.toNat 1) IntKind.u64.bits)) (IntKind.u64.wrap ((a.l.fdiv (2 ^ min (Int.toNat 1) IntKind.u64.bits)) + (IntKind.u64.wrap (a.h * 2 ^ min (Int.toNat 63) IntKind.u64.bits)))))
def an_ref02_Half : An U := .nil
def fe_ref02_Half : Fe G := ⟨[.v .U], [.U], fun x => F_ref02_Half x.1⟩
def tb_ref02_Half : List (FuncId × Fe G) := []
theorem ev_ref02_Half (x : TyP G fe_ref02_Half.ps) : evF G (lstK G tb_ref02_Half) (bodyOf Tryz.f149) an_ref02_Half 14 [.cell 2 101] fe_ref02_Half.rs (argT G fe_ref02_Half.ps x) = fe_ref02_Half.fn x := by kernel_rfl
theorem ok_ref02_Half : FnOk G 149 fe_ref02_Half := fnOk_of G_ok (lstK_ok G_ok (lnil)) Tryz.func149 (by kernel_rfl) (by kernel_rfl) (by kernel_rfl) (by kernel_rfl) (by kernel_rfl) ev_ref02_Half

def F_beam_Valid_1 (x : TLoad) (a1 : TBeam) : Option (Bool) :=
  ((bif (decide (x.at_ < 0)) then some (true, ()) else (bif (decide (x.at_ > a1.length)) then some (true, ()) else (bif (decide (x.weight < 0)) then some (true, ()) else some ((decide (x.weight > 67108864)), ())))) : Option (Bool × Unit)).bind fun y1 => some y1.1
def an_beam_Valid_1 : An U := (.node none .nil (.node (some ⟨[], [], ⟨[], []⟩, [(.normal, ⟨[(3, .tv .bool)], []⟩)]⟩) .nil .nil))
def fe_beam_Valid_1 : Fe G := ⟨[.v .Load, .rp .Beam], [.bool], fun x => F_beam_Valid_1 x.1 x.2.1⟩
def tb_beam_Valid_1 : List (FuncId × Fe G) := []
theorem ev_beam_Valid_1 (x : TyP G fe_beam_Valid_1.ps) : evF G (lstK G tb_beam_Valid_1) (bodyOf Tryz.f151) an_beam_Valid_1 24 [.tmp 3] fe_beam_Valid_1.rs (argT G fe_beam_Valid_1.ps x) = fe_beam_Valid_1.fn x := by kernel_rfl
theorem ok_beam_Valid_1 : FnOk G 151 fe_beam_Valid_1 := fnOk_of G_ok (lstK_ok G_ok (lnil)) Tryz.func151 (by kernel_rfl) (by kernel_rfl) (by kernel_rfl) (by kernel_rfl) (by kernel_rfl) ev_beam_Valid_1

def F_beam_number__sign (a : Tnumber) : Option (Int) :=
  (bif (((a.words.length : Nat) : Int) == 0) then some 0 else (bif a.neg then some (-1) else some 1))
def an_beam_number__sign : An U := .nil
def fe_beam_number__sign : Fe G := ⟨[.v .number], [.int1], fun x => F_beam_number__sign x.1⟩
def tb_beam_number__sign : List (FuncId × Fe G) := []
theorem ev_beam_number__sign (x : TyP G fe_beam_number__sign.ps) : evF G (lstK G tb_beam_number__sign) (bodyOf Tryz.f153) an_beam_number__sign 11 [.tmp 2] fe_beam_number__sign.rs (argT G fe_beam_number__sign.ps x) = fe_beam_number__sign.fn x := by kernel_rfl
theorem ok_beam_number__sign : FnOk G 153 fe_beam_number__sign := fnOk_of G_ok (lstK_ok G_ok (lnil)) Tryz.func153 (by kernel_rfl) (by kernel_rfl) (by kernel_rfl) (by kernel_rfl) (by kernel_rfl) ev_beam_number__sign

def F_beam_number__opposite (a : Tnumber) : Option (Tnumber) :=
  some (Tnumber.mk (!a.neg) a.words)
def an_beam_number__opposite : An U := .nil
def fe_beam_number__opposite : Fe G := ⟨[.v .number], [.number], fun x => F_beam_number__opposite x.1⟩
def tb_beam_number__opposite : List (FuncId × Fe G) := []
theorem ev_beam_number__opposite (x : TyP G fe_beam_number__opposite.ps) : evZ G (lstK G tb_beam_number__opposite) (bodyOf Tryz.f161) an_beam_number__opposite 9 [.cell 2 159] fe_beam_number__opposite.rs (argT G fe_beam_number__opposite.ps x) = fe_beam_number__opposite.fn x := by kernel_rfl
theorem ok_beam_number__opposite : FnOk G 161 fe_beam_number__opposite := fnOkz_of G_ok (fun _ => lstK_ok G_ok (lnil)) Tryz.func161 (by kernel_rfl) (by kernel_rfl) (by kernel_rfl) (by kernel_rfl) (by kernel_rfl) ev_beam_number__opposite

def F_ref08_trim (b : TBig) : Option (TBig) :=
  (iterF (σ := Int × Unit) (ρ := Int × Unit) (fun s4 => ((bif (decide (s4.1 > 0)) then (idx b.d (IntKind.i64.wrap (s4.1 - 1))).bind fun x5 => some ((x5 == 0), ()) else some (false, ())) : Option (Bool × Unit)).bind fun y6 => (bif y6.1 then some (.inl ((IntKind.i64.wrap (s4.1 - 1)), ())) else some (.inr (s4.1, ())))) big (((b.d.length : Nat) : Int), ())).bind fun y7 => (if 0 ≤ (0 : Int) ∧ (0 : Int) ≤ y7.1 ∧ y7.1 ≤ ((b.d.length : Nat) : Int) then ((bif (y7.1 == 0) then some ((TBig.mk false ((b.d.take (Int.toNat y7.1)).drop (Int.toNat (0 : Int)))), ()) else some ((TBig.mk b.neg ((b.d.take (Int.toNat y7.1)).drop (Int.toNat (0 : Int)))), ())) : Option (TBig × Unit)).bind fun y8 => some y8.1 else none)
def F_ref08_digit (l : List Int) (i : Int) : Option (Int) :=
  (bif (decide (i < ((l.length : Nat) : Int))) then (idx l i).bind fun x1 => some x1 else some 0)
def F_math_bits_Len32 (x : Int) : Option (Int) :=
  ((bif (decide (x ≥ 65536)) then some ((x.fdiv (2 ^ min (Int.toNat 16) IntKind.u32.bits)), 16, ()) else some (x, 0, ())) : Option (Int × Int × Unit)).bind fun y1 => ((bif (decide (y1.1 ≥ 256)) then some ((y1.1.fdiv (2 ^ min (Int.toNat 8) IntKind.u32.bits)), (IntKind.i64.wrap (y1.2.1 + 8)), ()) else some (y1.1, y1.2.1, ())) : Option (Int × Int × Unit)).bind fun y2 => (idxB (⟨#[0, 1, 2, 2, 3, 3, 3, 3, 4, 4, 4, 4, 4, 4, 4, 4, 5, 5, 5, 5, 5, 5, 5, 5, 5, 5, 5, 5, 5, 5, 5, 5, 6, 6, 6, 6, 6, 6, 6, 6, 6, 6, 6, 6, 6, 6, 6, 6, 6, 6, 6, 6, 6, 6, 6, 6, 6, 6, 6, 6, 6, 6, 6, 6, 7, 7, 7, 7, 7, 7, 7, 7, 7, 7, 7, 7, 7, 7, 7, 7, 7, 7, 7, 7, 7, 7, 7, 7, 7, 7, 7, 7, 7, 7, 7, 7, 7, 7, 7, 7, 7, 7, 7, 7, 7, 7, 7, 7, 7, 7, 7, 7, 7, 7, 7, 7, 7, 7, 7, 7, 7, 7, 7, 7, 7, 7, 7, 7, 8, 8, 8, 8, 8, 8, 8, 8, 8, 8, 8, 8, 8, 8, 8, 8, 8, 8, 8, 8, 8, 8, 8, 8, 8, 8, 8, 8, 8, 8, 8, 8, 8, 8, 8, 8, 8, 8, 8, 8, 8, 8, 8, 8, 8, 8, 8, 8, 8, 8, 8, 8, 8, 8, 8, 8, 8, 8, 8, 8, 8, 8, 8, 8, 8, 8, 8, 8, 8, 8, 8, 8, 8, 8, 8, 8, 8, 8, 8, 8, 8, 8, 8, 8, 8, 8, 8, 8, 8, 8, 8, 8, 8, 8, 8, 8, 8, 8, 8, 8, 8, 8, 8, 8, 8, 8, 8, 8, 8, 8, 8, 8, 8, 8, 8, 8, 8, 8, 8, 8, 8, 8, 8, 8, 8, 8, 8, 8]⟩ : ByteArray) (IntKind.u8.wrap y2.1)).bind fun b3 => some (IntKind.i64.wrap (y2.2.1 + (IntKind.i64.wrap ((b3.toNat : Nat) : Int))))
def an_math_bits_Len32 : An U := (.node none .nil (.node (some ⟨[], [], ⟨[], []⟩, [(.normal, ⟨[(0, .tv .u32), (2, .tv .int)], []⟩)]⟩) .nil (.node (some ⟨[], [], ⟨[], []⟩, [(.normal, ⟨[(0, .tv .u32), (2, .tv .int)], []⟩)]⟩) .nil .nil)))
def fe_math_bits_Len32 : Fe G := ⟨[.v .u32], [.int1], fun x => F_math_bits_Len32 x.1⟩
def tb_math_bits_Len32 : List (FuncId × Fe G) := []
theorem ev_math_bits_Len32 (x : TyP G fe_math_bits_Len32.ps) : evF G (lstK G tb_math_bits_Len32) (bodyOf Tryz.f179) an_math_bits_Len32 19 [.tmp 2] fe_math_bits_Len32.rs (argT G fe_math_bits_Len32.ps x) = fe_math_bits_Len32.fn x := by kernel_rfl
theorem ok_math_bits_Len32 : FnOk G 179 fe_math_bits_Len32 := fnOk_of G_ok (lstK_ok G_ok (lnil)) Tryz.func179 (by kernel_rfl) (by kernel_rfl) (by kernel_rfl) (by kernel_rfl) (by kernel_rfl) ev_math_bits_Len32

def F_math_bits_Len64 (x : Int) : Option (Int) :=
  ((bif (decide (x ≥ 4294967296)) then some ((x.fdiv (2 ^ min (Int.toNat 32) IntKind.u64.bits)), 32, ()) else some (x, 0, ())) : Option (Int × Int × Unit)).bind fun y1 => ((bif (decide (y1.1 ≥ 65536)) then some ((y1.1.fdiv (2 ^ min (Int.toNat 16) IntKind.u64.bits)), (IntKind.i64.wrap (y1.2.1 + 16)), ()) else some (y1.1, y1.2.1, ())) : Option (Int × Int × Unit)).bind fun y2 => ((bif (decide (y2.1 ≥ 256)) then some ((y2.1.fdiv (2 ^ min (Int.toNat 8) IntKind.u64.bits)), (IntKind.i64.wrap (y2.2.1 + 8)), ()) else some (y2.1, y2.2.1, ())) : Option (Int × Int × Unit)).bind fun y3 => (idxB (⟨#[0, 1, 2, 2, 3, 3, 3, 3, 4, 4, 4, 4, 4, 4, 4, 4, 5, 5, 5, 5, 5, 5, 5, 5, 5, 5, 5, 5, 5, 5, 5, 5, 6, 6, 6, 6, 6, 6, 6, 6, 6, 6, 6, 6, 6, 6, 6, 6, 6, 6, 6, 6, 6, 6, 6, 6, 6, 6, 6, 6, 6, 6, 6, 6, 7, 7, 7, 7, 7, 7, 7, 7, 7, 7, 7, 7, 7, 7, 7, 7, 7, 7, 7, 7, 7, 7, 7, 7, 7, 7, 7, 7, 7, 7, 7, 7, 7, 7, 7, 7, 7, 7, 7, 7, 7, 7, 7, 7, 7, 7, 7, 7, 7, 7, 7, 7, 7, 7, 7, 7, 7, 7, 7, 7, 7, 7, 7, 7, 8, 8, 8, 8, 8, 8, 8, 8, 8, 8, 8, 8, 8, 8, 8, 8, 8, 8, 8, 8, 8, 8, 8, 8, 8, 8, 8, 8, 8, 8, 8, 8, 8, 8, 8, 8, 8, 8, 8, 8, 8, 8, 8, 8, 8, 8, 8, 8, 8, 8, 8, 8, 8, 8, 8, 8, 8, 8, 8, 8, 8, 8, 8, 8, 8, 8, 8, 8, 8, 8, 8, 8, 8, 8, 8, 8, 8, 8, 8, 8, 8, 8, 8, 8, 8, 8, 8, 8, 8, 8, 8, 8, 8, 8, 8, 8, 8, 8, 8, 8, 8, 8, 8, 8, 8, 8, 8, 8, 8, 8, 8, 8, 8, 8, 8, 8, 8, 8, 8, 8, 8, 8, 8, 8, 8, 8, 8, 8]⟩ : ByteArray) (IntKind.u8.wrap y3.1)).bind fun b4 => some (IntKind.i64.wrap (y3.2.1 + (IntKind.i64.wrap ((b4.toNat : Nat) : Int))))
def an_math_bits_Len64 : An U := (.node none .nil (.node (some ⟨[], [], ⟨[], []⟩, [(.normal, ⟨[(0, .tv .u64), (2, .tv .int)], []⟩)]⟩) .nil (.node (some ⟨[], [], ⟨[], []⟩, [(.normal, ⟨[(0, .tv .u64), (2, .tv .int)], []⟩)]⟩) .nil (.node (some ⟨[], [], ⟨[], []⟩, [(.normal, ⟨[(0, .tv .u64), (2, .tv .int)], []⟩)]⟩) .nil .nil))))
def fe_math_bits_Len64 : Fe G := ⟨[.v .u64], [.int1], fun x => F_math_bits_Len64 x.1⟩
def tb_math_bits_Len64 : List (FuncId × Fe G) := []
theorem ev_math_bits_Len64 (x : TyP G fe_math_bits_Len64.ps) : evF G (lstK G tb_math_bits_Len64) (bodyOf Tryz.f180) an_math_bits_Len64 25 [.tmp 2] fe_math_bits_Len64.rs (argT G fe_math_bits_Len64.ps x) = fe_math_bits_Len64.fn x := by kernel_rfl
theorem ok_math_bits_Len64 : FnOk G 180 fe_math_bits_Len64 := fnOk_of G_ok (lstK_ok G_ok (lnil)) Tryz.func180 (by kernel_rfl) (by kernel_rfl) (by kernel_rfl) (by kernel_rfl) (by kernel_rfl) ev_math_bits_Len64

def F_slices_IndexFunc_api_Load (s : List TLoad) (f : TLoad → Option Bool) : Option (Int) :=
  (iterF (σ := Int × Unit) (ρ := (Int × Unit) ⊕ (Unit)) (fun s3 => (bif (decide (s3.1 < ((s.length : Nat) : Int))) then (idx s s3.1).bind fun x4 => (f x4).bind fun r5 => (bif r5 then some (.inr (.inl (s3.1, ()))) else some (.inl ((IntKind.i64.wrap (s3.1 + 1)), ()))) else some (.inr (.inr ((())))))) big (0, ())).bind fun y6 => (match y6 with | .inl y7 => some y7.1 | .inr y8 => some (-1))
def an_slices_IndexFunc_api_Load : An U := (.node none .nil (.node none (.node none .nil (.node none (.node (some ⟨[0, 1, 7], [], ⟨[(8, .tv .int)], []⟩, [(.ret, ⟨[(4, .tv .int)], []⟩), (.exit 0, ⟨[], []⟩)]⟩) .nil .nil) .nil)) .nil))
def fe_slices_IndexFunc_api_Load : Fe G := ⟨[.v .l_Load, .fn .Load .bool], [.int1], fun x => F_slices_IndexFunc_api_Load x.1 x.2.1⟩
def tb_slices_IndexFunc_api_Load : List (FuncId × Fe G) := []
theorem ev_slices_IndexFunc_api_Load (x : TyP G fe_slices_IndexFunc_api_Load.ps) : evF G (lstK G tb_slices_IndexFunc_api_Load) (bodyOf Tryz.f181) an_slices_IndexFunc_api_Load 19 [.tmp 4] fe_slices_IndexFunc_api_Load.rs (argT G fe_slices_IndexFunc_api_Load.ps x) = fe_slices_IndexFunc_api_Load.fn x := by kernel_rfl
theorem ok_slices_IndexFunc_api_Load : FnOk G 181 fe_slices_IndexFunc_api_Load := fnOk_of G_ok (lstK_ok G_ok (lnil)) Tryz.func181 (by kernel_rfl) (by kernel_rfl) (by kernel_rfl) (by kernel_rfl) (by kernel_rfl) ev_slices_IndexFunc_api_Load

def F_beam_trimmed (w : List Int) : Option ((List Int)) :=
  (iterF (σ := (List Int) × Unit) (ρ := (List Int) × Unit) (fun s4 => ((bif (decide (((s4.1.length : Nat) : Int) > 0)) then (idx s4.1 (IntKind.i64.wrap (((s4.1.length : Nat) : Int) - 1))).bind fun x5 => some ((x5 == 0), ()) else some (false, ())) : Option (Bool × Unit)).bind fun y6 => (bif y6.1 then (if 0 ≤ (0 : Int) ∧ (0 : Int) ≤ (IntKind.i64.wrap (((s4.1.length : Nat) : Int) - 1)) ∧ (IntKind.i64.wrap (((s4.1.length : Nat) : Int) - 1)) ≤ ((s4.1.length : Nat) : Int) then some (.inl (((s4.1.take (Int.toNat (IntKind.i64.wrap (((s4.1.length : Nat) : Int) - 1)))).drop (Int.toNat (0 : Int))), ())) else none) else some (.inr (s4.1, ())))) big (w, ())).bind fun y7 => some y7.1
def an_beam_trimmed : An U := (.node none .nil (.node none (.node none (.node (some ⟨[2], [], ⟨[(0, .tv .l_u32)], []⟩, [(.exit 0, ⟨[(0, .tv .l_u32)], []⟩)]⟩) (.node none (.node (some ⟨[0], [], ⟨[], []⟩, [(.normal, ⟨[(14, .tv .bool)], []⟩)]⟩) .nil .nil) .nil) .nil) .nil) .nil))
def fe_beam_trimmed : Fe G := ⟨[.v .l_u32], [.l_u32], fun x => F_beam_trimmed x.1⟩
def tb_beam_trimmed : List (FuncId × Fe G) := []
theorem ev_beam_trimmed (x : TyP G fe_beam_trimmed.ps) : evZ G (lstK G tb_beam_trimmed) (bodyOf Tryz.f182) an_beam_trimmed 21 [.tmp 2] fe_beam_trimmed.rs (argT G fe_beam_trimmed.ps x) = fe_beam_trimmed.fn x := by kernel_rfl
theorem ok_beam_trimmed : FnOk G 182 fe_beam_trimmed := fnOkz_of G_ok (fun _ => lstK_ok G_ok (lnil)) Tryz.func182 (by kernel_rfl) (by kernel_rfl) (by kernel_rfl) (by kernel_rfl) (by kernel_rfl) ev_beam_trimmed

def F_beam_compared (a : List Int) (b : List Int) : Option (Int) :=
  (bif (((a.length : Nat) : Int) != ((b.length : Nat) : Int)) then some (IntKind.i64.wrap (((a.length : Nat) : Int) - ((b.length : Nat) : Int))) else (iterF (σ := Int × Unit) (ρ := (Int × Unit) ⊕ (Unit)) (fun s5 => (bif (decide (s5.1 ≥ 0)) then (idx a s5.1).bind fun x6 => (idx b s5.1).bind fun x7 => (bif (x6 != x7) then (idx a s5.1).bind fun x8 => (idx b s5.1).bind fun x9 => (bif (decide (x8 < x9)) then some (.inr (.inl ((-1), ()))) else some (.inr (.inl (1, ())))) else some (.inl ((IntKind.i64.wrap (s5.1 - 1)), ()))) else some (.inr (.inr ((())))))) big ((IntKind.i64.wrap (((a.length : Nat) : Int) - 1)), ())).bind fun y10 => (match y10 with | .inl y11 => some y11.1 | .inr y12 => some 0))
def an_beam_compared : An U := (.node none .nil (.node none .nil (.node none (.node none .nil (.node none (.node (some ⟨[0, 1], [], ⟨[(5, .tv .int)], []⟩, [(.ret, ⟨[(4, .tv .int)], []⟩), (.exit 0, ⟨[], []⟩)]⟩) .nil .nil) .nil)) .nil)))
def fe_beam_compared : Fe G := ⟨[.v .l_u32, .v .l_u32], [.int1], fun x => F_beam_compared x.1 x.2.1⟩
def tb_beam_compared : List (FuncId × Fe G) := []
theorem ev_beam_compared (x : TyP G fe_beam_compared.ps) : evF G (lstK G tb_beam_compared) (bodyOf Tryz.f186) an_beam_compared 41 [.tmp 4] fe_beam_compared.rs (argT G fe_beam_compared.ps x) = fe_beam_compared.fn x := by kernel_rfl
theorem ok_beam_compared : FnOk G 186 fe_beam_compared := fnOk_of G_ok (lstK_ok G_ok (lnil)) Tryz.func186 (by kernel_rfl) (by kernel_rfl) (by kernel_rfl) (by kernel_rfl) (by kernel_rfl) ev_beam_compared

def F_law21_large (s : TSet) : Option (Bool) :=
  (F_ref21_Small s 8).bind fun r1 => some (!r1)
def an_law21_large : An U := .nil
def fe_law21_large : Fe G := ⟨[.v .Set], [.bool], fun x => F_law21_large x.1⟩
def tb_law21_large : List (FuncId × Fe G) := [(42, fe_ref21_Small)]
theorem ev_law21_large (x : TyP G fe_law21_large.ps) : evF G (lstK G tb_law21_large) (bodyOf Tryz.f11) an_law21_large 6 [.tmp 2] fe_law21_large.rs (argT G fe_law21_large.ps x) = fe_law21_large.fn x := by kernel_rfl
theorem ok_law21_large : FnOk G 11 fe_law21_large := fnOk_of G_ok (lstK_ok G_ok (lcons ok_ref21_Small (lnil))) Tryz.func11 (by kernel_rfl) (by kernel_rfl) (by kernel_rfl) (by kernel_rfl) (by kernel_rfl) ev_law21_large

def F_slices_ContainsFunc_api_Item (s : List TItem) (f : TItem → Option Bool) : Option (Bool) :=
  (F_slices_IndexFunc_api_Item s f).bind fun r1 => some (decide (r1 ≥ 0))
def an_slices_ContainsFunc_api_Item : An U := .nil
def fe_slices_ContainsFunc_api_Item : Fe G := ⟨[.v .l_Item, .fn .Item .bool], [.bool], fun x => F_slices_ContainsFunc_api_Item x.1 x.2.1⟩
def tb_slices_ContainsFunc_api_Item : List (FuncId × Fe G) := [(61, fe_slices_IndexFunc_api_Item)]
theorem ev_slices_ContainsFunc_api_Item (x : TyP G fe_slices_ContainsFunc_api_Item.ps) : evF G (lstK G tb_slices_ContainsFunc_api_Item) (bodyOf Tryz.f18) an_slices_ContainsFunc_api_Item 9 [.tmp 4] fe_slices_ContainsFunc_api_Item.rs (argT G fe_slices_ContainsFunc_api_Item.ps x) = fe_slices_ContainsFunc_api_Item.fn x := by kernel_rfl
theorem ok_slices_ContainsFunc_api_Item : FnOk G 18 fe_slices_ContainsFunc_api_Item := fnOk_of G_ok (lstK_ok G_ok (lcons ok_slices_IndexFunc_api_Item (lnil))) Tryz.func18 (by kernel_rfl) (by kernel_rfl) (by kernel_rfl) (by kernel_rfl) (by kernel_rfl) ev_slices_ContainsFunc_api_Item

end
end Go.Proofs.YtkagmdfhodbfmaaGreat
