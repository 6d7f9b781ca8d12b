/- Joined by merge.py: Fn0, Fn1. -/
import Derived.Test.YtcaopooflemnlaaGreatM04
/- Functions, as plain data. Printed by mkev.py. -/
namespace Go.Proofs.YtcaopooflemnlaaGreat
open Go.RowKit
set_option linter.unusedVariables false
set_option linter.unusedSimpArgs false
noncomputable section

def F_ref21_Copy (s : TSet) : Option (TSet) :=
 (if ([] : List Int).length + s.lines.length ≤ 2147483648 then (if ([] : List TItem).length + s.items.length ≤ 2147483648 then (if ([] : List TBrick).length + s.bricks.length ≤ 2147483648 then some (TSet.mk s.name s.depth s.low s.high s.length (([] : List Int) ++ s.lines) s.pipe s.arbor s.purchase s.most s.brake (([] : List TItem) ++ s.items) (([] : List TBrick) ++ s.bricks)) else none) else none) else none)
def an_ref21_Copy : An U := .nil
def fe_ref21_Copy : Fe G := ⟨[.v .Set], [.Set], fun x => F_ref21_Copy x.1⟩
def tb_ref21_Copy : List (FuncId × Fe G) := []
theorem ev_ref21_Copy (x : TyP G fe_ref21_Copy.ps) : evF G (lstK G tb_ref21_Copy) (bodyOf Tryz.f20) an_ref21_Copy 19 [.cell 2 26] fe_ref21_Copy.rs (argT G fe_ref21_Copy.ps x) = fe_ref21_Copy.fn x := by kernel_rfl
theorem ok_ref21_Copy : FnOk G 20 fe_ref21_Copy := fnOk_of G_ok (lstK_ok G_ok (lnil)) Tryz.func20 (by kernel_rfl) (by kernel_rfl) (by kernel_rfl) (by kernel_rfl) (by kernel_rfl) ev_ref21_Copy

def F_slices_Equal_api_Frac (s1_ : List TFrac) (s2_ : List TFrac) : Option (Bool) :=
 (bif (((s1_.length : Nat) : Int) != ((s2_.length : Nat) : Int)) then some false else (iterF (σ := Int × Unit) (ρ := (Bool × Unit) ⊕ (Unit)) (fun s3 => (bif (decide (s3.1 < ((s1_.length : Nat) : Int))) then (idx s1_ s3.1).bind fun x4 => (idx s2_ s3.1).bind fun x5 => (bif (!((x4.num == x5.num) && (x4.den == x5.den))) then some (.inr (.inl (false, ()))) else some (.inl ((IntKind.i64.wrap (s3.1 + 1)), ()))) else some (.inr (.inr ((())))))) big (0, ())).bind fun y6 => (match y6 with | .inl y7 => some y7.1 | .inr y8 => some true))
def an_slices_Equal_api_Frac : An U := (.node none .nil (.node none .nil (.node none (.node none .nil (.node none (.node (some ⟨[0, 1, 12], [], ⟨[(13, .tv .int)], []⟩, [(.ret, ⟨[(4, .tv .bool)], []⟩), (.exit 0, ⟨[], []⟩)]⟩) .nil .nil) .nil)) .nil)))
def fe_slices_Equal_api_Frac : Fe G := ⟨[.v .l_Frac, .v .l_Frac], [.bool], fun x => F_slices_Equal_api_Frac x.1 x.2.1⟩
def tb_slices_Equal_api_Frac : List (FuncId × Fe G) := []
theorem ev_slices_Equal_api_Frac (x : TyP G fe_slices_Equal_api_Frac.ps) : evF G (lstK G tb_slices_Equal_api_Frac) (bodyOf Tryz.f24) an_slices_Equal_api_Frac 26 [.tmp 4] fe_slices_Equal_api_Frac.rs (argT G fe_slices_Equal_api_Frac.ps x) = fe_slices_Equal_api_Frac.fn x := by kernel_rfl
theorem ok_slices_Equal_api_Frac : FnOk G 24 fe_slices_Equal_api_Frac := fnOk_of G_ok (lstK_ok G_ok (lnil)) Tryz.func24 (by kernel_rfl) (by kernel_rfl) (by kernel_rfl) (by kernel_rfl) (by kernel_rfl) ev_slices_Equal_api_Frac

def F_slices_Equal_int (s1_ : List Int) (s2_ : List Int) : Option (Bool) :=
 (bif (((s1_.length : Nat) : Int) != ((s2_.length : Nat) : Int)) then some false else (iterF (σ := Int × Unit) (ρ := (Bool × Unit) ⊕ (Unit)) (fun s3 => (bif (decide (s3.1 < ((s1_.length : Nat) : Int))) then (idx s1_ s3.1).bind fun x4 => (idx s2_ s3.1).bind fun x5 => (bif (x4 != x5) then some (.inr (.inl (false, ()))) else some (.inl ((IntKind.i64.wrap (s3.1 + 1)), ()))) else some (.inr (.inr ((())))))) big (0, ())).bind fun y6 => (match y6 with | .inl y7 => some y7.1 | .inr y8 => some true))
def an_slices_Equal_int : An U := (.node none .nil (.node none .nil (.node none (.node none .nil (.node none (.node (some ⟨[0, 1, 12], [], ⟨[(13, .tv .int)], []⟩, [(.ret, ⟨[(4, .tv .bool)], []⟩), (.exit 0, ⟨[], []⟩)]⟩) .nil .nil) .nil)) .nil)))
def fe_slices_Equal_int : Fe G := ⟨[.v .l_int1, .v .l_int1], [.bool], fun x => F_slices_Equal_int x.1 x.2.1⟩
def tb_slices_Equal_int : List (FuncId × Fe G) := []
theorem ev_slices_Equal_int (x : TyP G fe_slices_Equal_int.ps) : evF G (lstK G tb_slices_Equal_int) (bodyOf Tryz.f41) an_slices_Equal_int 26 [.tmp 4] fe_slices_Equal_int.rs (argT G fe_slices_Equal_int.ps x) = fe_slices_Equal_int.fn x := by kernel_rfl
theorem ok_slices_Equal_int : FnOk G 41 fe_slices_Equal_int := fnOk_of G_ok (lstK_ok G_ok (lnil)) Tryz.func41 (by kernel_rfl) (by kernel_rfl) (by kernel_rfl) (by kernel_rfl) (by kernel_rfl) ev_slices_Equal_int

def F_law24_of (n : Int) : Option (TFrac) :=
 some (TFrac.mk n 1)
def an_law24_of : An U := .nil
def fe_law24_of : Fe G := ⟨[.v .int1], [.Frac], fun x => F_law24_of x.1⟩
def tb_law24_of : List (FuncId × Fe G) := []
theorem ev_law24_of (x : TyP G fe_law24_of.ps) : evF G (lstK G tb_law24_of) (bodyOf Tryz.f59) an_law24_of 5 [.cell 2 43] fe_law24_of.rs (argT G fe_law24_of.ps x) = fe_law24_of.fn x := by kernel_rfl
theorem ok_law24_of : FnOk G 59 fe_law24_of := fnOk_of G_ok (lstK_ok G_ok (lnil)) Tryz.func59 (by kernel_rfl) (by kernel_rfl) (by kernel_rfl) (by kernel_rfl) (by kernel_rfl) ev_law24_of

def F_slices_IndexFunc_api_Item (s : List TItem) (f : TItem → Option Bool) : Option (Int) :=
 (iterF (σ := Int × Unit) (ρ := (Int × Unit) ⊕ (Unit)) (fun s3 => (bif (decide (s3.1 < ((s.length : Nat) : Int))) then (idx s s3.1).bind fun x4 => (f x4).bind fun r5 => (bif r5 then some (.inr (.inl (s3.1, ()))) else some (.inl ((IntKind.i64.wrap (s3.1 + 1)), ()))) else some (.inr (.inr ((())))))) big (0, ())).bind fun y6 => (match y6 with | .inl y7 => some y7.1 | .inr y8 => some (-1))
def an_slices_IndexFunc_api_Item : An U := (.node none .nil (.node none (.node none .nil (.node none (.node (some ⟨[0, 1, 7], [], ⟨[(8, .tv .int)], []⟩, [(.ret, ⟨[(4, .tv .int)], []⟩), (.exit 0, ⟨[], []⟩)]⟩) .nil .nil) .nil)) .nil))
def fe_slices_IndexFunc_api_Item : Fe G := ⟨[.v .l_Item, .fn .Item .bool], [.int1], fun x => F_slices_IndexFunc_api_Item x.1 x.2.1⟩
def tb_slices_IndexFunc_api_Item : List (FuncId × Fe G) := []
theorem ev_slices_IndexFunc_api_Item (x : TyP G fe_slices_IndexFunc_api_Item.ps) : evF G (lstK G tb_slices_IndexFunc_api_Item) (bodyOf Tryz.f67) an_slices_IndexFunc_api_Item 19 [.tmp 4] fe_slices_IndexFunc_api_Item.rs (argT G fe_slices_IndexFunc_api_Item.ps x) = fe_slices_IndexFunc_api_Item.fn x := by kernel_rfl
theorem ok_slices_IndexFunc_api_Item : FnOk G 67 fe_slices_IndexFunc_api_Item := fnOk_of G_ok (lstK_ok G_ok (lnil)) Tryz.func67 (by kernel_rfl) (by kernel_rfl) (by kernel_rfl) (by kernel_rfl) (by kernel_rfl) ev_slices_IndexFunc_api_Item

def F_ref21_Small (s : TSet) (most : Int) : Option (Bool) :=
 ((bif (decide (((s.name.size : Nat) : Int) > 60)) then some (true, ()) else (bif (decide (((s.lines.length : Nat) : Int) > 12)) then some (true, ()) else (bif (decide (((s.items.length : Nat) : Int) > most)) then (bif (decide (((s.items.length : Nat) : Int) ≤ 40)) then some (true, ()) else (bif (decide (((s.items.length : Nat) : Int) > 45)) then some (true, ()) else some ((decide (((s.bricks.length : Nat) : Int) > 10)), ()))) else (bif (decide (((s.items.length : Nat) : Int) > 45)) then some (true, ()) else some ((decide (((s.bricks.length : Nat) : Int) > 10)), ()))))) : Option (Bool × Unit)).bind fun y1 => (bif y1.1 then some false else (iterF (σ := Int × Unit) (ρ := (Bool × Unit) ⊕ (Unit)) (fun s3 => (bif (decide (s3.1 < ((s.items.length : Nat) : Int))) then (idx s.items s3.1).bind fun x4 => (bif (decide (((x4.name.size : Nat) : Int) > 60)) then some (.inr (.inl (false, ()))) else some (.inl ((IntKind.i64.wrap (s3.1 + 1)), ()))) else some (.inr (.inr ((())))))) big (0, ())).bind fun y5 => (match y5 with | .inl y6 => some y6.1 | .inr y7 => (iterF (σ := Int × Unit) (ρ := (Bool × Unit) ⊕ (Unit)) (fun s9 => (bif (decide (s9.1 < ((s.bricks.length : Nat) : Int))) then (idx s.bricks s9.1).bind fun x10 => (bif (decide (((x10.name.size : Nat) : Int) > 60)) then some (.inr (.inl (false, ()))) else some (.inl ((IntKind.i64.wrap (s9.1 + 1)), ()))) else some (.inr (.inr ((())))))) big (0, ())).bind fun y11 => (match y11 with | .inl y12 => some y12.1 | .inr y13 => some true)))
def an_ref21_Small : An U := (.node none .nil (.node none (.node (some ⟨[2, 4], [], ⟨[], []⟩, [(.normal, ⟨[(41, .tv .bool)], []⟩)]⟩) .nil .nil) (.node none (.node none .nil (.node none (.node (some ⟨[2], [], ⟨[(5, .tv .int)], []⟩, [(.ret, ⟨[(4, .tv .bool)], []⟩), (.exit 0, ⟨[], []⟩)]⟩) .nil .nil) .nil)) (.node none (.node none .nil (.node none (.node (some ⟨[2], [], ⟨[(6, .tv .int)], []⟩, [(.ret, ⟨[(4, .tv .bool)], []⟩), (.exit 2, ⟨[], []⟩)]⟩) .nil .nil) .nil)) .nil))))
def fe_ref21_Small : Fe G := ⟨[.v .Set, .v .int1], [.bool], fun x => F_ref21_Small x.1 x.2.1⟩
def tb_ref21_Small : List (FuncId × Fe G) := []
theorem ev_ref21_Small (x : TyP G fe_ref21_Small.ps) : evF G (lstK G tb_ref21_Small) (bodyOf Tryz.f70) an_ref21_Small 72 [.tmp 4] fe_ref21_Small.rs (argT G fe_ref21_Small.ps x) = fe_ref21_Small.fn x := by kernel_rfl
theorem ok_ref21_Small : FnOk G 70 fe_ref21_Small := fnOk_of G_ok (lstK_ok G_ok (lnil)) Tryz.func70 (by kernel_rfl) (by kernel_rfl) (by kernel_rfl) (by kernel_rfl) (by kernel_rfl) ev_ref21_Small

def F_ref21_between (n : Int) (low : Int) (high : Int) : Option (Bool) :=
 ((bif (decide (n ≥ low)) then some ((decide (n ≤ high)), ()) else some (false, ())) : Option (Bool × Unit)).bind fun y1 => some y1.1
def an_ref21_between : An U := (.node none .nil (.node (some ⟨[], [], ⟨[], []⟩, [(.normal, ⟨[(6, .tv .bool)], []⟩)]⟩) .nil .nil))
def fe_ref21_between : Fe G := ⟨[.v .int1, .v .int1, .v .int1], [.bool], fun x => F_ref21_between x.1 x.2.1 x.2.2.1⟩
def tb_ref21_between : List (FuncId × Fe G) := []
theorem ev_ref21_between (x : TyP G fe_ref21_between.ps) : evF G (lstK G tb_ref21_between) (bodyOf Tryz.f74) an_ref21_between 15 [.tmp 6] fe_ref21_between.rs (argT G fe_ref21_between.ps x) = fe_ref21_between.fn x := by kernel_rfl
theorem ok_ref21_between : FnOk G 74 fe_ref21_between := fnOk_of G_ok (lstK_ok G_ok (lnil)) Tryz.func74 (by kernel_rfl) (by kernel_rfl) (by kernel_rfl) (by kernel_rfl) (by kernel_rfl) ev_ref21_between

def F_law24_example : Option (TSet) :=
 some (TSet.mk (⟨#[115]⟩ : ByteArray) 0 0 5000 2000 ([0, 1000, 2000] : List Int) 0 0 1 500 0 ([(TItem.mk (⟨#[105]⟩ : ByteArray) 900 200 600 0 0 0)] : List TItem) ([] : List TBrick))
def an_law24_example : An U := .nil
def fe_law24_example : Fe G := ⟨[], [.Set], fun x => F_law24_example⟩
def tb_law24_example : List (FuncId × Fe G) := []
theorem ev_law24_example (x : TyP G fe_law24_example.ps) : evF G (lstK G tb_law24_example) (bodyOf Tryz.f77) an_law24_example 5 [.cell 0 26] fe_law24_example.rs (argT G fe_law24_example.ps x) = fe_law24_example.fn x := by kernel_rfl
theorem ok_law24_example : FnOk G 77 fe_law24_example := fnOk_of G_ok (lstK_ok G_ok (lnil)) Tryz.func77 (by kernel_rfl) (by kernel_rfl) (by kernel_rfl) (by kernel_rfl) (by kernel_rfl) ev_law24_example

def F_ref02_Mul (a : Int) (b : Int) : Option (TU) :=
 some (TU.mk (IntKind.u64.wrap ((IntKind.u64.wrap ((IntKind.u64.wrap ((a.fdiv (2 ^ min (Int.toNat 32) IntKind.u64.bits)) * (b.fdiv (2 ^ min (Int.toNat 32) IntKind.u64.bits)))) + ((IntKind.u64.wrap ((IntKind.u64.wrap ((a.fdiv (2 ^ min (Int.toNat 32) IntKind.u64.bits)) * (bitsOf .and .u64 b 4294967295))) + ((IntKind.u64.wrap ((bitsOf .and .u64 a 4294967295) * (bitsOf .and .u64 b 4294967295))).fdiv (2 ^ min (Int.toNat 32) IntKind.u64.bits)))).fdiv (2 ^ min (Int.toNat 32) IntKind.u64.bits)))) + ((IntKind.u64.wrap ((IntKind.u64.wrap ((bitsOf .and .u64 a 4294967295) * (b.fdiv (2 ^ min (Int.toNat 32) IntKind.u64.bits)))) + (bitsOf .and .u64 (IntKind.u64.wrap ((IntKind.u64.wrap ((a.fdiv (2 ^ min (Int.toNat 32) IntKind.u64.bits)) * (bitsOf .and .u64 b 4294967295))) + ((IntKind.u64.wrap ((bitsOf .and .u64 a 4294967295) * (bitsOf .and .u64 b 4294967295))).fdiv (2 ^ min (Int.toNat 32) IntKind.u64.bits)))) 4294967295))).fdiv (2 ^ min (Int.toNat 32) IntKind.u64.bits)))) (IntKind.u64.wrap ((IntKind.u64.wrap ((IntKind.u64.wrap ((IntKind.u64.wrap ((bitsOf .and .u64 a 4294967295) * (b.fdiv (2 ^ min (Int.toNat 32) IntKind.u64.bits)))) + (bitsOf .and .u64 (IntKind.u64.wrap ((IntKind.u64.wrap ((a.fdiv (2 ^ min (Int.toNat 32) IntKind.u64.bits)) * (bitsOf .and .u64 b 4294967295))) + ((IntKind.u64.wrap ((bitsOf .and .u64 a 4294967295) * (bitsOf .and .u64 b 4294967295))).fdiv (2 ^ min (Int.toNat 32) IntKind.u64.bits)))) 4294967295))) * 2 ^ min (Int.toNat 32) IntKind.u64.bits)) + (bitsOf .and .u64 (IntKind.u64.wrap ((bitsOf .and .u64 a 4294967295) * (bitsOf .and .u64 b 4294967295))) 4294967295))))
def an_ref02_Mul : An U := .nil
def fe_ref02_Mul : Fe G := ⟨[.v .u64, .v .u64], [.U], fun x => F_ref02_Mul x.1 x.2.1⟩
def tb_ref02_Mul : List (FuncId × Fe G) := []
theorem ev_ref02_Mul (x : TyP G fe_ref02_Mul.ps) : evF G (lstK G tb_ref02_Mul) (bodyOf Tryz.f91) an_ref02_Mul 50 [.cell 4 108] fe_ref02_Mul.rs (argT G fe_ref02_Mul.ps x) = fe_ref02_Mul.fn x := by kernel_rfl
theorem ok_ref02_Mul : FnOk G 91 fe_ref02_Mul := fnOk_of G_ok (lstK_ok G_ok (lnil)) Tryz.func91 (by kernel_rfl) (by kernel_rfl) (by kernel_rfl) (by kernel_rfl) (by kernel_rfl) ev_ref02_Mul

def F_ref02_Size (n : Int) : Option (Int) :=
 (bif (decide (n < 0)) then some (IntKind.u64.wrap (0 - (IntKind.u64.wrap n))) else some (IntKind.u64.wrap n))
def an_ref02_Size : An U := .nil
def fe_ref02_Size : Fe G := ⟨[.v .int1], [.u64], fun x => F_ref02_Size x.1⟩
def tb_ref02_Size : List (FuncId × Fe G) := []
theorem ev_ref02_Size (x : TyP G fe_ref02_Size.ps) : evF G (lstK G tb_ref02_Size) (bodyOf Tryz.f92) an_ref02_Size 10 [.tmp 2] fe_ref02_Size.rs (argT G fe_ref02_Size.ps x) = fe_ref02_Size.fn x := by kernel_rfl
theorem ok_ref02_Size : FnOk G 92 fe_ref02_Size := fnOk_of G_ok (lstK_ok G_ok (lnil)) Tryz.func92 (by kernel_rfl) (by kernel_rfl) (by kernel_rfl) (by kernel_rfl) (by kernel_rfl) ev_ref02_Size

def F_ref02_Less (a : TU) (b : TU) : Option (Bool) :=
 ((bif (decide (a.h < b.h)) then some (true, ()) else (bif (a.h == b.h) then some ((decide (a.l < b.l)), ()) else some (false, ()))) : Option (Bool × Unit)).bind fun y1 => some y1.1
def an_ref02_Less : An U := (.node none .nil (.node (some ⟨[], [], ⟨[], []⟩, [(.normal, ⟨[(4, .tv .bool)], []⟩)]⟩) .nil .nil))
def fe_ref02_Less : Fe G := ⟨[.v .U, .v .U], [.bool], fun x => F_ref02_Less x.1 x.2.1⟩
def tb_ref02_Less : List (FuncId × Fe G) := []
theorem ev_ref02_Less (x : TyP G fe_ref02_Less.ps) : evF G (lstK G tb_ref02_Less) (bodyOf Tryz.f93) an_ref02_Less 24 [.tmp 4] fe_ref02_Less.rs (argT G fe_ref02_Less.ps x) = fe_ref02_Less.fn x := by kernel_rfl
theorem ok_ref02_Less : FnOk G 93 fe_ref02_Less := fnOk_of G_ok (lstK_ok G_ok (lnil)) Tryz.func93 (by kernel_rfl) (by kernel_rfl) (by kernel_rfl) (by kernel_rfl) (by kernel_rfl) ev_ref02_Less

def F_ratio_size (n : Int) : Option (Int) :=
 (bif (decide (n < 0)) then some (IntKind.u64.wrap (0 - (IntKind.u64.wrap n))) else some (IntKind.u64.wrap n))
def an_ratio_size : An U := .nil
def fe_ratio_size : Fe G := ⟨[.v .int1], [.u64], fun x => F_ratio_size x.1⟩
def tb_ratio_size : List (FuncId × Fe G) := []
theorem ev_ratio_size (x : TyP G fe_ratio_size.ps) : evF G (lstK G tb_ratio_size) (bodyOf Tryz.f96) an_ratio_size 10 [.tmp 2] fe_ratio_size.rs (argT G fe_ratio_size.ps x) = fe_ratio_size.fn x := by kernel_rfl
theorem ok_ratio_size : FnOk G 96 fe_ratio_size := fnOk_of G_ok (lstK_ok G_ok (lnil)) Tryz.func96 (by kernel_rfl) (by kernel_rfl) (by kernel_rfl) (by kernel_rfl) (by kernel_rfl) ev_ratio_size

def F_ratio_less (a : Twide) (b : Twide) : Option (Bool) :=
 ((bif (decide (a.hi < b.hi)) then some (true, ()) else (bif (a.hi == b.hi) then some ((decide (a.lo < b.lo)), ()) else some (false, ()))) : Option (Bool × Unit)).bind fun y1 => some y1.1
def an_ratio_less : An U := (.node none .nil (.node (some ⟨[], [], ⟨[], []⟩, [(.normal, ⟨[(4, .tv .bool)], []⟩)]⟩) .nil .nil))
def fe_ratio_less : Fe G := ⟨[.v .wide, .v .wide], [.bool], fun x => F_ratio_less x.1 x.2.1⟩
def tb_ratio_less : List (FuncId × Fe G) := []
theorem ev_ratio_less (x : TyP G fe_ratio_less.ps) : evF G (lstK G tb_ratio_less) (bodyOf Tryz.f97) an_ratio_less 24 [.tmp 4] fe_ratio_less.rs (argT G fe_ratio_less.ps x) = fe_ratio_less.fn x := by kernel_rfl
theorem ok_ratio_less : FnOk G 97 fe_ratio_less := fnOk_of G_ok (lstK_ok G_ok (lnil)) Tryz.func97 (by kernel_rfl) (by kernel_rfl) (by kernel_rfl) (by kernel_rfl) (by kernel_rfl) ev_ratio_less

def F_ratio_gcd (a : Int) (b : Int) : Option (Int) :=
 (iterF (σ := Int × Int × Unit) (ρ := Int × Unit) (fun s1 => (bif (s1.2.1 != 0) then (if s1.2.1 = 0 then none else some (.inl (s1.2.1, (s1.1.tmod s1.2.1), ()))) else some (.inr (s1.1, ())))) big (a, b, ())).bind fun y2 => some y2.1
def an_ratio_gcd : An U := (.node none .nil (.node none (.node none (.node (some ⟨[4], [], ⟨[(0, .tv .u64), (1, .tv .u64)], []⟩, [(.exit 0, ⟨[(0, .tv .u64)], []⟩)]⟩) .nil .nil) .nil) .nil))
def fe_ratio_gcd : Fe G := ⟨[.v .u64, .v .u64], [.u64], fun x => F_ratio_gcd x.1 x.2.1⟩
def tb_ratio_gcd : List (FuncId × Fe G) := []
theorem ev_ratio_gcd (x : TyP G fe_ratio_gcd.ps) : evF G (lstK G tb_ratio_gcd) (bodyOf Tryz.f98) an_ratio_gcd 12 [.tmp 4] fe_ratio_gcd.rs (argT G fe_ratio_gcd.ps x) = fe_ratio_gcd.fn x := by kernel_rfl
theorem ok_ratio_gcd : FnOk G 98 fe_ratio_gcd := fnOk_of G_ok (lstK_ok G_ok (lnil)) Tryz.func98 (by kernel_rfl) (by kernel_rfl) (by kernel_rfl) (by kernel_rfl) (by kernel_rfl) ev_ratio_gcd

def F_batten_between (n : Int) (low : Int) (high : Int) : Option (Bool) :=
 ((bif (decide (n ≥ low)) then some ((decide (n ≤ high)), ()) else some (false, ())) : Option (Bool × Unit)).bind fun y1 => some y1.1
def an_batten_between : An U := (.node none .nil (.node (some ⟨[], [], ⟨[], []⟩, [(.normal, ⟨[(6, .tv .bool)], []⟩)]⟩) .nil .nil))
def fe_batten_between : Fe G := ⟨[.v .int1, .v .int1, .v .int1], [.bool], fun x => F_batten_between x.1 x.2.1 x.2.2.1⟩
def tb_batten_between : List (FuncId × Fe G) := []
theorem ev_batten_between (x : TyP G fe_batten_between.ps) : evF G (lstK G tb_batten_between) (bodyOf Tryz.f105) an_batten_between 15 [.tmp 6] fe_batten_between.rs (argT G fe_batten_between.ps x) = fe_batten_between.fn x := by kernel_rfl
theorem ok_batten_between : FnOk G 105 fe_batten_between := fnOk_of G_ok (lstK_ok G_ok (lnil)) Tryz.func105 (by kernel_rfl) (by kernel_rfl) (by kernel_rfl) (by kernel_rfl) (by kernel_rfl) ev_batten_between

def F_ref01_Letter (c : Int) : Option (Bool) :=
 ((bif (decide (c ≥ 97)) then (bif (decide (c ≤ 122)) then some (true, ()) else (bif (decide (c ≥ 65)) then some ((decide (c ≤ 90)), ()) else some (false, ()))) else (bif (decide (c ≥ 65)) then some ((decide (c ≤ 90)), ()) else some (false, ()))) : Option (Bool × Unit)).bind fun y1 => some y1.1
def an_ref01_Letter : An U := (.node none .nil (.node (some ⟨[], [], ⟨[], []⟩, [(.normal, ⟨[(2, .tv .bool)], []⟩)]⟩) .nil .nil))
def fe_ref01_Letter : Fe G := ⟨[.v .u8], [.bool], fun x => F_ref01_Letter x.1⟩
def tb_ref01_Letter : List (FuncId × Fe G) := []
theorem ev_ref01_Letter (x : TyP G fe_ref01_Letter.ps) : evF G (lstK G tb_ref01_Letter) (bodyOf Tryz.f113) an_ref01_Letter 17 [.tmp 2] fe_ref01_Letter.rs (argT G fe_ref01_Letter.ps x) = fe_ref01_Letter.fn x := by kernel_rfl
theorem ok_ref01_Letter : FnOk G 113 fe_ref01_Letter := fnOk_of G_ok (lstK_ok G_ok (lnil)) Tryz.func113 (by kernel_rfl) (by kernel_rfl) (by kernel_rfl) (by kernel_rfl) (by kernel_rfl) ev_ref01_Letter

def F_ref21_Apart (x : TItem) (y : TItem) : Option (Bool) :=
 ((bif (decide ((IntKind.i64.wrap (x.at_ + x.width)) ≤ y.at_)) then some (true, ()) else some ((decide ((IntKind.i64.wrap (y.at_ + y.width)) ≤ x.at_)), ())) : Option (Bool × Unit)).bind fun y1 => some y1.1
def an_ref21_Apart : An U := (.node none .nil (.node (some ⟨[], [], ⟨[], []⟩, [(.normal, ⟨[(4, .tv .bool)], []⟩)]⟩) .nil .nil))
def fe_ref21_Apart : Fe G := ⟨[.v .Item, .v .Item], [.bool], fun x => F_ref21_Apart x.1 x.2.1⟩
def tb_ref21_Apart : List (FuncId × Fe G) := []
theorem ev_ref21_Apart (x : TyP G fe_ref21_Apart.ps) : evF G (lstK G tb_ref21_Apart) (bodyOf Tryz.f116) an_ref21_Apart 23 [.tmp 4] fe_ref21_Apart.rs (argT G fe_ref21_Apart.ps x) = fe_ref21_Apart.fn x := by kernel_rfl
theorem ok_ref21_Apart : FnOk G 116 fe_ref21_Apart := fnOk_of G_ok (lstK_ok G_ok (lnil)) Tryz.func116 (by kernel_rfl) (by kernel_rfl) (by kernel_rfl) (by kernel_rfl) (by kernel_rfl) ev_ref21_Apart

def F_slices_IndexFunc_api_Frac (s : List TFrac) (f : TFrac → Option Bool) : Option (Int) :=
 (iterF (σ := Int × Unit) (ρ := (Int × Unit) ⊕ (Unit)) (fun s3 => (bif (decide (s3.1 < ((s.length : Nat) : Int))) then (idx s s3.1).bind fun x4 => (f x4).bind fun r5 => (bif r5 then some (.inr (.inl (s3.1, ()))) else some (.inl ((IntKind.i64.wrap (s3.1 + 1)), ()))) else some (.inr (.inr ((())))))) big (0, ())).bind fun y6 => (match y6 with | .inl y7 => some y7.1 | .inr y8 => some (-1))
def an_slices_IndexFunc_api_Frac : An U := (.node none .nil (.node none (.node none .nil (.node none (.node (some ⟨[0, 1, 7], [], ⟨[(8, .tv .int)], []⟩, [(.ret, ⟨[(4, .tv .int)], []⟩), (.exit 0, ⟨[], []⟩)]⟩) .nil .nil) .nil)) .nil))
def fe_slices_IndexFunc_api_Frac : Fe G := ⟨[.v .l_Frac, .fn .Frac .bool], [.int1], fun x => F_slices_IndexFunc_api_Frac x.1 x.2.1⟩
def tb_slices_IndexFunc_api_Frac : List (FuncId × Fe G) := []
theorem ev_slices_IndexFunc_api_Frac (x : TyP G fe_slices_IndexFunc_api_Frac.ps) : evF G (lstK G tb_slices_IndexFunc_api_Frac) (bodyOf Tryz.f122) an_slices_IndexFunc_api_Frac 19 [.tmp 4] fe_slices_IndexFunc_api_Frac.rs (argT G fe_slices_IndexFunc_api_Frac.ps x) = fe_slices_IndexFunc_api_Frac.fn x := by kernel_rfl
theorem ok_slices_IndexFunc_api_Frac : FnOk G 122 fe_slices_IndexFunc_api_Frac := fnOk_of G_ok (lstK_ok G_ok (lnil)) Tryz.func122 (by kernel_rfl) (by kernel_rfl) (by kernel_rfl) (by kernel_rfl) (by kernel_rfl) ev_slices_IndexFunc_api_Frac

def F_slices_Clone_int (s : List Int) : Option ((List Int)) :=
 (if ([] : List Int).length + s.length ≤ 2147483648 then some (([] : List Int) ++ s) else none)
def fe_slices_Clone_int : Fe G := ⟨[.v .l_int1], [.l_int1], fun x => F_slices_Clone_int x.1⟩
theorem ok_slices_Clone_int : FnOk G 124 fe_slices_Clone_int := clone_ok G_ok (lstK_ok G_ok lnil) Tryz.func124 (by kernel_rfl) (by kernel_rfl) (k := 8) (by kernel_rfl) (by decide) (res := [.tmp 2]) (by kernel_rfl) (by kernel_rfl) (t := 22) (by kernel_rfl) (u := .int1) (lu := .l_int1) (by kernel_rfl) (cast := fun x => x) (fun _ => by kernel_rfl) (F := F_slices_Clone_int) (fun _ => by kernel_rfl) (fun x y hx h => by obtain rfl : x = ([] : List Int) := hx; rw [← h]; kernel_rfl)
end
end Go.Proofs.YtcaopooflemnlaaGreat

/- Functions, as plain data. Printed by mkev.py. -/
namespace Go.Proofs.YtcaopooflemnlaaGreat
open Go.RowKit
set_option linter.unusedVariables false
set_option linter.unusedSimpArgs false
noncomputable section

def F_slices_Clone_api_Item (s : List TItem) : Option ((List TItem)) :=
 (if ([] : List TItem).length + s.length ≤ 2147483648 then some (([] : List TItem) ++ s) else none)
def fe_slices_Clone_api_Item : Fe G := ⟨[.v .l_Item], [.l_Item], fun x => F_slices_Clone_api_Item x.1⟩
theorem ok_slices_Clone_api_Item : FnOk G 125 fe_slices_Clone_api_Item := clone_ok G_ok (lstK_ok G_ok lnil) Tryz.func125 (by kernel_rfl) (by kernel_rfl) (k := 8) (by kernel_rfl) (by decide) (res := [.tmp 2]) (by kernel_rfl) (by kernel_rfl) (t := 23) (by kernel_rfl) (u := .Item) (lu := .l_Item) (by kernel_rfl) (cast := fun x => x) (fun _ => by kernel_rfl) (F := F_slices_Clone_api_Item) (fun _ => by kernel_rfl) (fun x y hx h => by obtain rfl : x = ([] : List TItem) := hx; rw [← h]; kernel_rfl)

def F_slices_Clone_api_Brick (s : List TBrick) : Option ((List TBrick)) :=
 (if ([] : List TBrick).length + s.length ≤ 2147483648 then some (([] : List TBrick) ++ s) else none)
def fe_slices_Clone_api_Brick : Fe G := ⟨[.v .l_Brick], [.l_Brick], fun x => F_slices_Clone_api_Brick x.1⟩
theorem ok_slices_Clone_api_Brick : FnOk G 126 fe_slices_Clone_api_Brick := clone_ok G_ok (lstK_ok G_ok lnil) Tryz.func126 (by kernel_rfl) (by kernel_rfl) (k := 8) (by kernel_rfl) (by decide) (res := [.tmp 2]) (by kernel_rfl) (by kernel_rfl) (t := 24) (by kernel_rfl) (u := .Brick) (lu := .l_Brick) (by kernel_rfl) (cast := fun x => x) (fun _ => by kernel_rfl) (F := F_slices_Clone_api_Brick) (fun _ => by kernel_rfl) (fun x y hx h => by obtain rfl : x = ([] : List TBrick) := hx; rw [← h]; kernel_rfl)

def F_batten_middle (x : TItem) : Option (Int) :=
 some (IntKind.i64.wrap (x.at_ + (IntKind.i64.wrap (x.width.tdiv 2))))
def an_batten_middle : An U := .nil
def fe_batten_middle : Fe G := ⟨[.v .Item], [.int1], fun x => F_batten_middle x.1⟩
def tb_batten_middle : List (FuncId × Fe G) := []
theorem ev_batten_middle (x : TyP G fe_batten_middle.ps) : evF G (lstK G tb_batten_middle) (bodyOf Tryz.f131) an_batten_middle 9 [.tmp 2] fe_batten_middle.rs (argT G fe_batten_middle.ps x) = fe_batten_middle.fn x := by kernel_rfl
theorem ok_batten_middle : FnOk G 131 fe_batten_middle := fnOk_of G_ok (lstK_ok G_ok (lnil)) Tryz.func131 (by kernel_rfl) (by kernel_rfl) (by kernel_rfl) (by kernel_rfl) (by kernel_rfl) ev_batten_middle

def F_math_bits_Mul64 (x : Int) (y : Int) : Option (Int × Int) :=
 some ((IntKind.u64.wrap ((IntKind.u64.wrap ((IntKind.u64.wrap ((x.fdiv (2 ^ min (Int.toNat 32) IntKind.u64.bits)) * (y.fdiv (2 ^ min (Int.toNat 32) IntKind.u64.bits)))) + ((IntKind.u64.wrap ((IntKind.u64.wrap ((x.fdiv (2 ^ min (Int.toNat 32) IntKind.u64.bits)) * (bitsOf .and .u64 y 4294967295))) + ((IntKind.u64.wrap ((bitsOf .and .u64 x 4294967295) * (bitsOf .and .u64 y 4294967295))).fdiv (2 ^ min (Int.toNat 32) IntKind.u64.bits)))).fdiv (2 ^ min (Int.toNat 32) IntKind.u64.bits)))) + ((IntKind.u64.wrap ((bitsOf .and .u64 (IntKind.u64.wrap ((IntKind.u64.wrap ((x.fdiv (2 ^ min (Int.toNat 32) IntKind.u64.bits)) * (bitsOf .and .u64 y 4294967295))) + ((IntKind.u64.wrap ((bitsOf .and .u64 x 4294967295) * (bitsOf .and .u64 y 4294967295))).fdiv (2 ^ min (Int.toNat 32) IntKind.u64.bits)))) 4294967295) + (IntKind.u64.wrap ((bitsOf .and .u64 x 4294967295) * (y.fdiv (2 ^ min (Int.toNat 32) IntKind.u64.bits)))))).fdiv (2 ^ min (Int.toNat 32) IntKind.u64.bits)))), (IntKind.u64.wrap (x * y)))
def an_math_bits_Mul64 : An U := .nil
def fe_math_bits_Mul64 : Fe G := ⟨[.v .u64, .v .u64], [.u64, .u64], fun x => F_math_bits_Mul64 x.1 x.2.1⟩
def tb_math_bits_Mul64 : List (FuncId × Fe G) := []
theorem ev_math_bits_Mul64 (x : TyP G fe_math_bits_Mul64.ps) : evF G (lstK G tb_math_bits_Mul64) (bodyOf Tryz.f132) an_math_bits_Mul64 51 [.tmp 4, .tmp 5] fe_math_bits_Mul64.rs (argT G fe_math_bits_Mul64.ps x) = fe_math_bits_Mul64.fn x := by kernel_rfl
theorem ok_math_bits_Mul64 : FnOk G 132 fe_math_bits_Mul64 := fnOk_of G_ok (lstK_ok G_ok (lnil)) Tryz.func132 (by kernel_rfl) (by kernel_rfl) (by kernel_rfl) (by kernel_rfl) (by kernel_rfl) ev_math_bits_Mul64

def F_decimal_letter (c : Int) : Option (Bool) :=
 ((bif (decide (c ≥ 97)) then (bif (decide (c ≤ 122)) then some (true, ()) else (bif (decide (c ≥ 65)) then some ((decide (c ≤ 90)), ()) else some (false, ()))) else (bif (decide (c ≥ 65)) then some ((decide (c ≤ 90)), ()) else some (false, ()))) : Option (Bool × Unit)).bind fun y1 => some y1.1
def an_decimal_letter : An U := (.node none .nil (.node (some ⟨[], [], ⟨[], []⟩, [(.normal, ⟨[(2, .tv .bool)], []⟩)]⟩) .nil .nil))
def fe_decimal_letter : Fe G := ⟨[.v .u8], [.bool], fun x => F_decimal_letter x.1⟩
def tb_decimal_letter : List (FuncId × Fe G) := []
theorem ev_decimal_letter (x : TyP G fe_decimal_letter.ps) : evF G (lstK G tb_decimal_letter) (bodyOf Tryz.f136) an_decimal_letter 17 [.tmp 2] fe_decimal_letter.rs (argT G fe_decimal_letter.ps x) = fe_decimal_letter.fn x := by kernel_rfl
theorem ok_decimal_letter : FnOk G 136 fe_decimal_letter := fnOk_of G_ok (lstK_ok G_ok (lnil)) Tryz.func136 (by kernel_rfl) (by kernel_rfl) (by kernel_rfl) (by kernel_rfl) (by kernel_rfl) ev_decimal_letter

def F_batten_twice_api_Item (l : List TItem) (name : TItem → Option ByteArray) : Option (Bool) :=
 (iterF (σ := Int × List (ByteArray × Bool) × Unit) (ρ := List (ByteArray × Bool) × Unit) (fun s5 => (bif (decide (s5.1 < ((l.length : Nat) : Int))) then (idx l s5.1).bind fun x6 => (name x6).bind fun r7 => (if r7.size ≤ 2147483648 ∧ s5.2.1.length ≤ 2147483648 then some (.inl ((IntKind.i64.wrap (s5.1 + 1)), (setM r7 true s5.2.1), ())) else none) else some (.inr (s5.2.1, ())))) big (0, ([] : List (ByteArray × Bool)), ())).bind fun y8 => some (decide (((y8.1.length : Nat) : Int) < ((l.length : Nat) : Int)))
def an_batten_twice_api_Item : An U := (.node none .nil (.node none .nil (.node none (.node none .nil (.node none (.node (some ⟨[0, 1, 4, 5, 9, 10], [0], ⟨[(11, .tv .int)], [(0, .map 186 false)]⟩, [(.exit 0, ⟨[], [(0, .map 186 false)]⟩)]⟩) .nil .nil) .nil)) .nil)))
def fe_batten_twice_api_Item : Fe G := ⟨[.v .l_Item, .fn .Item .str], [.bool], fun x => F_batten_twice_api_Item x.1 x.2.1⟩
def tb_batten_twice_api_Item : List (FuncId × Fe G) := []
theorem ev_batten_twice_api_Item (x : TyP G fe_batten_twice_api_Item.ps) : evF G (lstK G tb_batten_twice_api_Item) (bodyOf Tryz.f138) an_batten_twice_api_Item 26 [.tmp 4] fe_batten_twice_api_Item.rs (argT G fe_batten_twice_api_Item.ps x) = fe_batten_twice_api_Item.fn x := by kernel_rfl
theorem ok_batten_twice_api_Item : FnOk G 138 fe_batten_twice_api_Item := fnOk_of G_ok (lstK_ok G_ok (lnil)) Tryz.func138 (by kernel_rfl) (by kernel_rfl) (by kernel_rfl) (by kernel_rfl) (by kernel_rfl) ev_batten_twice_api_Item

def F_batten_items_1 (x : TItem) : Option (ByteArray) :=
 some x.name
def an_batten_items_1 : An U := .nil
def fe_batten_items_1 : Fe G := ⟨[.v .Item], [.str], fun x => F_batten_items_1 x.1⟩
def tb_batten_items_1 : List (FuncId × Fe G) := []
theorem ev_batten_items_1 (x : TyP G fe_batten_items_1.ps) : evF G (lstK G tb_batten_items_1) (bodyOf Tryz.f139) an_batten_items_1 5 [.tmp 2] fe_batten_items_1.rs (argT G fe_batten_items_1.ps x) = fe_batten_items_1.fn x := by kernel_rfl
theorem ok_batten_items_1 : FnOk G 139 fe_batten_items_1 := fnOk_of G_ok (lstK_ok G_ok (lnil)) Tryz.func139 (by kernel_rfl) (by kernel_rfl) (by kernel_rfl) (by kernel_rfl) (by kernel_rfl) ev_batten_items_1

def F_batten_apart (a : TItem) (b : TItem) : Option (Bool) :=
 ((bif (decide ((IntKind.i64.wrap (a.at_ + a.width)) ≤ b.at_)) then some (true, ()) else some ((decide ((IntKind.i64.wrap (b.at_ + b.width)) ≤ a.at_)), ())) : Option (Bool × Unit)).bind fun y1 => some y1.1
def an_batten_apart : An U := (.node none .nil (.node (some ⟨[], [], ⟨[], []⟩, [(.normal, ⟨[(4, .tv .bool)], []⟩)]⟩) .nil .nil))
def fe_batten_apart : Fe G := ⟨[.v .Item, .v .Item], [.bool], fun x => F_batten_apart x.1 x.2.1⟩
def tb_batten_apart : List (FuncId × Fe G) := []
theorem ev_batten_apart (x : TyP G fe_batten_apart.ps) : evF G (lstK G tb_batten_apart) (bodyOf Tryz.f143) an_batten_apart 23 [.tmp 4] fe_batten_apart.rs (argT G fe_batten_apart.ps x) = fe_batten_apart.fn x := by kernel_rfl
theorem ok_batten_apart : FnOk G 143 fe_batten_apart := fnOk_of G_ok (lstK_ok G_ok (lnil)) Tryz.func143 (by kernel_rfl) (by kernel_rfl) (by kernel_rfl) (by kernel_rfl) (by kernel_rfl) ev_batten_apart

def F_batten_twice_api_Brick (l : List TBrick) (name : TBrick → Option ByteArray) : Option (Bool) :=
 (iterF (σ := Int × List (ByteArray × Bool) × Unit) (ρ := List (ByteArray × Bool) × Unit) (fun s5 => (bif (decide (s5.1 < ((l.length : Nat) : Int))) then (idx l s5.1).bind fun x6 => (name x6).bind fun r7 => (if r7.size ≤ 2147483648 ∧ s5.2.1.length ≤ 2147483648 then some (.inl ((IntKind.i64.wrap (s5.1 + 1)), (setM r7 true s5.2.1), ())) else none) else some (.inr (s5.2.1, ())))) big (0, ([] : List (ByteArray × Bool)), ())).bind fun y8 => some (decide (((y8.1.length : Nat) : Int) < ((l.length : Nat) : Int)))
def an_batten_twice_api_Brick : An U := (.node none .nil (.node none .nil (.node none (.node none .nil (.node none (.node (some ⟨[0, 1, 4, 5, 9, 10], [0], ⟨[(11, .tv .int)], [(0, .map 186 false)]⟩, [(.exit 0, ⟨[], [(0, .map 186 false)]⟩)]⟩) .nil .nil) .nil)) .nil)))
def fe_batten_twice_api_Brick : Fe G := ⟨[.v .l_Brick, .fn .Brick .str], [.bool], fun x => F_batten_twice_api_Brick x.1 x.2.1⟩
def tb_batten_twice_api_Brick : List (FuncId × Fe G) := []
theorem ev_batten_twice_api_Brick (x : TyP G fe_batten_twice_api_Brick.ps) : evF G (lstK G tb_batten_twice_api_Brick) (bodyOf Tryz.f144) an_batten_twice_api_Brick 26 [.tmp 4] fe_batten_twice_api_Brick.rs (argT G fe_batten_twice_api_Brick.ps x) = fe_batten_twice_api_Brick.fn x := by kernel_rfl
theorem ok_batten_twice_api_Brick : FnOk G 144 fe_batten_twice_api_Brick := fnOk_of G_ok (lstK_ok G_ok (lnil)) Tryz.func144 (by kernel_rfl) (by kernel_rfl) (by kernel_rfl) (by kernel_rfl) (by kernel_rfl) ev_batten_twice_api_Brick

def F_batten_bricks_1 (b : TBrick) : Option (ByteArray) :=
 some b.name
def an_batten_bricks_1 : An U := .nil
def fe_batten_bricks_1 : Fe G := ⟨[.v .Brick], [.str], fun x => F_batten_bricks_1 x.1⟩
def tb_batten_bricks_1 : List (FuncId × Fe G) := []
theorem ev_batten_bricks_1 (x : TyP G fe_batten_bricks_1.ps) : evF G (lstK G tb_batten_bricks_1) (bodyOf Tryz.f145) an_batten_bricks_1 5 [.tmp 2] fe_batten_bricks_1.rs (argT G fe_batten_bricks_1.ps x) = fe_batten_bricks_1.fn x := by kernel_rfl
theorem ok_batten_bricks_1 : FnOk G 145 fe_batten_bricks_1 := fnOk_of G_ok (lstK_ok G_ok (lnil)) Tryz.func145 (by kernel_rfl) (by kernel_rfl) (by kernel_rfl) (by kernel_rfl) (by kernel_rfl) ev_batten_bricks_1

def F_ref01_Digit (c : Int) : Option (Bool) :=
 ((bif (decide (c ≥ 48)) then some ((decide (c ≤ 57)), ()) else some (false, ())) : Option (Bool × Unit)).bind fun y1 => some y1.1
def an_ref01_Digit : An U := (.node none .nil (.node (some ⟨[], [], ⟨[], []⟩, [(.normal, ⟨[(2, .tv .bool)], []⟩)]⟩) .nil .nil))
def fe_ref01_Digit : Fe G := ⟨[.v .u8], [.bool], fun x => F_ref01_Digit x.1⟩
def tb_ref01_Digit : List (FuncId × Fe G) := []
theorem ev_ref01_Digit (x : TyP G fe_ref01_Digit.ps) : evF G (lstK G tb_ref01_Digit) (bodyOf Tryz.f147) an_ref01_Digit 9 [.tmp 2] fe_ref01_Digit.rs (argT G fe_ref01_Digit.ps x) = fe_ref01_Digit.fn x := by kernel_rfl
theorem ok_ref01_Digit : FnOk G 147 fe_ref01_Digit := fnOk_of G_ok (lstK_ok G_ok (lnil)) Tryz.func147 (by kernel_rfl) (by kernel_rfl) (by kernel_rfl) (by kernel_rfl) (by kernel_rfl) ev_ref01_Digit

def F_ref21_Middle (x : TItem) : Option (Int) :=
 some (IntKind.i64.wrap (x.at_ + (IntKind.i64.wrap (x.width.tdiv 2))))
def an_ref21_Middle : An U := .nil
def fe_ref21_Middle : Fe G := ⟨[.v .Item], [.int1], fun x => F_ref21_Middle x.1⟩
def tb_ref21_Middle : List (FuncId × Fe G) := []
theorem ev_ref21_Middle (x : TyP G fe_ref21_Middle.ps) : evF G (lstK G tb_ref21_Middle) (bodyOf Tryz.f150) an_ref21_Middle 9 [.tmp 2] fe_ref21_Middle.rs (argT G fe_ref21_Middle.ps x) = fe_ref21_Middle.fn x := by kernel_rfl
theorem ok_ref21_Middle : FnOk G 150 fe_ref21_Middle := fnOk_of G_ok (lstK_ok G_ok (lnil)) Tryz.func150 (by kernel_rfl) (by kernel_rfl) (by kernel_rfl) (by kernel_rfl) (by kernel_rfl) ev_ref21_Middle

def F_beam_exact__fraction (a : Texact) : Option (TFrac × Int) :=
 (bif (decide (((a.n.words.length : Nat) : Int) > 2)) then some ((TFrac.mk 0 0), 5) else (iterF (σ := Int × TAr199 × Unit) (ρ := TAr199 × Unit) (fun s7 => (bif (decide (s7.1 < ((a.n.words.length : Nat) : Int))) then (idx a.n.words s7.1).bind fun x8 => (if (IntKind.i64.wrap (32 * s7.1)) < 0 then none else some (.inl ((IntKind.i64.wrap (s7.1 + 1)), (TAr199.mk (bitsOf .or .u64 s7.2.1.e0 (IntKind.u64.wrap ((IntKind.u64.wrap x8) * 2 ^ min (Int.toNat (IntKind.i64.wrap (32 * s7.1))) IntKind.u64.bits))) s7.2.1.e1), ()))) else some (.inr (s7.2.1, ())))) big (0, (TAr199.mk 0 0), ())).bind fun y11 => (bif (decide (y11.1.e0 > 1152921504606846976)) then some ((TFrac.mk 0 0), 5) else (bif (decide (((a.d.words.length : Nat) : Int) > 2)) then some ((TFrac.mk 0 0), 5) else (iterF (σ := Int × TAr199 × Unit) (ρ := TAr199 × Unit) (fun s13 => (bif (decide (s13.1 < ((a.d.words.length : Nat) : Int))) then (idx a.d.words s13.1).bind fun x14 => (if (IntKind.i64.wrap (32 * s13.1)) < 0 then none else some (.inl ((IntKind.i64.wrap (s13.1 + 1)), (TAr199.mk s13.2.1.e0 (bitsOf .or .u64 s13.2.1.e1 (IntKind.u64.wrap ((IntKind.u64.wrap x14) * 2 ^ min (Int.toNat (IntKind.i64.wrap (32 * s13.1))) IntKind.u64.bits)))), ()))) else some (.inr (s13.2.1, ())))) big (0, y11.1, ())).bind fun y17 => (bif (decide (y17.1.e1 > 1152921504606846976)) then some ((TFrac.mk 0 0), 5) else ((bif a.n.neg then some ((TFrac.mk (IntKind.i64.wrap (0 - (IntKind.i64.wrap y17.1.e0))) (IntKind.i64.wrap y17.1.e1)), ()) else some ((TFrac.mk (IntKind.i64.wrap y17.1.e0) (IntKind.i64.wrap y17.1.e1)), ())) : Option (TFrac × Unit)).bind fun y21 => some (y21.1, 0)))))
def an_beam_exact__fraction : An U := (.node none .nil (.node none .nil (.node none (.node none .nil (.node none (.node none (.node none .nil (.node none .nil (.node none (.node none (.node none .nil (.node none .nil (.node none (.node none .nil (.node none (.node (some ⟨[1, 2, 3, 4, 5, 14, 15, 25, 26], [2], ⟨[(27, .tv .int)], [(2, .bx .ar199 [])]⟩, [(.exit 2, ⟨[], [(2, .bx .ar199 [])]⟩)]⟩) .nil .nil) .nil)) .nil))) .nil) .nil))) .nil) .nil)) (.node none .nil (.node (some ⟨[2, 3, 9], [5], ⟨[], []⟩, [(.normal, ⟨[], [(5, .bx .Frac [])]⟩)]⟩) .nil .nil)))))
def fe_beam_exact__fraction : Fe G := ⟨[.v .exact], [.Frac, .Errno], fun x => F_beam_exact__fraction x.1⟩
def tb_beam_exact__fraction : List (FuncId × Fe G) := []
theorem ev_beam_exact__fraction (x : TyP G fe_beam_exact__fraction.ps) : evF G (lstK G tb_beam_exact__fraction) (bodyOf Tryz.f164) an_beam_exact__fraction 64 [.cell 2 43, .tmp 3] fe_beam_exact__fraction.rs (argT G fe_beam_exact__fraction.ps x) = fe_beam_exact__fraction.fn x := by kernel_rfl
theorem ok_beam_exact__fraction : FnOk G 164 fe_beam_exact__fraction := fnOk_of G_ok (lstK_ok G_ok (lnil)) Tryz.func164 (by kernel_rfl) (by kernel_rfl) (by kernel_rfl) (by kernel_rfl) (by kernel_rfl) ev_beam_exact__fraction

def F_decimal_digit (c : Int) : Option (Bool) :=
 ((bif (decide (c ≥ 48)) then some ((decide (c ≤ 57)), ()) else some (false, ())) : Option (Bool × Unit)).bind fun y1 => some y1.1
def an_decimal_digit : An U := (.node none .nil (.node (some ⟨[], [], ⟨[], []⟩, [(.normal, ⟨[(2, .tv .bool)], []⟩)]⟩) .nil .nil))
def fe_decimal_digit : Fe G := ⟨[.v .u8], [.bool], fun x => F_decimal_digit x.1⟩
def tb_decimal_digit : List (FuncId × Fe G) := []
theorem ev_decimal_digit (x : TyP G fe_decimal_digit.ps) : evF G (lstK G tb_decimal_digit) (bodyOf Tryz.f173) an_decimal_digit 9 [.tmp 2] fe_decimal_digit.rs (argT G fe_decimal_digit.ps x) = fe_decimal_digit.fn x := by kernel_rfl
theorem ok_decimal_digit : FnOk G 173 fe_decimal_digit := fnOk_of G_ok (lstK_ok G_ok (lnil)) Tryz.func173 (by kernel_rfl) (by kernel_rfl) (by kernel_rfl) (by kernel_rfl) (by kernel_rfl) ev_decimal_digit

def F_ref08_larger (a : List Int) (b : List Int) : Option (Bool) :=
 (bif (((a.length : Nat) : Int) != ((b.length : Nat) : Int)) then some (decide (((a.length : Nat) : Int) > ((b.length : Nat) : Int))) else (iterF (σ := Int × Unit) (ρ := (Bool × Unit) ⊕ (Unit)) (fun s5 => (bif (decide (s5.1 ≥ 0)) then (idx a s5.1).bind fun x6 => (idx b s5.1).bind fun x7 => (bif (x6 != x7) then (idx a s5.1).bind fun x8 => (idx b s5.1).bind fun x9 => some (.inr (.inl ((decide (x8 > x9)), ()))) else some (.inl ((IntKind.i64.wrap (s5.1 - 1)), ()))) else some (.inr (.inr ((())))))) big ((IntKind.i64.wrap (((a.length : Nat) : Int) - 1)), ())).bind fun y10 => (match y10 with | .inl y11 => some y11.1 | .inr y12 => some false))
def an_ref08_larger : An U := (.node none .nil (.node none .nil (.node none (.node none .nil (.node none (.node (some ⟨[0, 1], [], ⟨[(5, .tv .int)], []⟩, [(.ret, ⟨[(4, .tv .bool)], []⟩), (.exit 0, ⟨[], []⟩)]⟩) .nil .nil) .nil)) .nil)))
def fe_ref08_larger : Fe G := ⟨[.v .l_int1, .v .l_int1], [.bool], fun x => F_ref08_larger x.1 x.2.1⟩
def tb_ref08_larger : List (FuncId × Fe G) := []
theorem ev_ref08_larger (x : TyP G fe_ref08_larger.ps) : evF G (lstK G tb_ref08_larger) (bodyOf Tryz.f179) an_ref08_larger 41 [.tmp 4] fe_ref08_larger.rs (argT G fe_ref08_larger.ps x) = fe_ref08_larger.fn x := by kernel_rfl
theorem ok_ref08_larger : FnOk G 179 fe_ref08_larger := fnOk_of G_ok (lstK_ok G_ok (lnil)) Tryz.func179 (by kernel_rfl) (by kernel_rfl) (by kernel_rfl) (by kernel_rfl) (by kernel_rfl) ev_ref08_larger

def F_ref08_Neg (a : TBig) : Option (TBig) :=
 ((bif (!a.neg) then some ((TBig.mk (decide (((a.d.length : Nat) : Int) > 0)) a.d), ()) else some ((TBig.mk false a.d), ())) : Option (TBig × Unit)).bind fun y1 => some y1.1
def an_ref08_Neg : An U := (.node none .nil (.node (some ⟨[1, 2], [0], ⟨[], []⟩, [(.normal, ⟨[], [(0, .bx .Big [])]⟩)]⟩) .nil .nil))
def fe_ref08_Neg : Fe G := ⟨[.v .Big], [.Big], fun x => F_ref08_Neg x.1⟩
def tb_ref08_Neg : List (FuncId × Fe G) := []
theorem ev_ref08_Neg (x : TyP G fe_ref08_Neg.ps) : evZ G (lstK G tb_ref08_Neg) (bodyOf Tryz.f184) an_ref08_Neg 14 [.cell 2 162] fe_ref08_Neg.rs (argT G fe_ref08_Neg.ps x) = fe_ref08_Neg.fn x := by kernel_rfl
theorem ok_ref08_Neg : FnOk G 184 fe_ref08_Neg := fnOkz_of G_ok (fun _ => lstK_ok G_ok (lnil)) Tryz.func184 (by kernel_rfl) (by kernel_rfl) (by kernel_rfl) (by kernel_rfl) (by kernel_rfl) ev_ref08_Neg

def F_beam_Valid_1 (x : TLoad) (a1 : TBeam) : Option (Bool) :=
 ((bif (decide (x.at_ < 0)) then some (true, ()) else (bif (decide (x.at_ > a1.length)) then some (true, ()) else (bif (decide (x.weight < 0)) then some (true, ()) else some ((decide (x.weight > 67108864)), ())))) : Option (Bool × Unit)).bind fun y1 => some y1.1
def an_beam_Valid_1 : An U := (.node none .nil (.node (some ⟨[], [], ⟨[], []⟩, [(.normal, ⟨[(3, .tv .bool)], []⟩)]⟩) .nil .nil))
def fe_beam_Valid_1 : Fe G := ⟨[.v .Load, .rp .Beam], [.bool], fun x => F_beam_Valid_1 x.1 x.2.1⟩
def tb_beam_Valid_1 : List (FuncId × Fe G) := []
theorem ev_beam_Valid_1 (x : TyP G fe_beam_Valid_1.ps) : evF G (lstK G tb_beam_Valid_1) (bodyOf Tryz.f188) an_beam_Valid_1 24 [.tmp 3] fe_beam_Valid_1.rs (argT G fe_beam_Valid_1.ps x) = fe_beam_Valid_1.fn x := by kernel_rfl
theorem ok_beam_Valid_1 : FnOk G 188 fe_beam_Valid_1 := fnOk_of G_ok (lstK_ok G_ok (lnil)) Tryz.func188 (by kernel_rfl) (by kernel_rfl) (by kernel_rfl) (by kernel_rfl) (by kernel_rfl) ev_beam_Valid_1

def F_beam_number__sign (a : Tnumber) : Option (Int) :=
 (bif (((a.words.length : Nat) : Int) == 0) then some 0 else (bif a.neg then some (-1) else some 1))
def an_beam_number__sign : An U := .nil
def fe_beam_number__sign : Fe G := ⟨[.v .number], [.int1], fun x => F_beam_number__sign x.1⟩
def tb_beam_number__sign : List (FuncId × Fe G) := []
theorem ev_beam_number__sign (x : TyP G fe_beam_number__sign.ps) : evF G (lstK G tb_beam_number__sign) (bodyOf Tryz.f190) an_beam_number__sign 11 [.tmp 2] fe_beam_number__sign.rs (argT G fe_beam_number__sign.ps x) = fe_beam_number__sign.fn x := by kernel_rfl
theorem ok_beam_number__sign : FnOk G 190 fe_beam_number__sign := fnOk_of G_ok (lstK_ok G_ok (lnil)) Tryz.func190 (by kernel_rfl) (by kernel_rfl) (by kernel_rfl) (by kernel_rfl) (by kernel_rfl) ev_beam_number__sign

def F_beam_number__opposite (a : Tnumber) : Option (Tnumber) :=
 some (Tnumber.mk (!a.neg) a.words)
def an_beam_number__opposite : An U := .nil
def fe_beam_number__opposite : Fe G := ⟨[.v .number], [.number], fun x => F_beam_number__opposite x.1⟩
def tb_beam_number__opposite : List (FuncId × Fe G) := []
theorem ev_beam_number__opposite (x : TyP G fe_beam_number__opposite.ps) : evZ G (lstK G tb_beam_number__opposite) (bodyOf Tryz.f198) an_beam_number__opposite 9 [.cell 2 174] fe_beam_number__opposite.rs (argT G fe_beam_number__opposite.ps x) = fe_beam_number__opposite.fn x := by kernel_rfl
theorem ok_beam_number__opposite : FnOk G 198 fe_beam_number__opposite := fnOkz_of G_ok (fun _ => lstK_ok G_ok (lnil)) Tryz.func198 (by kernel_rfl) (by kernel_rfl) (by kernel_rfl) (by kernel_rfl) (by kernel_rfl) ev_beam_number__opposite

def F_ref08_Sign (a : TExact) : Option (Int) :=
 (bif a.n.neg then some (-1) else (bif (((a.n.d.length : Nat) : Int) == 0) then some 0 else some 1))
def an_ref08_Sign : An U := .nil
def fe_ref08_Sign : Fe G := ⟨[.v .Exact], [.int1], fun x => F_ref08_Sign x.1⟩
def tb_ref08_Sign : List (FuncId × Fe G) := []
theorem ev_ref08_Sign (x : TyP G fe_ref08_Sign.ps) : evF G (lstK G tb_ref08_Sign) (bodyOf Tryz.f201) an_ref08_Sign 11 [.tmp 2] fe_ref08_Sign.rs (argT G fe_ref08_Sign.ps x) = fe_ref08_Sign.fn x := by kernel_rfl
theorem ok_ref08_Sign : FnOk G 201 fe_ref08_Sign := fnOk_of G_ok (lstK_ok G_ok (lnil)) Tryz.func201 (by kernel_rfl) (by kernel_rfl) (by kernel_rfl) (by kernel_rfl) (by kernel_rfl) ev_ref08_Sign

def F_ref20_Turned (b : TBeam) : Option (TBeam) :=
 (iterF (σ := Int × TBeam × Unit) (ρ := TBeam × Unit) (fun s3 => (bif (decide (s3.1 ≥ 0)) then (idx b.supports s3.1).bind fun x4 => (if s3.2.1.supports.length + ([(IntKind.i64.wrap (b.length - x4))] : List Int).length ≤ 2147483648 then some (.inl ((IntKind.i64.wrap (s3.1 - 1)), (TBeam.mk s3.2.1.name s3.2.1.length (s3.2.1.supports ++ ([(IntKind.i64.wrap (b.length - x4))] : List Int)) s3.2.1.loads s3.2.1.even), ())) else none) else some (.inr (s3.2.1, ())))) big ((IntKind.i64.wrap (((b.supports.length : Nat) : Int) - 1)), (TBeam.mk b.name b.length ([] : List Int) ([] : List TLoad) b.even), ())).bind fun y5 => (iterF (σ := Int × TBeam × Unit) (ρ := TBeam × Unit) (fun s12 => (bif (decide (s12.1 < ((b.loads.length : Nat) : Int))) then (idx b.loads s12.1).bind fun x13 => (idx b.loads s12.1).bind fun x14 => (if s12.2.1.loads.length + ([(TLoad.mk (IntKind.i64.wrap (b.length - x13.at_)) x14.weight)] : List TLoad).length ≤ 2147483648 then some (.inl ((IntKind.i64.wrap (s12.1 + 1)), (TBeam.mk s12.2.1.name s12.2.1.length s12.2.1.supports (s12.2.1.loads ++ ([(TLoad.mk (IntKind.i64.wrap (b.length - x13.at_)) x14.weight)] : List TLoad)) s12.2.1.even), ())) else none) else some (.inr (s12.2.1, ())))) big (0, y5.1, ())).bind fun y15 => some y15.1
def an_ref20_Turned : An U := (.node none .nil (.node none .nil (.node none .nil (.node none .nil (.node none (.node none .nil (.node none (.node (some ⟨[1, 2, 3], [2], ⟨[(4, .tv .int)], [(2, .bx .Beam [2, 3])]⟩, [(.exit 0, ⟨[], [(2, .bx .Beam [2, 3])]⟩)]⟩) .nil .nil) .nil)) (.node none (.node none .nil (.node none (.node (some ⟨[1, 2, 3], [2, 3, 4], ⟨[(5, .tv .int)], [(2, .bx .Beam [2, 3]), (3, .gone), (4, .gone)]⟩, [(.exit 2, ⟨[], [(2, .bx .Beam [2, 3])]⟩)]⟩) .nil .nil) .nil)) .nil))))))
def fe_ref20_Turned : Fe G := ⟨[.v .Beam], [.Beam], fun x => F_ref20_Turned x.1⟩
def tb_ref20_Turned : List (FuncId × Fe G) := []
theorem ev_ref20_Turned (x : TyP G fe_ref20_Turned.ps) : evF G (lstK G tb_ref20_Turned) (bodyOf Tryz.f202) an_ref20_Turned 59 [.cell 2 104] fe_ref20_Turned.rs (argT G fe_ref20_Turned.ps x) = fe_ref20_Turned.fn x := by kernel_rfl
theorem ok_ref20_Turned : FnOk G 202 fe_ref20_Turned := fnOk_of G_ok (lstK_ok G_ok (lnil)) Tryz.func202 (by kernel_rfl) (by kernel_rfl) (by kernel_rfl) (by kernel_rfl) (by kernel_rfl) ev_ref20_Turned

def F_ref08_trim (b : TBig) : Option (TBig) :=
 (iterF (σ := Int × Unit) (ρ := Int × Unit) (fun s4 => ((bif (decide (s4.1 > 0)) then (idx b.d (IntKind.i64.wrap (s4.1 - 1))).bind fun x5 => some ((x5 == 0), ()) else some (false, ())) : Option (Bool × Unit)).bind fun y6 => (bif y6.1 then some (.inl ((IntKind.i64.wrap (s4.1 - 1)), ())) else some (.inr (s4.1, ())))) big (((b.d.length : Nat) : Int), ())).bind fun y7 => (if 0 ≤ (0 : Int) ∧ (0 : Int) ≤ y7.1 ∧ y7.1 ≤ ((b.d.length : Nat) : Int) then ((bif (y7.1 == 0) then some ((TBig.mk false ((b.d.take (Int.toNat y7.1)).drop (Int.toNat (0 : Int)))), ()) else some ((TBig.mk b.neg ((b.d.take (Int.toNat y7.1)).drop (Int.toNat (0 : Int)))), ())) : Option (TBig × Unit)).bind fun y8 => some y8.1 else none)
def an_ref08_trim : An U := (.node none .nil (.node none .nil (.node none (.node none (.node (some ⟨[1, 2], [], ⟨[(3, .tv .int)], []⟩, [(.exit 0, ⟨[(3, .tv .int)], []⟩)]⟩) (.node none (.node (some ⟨[3], [], ⟨[], []⟩, [(.normal, ⟨[(17, .tv .bool)], []⟩)]⟩) .nil .nil) .nil) .nil) .nil) (.node none .nil (.node (some ⟨[1, 2], [0], ⟨[], []⟩, [(.normal, ⟨[], [(0, .bx .Big [])]⟩)]⟩) .nil .nil)))))
def fe_ref08_trim : Fe G := ⟨[.v .Big], [.Big], fun x => F_ref08_trim x.1⟩
def tb_ref08_trim : List (FuncId × Fe G) := []
theorem ev_ref08_trim (x : TyP G fe_ref08_trim.ps) : evZ G (lstK G tb_ref08_trim) (bodyOf Tryz.f204) an_ref08_trim 29 [.cell 2 162] fe_ref08_trim.rs (argT G fe_ref08_trim.ps x) = fe_ref08_trim.fn x := by kernel_rfl
theorem ok_ref08_trim : FnOk G 204 fe_ref08_trim := fnOkz_of G_ok (fun _ => lstK_ok G_ok (lnil)) Tryz.func204 (by kernel_rfl) (by kernel_rfl) (by kernel_rfl) (by kernel_rfl) (by kernel_rfl) ev_ref08_trim

def F_ref08_digit (l : List Int) (i : Int) : Option (Int) :=
 (bif (decide (i < ((l.length : Nat) : Int))) then (idx l i).bind fun x1 => some x1 else some 0)
def an_ref08_digit : An U := .nil
def fe_ref08_digit : Fe G := ⟨[.v .l_int1, .v .int1], [.int1], fun x => F_ref08_digit x.1 x.2.1⟩
def tb_ref08_digit : List (FuncId × Fe G) := []
theorem ev_ref08_digit (x : TyP G fe_ref08_digit.ps) : evF G (lstK G tb_ref08_digit) (bodyOf Tryz.f206) an_ref08_digit 13 [.tmp 4] fe_ref08_digit.rs (argT G fe_ref08_digit.ps x) = fe_ref08_digit.fn x := by kernel_rfl
theorem ok_ref08_digit : FnOk G 206 fe_ref08_digit := fnOk_of G_ok (lstK_ok G_ok (lnil)) Tryz.func206 (by kernel_rfl) (by kernel_rfl) (by kernel_rfl) (by kernel_rfl) (by kernel_rfl) ev_ref08_digit

def F_ref08_even (a : List Int) : Option (Bool) :=
 ((bif (((a.length : Nat) : Int) == 0) then some (true, ()) else (idx a 0).bind fun x2 => some (((x2.tmod 2) == 0), ())) : Option (Bool × Unit)).bind fun y3 => some y3.1
def an_ref08_even : An U := (.node none .nil (.node (some ⟨[], [], ⟨[], []⟩, [(.normal, ⟨[(2, .tv .bool)], []⟩)]⟩) .nil .nil))
def fe_ref08_even : Fe G := ⟨[.v .l_int1], [.bool], fun x => F_ref08_even x.1⟩
def tb_ref08_even : List (FuncId × Fe G) := []
theorem ev_ref08_even (x : TyP G fe_ref08_even.ps) : evF G (lstK G tb_ref08_even) (bodyOf Tryz.f207) an_ref08_even 13 [.tmp 2] fe_ref08_even.rs (argT G fe_ref08_even.ps x) = fe_ref08_even.fn x := by kernel_rfl
theorem ok_ref08_even : FnOk G 207 fe_ref08_even := fnOk_of G_ok (lstK_ok G_ok (lnil)) Tryz.func207 (by kernel_rfl) (by kernel_rfl) (by kernel_rfl) (by kernel_rfl) (by kernel_rfl) ev_ref08_even

def F_slices_IndexFunc_api_Load (s : List TLoad) (f : TLoad → Option Bool) : Option (Int) :=
 (iterF (σ := Int × Unit) (ρ := (Int × Unit) ⊕ (Unit)) (fun s3 => (bif (decide (s3.1 < ((s.length : Nat) : Int))) then (idx s s3.1).bind fun x4 => (f x4).bind fun r5 => (bif r5 then some (.inr (.inl (s3.1, ()))) else some (.inl ((IntKind.i64.wrap (s3.1 + 1)), ()))) else some (.inr (.inr ((())))))) big (0, ())).bind fun y6 => (match y6 with | .inl y7 => some y7.1 | .inr y8 => some (-1))
def an_slices_IndexFunc_api_Load : An U := (.node none .nil (.node none (.node none .nil (.node none (.node (some ⟨[0, 1, 7], [], ⟨[(8, .tv .int)], []⟩, [(.ret, ⟨[(4, .tv .int)], []⟩), (.exit 0, ⟨[], []⟩)]⟩) .nil .nil) .nil)) .nil))
def fe_slices_IndexFunc_api_Load : Fe G := ⟨[.v .l_Load, .fn .Load .bool], [.int1], fun x => F_slices_IndexFunc_api_Load x.1 x.2.1⟩
def tb_slices_IndexFunc_api_Load : List (FuncId × Fe G) := []
theorem ev_slices_IndexFunc_api_Load (x : TyP G fe_slices_IndexFunc_api_Load.ps) : evF G (lstK G tb_slices_IndexFunc_api_Load) (bodyOf Tryz.f209) an_slices_IndexFunc_api_Load 19 [.tmp 4] fe_slices_IndexFunc_api_Load.rs (argT G fe_slices_IndexFunc_api_Load.ps x) = fe_slices_IndexFunc_api_Load.fn x := by kernel_rfl
theorem ok_slices_IndexFunc_api_Load : FnOk G 209 fe_slices_IndexFunc_api_Load := fnOk_of G_ok (lstK_ok G_ok (lnil)) Tryz.func209 (by kernel_rfl) (by kernel_rfl) (by kernel_rfl) (by kernel_rfl) (by kernel_rfl) ev_slices_IndexFunc_api_Load

def F_beam_trimmed (w : List Int) : Option ((List Int)) :=
 (iterF (σ := (List Int) × Unit) (ρ := (List Int) × Unit) (fun s4 => ((bif (decide (((s4.1.length : Nat) : Int) > 0)) then (idx s4.1 (IntKind.i64.wrap (((s4.1.length : Nat) : Int) - 1))).bind fun x5 => some ((x5 == 0), ()) else some (false, ())) : Option (Bool × Unit)).bind fun y6 => (bif y6.1 then (if 0 ≤ (0 : Int) ∧ (0 : Int) ≤ (IntKind.i64.wrap (((s4.1.length : Nat) : Int) - 1)) ∧ (IntKind.i64.wrap (((s4.1.length : Nat) : Int) - 1)) ≤ ((s4.1.length : Nat) : Int) then some (.inl (((s4.1.take (Int.toNat (IntKind.i64.wrap (((s4.1.length : Nat) : Int) - 1)))).drop (Int.toNat (0 : Int))), ())) else none) else some (.inr (s4.1, ())))) big (w, ())).bind fun y7 => some y7.1
def an_beam_trimmed : An U := (.node none .nil (.node none (.node none (.node (some ⟨[2], [], ⟨[(0, .tv .l_u32)], []⟩, [(.exit 0, ⟨[(0, .tv .l_u32)], []⟩)]⟩) (.node none (.node (some ⟨[0], [], ⟨[], []⟩, [(.normal, ⟨[(14, .tv .bool)], []⟩)]⟩) .nil .nil) .nil) .nil) .nil) .nil))
def fe_beam_trimmed : Fe G := ⟨[.v .l_u32], [.l_u32], fun x => F_beam_trimmed x.1⟩
def tb_beam_trimmed : List (FuncId × Fe G) := []
theorem ev_beam_trimmed (x : TyP G fe_beam_trimmed.ps) : evZ G (lstK G tb_beam_trimmed) (bodyOf Tryz.f210) an_beam_trimmed 21 [.tmp 2] fe_beam_trimmed.rs (argT G fe_beam_trimmed.ps x) = fe_beam_trimmed.fn x := by kernel_rfl
theorem ok_beam_trimmed : FnOk G 210 fe_beam_trimmed := fnOkz_of G_ok (fun _ => lstK_ok G_ok (lnil)) Tryz.func210 (by kernel_rfl) (by kernel_rfl) (by kernel_rfl) (by kernel_rfl) (by kernel_rfl) ev_beam_trimmed

def F_beam_compared (a : List Int) (b : List Int) : Option (Int) :=
 (bif (((a.length : Nat) : Int) != ((b.length : Nat) : Int)) then some (IntKind.i64.wrap (((a.length : Nat) : Int) - ((b.length : Nat) : Int))) else (iterF (σ := Int × Unit) (ρ := (Int × Unit) ⊕ (Unit)) (fun s5 => (bif (decide (s5.1 ≥ 0)) then (idx a s5.1).bind fun x6 => (idx b s5.1).bind fun x7 => (bif (x6 != x7) then (idx a s5.1).bind fun x8 => (idx b s5.1).bind fun x9 => (bif (decide (x8 < x9)) then some (.inr (.inl ((-1), ()))) else some (.inr (.inl (1, ())))) else some (.inl ((IntKind.i64.wrap (s5.1 - 1)), ()))) else some (.inr (.inr ((())))))) big ((IntKind.i64.wrap (((a.length : Nat) : Int) - 1)), ())).bind fun y10 => (match y10 with | .inl y11 => some y11.1 | .inr y12 => some 0))
def an_beam_compared : An U := (.node none .nil (.node none .nil (.node none (.node none .nil (.node none (.node (some ⟨[0, 1], [], ⟨[(5, .tv .int)], []⟩, [(.ret, ⟨[(4, .tv .int)], []⟩), (.exit 0, ⟨[], []⟩)]⟩) .nil .nil) .nil)) .nil)))
def fe_beam_compared : Fe G := ⟨[.v .l_u32, .v .l_u32], [.int1], fun x => F_beam_compared x.1 x.2.1⟩
def tb_beam_compared : List (FuncId × Fe G) := []
theorem ev_beam_compared (x : TyP G fe_beam_compared.ps) : evF G (lstK G tb_beam_compared) (bodyOf Tryz.f214) an_beam_compared 41 [.tmp 4] fe_beam_compared.rs (argT G fe_beam_compared.ps x) = fe_beam_compared.fn x := by kernel_rfl
theorem ok_beam_compared : FnOk G 214 fe_beam_compared := fnOk_of G_ok (lstK_ok G_ok (lnil)) Tryz.func214 (by kernel_rfl) (by kernel_rfl) (by kernel_rfl) (by kernel_rfl) (by kernel_rfl) ev_beam_compared

def F_slices_ContainsFunc_api_Item (s : List TItem) (f : TItem → Option Bool) : Option (Bool) :=
 (F_slices_IndexFunc_api_Item s f).bind fun r1 => some (decide (r1 ≥ 0))
def an_slices_ContainsFunc_api_Item : An U := .nil
def fe_slices_ContainsFunc_api_Item : Fe G := ⟨[.v .l_Item, .fn .Item .bool], [.bool], fun x => F_slices_ContainsFunc_api_Item x.1 x.2.1⟩
def tb_slices_ContainsFunc_api_Item : List (FuncId × Fe G) := [(67, fe_slices_IndexFunc_api_Item)]
theorem ev_slices_ContainsFunc_api_Item (x : TyP G fe_slices_ContainsFunc_api_Item.ps) : evF G (lstK G tb_slices_ContainsFunc_api_Item) (bodyOf Tryz.f18) an_slices_ContainsFunc_api_Item 9 [.tmp 4] fe_slices_ContainsFunc_api_Item.rs (argT G fe_slices_ContainsFunc_api_Item.ps x) = fe_slices_ContainsFunc_api_Item.fn x := by kernel_rfl
theorem ok_slices_ContainsFunc_api_Item : FnOk G 18 fe_slices_ContainsFunc_api_Item := fnOk_of G_ok (lstK_ok G_ok (lcons ok_slices_IndexFunc_api_Item (lnil))) Tryz.func18 (by kernel_rfl) (by kernel_rfl) (by kernel_rfl) (by kernel_rfl) (by kernel_rfl) ev_slices_ContainsFunc_api_Item

def F_law24_long (s : TSet) : Option (Bool) :=
 ((bif (decide (((s.lines.length : Nat) : Int) > 5)) then (bif (decide (((s.lines.length : Nat) : Int) ≤ 10)) then some (true, ()) else (bif (decide (((s.lines.length : Nat) : Int) > 15)) then some (true, ()) else (F_ref21_Small s 8).bind fun r3 => some ((!r3), ()))) else (bif (decide (((s.lines.length : Nat) : Int) > 15)) then some (true, ()) else (F_ref21_Small s 8).bind fun r4 => some ((!r4), ()))) : Option (Bool × Unit)).bind fun y5 => some y5.1
def an_law24_long : An U := (.node none .nil (.node (some ⟨[], [], ⟨[], []⟩, [(.normal, ⟨[(2, .tv .bool)], []⟩)]⟩) .nil .nil))
def fe_law24_long : Fe G := ⟨[.v .Set], [.bool], fun x => F_law24_long x.1⟩
def tb_law24_long : List (FuncId × Fe G) := [(70, fe_ref21_Small)]
theorem ev_law24_long (x : TyP G fe_law24_long.ps) : evF G (lstK G tb_law24_long) (bodyOf Tryz.f35) an_law24_long 24 [.tmp 2] fe_law24_long.rs (argT G fe_law24_long.ps x) = fe_law24_long.fn x := by kernel_rfl
theorem ok_law24_long : FnOk G 35 fe_law24_long := fnOk_of G_ok (lstK_ok G_ok (lcons ok_ref21_Small (lnil))) Tryz.func35 (by kernel_rfl) (by kernel_rfl) (by kernel_rfl) (by kernel_rfl) (by kernel_rfl) ev_law24_long

end
end Go.Proofs.YtcaopooflemnlaaGreat
