/- Joined by merge.py: Fn0. -/
import Derived.Test.YtcaopooflemnlaaGreatM03
/- Functions, as plain data. Printed by mkev.py. -/
namespace Go.Proofs.YtcaopooflemnlaaGreat
open Go.RowKit
set_option linter.unusedVariables false
set_option linter.unusedSimpArgs false
noncomputable section

def F_slices_Equal_api_Frac (s1_ : List TFrac) (s2_ : List TFrac) : Option (Bool) :=
 (bif (((s1_.length : Nat) : Int) != ((s2_.length : Nat) : Int)) then some false else (iterF (σ := Int × Unit) (ρ := (Bool × Unit) ⊕ (Unit)) (fun s3 => (bif (decide (s3.1 < ((s1_.length : Nat) : Int))) then (idx s1_ s3.1).bind fun x4 => (idx s2_ s3.1).bind fun x5 => (bif (!((x4.num == x5.num) && (x4.den == x5.den))) then some (.inr (.inl (false, ()))) else some (.inl ((IntKind.i64.wrap (s3.1 + 1)), ()))) else some (.inr (.inr ((())))))) big (0, ())).bind fun y6 => (match y6 with | .inl y7 => some y7.1 | .inr y8 => some true))
def an_slices_Equal_api_Frac : An U := (.node none .nil (.node none .nil (.node none (.node none .nil (.node none (.node (some ⟨[0, 1, 12], [], ⟨[(13, .tv .int)], []⟩, [(.ret, ⟨[(4, .tv .bool)], []⟩), (.exit 0, ⟨[], []⟩)]⟩) .nil .nil) .nil)) .nil)))
def fe_slices_Equal_api_Frac : Fe G := ⟨[.v .l_Frac, .v .l_Frac], [.bool], fun x => F_slices_Equal_api_Frac x.1 x.2.1⟩
def tb_slices_Equal_api_Frac : List (FuncId × Fe G) := []
theorem ev_slices_Equal_api_Frac (x : TyP G fe_slices_Equal_api_Frac.ps) : evF G (lstK G tb_slices_Equal_api_Frac) (bodyOf Tryz.f24) an_slices_Equal_api_Frac 26 [.tmp 4] fe_slices_Equal_api_Frac.rs (argT G fe_slices_Equal_api_Frac.ps x) = fe_slices_Equal_api_Frac.fn x := by kernel_rfl
theorem ok_slices_Equal_api_Frac : FnOk G 24 fe_slices_Equal_api_Frac := fnOk_of G_ok (lstK_ok G_ok (lnil)) Tryz.func24 (by kernel_rfl) (by kernel_rfl) (by kernel_rfl) (by kernel_rfl) (by kernel_rfl) ev_slices_Equal_api_Frac

def F_ref02_Of (n : Int) : Option (TFrac) :=
 some (TFrac.mk n 1)
def an_ref02_Of : An U := .nil
def fe_ref02_Of : Fe G := ⟨[.v .int1], [.Frac], fun x => F_ref02_Of x.1⟩
def tb_ref02_Of : List (FuncId × Fe G) := []
theorem ev_ref02_Of (x : TyP G fe_ref02_Of.ps) : evF G (lstK G tb_ref02_Of) (bodyOf Tryz.f27) an_ref02_Of 5 [.cell 2 43] fe_ref02_Of.rs (argT G fe_ref02_Of.ps x) = fe_ref02_Of.fn x := by kernel_rfl
theorem ok_ref02_Of : FnOk G 27 fe_ref02_Of := fnOk_of G_ok (lstK_ok G_ok (lnil)) Tryz.func27 (by kernel_rfl) (by kernel_rfl) (by kernel_rfl) (by kernel_rfl) (by kernel_rfl) ev_ref02_Of

def F_ref22_Travel (s : TSet) : Option (Int) :=
 (if s.purchase = 0 then none else some (IntKind.i64.wrap ((IntKind.i64.wrap ((IntKind.i64.wrap ((IntKind.i64.wrap (s.high - s.low)) + s.purchase)) - 1)).tdiv s.purchase)))
def an_ref22_Travel : An U := .nil
def fe_ref22_Travel : Fe G := ⟨[.v .Set], [.int1], fun x => F_ref22_Travel x.1⟩
def tb_ref22_Travel : List (FuncId × Fe G) := []
theorem ev_ref22_Travel (x : TyP G fe_ref22_Travel.ps) : evF G (lstK G tb_ref22_Travel) (bodyOf Tryz.f33) an_ref22_Travel 15 [.tmp 2] fe_ref22_Travel.rs (argT G fe_ref22_Travel.ps x) = fe_ref22_Travel.fn x := by kernel_rfl
theorem ok_ref22_Travel : FnOk G 33 fe_ref22_Travel := fnOk_of G_ok (lstK_ok G_ok (lnil)) Tryz.func33 (by kernel_rfl) (by kernel_rfl) (by kernel_rfl) (by kernel_rfl) (by kernel_rfl) ev_ref22_Travel

def F_law22_example : Option (TSet) :=
 some (TSet.mk (⟨#[115]⟩ : ByteArray) 0 0 5001 2000 ([0, 2000] : List Int) 1000 0 2 1 0 ([(TItem.mk (⟨#[108, 97, 109, 112]⟩ : ByteArray) 400 200 600 0 0 0)] : List TItem) ([] : List TBrick))
def an_law22_example : An U := .nil
def fe_law22_example : Fe G := ⟨[], [.Set], fun x => F_law22_example⟩
def tb_law22_example : List (FuncId × Fe G) := []
theorem ev_law22_example (x : TyP G fe_law22_example.ps) : evF G (lstK G tb_law22_example) (bodyOf Tryz.f66) an_law22_example 5 [.cell 0 26] fe_law22_example.rs (argT G fe_law22_example.ps x) = fe_law22_example.fn x := by kernel_rfl
theorem ok_law22_example : FnOk G 66 fe_law22_example := fnOk_of G_ok (lstK_ok G_ok (lnil)) Tryz.func66 (by kernel_rfl) (by kernel_rfl) (by kernel_rfl) (by kernel_rfl) (by kernel_rfl) ev_law22_example

def F_slices_IndexFunc_api_Item (s : List TItem) (f : TItem → Option Bool) : Option (Int) :=
 (iterF (σ := Int × Unit) (ρ := (Int × Unit) ⊕ (Unit)) (fun s3 => (bif (decide (s3.1 < ((s.length : Nat) : Int))) then (idx s s3.1).bind fun x4 => (f x4).bind fun r5 => (bif r5 then some (.inr (.inl (s3.1, ()))) else some (.inl ((IntKind.i64.wrap (s3.1 + 1)), ()))) else some (.inr (.inr ((())))))) big (0, ())).bind fun y6 => (match y6 with | .inl y7 => some y7.1 | .inr y8 => some (-1))
def an_slices_IndexFunc_api_Item : An U := (.node none .nil (.node none (.node none .nil (.node none (.node (some ⟨[0, 1, 7], [], ⟨[(8, .tv .int)], []⟩, [(.ret, ⟨[(4, .tv .int)], []⟩), (.exit 0, ⟨[], []⟩)]⟩) .nil .nil) .nil)) .nil))
def fe_slices_IndexFunc_api_Item : Fe G := ⟨[.v .l_Item, .fn .Item .bool], [.int1], fun x => F_slices_IndexFunc_api_Item x.1 x.2.1⟩
def tb_slices_IndexFunc_api_Item : List (FuncId × Fe G) := []
theorem ev_slices_IndexFunc_api_Item (x : TyP G fe_slices_IndexFunc_api_Item.ps) : evF G (lstK G tb_slices_IndexFunc_api_Item) (bodyOf Tryz.f67) an_slices_IndexFunc_api_Item 19 [.tmp 4] fe_slices_IndexFunc_api_Item.rs (argT G fe_slices_IndexFunc_api_Item.ps x) = fe_slices_IndexFunc_api_Item.fn x := by kernel_rfl
theorem ok_slices_IndexFunc_api_Item : FnOk G 67 fe_slices_IndexFunc_api_Item := fnOk_of G_ok (lstK_ok G_ok (lnil)) Tryz.func67 (by kernel_rfl) (by kernel_rfl) (by kernel_rfl) (by kernel_rfl) (by kernel_rfl) ev_slices_IndexFunc_api_Item

def F_liftline_whole (n : Int) : Option (TFrac) :=
 some (TFrac.mk n 1)
def an_liftline_whole : An U := .nil
def fe_liftline_whole : Fe G := ⟨[.v .int1], [.Frac], fun x => F_liftline_whole x.1⟩
def tb_liftline_whole : List (FuncId × Fe G) := []
theorem ev_liftline_whole (x : TyP G fe_liftline_whole.ps) : evF G (lstK G tb_liftline_whole) (bodyOf Tryz.f69) an_liftline_whole 5 [.cell 2 43] fe_liftline_whole.rs (argT G fe_liftline_whole.ps x) = fe_liftline_whole.fn x := by kernel_rfl
theorem ok_liftline_whole : FnOk G 69 fe_liftline_whole := fnOk_of G_ok (lstK_ok G_ok (lnil)) Tryz.func69 (by kernel_rfl) (by kernel_rfl) (by kernel_rfl) (by kernel_rfl) (by kernel_rfl) ev_liftline_whole

def F_ref21_Small (s : TSet) (most : Int) : Option (Bool) :=
 ((bif (decide (((s.name.size : Nat) : Int) > 60)) then some (true, ()) else (bif (decide (((s.lines.length : Nat) : Int) > 12)) then some (true, ()) else (bif (decide (((s.items.length : Nat) : Int) > most)) then (bif (decide (((s.items.length : Nat) : Int) ≤ 40)) then some (true, ()) else (bif (decide (((s.items.length : Nat) : Int) > 45)) then some (true, ()) else some ((decide (((s.bricks.length : Nat) : Int) > 10)), ()))) else (bif (decide (((s.items.length : Nat) : Int) > 45)) then some (true, ()) else some ((decide (((s.bricks.length : Nat) : Int) > 10)), ()))))) : Option (Bool × Unit)).bind fun y1 => (bif y1.1 then some false else (iterF (σ := Int × Unit) (ρ := (Bool × Unit) ⊕ (Unit)) (fun s3 => (bif (decide (s3.1 < ((s.items.length : Nat) : Int))) then (idx s.items s3.1).bind fun x4 => (bif (decide (((x4.name.size : Nat) : Int) > 60)) then some (.inr (.inl (false, ()))) else some (.inl ((IntKind.i64.wrap (s3.1 + 1)), ()))) else some (.inr (.inr ((())))))) big (0, ())).bind fun y5 => (match y5 with | .inl y6 => some y6.1 | .inr y7 => (iterF (σ := Int × Unit) (ρ := (Bool × Unit) ⊕ (Unit)) (fun s9 => (bif (decide (s9.1 < ((s.bricks.length : Nat) : Int))) then (idx s.bricks s9.1).bind fun x10 => (bif (decide (((x10.name.size : Nat) : Int) > 60)) then some (.inr (.inl (false, ()))) else some (.inl ((IntKind.i64.wrap (s9.1 + 1)), ()))) else some (.inr (.inr ((())))))) big (0, ())).bind fun y11 => (match y11 with | .inl y12 => some y12.1 | .inr y13 => some true)))
def an_ref21_Small : An U := (.node none .nil (.node none (.node (some ⟨[2, 4], [], ⟨[], []⟩, [(.normal, ⟨[(41, .tv .bool)], []⟩)]⟩) .nil .nil) (.node none (.node none .nil (.node none (.node (some ⟨[2], [], ⟨[(5, .tv .int)], []⟩, [(.ret, ⟨[(4, .tv .bool)], []⟩), (.exit 0, ⟨[], []⟩)]⟩) .nil .nil) .nil)) (.node none (.node none .nil (.node none (.node (some ⟨[2], [], ⟨[(6, .tv .int)], []⟩, [(.ret, ⟨[(4, .tv .bool)], []⟩), (.exit 2, ⟨[], []⟩)]⟩) .nil .nil) .nil)) .nil))))
def fe_ref21_Small : Fe G := ⟨[.v .Set, .v .int1], [.bool], fun x => F_ref21_Small x.1 x.2.1⟩
def tb_ref21_Small : List (FuncId × Fe G) := []
theorem ev_ref21_Small (x : TyP G fe_ref21_Small.ps) : evF G (lstK G tb_ref21_Small) (bodyOf Tryz.f70) an_ref21_Small 72 [.tmp 4] fe_ref21_Small.rs (argT G fe_ref21_Small.ps x) = fe_ref21_Small.fn x := by kernel_rfl
theorem ok_ref21_Small : FnOk G 70 fe_ref21_Small := fnOk_of G_ok (lstK_ok G_ok (lnil)) Tryz.func70 (by kernel_rfl) (by kernel_rfl) (by kernel_rfl) (by kernel_rfl) (by kernel_rfl) ev_ref21_Small

def F_ref21_between (n : Int) (low : Int) (high : Int) : Option (Bool) :=
 ((bif (decide (n ≥ low)) then some ((decide (n ≤ high)), ()) else some (false, ())) : Option (Bool × Unit)).bind fun y1 => some y1.1
def an_ref21_between : An U := (.node none .nil (.node (some ⟨[], [], ⟨[], []⟩, [(.normal, ⟨[(6, .tv .bool)], []⟩)]⟩) .nil .nil))
def fe_ref21_between : Fe G := ⟨[.v .int1, .v .int1, .v .int1], [.bool], fun x => F_ref21_between x.1 x.2.1 x.2.2.1⟩
def tb_ref21_between : List (FuncId × Fe G) := []
theorem ev_ref21_between (x : TyP G fe_ref21_between.ps) : evF G (lstK G tb_ref21_between) (bodyOf Tryz.f74) an_ref21_between 15 [.tmp 6] fe_ref21_between.rs (argT G fe_ref21_between.ps x) = fe_ref21_between.fn x := by kernel_rfl
theorem ok_ref21_between : FnOk G 74 fe_ref21_between := fnOk_of G_ok (lstK_ok G_ok (lnil)) Tryz.func74 (by kernel_rfl) (by kernel_rfl) (by kernel_rfl) (by kernel_rfl) (by kernel_rfl) ev_ref21_between

def F_ref02_Mul (a : Int) (b : Int) : Option (TU) :=
 some (TU.mk (IntKind.u64.wrap ((IntKind.u64.wrap ((IntKind.u64.wrap ((a.fdiv (2 ^ min (Int.toNat 32) IntKind.u64.bits)) * (b.fdiv (2 ^ min (Int.toNat 32) IntKind.u64.bits)))) + ((IntKind.u64.wrap ((IntKind.u64.wrap ((a.fdiv (2 ^ min (Int.toNat 32) IntKind.u64.bits)) * (bitsOf .and .u64 b 4294967295))) + ((IntKind.u64.wrap ((bitsOf .and .u64 a 4294967295) * (bitsOf .and .u64 b 4294967295))).fdiv (2 ^ min (Int.toNat 32) IntKind.u64.bits)))).fdiv (2 ^ min (Int.toNat 32) IntKind.u64.bits)))) + ((IntKind.u64.wrap ((IntKind.u64.wrap ((bitsOf .and .u64 a 4294967295) * (b.fdiv (2 ^ min (Int.toNat 32) IntKind.u64.bits)))) + (bitsOf .and .u64 (IntKind.u64.wrap ((IntKind.u64.wrap ((a.fdiv (2 ^ min (Int.toNat 32) IntKind.u64.bits)) * (bitsOf .and .u64 b 4294967295))) + ((IntKind.u64.wrap ((bitsOf .and .u64 a 4294967295) * (bitsOf .and .u64 b 4294967295))).fdiv (2 ^ min (Int.toNat 32) IntKind.u64.bits)))) 4294967295))).fdiv (2 ^ min (Int.toNat 32) IntKind.u64.bits)))) (IntKind.u64.wrap ((IntKind.u64.wrap ((IntKind.u64.wrap ((IntKind.u64.wrap ((bitsOf .and .u64 a 4294967295) * (b.fdiv (2 ^ min (Int.toNat 32) IntKind.u64.bits)))) + (bitsOf .and .u64 (IntKind.u64.wrap ((IntKind.u64.wrap ((a.fdiv (2 ^ min (Int.toNat 32) IntKind.u64.bits)) * (bitsOf .and .u64 b 4294967295))) + ((IntKind.u64.wrap ((bitsOf .and .u64 a 4294967295) * (bitsOf .and .u64 b 4294967295))).fdiv (2 ^ min (Int.toNat 32) IntKind.u64.bits)))) 4294967295))) * 2 ^ min (Int.toNat 32) IntKind.u64.bits)) + (bitsOf .and .u64 (IntKind.u64.wrap ((bitsOf .and .u64 a 4294967295) * (bitsOf .and .u64 b 4294967295))) 4294967295))))
def an_ref02_Mul : An U := .nil
def fe_ref02_Mul : Fe G := ⟨[.v .u64, .v .u64], [.U], fun x => F_ref02_Mul x.1 x.2.1⟩
def tb_ref02_Mul : List (FuncId × Fe G) := []
theorem ev_ref02_Mul (x : TyP G fe_ref02_Mul.ps) : evF G (lstK G tb_ref02_Mul) (bodyOf Tryz.f91) an_ref02_Mul 50 [.cell 4 108] fe_ref02_Mul.rs (argT G fe_ref02_Mul.ps x) = fe_ref02_Mul.fn x := by kernel_rfl
theorem ok_ref02_Mul : FnOk G 91 fe_ref02_Mul := fnOk_of G_ok (lstK_ok G_ok (lnil)) Tryz.func91 (by kernel_rfl) (by kernel_rfl) (by kernel_rfl) (by kernel_rfl) (by kernel_rfl) ev_ref02_Mul

def F_ref02_Size (n : Int) : Option (Int) :=
 (bif (decide (n < 0)) then some (IntKind.u64.wrap (0 - (IntKind.u64.wrap n))) else some (IntKind.u64.wrap n))
def an_ref02_Size : An U := .nil
def fe_ref02_Size : Fe G := ⟨[.v .int1], [.u64], fun x => F_ref02_Size x.1⟩
def tb_ref02_Size : List (FuncId × Fe G) := []
theorem ev_ref02_Size (x : TyP G fe_ref02_Size.ps) : evF G (lstK G tb_ref02_Size) (bodyOf Tryz.f92) an_ref02_Size 10 [.tmp 2] fe_ref02_Size.rs (argT G fe_ref02_Size.ps x) = fe_ref02_Size.fn x := by kernel_rfl
theorem ok_ref02_Size : FnOk G 92 fe_ref02_Size := fnOk_of G_ok (lstK_ok G_ok (lnil)) Tryz.func92 (by kernel_rfl) (by kernel_rfl) (by kernel_rfl) (by kernel_rfl) (by kernel_rfl) ev_ref02_Size

def F_ref02_Less (a : TU) (b : TU) : Option (Bool) :=
 ((bif (decide (a.h < b.h)) then some (true, ()) else (bif (a.h == b.h) then some ((decide (a.l < b.l)), ()) else some (false, ()))) : Option (Bool × Unit)).bind fun y1 => some y1.1
def an_ref02_Less : An U := (.node none .nil (.node (some ⟨[], [], ⟨[], []⟩, [(.normal, ⟨[(4, .tv .bool)], []⟩)]⟩) .nil .nil))
def fe_ref02_Less : Fe G := ⟨[.v .U, .v .U], [.bool], fun x => F_ref02_Less x.1 x.2.1⟩
def tb_ref02_Less : List (FuncId × Fe G) := []
theorem ev_ref02_Less (x : TyP G fe_ref02_Less.ps) : evF G (lstK G tb_ref02_Less) (bodyOf Tryz.f93) an_ref02_Less 24 [.tmp 4] fe_ref02_Less.rs (argT G fe_ref02_Less.ps x) = fe_ref02_Less.fn x := by kernel_rfl
theorem ok_ref02_Less : FnOk G 93 fe_ref02_Less := fnOk_of G_ok (lstK_ok G_ok (lnil)) Tryz.func93 (by kernel_rfl) (by kernel_rfl) (by kernel_rfl) (by kernel_rfl) (by kernel_rfl) ev_ref02_Less

def F_ratio_size (n : Int) : Option (Int) :=
 (bif (decide (n < 0)) then some (IntKind.u64.wrap (0 - (IntKind.u64.wrap n))) else some (IntKind.u64.wrap n))
def an_ratio_size : An U := .nil
def fe_ratio_size : Fe G := ⟨[.v .int1], [.u64], fun x => F_ratio_size x.1⟩
def tb_ratio_size : List (FuncId × Fe G) := []
theorem ev_ratio_size (x : TyP G fe_ratio_size.ps) : evF G (lstK G tb_ratio_size) (bodyOf Tryz.f96) an_ratio_size 10 [.tmp 2] fe_ratio_size.rs (argT G fe_ratio_size.ps x) = fe_ratio_size.fn x := by kernel_rfl
theorem ok_ratio_size : FnOk G 96 fe_ratio_size := fnOk_of G_ok (lstK_ok G_ok (lnil)) Tryz.func96 (by kernel_rfl) (by kernel_rfl) (by kernel_rfl) (by kernel_rfl) (by kernel_rfl) ev_ratio_size

def F_ratio_less (a : Twide) (b : Twide) : Option (Bool) :=
 ((bif (decide (a.hi < b.hi)) then some (true, ()) else (bif (a.hi == b.hi) then some ((decide (a.lo < b.lo)), ()) else some (false, ()))) : Option (Bool × Unit)).bind fun y1 => some y1.1
def an_ratio_less : An U := (.node none .nil (.node (some ⟨[], [], ⟨[], []⟩, [(.normal, ⟨[(4, .tv .bool)], []⟩)]⟩) .nil .nil))
def fe_ratio_less : Fe G := ⟨[.v .wide, .v .wide], [.bool], fun x => F_ratio_less x.1 x.2.1⟩
def tb_ratio_less : List (FuncId × Fe G) := []
theorem ev_ratio_less (x : TyP G fe_ratio_less.ps) : evF G (lstK G tb_ratio_less) (bodyOf Tryz.f97) an_ratio_less 24 [.tmp 4] fe_ratio_less.rs (argT G fe_ratio_less.ps x) = fe_ratio_less.fn x := by kernel_rfl
theorem ok_ratio_less : FnOk G 97 fe_ratio_less := fnOk_of G_ok (lstK_ok G_ok (lnil)) Tryz.func97 (by kernel_rfl) (by kernel_rfl) (by kernel_rfl) (by kernel_rfl) (by kernel_rfl) ev_ratio_less

def F_ratio_gcd (a : Int) (b : Int) : Option (Int) :=
 (iterF (σ := Int × Int × Unit) (ρ := Int × Unit) (fun s1 => (bif (s1.2.1 != 0) then (if s1.2.1 = 0 then none else some (.inl (s1.2.1, (s1.1.tmod s1.2.1), ()))) else some (.inr (s1.1, ())))) big (a, b, ())).bind fun y2 => some y2.1
def an_ratio_gcd : An U := (.node none .nil (.node none (.node none (.node (some ⟨[4], [], ⟨[(0, .tv .u64), (1, .tv .u64)], []⟩, [(.exit 0, ⟨[(0, .tv .u64)], []⟩)]⟩) .nil .nil) .nil) .nil))
def fe_ratio_gcd : Fe G := ⟨[.v .u64, .v .u64], [.u64], fun x => F_ratio_gcd x.1 x.2.1⟩
def tb_ratio_gcd : List (FuncId × Fe G) := []
theorem ev_ratio_gcd (x : TyP G fe_ratio_gcd.ps) : evF G (lstK G tb_ratio_gcd) (bodyOf Tryz.f98) an_ratio_gcd 12 [.tmp 4] fe_ratio_gcd.rs (argT G fe_ratio_gcd.ps x) = fe_ratio_gcd.fn x := by kernel_rfl
theorem ok_ratio_gcd : FnOk G 98 fe_ratio_gcd := fnOk_of G_ok (lstK_ok G_ok (lnil)) Tryz.func98 (by kernel_rfl) (by kernel_rfl) (by kernel_rfl) (by kernel_rfl) (by kernel_rfl) ev_ratio_gcd

def F_ratio_signed (negative : Bool) (num : Int) (den : Int) : Option (TFrac × Int) :=
 ((bif (decide (num > 1152921504606846976)) then some (true, ()) else some ((decide (den > 1152921504606846976)), ())) : Option (Bool × Unit)).bind fun y1 => (bif y1.1 then some ((TFrac.mk 0 0), 5) else ((bif negative then some ((IntKind.i64.wrap (0 - (IntKind.i64.wrap num))), ()) else some ((IntKind.i64.wrap num), ())) : Option (Int × Unit)).bind fun y2 => some ((TFrac.mk y2.1 (IntKind.i64.wrap den)), 0))
def an_ratio_signed : An U := (.node none .nil (.node none (.node (some ⟨[0, 1, 2, 6, 7], [], ⟨[], []⟩, [(.normal, ⟨[(14, .tv .bool)], []⟩)]⟩) .nil .nil) (.node none .nil (.node (some ⟨[2, 6, 7], [], ⟨[], []⟩, [(.normal, ⟨[(8, .tv .int)], []⟩)]⟩) .nil .nil))))
def fe_ratio_signed : Fe G := ⟨[.v .bool, .v .u64, .v .u64], [.Frac, .Errno], fun x => F_ratio_signed x.1 x.2.1 x.2.2.1⟩
def tb_ratio_signed : List (FuncId × Fe G) := []
theorem ev_ratio_signed (x : TyP G fe_ratio_signed.ps) : evF G (lstK G tb_ratio_signed) (bodyOf Tryz.f99) an_ratio_signed 25 [.cell 6 43, .tmp 7] fe_ratio_signed.rs (argT G fe_ratio_signed.ps x) = fe_ratio_signed.fn x := by kernel_rfl
theorem ok_ratio_signed : FnOk G 99 fe_ratio_signed := fnOk_of G_ok (lstK_ok G_ok (lnil)) Tryz.func99 (by kernel_rfl) (by kernel_rfl) (by kernel_rfl) (by kernel_rfl) (by kernel_rfl) ev_ratio_signed

def F_ratio_plus (a : Twide) (b : Twide) : Option (Twide) :=
 (if 0 ≤ a.lo ∧ 0 ≤ b.lo ∧ b.lo < u64M ∧ 0 ≤ (0 : Int) ∧ (0 : Int) ≤ 1 then (if 0 ≤ a.hi ∧ 0 ≤ b.hi ∧ b.hi < u64M ∧ 0 ≤ ((a.lo + b.lo + 0) / u64M) ∧ ((a.lo + b.lo + 0) / u64M) ≤ 1 then some (Twide.mk ((a.hi + b.hi + ((a.lo + b.lo + 0) / u64M)) % u64M) ((a.lo + b.lo + 0) % u64M)) else none) else none)
def an_ratio_plus : An U := .nil
def fe_ratio_plus : Fe G := ⟨[.v .wide, .v .wide], [.wide], fun x => F_ratio_plus x.1 x.2.1⟩
def tb_ratio_plus : List (FuncId × Fe G) := []
theorem ev_ratio_plus (x : TyP G fe_ratio_plus.ps) : evF G (lstK G tb_ratio_plus) (bodyOf Tryz.f100) an_ratio_plus 29 [.cell 4 114] fe_ratio_plus.rs (argT G fe_ratio_plus.ps x) = fe_ratio_plus.fn x := by kernel_rfl
theorem ok_ratio_plus : FnOk G 100 fe_ratio_plus := fnOk_of G_ok (lstK_ok G_ok (lnil)) Tryz.func100 (by kernel_rfl) (by kernel_rfl) (by kernel_rfl) (by kernel_rfl) (by kernel_rfl) ev_ratio_plus

def F_ratio_minus (a : Twide) (b : Twide) : Option (Twide) :=
 (if 0 ≤ a.lo ∧ 0 ≤ b.lo ∧ b.lo < u64M ∧ 0 ≤ (0 : Int) ∧ (0 : Int) ≤ 1 then (if 0 ≤ a.hi ∧ 0 ≤ b.hi ∧ b.hi < u64M ∧ 0 ≤ (if a.lo < b.lo + 0 then (1 : Int) else 0) ∧ (if a.lo < b.lo + 0 then (1 : Int) else 0) ≤ 1 then some (Twide.mk ((a.hi + u64M - b.hi - (if a.lo < b.lo + 0 then (1 : Int) else 0)) % u64M) ((a.lo + u64M - b.lo - 0) % u64M)) else none) else none)
def an_ratio_minus : An U := .nil
def fe_ratio_minus : Fe G := ⟨[.v .wide, .v .wide], [.wide], fun x => F_ratio_minus x.1 x.2.1⟩
def tb_ratio_minus : List (FuncId × Fe G) := []
theorem ev_ratio_minus (x : TyP G fe_ratio_minus.ps) : evF G (lstK G tb_ratio_minus) (bodyOf Tryz.f101) an_ratio_minus 29 [.cell 4 114] fe_ratio_minus.rs (argT G fe_ratio_minus.ps x) = fe_ratio_minus.fn x := by kernel_rfl
theorem ok_ratio_minus : FnOk G 101 fe_ratio_minus := fnOk_of G_ok (lstK_ok G_ok (lnil)) Tryz.func101 (by kernel_rfl) (by kernel_rfl) (by kernel_rfl) (by kernel_rfl) (by kernel_rfl) ev_ratio_minus

def F_batten_between (n : Int) (low : Int) (high : Int) : Option (Bool) :=
 ((bif (decide (n ≥ low)) then some ((decide (n ≤ high)), ()) else some (false, ())) : Option (Bool × Unit)).bind fun y1 => some y1.1
def an_batten_between : An U := (.node none .nil (.node (some ⟨[], [], ⟨[], []⟩, [(.normal, ⟨[(6, .tv .bool)], []⟩)]⟩) .nil .nil))
def fe_batten_between : Fe G := ⟨[.v .int1, .v .int1, .v .int1], [.bool], fun x => F_batten_between x.1 x.2.1 x.2.2.1⟩
def tb_batten_between : List (FuncId × Fe G) := []
theorem ev_batten_between (x : TyP G fe_batten_between.ps) : evF G (lstK G tb_batten_between) (bodyOf Tryz.f105) an_batten_between 15 [.tmp 6] fe_batten_between.rs (argT G fe_batten_between.ps x) = fe_batten_between.fn x := by kernel_rfl
theorem ok_batten_between : FnOk G 105 fe_batten_between := fnOk_of G_ok (lstK_ok G_ok (lnil)) Tryz.func105 (by kernel_rfl) (by kernel_rfl) (by kernel_rfl) (by kernel_rfl) (by kernel_rfl) ev_batten_between

def F_ref02_Plus (a : TU) (b : TU) : Option (TU) :=
 ((bif (decide ((IntKind.u64.wrap (a.l + b.l)) < a.l)) then some ((IntKind.u64.wrap ((IntKind.u64.wrap (a.h + b.h)) + 1)), ()) else some ((IntKind.u64.wrap (a.h + b.h)), ())) : Option (Int × Unit)).bind fun y1 => some (TU.mk y1.1 (IntKind.u64.wrap (a.l + b.l)))
def an_ref02_Plus : An U := (.node none .nil (.node none .nil (.node none .nil (.node (some ⟨[4, 5], [], ⟨[], []⟩, [(.normal, ⟨[(6, .tv .u64)], []⟩)]⟩) .nil .nil))))
def fe_ref02_Plus : Fe G := ⟨[.v .U, .v .U], [.U], fun x => F_ref02_Plus x.1 x.2.1⟩
def tb_ref02_Plus : List (FuncId × Fe G) := []
theorem ev_ref02_Plus (x : TyP G fe_ref02_Plus.ps) : evF G (lstK G tb_ref02_Plus) (bodyOf Tryz.f111) an_ref02_Plus 26 [.cell 4 108] fe_ref02_Plus.rs (argT G fe_ref02_Plus.ps x) = fe_ref02_Plus.fn x := by kernel_rfl
theorem ok_ref02_Plus : FnOk G 111 fe_ref02_Plus := fnOk_of G_ok (lstK_ok G_ok (lnil)) Tryz.func111 (by kernel_rfl) (by kernel_rfl) (by kernel_rfl) (by kernel_rfl) (by kernel_rfl) ev_ref02_Plus

def F_ref02_Minus (a : TU) (b : TU) : Option (TU) :=
 ((bif (decide (a.l < b.l)) then some ((IntKind.u64.wrap ((IntKind.u64.wrap (a.h - b.h)) - 1)), ()) else some ((IntKind.u64.wrap (a.h - b.h)), ())) : Option (Int × Unit)).bind fun y1 => some (TU.mk y1.1 (IntKind.u64.wrap (a.l - b.l)))
def an_ref02_Minus : An U := (.node none .nil (.node none .nil (.node (some ⟨[2, 3, 4], [], ⟨[], []⟩, [(.normal, ⟨[(5, .tv .u64)], []⟩)]⟩) .nil .nil)))
def fe_ref02_Minus : Fe G := ⟨[.v .U, .v .U], [.U], fun x => F_ref02_Minus x.1 x.2.1⟩
def tb_ref02_Minus : List (FuncId × Fe G) := []
theorem ev_ref02_Minus (x : TyP G fe_ref02_Minus.ps) : evF G (lstK G tb_ref02_Minus) (bodyOf Tryz.f112) an_ref02_Minus 25 [.cell 4 108] fe_ref02_Minus.rs (argT G fe_ref02_Minus.ps x) = fe_ref02_Minus.fn x := by kernel_rfl
theorem ok_ref02_Minus : FnOk G 112 fe_ref02_Minus := fnOk_of G_ok (lstK_ok G_ok (lnil)) Tryz.func112 (by kernel_rfl) (by kernel_rfl) (by kernel_rfl) (by kernel_rfl) (by kernel_rfl) ev_ref02_Minus

def F_ref01_Letter (c : Int) : Option (Bool) :=
 ((bif (decide (c ≥ 97)) then (bif (decide (c ≤ 122)) then some (true, ()) else (bif (decide (c ≥ 65)) then some ((decide (c ≤ 90)), ()) else some (false, ()))) else (bif (decide (c ≥ 65)) then some ((decide (c ≤ 90)), ()) else some (false, ()))) : Option (Bool × Unit)).bind fun y1 => some y1.1
def an_ref01_Letter : An U := (.node none .nil (.node (some ⟨[], [], ⟨[], []⟩, [(.normal, ⟨[(2, .tv .bool)], []⟩)]⟩) .nil .nil))
def fe_ref01_Letter : Fe G := ⟨[.v .u8], [.bool], fun x => F_ref01_Letter x.1⟩
def tb_ref01_Letter : List (FuncId × Fe G) := []
theorem ev_ref01_Letter (x : TyP G fe_ref01_Letter.ps) : evF G (lstK G tb_ref01_Letter) (bodyOf Tryz.f113) an_ref01_Letter 17 [.tmp 2] fe_ref01_Letter.rs (argT G fe_ref01_Letter.ps x) = fe_ref01_Letter.fn x := by kernel_rfl
theorem ok_ref01_Letter : FnOk G 113 fe_ref01_Letter := fnOk_of G_ok (lstK_ok G_ok (lnil)) Tryz.func113 (by kernel_rfl) (by kernel_rfl) (by kernel_rfl) (by kernel_rfl) (by kernel_rfl) ev_ref01_Letter

def F_ref21_Apart (x : TItem) (y : TItem) : Option (Bool) :=
 ((bif (decide ((IntKind.i64.wrap (x.at_ + x.width)) ≤ y.at_)) then some (true, ()) else some ((decide ((IntKind.i64.wrap (y.at_ + y.width)) ≤ x.at_)), ())) : Option (Bool × Unit)).bind fun y1 => some y1.1
def an_ref21_Apart : An U := (.node none .nil (.node (some ⟨[], [], ⟨[], []⟩, [(.normal, ⟨[(4, .tv .bool)], []⟩)]⟩) .nil .nil))
def fe_ref21_Apart : Fe G := ⟨[.v .Item, .v .Item], [.bool], fun x => F_ref21_Apart x.1 x.2.1⟩
def tb_ref21_Apart : List (FuncId × Fe G) := []
theorem ev_ref21_Apart (x : TyP G fe_ref21_Apart.ps) : evF G (lstK G tb_ref21_Apart) (bodyOf Tryz.f116) an_ref21_Apart 23 [.tmp 4] fe_ref21_Apart.rs (argT G fe_ref21_Apart.ps x) = fe_ref21_Apart.fn x := by kernel_rfl
theorem ok_ref21_Apart : FnOk G 116 fe_ref21_Apart := fnOk_of G_ok (lstK_ok G_ok (lnil)) Tryz.func116 (by kernel_rfl) (by kernel_rfl) (by kernel_rfl) (by kernel_rfl) (by kernel_rfl) ev_ref21_Apart

def F_slices_IndexFunc_api_Frac (s : List TFrac) (f : TFrac → Option Bool) : Option (Int) :=
 (iterF (σ := Int × Unit) (ρ := (Int × Unit) ⊕ (Unit)) (fun s3 => (bif (decide (s3.1 < ((s.length : Nat) : Int))) then (idx s s3.1).bind fun x4 => (f x4).bind fun r5 => (bif r5 then some (.inr (.inl (s3.1, ()))) else some (.inl ((IntKind.i64.wrap (s3.1 + 1)), ()))) else some (.inr (.inr ((())))))) big (0, ())).bind fun y6 => (match y6 with | .inl y7 => some y7.1 | .inr y8 => some (-1))
def an_slices_IndexFunc_api_Frac : An U := (.node none .nil (.node none (.node none .nil (.node none (.node (some ⟨[0, 1, 7], [], ⟨[(8, .tv .int)], []⟩, [(.ret, ⟨[(4, .tv .int)], []⟩), (.exit 0, ⟨[], []⟩)]⟩) .nil .nil) .nil)) .nil))
def fe_slices_IndexFunc_api_Frac : Fe G := ⟨[.v .l_Frac, .fn .Frac .bool], [.int1], fun x => F_slices_IndexFunc_api_Frac x.1 x.2.1⟩
def tb_slices_IndexFunc_api_Frac : List (FuncId × Fe G) := []
theorem ev_slices_IndexFunc_api_Frac (x : TyP G fe_slices_IndexFunc_api_Frac.ps) : evF G (lstK G tb_slices_IndexFunc_api_Frac) (bodyOf Tryz.f122) an_slices_IndexFunc_api_Frac 19 [.tmp 4] fe_slices_IndexFunc_api_Frac.rs (argT G fe_slices_IndexFunc_api_Frac.ps x) = fe_slices_IndexFunc_api_Frac.fn x := by kernel_rfl
theorem ok_slices_IndexFunc_api_Frac : FnOk G 122 fe_slices_IndexFunc_api_Frac := fnOk_of G_ok (lstK_ok G_ok (lnil)) Tryz.func122 (by kernel_rfl) (by kernel_rfl) (by kernel_rfl) (by kernel_rfl) (by kernel_rfl) ev_slices_IndexFunc_api_Frac

def F_slices_Clone_int (s : List Int) : Option ((List Int)) :=
 (if ([] : List Int).length + s.length ≤ 2147483648 then some (([] : List Int) ++ s) else none)
def fe_slices_Clone_int : Fe G := ⟨[.v .l_int1], [.l_int1], fun x => F_slices_Clone_int x.1⟩
theorem ok_slices_Clone_int : FnOk G 124 fe_slices_Clone_int := clone_ok G_ok (lstK_ok G_ok lnil) Tryz.func124 (by kernel_rfl) (by kernel_rfl) (k := 8) (by kernel_rfl) (by decide) (res := [.tmp 2]) (by kernel_rfl) (by kernel_rfl) (t := 22) (by kernel_rfl) (u := .int1) (lu := .l_int1) (by kernel_rfl) (cast := fun x => x) (fun _ => by kernel_rfl) (F := F_slices_Clone_int) (fun _ => by kernel_rfl) (fun x y hx h => by obtain rfl : x = ([] : List Int) := hx; rw [← h]; kernel_rfl)

def F_batten_middle (x : TItem) : Option (Int) :=
 some (IntKind.i64.wrap (x.at_ + (IntKind.i64.wrap (x.width.tdiv 2))))
def an_batten_middle : An U := .nil
def fe_batten_middle : Fe G := ⟨[.v .Item], [.int1], fun x => F_batten_middle x.1⟩
def tb_batten_middle : List (FuncId × Fe G) := []
theorem ev_batten_middle (x : TyP G fe_batten_middle.ps) : evF G (lstK G tb_batten_middle) (bodyOf Tryz.f131) an_batten_middle 9 [.tmp 2] fe_batten_middle.rs (argT G fe_batten_middle.ps x) = fe_batten_middle.fn x := by kernel_rfl
theorem ok_batten_middle : FnOk G 131 fe_batten_middle := fnOk_of G_ok (lstK_ok G_ok (lnil)) Tryz.func131 (by kernel_rfl) (by kernel_rfl) (by kernel_rfl) (by kernel_rfl) (by kernel_rfl) ev_batten_middle

def F_math_bits_Mul64 (x : Int) (y : Int) : Option (Int × Int) :=
 some ((IntKind.u64.wrap ((IntKind.u64.wrap ((IntKind.u64.wrap ((x.fdiv (2 ^ min (Int.toNat 32) IntKind.u64.bits)) * (y.fdiv (2 ^ min (Int.toNat 32) IntKind.u64.bits)))) + ((IntKind.u64.wrap ((IntKind.u64.wrap ((x.fdiv (2 ^ min (Int.toNat 32) IntKind.u64.bits)) * (bitsOf .and .u64 y 4294967295))) + ((IntKind.u64.wrap ((bitsOf .and .u64 x 4294967295) * (bitsOf .and .u64 y 4294967295))).fdiv (2 ^ min (Int.toNat 32) IntKind.u64.bits)))).fdiv (2 ^ min (Int.toNat 32) IntKind.u64.bits)))) + ((IntKind.u64.wrap ((bitsOf .and .u64 (IntKind.u64.wrap ((IntKind.u64.wrap ((x.fdiv (2 ^ min (Int.toNat 32) IntKind.u64.bits)) * (bitsOf .and .u64 y 4294967295))) + ((IntKind.u64.wrap ((bitsOf .and .u64 x 4294967295) * (bitsOf .and .u64 y 4294967295))).fdiv (2 ^ min (Int.toNat 32) IntKind.u64.bits)))) 4294967295) + (IntKind.u64.wrap ((bitsOf .and .u64 x 4294967295) * (y.fdiv (2 ^ min (Int.toNat 32) IntKind.u64.bits)))))).fdiv (2 ^ min (Int.toNat 32) IntKind.u64.bits)))), (IntKind.u64.wrap (x * y)))
def an_math_bits_Mul64 : An U := .nil
def fe_math_bits_Mul64 : Fe G := ⟨[.v .u64, .v .u64], [.u64, .u64], fun x => F_math_bits_Mul64 x.1 x.2.1⟩
def tb_math_bits_Mul64 : List (FuncId × Fe G) := []
theorem ev_math_bits_Mul64 (x : TyP G fe_math_bits_Mul64.ps) : evF G (lstK G tb_math_bits_Mul64) (bodyOf Tryz.f132) an_math_bits_Mul64 51 [.tmp 4, .tmp 5] fe_math_bits_Mul64.rs (argT G fe_math_bits_Mul64.ps x) = fe_math_bits_Mul64.fn x := by kernel_rfl
theorem ok_math_bits_Mul64 : FnOk G 132 fe_math_bits_Mul64 := fnOk_of G_ok (lstK_ok G_ok (lnil)) Tryz.func132 (by kernel_rfl) (by kernel_rfl) (by kernel_rfl) (by kernel_rfl) (by kernel_rfl) ev_math_bits_Mul64

def F_decimal_letter (c : Int) : Option (Bool) :=
 ((bif (decide (c ≥ 97)) then (bif (decide (c ≤ 122)) then some (true, ()) else (bif (decide (c ≥ 65)) then some ((decide (c ≤ 90)), ()) else some (false, ()))) else (bif (decide (c ≥ 65)) then some ((decide (c ≤ 90)), ()) else some (false, ()))) : Option (Bool × Unit)).bind fun y1 => some y1.1
def an_decimal_letter : An U := (.node none .nil (.node (some ⟨[], [], ⟨[], []⟩, [(.normal, ⟨[(2, .tv .bool)], []⟩)]⟩) .nil .nil))
def fe_decimal_letter : Fe G := ⟨[.v .u8], [.bool], fun x => F_decimal_letter x.1⟩
def tb_decimal_letter : List (FuncId × Fe G) := []
theorem ev_decimal_letter (x : TyP G fe_decimal_letter.ps) : evF G (lstK G tb_decimal_letter) (bodyOf Tryz.f136) an_decimal_letter 17 [.tmp 2] fe_decimal_letter.rs (argT G fe_decimal_letter.ps x) = fe_decimal_letter.fn x := by kernel_rfl
theorem ok_decimal_letter : FnOk G 136 fe_decimal_letter := fnOk_of G_ok (lstK_ok G_ok (lnil)) Tryz.func136 (by kernel_rfl) (by kernel_rfl) (by kernel_rfl) (by kernel_rfl) (by kernel_rfl) ev_decimal_letter

def F_batten_twice_api_Item (l : List TItem) (name : TItem → Option ByteArray) : Option (Bool) :=
 (iterF (σ := Int × List (ByteArray × Bool) × Unit) (ρ := List (ByteArray × Bool) × Unit) (fun s5 => (bif (decide (s5.1 < ((l.length : Nat) : Int))) then (idx l s5.1).bind fun x6 => (name x6).bind fun r7 => (if r7.size ≤ 2147483648 ∧ s5.2.1.length ≤ 2147483648 then some (.inl ((IntKind.i64.wrap (s5.1 + 1)), (setM r7 true s5.2.1), ())) else none) else some (.inr (s5.2.1, ())))) big (0, ([] : List (ByteArray × Bool)), ())).bind fun y8 => some (decide (((y8.1.length : Nat) : Int) < ((l.length : Nat) : Int)))
def an_batten_twice_api_Item : An U := (.node none .nil (.node none .nil (.node none (.node none .nil (.node none (.node (some ⟨[0, 1, 4, 5, 9, 10], [0], ⟨[(11, .tv .int)], [(0, .map 186 false)]⟩, [(.exit 0, ⟨[], [(0, .map 186 false)]⟩)]⟩) .nil .nil) .nil)) .nil)))
def fe_batten_twice_api_Item : Fe G := ⟨[.v .l_Item, .fn .Item .str], [.bool], fun x => F_batten_twice_api_Item x.1 x.2.1⟩
def tb_batten_twice_api_Item : List (FuncId × Fe G) := []
theorem ev_batten_twice_api_Item (x : TyP G fe_batten_twice_api_Item.ps) : evF G (lstK G tb_batten_twice_api_Item) (bodyOf Tryz.f138) an_batten_twice_api_Item 26 [.tmp 4] fe_batten_twice_api_Item.rs (argT G fe_batten_twice_api_Item.ps x) = fe_batten_twice_api_Item.fn x := by kernel_rfl
theorem ok_batten_twice_api_Item : FnOk G 138 fe_batten_twice_api_Item := fnOk_of G_ok (lstK_ok G_ok (lnil)) Tryz.func138 (by kernel_rfl) (by kernel_rfl) (by kernel_rfl) (by kernel_rfl) (by kernel_rfl) ev_batten_twice_api_Item

def F_batten_items_1 (x : TItem) : Option (ByteArray) :=
 some x.name
def an_batten_items_1 : An U := .nil
def fe_batten_items_1 : Fe G := ⟨[.v .Item], [.str], fun x => F_batten_items_1 x.1⟩
def tb_batten_items_1 : List (FuncId × Fe G) := []
theorem ev_batten_items_1 (x : TyP G fe_batten_items_1.ps) : evF G (lstK G tb_batten_items_1) (bodyOf Tryz.f139) an_batten_items_1 5 [.tmp 2] fe_batten_items_1.rs (argT G fe_batten_items_1.ps x) = fe_batten_items_1.fn x := by kernel_rfl
theorem ok_batten_items_1 : FnOk G 139 fe_batten_items_1 := fnOk_of G_ok (lstK_ok G_ok (lnil)) Tryz.func139 (by kernel_rfl) (by kernel_rfl) (by kernel_rfl) (by kernel_rfl) (by kernel_rfl) ev_batten_items_1

def F_batten_apart (a : TItem) (b : TItem) : Option (Bool) :=
 ((bif (decide ((IntKind.i64.wrap (a.at_ + a.width)) ≤ b.at_)) then some (true, ()) else some ((decide ((IntKind.i64.wrap (b.at_ + b.width)) ≤ a.at_)), ())) : Option (Bool × Unit)).bind fun y1 => some y1.1
def an_batten_apart : An U := (.node none .nil (.node (some ⟨[], [], ⟨[], []⟩, [(.normal, ⟨[(4, .tv .bool)], []⟩)]⟩) .nil .nil))
def fe_batten_apart : Fe G := ⟨[.v .Item, .v .Item], [.bool], fun x => F_batten_apart x.1 x.2.1⟩
def tb_batten_apart : List (FuncId × Fe G) := []
theorem ev_batten_apart (x : TyP G fe_batten_apart.ps) : evF G (lstK G tb_batten_apart) (bodyOf Tryz.f143) an_batten_apart 23 [.tmp 4] fe_batten_apart.rs (argT G fe_batten_apart.ps x) = fe_batten_apart.fn x := by kernel_rfl
theorem ok_batten_apart : FnOk G 143 fe_batten_apart := fnOk_of G_ok (lstK_ok G_ok (lnil)) Tryz.func143 (by kernel_rfl) (by kernel_rfl) (by kernel_rfl) (by kernel_rfl) (by kernel_rfl) ev_batten_apart

def F_batten_twice_api_Brick (l : List TBrick) (name : TBrick → Option ByteArray) : Option (Bool) :=
 (iterF (σ := Int × List (ByteArray × Bool) × Unit) (ρ := List (ByteArray × Bool) × Unit) (fun s5 => (bif (decide (s5.1 < ((l.length : Nat) : Int))) then (idx l s5.1).bind fun x6 => (name x6).bind fun r7 => (if r7.size ≤ 2147483648 ∧ s5.2.1.length ≤ 2147483648 then some (.inl ((IntKind.i64.wrap (s5.1 + 1)), (setM r7 true s5.2.1), ())) else none) else some (.inr (s5.2.1, ())))) big (0, ([] : List (ByteArray × Bool)), ())).bind fun y8 => some (decide (((y8.1.length : Nat) : Int) < ((l.length : Nat) : Int)))
def an_batten_twice_api_Brick : An U := (.node none .nil (.node none .nil (.node none (.node none .nil (.node none (.node (some ⟨[0, 1, 4, 5, 9, 10], [0], ⟨[(11, .tv .int)], [(0, .map 186 false)]⟩, [(.exit 0, ⟨[], [(0, .map 186 false)]⟩)]⟩) .nil .nil) .nil)) .nil)))
def fe_batten_twice_api_Brick : Fe G := ⟨[.v .l_Brick, .fn .Brick .str], [.bool], fun x => F_batten_twice_api_Brick x.1 x.2.1⟩
def tb_batten_twice_api_Brick : List (FuncId × Fe G) := []
theorem ev_batten_twice_api_Brick (x : TyP G fe_batten_twice_api_Brick.ps) : evF G (lstK G tb_batten_twice_api_Brick) (bodyOf Tryz.f144) an_batten_twice_api_Brick 26 [.tmp 4] fe_batten_twice_api_Brick.rs (argT G fe_batten_twice_api_Brick.ps x) = fe_batten_twice_api_Brick.fn x := by kernel_rfl
theorem ok_batten_twice_api_Brick : FnOk G 144 fe_batten_twice_api_Brick := fnOk_of G_ok (lstK_ok G_ok (lnil)) Tryz.func144 (by kernel_rfl) (by kernel_rfl) (by kernel_rfl) (by kernel_rfl) (by kernel_rfl) ev_batten_twice_api_Brick
end
end Go.Proofs.YtcaopooflemnlaaGreat
