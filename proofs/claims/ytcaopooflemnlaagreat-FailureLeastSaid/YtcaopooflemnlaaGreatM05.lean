/- Joined by merge.py: Fn0, Fn1. -/
import Derived.Test.YtcaopooflemnlaaGreatM04
/- Functions, as plain data. Printed by mkev.py. -/
namespace Go.Proofs.YtcaopooflemnlaaGreat
open Go.RowKit
set_option linter.unusedVariables false
set_option linter.unusedSimpArgs false
noncomputable section

def F_slices_Equal_api_Frac (s1_ : List TFrac) (s2_ : List TFrac) : Option (Bool) :=
 (bif (((s1_.length : Nat) : Int) != ((s2_.length : Nat) : Int)) then some false else (iterF (σ := Int × Unit) (ρ := (Bool × Unit) ⊕ (Unit)) (fun s3 => (bif (decide (s3.1 < ((s1_.length : Nat) : Int))) then (idx s1_ s3.1).bind fun x4 => (idx s2_ s3.1).bind fun x5 => (bif (!((x4.num == x5.num) && (x4.den == x5.den))) then some (.inr (.inl (false, ()))) else some (.inl ((IntKind.i64.wrap (s3.1 + 1)), ()))) else some (.inr (.inr ((())))))) big (0, ())).bind fun y6 => (match y6 with | .inl y7 => some y7.1 | .inr y8 => some true))
def an_slices_Equal_api_Frac : An U := (.node none .nil (.node none .nil (.node none (.node none .nil (.node none (.node (some ⟨[0, 1, 12], [], ⟨[(13, .tv .int)], []⟩, [(.ret, ⟨[(4, .tv .bool)], []⟩), (.exit 0, ⟨[], []⟩)]⟩) .nil .nil) .nil)) .nil)))
def fe_slices_Equal_api_Frac : Fe G := ⟨[.v .l_Frac, .v .l_Frac], [.bool], fun x => F_slices_Equal_api_Frac x.1 x.2.1⟩
theorem ok_slices_Equal_api_Frac : FnOk G 24 fe_slices_Equal_api_Frac := fk (an := an_slices_Equal_api_Frac) (k := 26) (res := [.tmp 4]) (lstK_ok G_ok (lnil)) Tryz.func24 fun _ => by kernel_rfl

def F_slices_Equal_int (s1_ : List Int) (s2_ : List Int) : Option (Bool) :=
 (bif (((s1_.length : Nat) : Int) != ((s2_.length : Nat) : Int)) then some false else (iterF (σ := Int × Unit) (ρ := (Bool × Unit) ⊕ (Unit)) (fun s3 => (bif (decide (s3.1 < ((s1_.length : Nat) : Int))) then (idx s1_ s3.1).bind fun x4 => (idx s2_ s3.1).bind fun x5 => (bif (x4 != x5) then some (.inr (.inl (false, ()))) else some (.inl ((IntKind.i64.wrap (s3.1 + 1)), ()))) else some (.inr (.inr ((())))))) big (0, ())).bind fun y6 => (match y6 with | .inl y7 => some y7.1 | .inr y8 => some true))
def an_slices_Equal_int : An U := (.node none .nil (.node none .nil (.node none (.node none .nil (.node none (.node (some ⟨[0, 1, 12], [], ⟨[(13, .tv .int)], []⟩, [(.ret, ⟨[(4, .tv .bool)], []⟩), (.exit 0, ⟨[], []⟩)]⟩) .nil .nil) .nil)) .nil)))
def fe_slices_Equal_int : Fe G := ⟨[.v .l_int1, .v .l_int1], [.bool], fun x => F_slices_Equal_int x.1 x.2.1⟩
theorem ok_slices_Equal_int : FnOk G 41 fe_slices_Equal_int := fk (an := an_slices_Equal_int) (k := 26) (res := [.tmp 4]) (lstK_ok G_ok (lnil)) Tryz.func41 fun _ => by kernel_rfl

def F_law24_of (n : Int) : Option (TFrac) :=
 some (TFrac.mk n 1)
def fe_law24_of : Fe G := ⟨[.v .int1], [.Frac], fun x => F_law24_of x.1⟩
theorem ok_law24_of : FnOk G 59 fe_law24_of := fk (an := .nil) (k := 5) (res := [.cell 2 43]) (lstK_ok G_ok (lnil)) Tryz.func59 fun _ => by kernel_rfl

def F_slices_IndexFunc_api_Item (s : List TItem) (f : TItem → Option Bool) : Option (Int) :=
 (iterF (σ := Int × Unit) (ρ := (Int × Unit) ⊕ (Unit)) (fun s3 => (bif (decide (s3.1 < ((s.length : Nat) : Int))) then (idx s s3.1).bind fun x4 => (f x4).bind fun r5 => (bif r5 then some (.inr (.inl (s3.1, ()))) else some (.inl ((IntKind.i64.wrap (s3.1 + 1)), ()))) else some (.inr (.inr ((())))))) big (0, ())).bind fun y6 => (match y6 with | .inl y7 => some y7.1 | .inr y8 => some (-1))
def an_slices_IndexFunc_api_Item : An U := (.node none .nil (.node none (.node none .nil (.node none (.node (some ⟨[0, 1, 7], [], ⟨[(8, .tv .int)], []⟩, [(.ret, ⟨[(4, .tv .int)], []⟩), (.exit 0, ⟨[], []⟩)]⟩) .nil .nil) .nil)) .nil))
def fe_slices_IndexFunc_api_Item : Fe G := ⟨[.v .l_Item, .fn .Item .bool], [.int1], fun x => F_slices_IndexFunc_api_Item x.1 x.2.1⟩
theorem ok_slices_IndexFunc_api_Item : FnOk G 67 fe_slices_IndexFunc_api_Item := fk (an := an_slices_IndexFunc_api_Item) (k := 19) (res := [.tmp 4]) (lstK_ok G_ok (lnil)) Tryz.func67 fun _ => by kernel_rfl

def F_ref21_Small (s : TSet) (most : Int) : Option (Bool) :=
 ((bif (decide (((s.name.size : Nat) : Int) > 60)) then some (true, ()) else (bif (decide (((s.lines.length : Nat) : Int) > 12)) then some (true, ()) else (bif (decide (((s.items.length : Nat) : Int) > most)) then (bif (decide (((s.items.length : Nat) : Int) ≤ 40)) then some (true, ()) else (bif (decide (((s.items.length : Nat) : Int) > 45)) then some (true, ()) else some ((decide (((s.bricks.length : Nat) : Int) > 10)), ()))) else (bif (decide (((s.items.length : Nat) : Int) > 45)) then some (true, ()) else some ((decide (((s.bricks.length : Nat) : Int) > 10)), ()))))) : Option (Bool × Unit)).bind fun y1 => (bif y1.1 then some false else (iterF (σ := Int × Unit) (ρ := (Bool × Unit) ⊕ (Unit)) (fun s3 => (bif (decide (s3.1 < ((s.items.length : Nat) : Int))) then (idx s.items s3.1).bind fun x4 => (bif (decide (((x4.name.size : Nat) : Int) > 60)) then some (.inr (.inl (false, ()))) else some (.inl ((IntKind.i64.wrap (s3.1 + 1)), ()))) else some (.inr (.inr ((())))))) big (0, ())).bind fun y5 => (match y5 with | .inl y6 => some y6.1 | .inr y7 => (iterF (σ := Int × Unit) (ρ := (Bool × Unit) ⊕ (Unit)) (fun s9 => (bif (decide (s9.1 < ((s.bricks.length : Nat) : Int))) then (idx s.bricks s9.1).bind fun x10 => (bif (decide (((x10.name.size : Nat) : Int) > 60)) then some (.inr (.inl (false, ()))) else some (.inl ((IntKind.i64.wrap (s9.1 + 1)), ()))) else some (.inr (.inr ((())))))) big (0, ())).bind fun y11 => (match y11 with | .inl y12 => some y12.1 | .inr y13 => some true)))
def an_ref21_Small : An U := (.node none .nil (.node none (.node (some ⟨[2, 4], [], ⟨[], []⟩, [(.normal, ⟨[(41, .tv .bool)], []⟩)]⟩) .nil .nil) (.node none (.node none .nil (.node none (.node (some ⟨[2], [], ⟨[(5, .tv .int)], []⟩, [(.ret, ⟨[(4, .tv .bool)], []⟩), (.exit 0, ⟨[], []⟩)]⟩) .nil .nil) .nil)) (.node none (.node none .nil (.node none (.node (some ⟨[2], [], ⟨[(6, .tv .int)], []⟩, [(.ret, ⟨[(4, .tv .bool)], []⟩), (.exit 2, ⟨[], []⟩)]⟩) .nil .nil) .nil)) .nil))))
def fe_ref21_Small : Fe G := ⟨[.v .Set, .v .int1], [.bool], fun x => F_ref21_Small x.1 x.2.1⟩
theorem ok_ref21_Small : FnOk G 70 fe_ref21_Small := fk (an := an_ref21_Small) (k := 72) (res := [.tmp 4]) (lstK_ok G_ok (lnil)) Tryz.func70 fun _ => by kernel_rfl

def F_ref21_between (n : Int) (low : Int) (high : Int) : Option (Bool) :=
 ((bif (decide (n ≥ low)) then some ((decide (n ≤ high)), ()) else some (false, ())) : Option (Bool × Unit)).bind fun y1 => some y1.1
def an_ref21_between : An U := (.node none .nil (.node (some ⟨[], [], ⟨[], []⟩, [(.normal, ⟨[(6, .tv .bool)], []⟩)]⟩) .nil .nil))
def fe_ref21_between : Fe G := ⟨[.v .int1, .v .int1, .v .int1], [.bool], fun x => F_ref21_between x.1 x.2.1 x.2.2.1⟩
theorem ok_ref21_between : FnOk G 74 fe_ref21_between := fk (an := an_ref21_between) (k := 15) (res := [.tmp 6]) (lstK_ok G_ok (lnil)) Tryz.func74 fun _ => by kernel_rfl

def F_law24_example : Option (TSet) :=
 some (TSet.mk (⟨#[115]⟩ : ByteArray) 0 0 5000 2000 ([0, 1000, 2000] : List Int) 0 0 1 500 0 ([(TItem.mk (⟨#[105]⟩ : ByteArray) 900 200 600 0 0 0)] : List TItem) ([] : List TBrick))
def fe_law24_example : Fe G := ⟨[], [.Set], fun x => F_law24_example⟩
theorem ok_law24_example : FnOk G 77 fe_law24_example := fk (an := .nil) (k := 5) (res := [.cell 0 26]) (lstK_ok G_ok (lnil)) Tryz.func77 fun _ => by kernel_rfl

def F_ref02_Mul (a : Int) (b : Int) : Option (TU) :=
 some (TU.mk (IntKind.u64.wrap ((IntKind.u64.wrap ((IntKind.u64.wrap ((a.fdiv (2 ^ min (Int.toNat 32) IntKind.u64.bits)) * (b.fdiv (2 ^ min (Int.toNat 32) IntKind.u64.bits)))) + ((IntKind.u64.wrap ((IntKind.u64.wrap ((a.fdiv (2 ^ min (Int.toNat 32) IntKind.u64.bits)) * (bitsOf .and .u64 b 4294967295))) + ((IntKind.u64.wrap ((bitsOf .and .u64 a 4294967295) * (bitsOf .and .u64 b 4294967295))).fdiv (2 ^ min (Int.toNat 32) IntKind.u64.bits)))).fdiv (2 ^ min (Int.toNat 32) IntKind.u64.bits)))) + ((IntKind.u64.wrap ((IntKind.u64.wrap ((bitsOf .and .u64 a 4294967295) * (b.fdiv (2 ^ min (Int.toNat 32) IntKind.u64.bits)))) + (bitsOf .and .u64 (IntKind.u64.wrap ((IntKind.u64.wrap ((a.fdiv (2 ^ min (Int.toNat 32) IntKind.u64.bits)) * (bitsOf .and .u64 b 4294967295))) + ((IntKind.u64.wrap ((bitsOf .and .u64 a 4294967295) * (bitsOf .and .u64 b 4294967295))).fdiv (2 ^ min (Int.toNat 32) IntKind.u64.bits)))) 4294967295))).fdiv (2 ^ min (Int.toNat 32) IntKind.u64.bits)))) (IntKind.u64.wrap ((IntKind.u64.wrap ((IntKind.u64.wrap ((IntKind.u64.wrap ((bitsOf .and .u64 a 4294967295) * (b.fdiv (2 ^ min (Int.toNat 32) IntKind.u64.bits)))) + (bitsOf .and .u64 (IntKind.u64.wrap ((IntKind.u64.wrap ((a.fdiv (2 ^ min (Int.toNat 32) IntKind.u64.bits)) * (bitsOf .and .u64 b 4294967295))) + ((IntKind.u64.wrap ((bitsOf .and .u64 a 4294967295) * (bitsOf .and .u64 b 4294967295))).fdiv (2 ^ min (Int.toNat 32) IntKind.u64.bits)))) 4294967295))) * 2 ^ min (Int.toNat 32) IntKind.u64.bits)) + (bitsOf .and .u64 (IntKind.u64.wrap ((bitsOf .and .u64 a 4294967295) * (bitsOf .and .u64 b 4294967295))) 4294967295))))
def fe_ref02_Mul : Fe G := ⟨[.v .u64, .v .u64], [.U], fun x => F_ref02_Mul x.1 x.2.1⟩
theorem ok_ref02_Mul : FnOk G 91 fe_ref02_Mul := fk (an := .nil) (k := 50) (res := [.cell 4 108]) (lstK_ok G_ok (lnil)) Tryz.func91 fun _ => by kernel_rfl

def F_ref02_Size (n : Int) : Option (Int) :=
 (bif (decide (n < 0)) then some (IntKind.u64.wrap (0 - (IntKind.u64.wrap n))) else some (IntKind.u64.wrap n))
def fe_ref02_Size : Fe G := ⟨[.v .int1], [.u64], fun x => F_ref02_Size x.1⟩
theorem ok_ref02_Size : FnOk G 92 fe_ref02_Size := fk (an := .nil) (k := 10) (res := [.tmp 2]) (lstK_ok G_ok (lnil)) Tryz.func92 fun _ => by kernel_rfl

def F_ref02_Less (a : TU) (b : TU) : Option (Bool) :=
 ((bif (decide (a.h < b.h)) then some (true, ()) else (bif (a.h == b.h) then some ((decide (a.l < b.l)), ()) else some (false, ()))) : Option (Bool × Unit)).bind fun y1 => some y1.1
def an_ref02_Less : An U := (.node none .nil (.node (some ⟨[], [], ⟨[], []⟩, [(.normal, ⟨[(4, .tv .bool)], []⟩)]⟩) .nil .nil))
def fe_ref02_Less : Fe G := ⟨[.v .U, .v .U], [.bool], fun x => F_ref02_Less x.1 x.2.1⟩
theorem ok_ref02_Less : FnOk G 93 fe_ref02_Less := fk (an := an_ref02_Less) (k := 24) (res := [.tmp 4]) (lstK_ok G_ok (lnil)) Tryz.func93 fun _ => by kernel_rfl

def F_slices_Index_bool (s : List Bool) (v : Bool) : Option (Int) :=
 (iterF (σ := Int × Unit) (ρ := (Int × Unit) ⊕ (Unit)) (fun s2 => (bif (decide (s2.1 < ((s.length : Nat) : Int))) then (idx s s2.1).bind fun x3 => (bif (v == x3) then some (.inr (.inl (s2.1, ()))) else some (.inl ((IntKind.i64.wrap (s2.1 + 1)), ()))) else some (.inr (.inr ((())))))) big (0, ())).bind fun y4 => (match y4 with | .inl y5 => some y5.1 | .inr y6 => some (-1))
def an_slices_Index_bool : An U := (.node none .nil (.node none (.node none .nil (.node none (.node (some ⟨[0, 1, 7], [], ⟨[(8, .tv .int)], []⟩, [(.ret, ⟨[(4, .tv .int)], []⟩), (.exit 0, ⟨[], []⟩)]⟩) .nil .nil) .nil)) .nil))
def fe_slices_Index_bool : Fe G := ⟨[.v .l_bool, .v .bool], [.int1], fun x => F_slices_Index_bool x.1 x.2.1⟩
theorem ok_slices_Index_bool : FnOk G 94 fe_slices_Index_bool := fk (an := an_slices_Index_bool) (k := 19) (res := [.tmp 4]) (lstK_ok G_ok (lnil)) Tryz.func94 fun _ => by kernel_rfl

def F_ratio_size (n : Int) : Option (Int) :=
 (bif (decide (n < 0)) then some (IntKind.u64.wrap (0 - (IntKind.u64.wrap n))) else some (IntKind.u64.wrap n))
def fe_ratio_size : Fe G := ⟨[.v .int1], [.u64], fun x => F_ratio_size x.1⟩
theorem ok_ratio_size : FnOk G 96 fe_ratio_size := fk (an := .nil) (k := 10) (res := [.tmp 2]) (lstK_ok G_ok (lnil)) Tryz.func96 fun _ => by kernel_rfl

def F_ratio_less (a : Twide) (b : Twide) : Option (Bool) :=
 ((bif (decide (a.hi < b.hi)) then some (true, ()) else (bif (a.hi == b.hi) then some ((decide (a.lo < b.lo)), ()) else some (false, ()))) : Option (Bool × Unit)).bind fun y1 => some y1.1
def an_ratio_less : An U := (.node none .nil (.node (some ⟨[], [], ⟨[], []⟩, [(.normal, ⟨[(4, .tv .bool)], []⟩)]⟩) .nil .nil))
def fe_ratio_less : Fe G := ⟨[.v .wide, .v .wide], [.bool], fun x => F_ratio_less x.1 x.2.1⟩
theorem ok_ratio_less : FnOk G 97 fe_ratio_less := fk (an := an_ratio_less) (k := 24) (res := [.tmp 4]) (lstK_ok G_ok (lnil)) Tryz.func97 fun _ => by kernel_rfl

def F_ratio_gcd (a : Int) (b : Int) : Option (Int) :=
 (iterF (σ := Int × Int × Unit) (ρ := Int × Unit) (fun s1 => (bif (s1.2.1 != 0) then (if s1.2.1 = 0 then none else some (.inl (s1.2.1, (s1.1.tmod s1.2.1), ()))) else some (.inr (s1.1, ())))) big (a, b, ())).bind fun y2 => some y2.1
def an_ratio_gcd : An U := (.node none .nil (.node none (.node none (.node (some ⟨[4], [], ⟨[(0, .tv .u64), (1, .tv .u64)], []⟩, [(.exit 0, ⟨[(0, .tv .u64)], []⟩)]⟩) .nil .nil) .nil) .nil))
def fe_ratio_gcd : Fe G := ⟨[.v .u64, .v .u64], [.u64], fun x => F_ratio_gcd x.1 x.2.1⟩
theorem ok_ratio_gcd : FnOk G 98 fe_ratio_gcd := fk (an := an_ratio_gcd) (k := 12) (res := [.tmp 4]) (lstK_ok G_ok (lnil)) Tryz.func98 fun _ => by kernel_rfl

def F_ratio_signed (negative : Bool) (num : Int) (den : Int) : Option (TFrac × Int) :=
 ((bif (decide (num > 1152921504606846976)) then some (true, ()) else some ((decide (den > 1152921504606846976)), ())) : Option (Bool × Unit)).bind fun y1 => (bif y1.1 then some ((TFrac.mk 0 0), 5) else ((bif negative then some ((IntKind.i64.wrap (0 - (IntKind.i64.wrap num))), ()) else some ((IntKind.i64.wrap num), ())) : Option (Int × Unit)).bind fun y2 => some ((TFrac.mk y2.1 (IntKind.i64.wrap den)), 0))
def an_ratio_signed : An U := (.node none .nil (.node none (.node (some ⟨[0, 1, 2, 6, 7], [], ⟨[], []⟩, [(.normal, ⟨[(14, .tv .bool)], []⟩)]⟩) .nil .nil) (.node none .nil (.node (some ⟨[2, 6, 7], [], ⟨[], []⟩, [(.normal, ⟨[(8, .tv .int)], []⟩)]⟩) .nil .nil))))
def fe_ratio_signed : Fe G := ⟨[.v .bool, .v .u64, .v .u64], [.Frac, .Errno], fun x => F_ratio_signed x.1 x.2.1 x.2.2.1⟩
theorem ok_ratio_signed : FnOk G 99 fe_ratio_signed := fk (an := an_ratio_signed) (k := 25) (res := [.cell 6 43, .tmp 7]) (lstK_ok G_ok (lnil)) Tryz.func99 fun _ => by kernel_rfl

def F_batten_between (n : Int) (low : Int) (high : Int) : Option (Bool) :=
 ((bif (decide (n ≥ low)) then some ((decide (n ≤ high)), ()) else some (false, ())) : Option (Bool × Unit)).bind fun y1 => some y1.1
def an_batten_between : An U := (.node none .nil (.node (some ⟨[], [], ⟨[], []⟩, [(.normal, ⟨[(6, .tv .bool)], []⟩)]⟩) .nil .nil))
def fe_batten_between : Fe G := ⟨[.v .int1, .v .int1, .v .int1], [.bool], fun x => F_batten_between x.1 x.2.1 x.2.2.1⟩
theorem ok_batten_between : FnOk G 105 fe_batten_between := fk (an := an_batten_between) (k := 15) (res := [.tmp 6]) (lstK_ok G_ok (lnil)) Tryz.func105 fun _ => by kernel_rfl

def F_ref01_Letter (c : Int) : Option (Bool) :=
 ((bif (decide (c ≥ 97)) then (bif (decide (c ≤ 122)) then some (true, ()) else (bif (decide (c ≥ 65)) then some ((decide (c ≤ 90)), ()) else some (false, ()))) else (bif (decide (c ≥ 65)) then some ((decide (c ≤ 90)), ()) else some (false, ()))) : Option (Bool × Unit)).bind fun y1 => some y1.1
def an_ref01_Letter : An U := (.node none .nil (.node (some ⟨[], [], ⟨[], []⟩, [(.normal, ⟨[(2, .tv .bool)], []⟩)]⟩) .nil .nil))
def fe_ref01_Letter : Fe G := ⟨[.v .u8], [.bool], fun x => F_ref01_Letter x.1⟩
theorem ok_ref01_Letter : FnOk G 113 fe_ref01_Letter := fk (an := an_ref01_Letter) (k := 17) (res := [.tmp 2]) (lstK_ok G_ok (lnil)) Tryz.func113 fun _ => by kernel_rfl

def F_ref21_Apart (x : TItem) (y : TItem) : Option (Bool) :=
 ((bif (decide ((IntKind.i64.wrap (x.at_ + x.width)) ≤ y.at_)) then some (true, ()) else some ((decide ((IntKind.i64.wrap (y.at_ + y.width)) ≤ x.at_)), ())) : Option (Bool × Unit)).bind fun y1 => some y1.1
def an_ref21_Apart : An U := (.node none .nil (.node (some ⟨[], [], ⟨[], []⟩, [(.normal, ⟨[(4, .tv .bool)], []⟩)]⟩) .nil .nil))
def fe_ref21_Apart : Fe G := ⟨[.v .Item, .v .Item], [.bool], fun x => F_ref21_Apart x.1 x.2.1⟩
theorem ok_ref21_Apart : FnOk G 116 fe_ref21_Apart := fk (an := an_ref21_Apart) (k := 23) (res := [.tmp 4]) (lstK_ok G_ok (lnil)) Tryz.func116 fun _ => by kernel_rfl

def F_slices_IndexFunc_api_Frac (s : List TFrac) (f : TFrac → Option Bool) : Option (Int) :=
 (iterF (σ := Int × Unit) (ρ := (Int × Unit) ⊕ (Unit)) (fun s3 => (bif (decide (s3.1 < ((s.length : Nat) : Int))) then (idx s s3.1).bind fun x4 => (f x4).bind fun r5 => (bif r5 then some (.inr (.inl (s3.1, ()))) else some (.inl ((IntKind.i64.wrap (s3.1 + 1)), ()))) else some (.inr (.inr ((())))))) big (0, ())).bind fun y6 => (match y6 with | .inl y7 => some y7.1 | .inr y8 => some (-1))
def an_slices_IndexFunc_api_Frac : An U := (.node none .nil (.node none (.node none .nil (.node none (.node (some ⟨[0, 1, 7], [], ⟨[(8, .tv .int)], []⟩, [(.ret, ⟨[(4, .tv .int)], []⟩), (.exit 0, ⟨[], []⟩)]⟩) .nil .nil) .nil)) .nil))
def fe_slices_IndexFunc_api_Frac : Fe G := ⟨[.v .l_Frac, .fn .Frac .bool], [.int1], fun x => F_slices_IndexFunc_api_Frac x.1 x.2.1⟩
theorem ok_slices_IndexFunc_api_Frac : FnOk G 122 fe_slices_IndexFunc_api_Frac := fk (an := an_slices_IndexFunc_api_Frac) (k := 19) (res := [.tmp 4]) (lstK_ok G_ok (lnil)) Tryz.func122 fun _ => by kernel_rfl

def F_slices_Clone_int (s : List Int) : Option ((List Int)) :=
 (if ([] : List Int).length + s.length ≤ 2147483648 then some (([] : List Int) ++ s) else none)
def fe_slices_Clone_int : Fe G := ⟨[.v .l_int1], [.l_int1], fun x => F_slices_Clone_int x.1⟩
theorem ok_slices_Clone_int : FnOk G 124 fe_slices_Clone_int := clone_ok G_ok (lstK_ok G_ok lnil) Tryz.func124 (by kernel_rfl) (by kernel_rfl) (k := 8) (by kernel_rfl) (by decide) (res := [.tmp 2]) (by kernel_rfl) (by kernel_rfl) (t := 22) (by kernel_rfl) (u := .int1) (lu := .l_int1) (by kernel_rfl) (cast := fun x => x) (fun _ => by kernel_rfl) (F := F_slices_Clone_int) (fun _ => by kernel_rfl) (fun x y hx h => by obtain rfl : x = ([] : List Int) := hx; rw [← h]; kernel_rfl)

def F_slices_Clone_api_Item (s : List TItem) : Option ((List TItem)) :=
 (if ([] : List TItem).length + s.length ≤ 2147483648 then some (([] : List TItem) ++ s) else none)
def fe_slices_Clone_api_Item : Fe G := ⟨[.v .l_Item], [.l_Item], fun x => F_slices_Clone_api_Item x.1⟩
theorem ok_slices_Clone_api_Item : FnOk G 125 fe_slices_Clone_api_Item := clone_ok G_ok (lstK_ok G_ok lnil) Tryz.func125 (by kernel_rfl) (by kernel_rfl) (k := 8) (by kernel_rfl) (by decide) (res := [.tmp 2]) (by kernel_rfl) (by kernel_rfl) (t := 23) (by kernel_rfl) (u := .Item) (lu := .l_Item) (by kernel_rfl) (cast := fun x => x) (fun _ => by kernel_rfl) (F := F_slices_Clone_api_Item) (fun _ => by kernel_rfl) (fun x y hx h => by obtain rfl : x = ([] : List TItem) := hx; rw [← h]; kernel_rfl)

def F_slices_Clone_api_Brick (s : List TBrick) : Option ((List TBrick)) :=
 (if ([] : List TBrick).length + s.length ≤ 2147483648 then some (([] : List TBrick) ++ s) else none)
def fe_slices_Clone_api_Brick : Fe G := ⟨[.v .l_Brick], [.l_Brick], fun x => F_slices_Clone_api_Brick x.1⟩
theorem ok_slices_Clone_api_Brick : FnOk G 126 fe_slices_Clone_api_Brick := clone_ok G_ok (lstK_ok G_ok lnil) Tryz.func126 (by kernel_rfl) (by kernel_rfl) (k := 8) (by kernel_rfl) (by decide) (res := [.tmp 2]) (by kernel_rfl) (by kernel_rfl) (t := 24) (by kernel_rfl) (u := .Brick) (lu := .l_Brick) (by kernel_rfl) (cast := fun x => x) (fun _ => by kernel_rfl) (F := F_slices_Clone_api_Brick) (fun _ => by kernel_rfl) (fun x y hx h => by obtain rfl : x = ([] : List TBrick) := hx; rw [← h]; kernel_rfl)

def F_batten_middle (x : TItem) : Option (Int) :=
 some (IntKind.i64.wrap (x.at_ + (IntKind.i64.wrap (x.width.tdiv 2))))
def fe_batten_middle : Fe G := ⟨[.v .Item], [.int1], fun x => F_batten_middle x.1⟩
theorem ok_batten_middle : FnOk G 131 fe_batten_middle := fk (an := .nil) (k := 9) (res := [.tmp 2]) (lstK_ok G_ok (lnil)) Tryz.func131 fun _ => by kernel_rfl

def F_math_bits_Mul64 (x : Int) (y : Int) : Option (Int × Int) :=
 some ((IntKind.u64.wrap ((IntKind.u64.wrap ((IntKind.u64.wrap ((x.fdiv (2 ^ min (Int.toNat 32) IntKind.u64.bits)) * (y.fdiv (2 ^ min (Int.toNat 32) IntKind.u64.bits)))) + ((IntKind.u64.wrap ((IntKind.u64.wrap ((x.fdiv (2 ^ min (Int.toNat 32) IntKind.u64.bits)) * (bitsOf .and .u64 y 4294967295))) + ((IntKind.u64.wrap ((bitsOf .and .u64 x 4294967295) * (bitsOf .and .u64 y 4294967295))).fdiv (2 ^ min (Int.toNat 32) IntKind.u64.bits)))).fdiv (2 ^ min (Int.toNat 32) IntKind.u64.bits)))) + ((IntKind.u64.wrap ((bitsOf .and .u64 (IntKind.u64.wrap ((IntKind.u64.wrap ((x.fdiv (2 ^ min (Int.toNat 32) IntKind.u64.bits)) * (bitsOf .and .u64 y 4294967295))) + ((IntKind.u64.wrap ((bitsOf .and .u64 x 4294967295) * (bitsOf .and .u64 y 4294967295))).fdiv (2 ^ min (Int.toNat 32) IntKind.u64.bits)))) 4294967295) + (IntKind.u64.wrap ((bitsOf .and .u64 x 4294967295) * (y.fdiv (2 ^ min (Int.toNat 32) IntKind.u64.bits)))))).fdiv (2 ^ min (Int.toNat 32) IntKind.u64.bits)))), (IntKind.u64.wrap (x * y)))
def fe_math_bits_Mul64 : Fe G := ⟨[.v .u64, .v .u64], [.u64, .u64], fun x => F_math_bits_Mul64 x.1 x.2.1⟩
theorem ok_math_bits_Mul64 : FnOk G 132 fe_math_bits_Mul64 := fk (an := .nil) (k := 51) (res := [.tmp 4, .tmp 5]) (lstK_ok G_ok (lnil)) Tryz.func132 fun _ => by kernel_rfl

def F_decimal_letter (c : Int) : Option (Bool) :=
 ((bif (decide (c ≥ 97)) then (bif (decide (c ≤ 122)) then some (true, ()) else (bif (decide (c ≥ 65)) then some ((decide (c ≤ 90)), ()) else some (false, ()))) else (bif (decide (c ≥ 65)) then some ((decide (c ≤ 90)), ()) else some (false, ()))) : Option (Bool × Unit)).bind fun y1 => some y1.1
def an_decimal_letter : An U := (.node none .nil (.node (some ⟨[], [], ⟨[], []⟩, [(.normal, ⟨[(2, .tv .bool)], []⟩)]⟩) .nil .nil))
def fe_decimal_letter : Fe G := ⟨[.v .u8], [.bool], fun x => F_decimal_letter x.1⟩
theorem ok_decimal_letter : FnOk G 136 fe_decimal_letter := fk (an := an_decimal_letter) (k := 17) (res := [.tmp 2]) (lstK_ok G_ok (lnil)) Tryz.func136 fun _ => by kernel_rfl

def F_batten_twice_api_Item (l : List TItem) (name : TItem → Option ByteArray) : Option (Bool) :=
 (iterF (σ := Int × List (ByteArray × Bool) × Unit) (ρ := List (ByteArray × Bool) × Unit) (fun s5 => (bif (decide (s5.1 < ((l.length : Nat) : Int))) then (idx l s5.1).bind fun x6 => (name x6).bind fun r7 => (if r7.size ≤ 2147483648 ∧ s5.2.1.length ≤ 2147483648 then some (.inl ((IntKind.i64.wrap (s5.1 + 1)), (setM r7 true s5.2.1), ())) else none) else some (.inr (s5.2.1, ())))) big (0, ([] : List (ByteArray × Bool)), ())).bind fun y8 => some (decide (((y8.1.length : Nat) : Int) < ((l.length : Nat) : Int)))
def an_batten_twice_api_Item : An U := (.node none .nil (.node none .nil (.node none (.node none .nil (.node none (.node (some ⟨[0, 1, 4, 5, 9, 10], [0], ⟨[(11, .tv .int)], [(0, .map 186 false)]⟩, [(.exit 0, ⟨[], [(0, .map 186 false)]⟩)]⟩) .nil .nil) .nil)) .nil)))
def fe_batten_twice_api_Item : Fe G := ⟨[.v .l_Item, .fn .Item .str], [.bool], fun x => F_batten_twice_api_Item x.1 x.2.1⟩
theorem ok_batten_twice_api_Item : FnOk G 138 fe_batten_twice_api_Item := fk (an := an_batten_twice_api_Item) (k := 26) (res := [.tmp 4]) (lstK_ok G_ok (lnil)) Tryz.func138 fun _ => by kernel_rfl

def F_batten_items_1 (x : TItem) : Option (ByteArray) :=
 some x.name
def fe_batten_items_1 : Fe G := ⟨[.v .Item], [.str], fun x => F_batten_items_1 x.1⟩
theorem ok_batten_items_1 : FnOk G 139 fe_batten_items_1 := fk (an := .nil) (k := 5) (res := [.tmp 2]) (lstK_ok G_ok (lnil)) Tryz.func139 fun _ => by kernel_rfl

def F_batten_apart (a : TItem) (b : TItem) : Option (Bool) :=
 ((bif (decide ((IntKind.i64.wrap (a.at_ + a.width)) ≤ b.at_)) then some (true, ()) else some ((decide ((IntKind.i64.wrap (b.at_ + b.width)) ≤ a.at_)), ())) : Option (Bool × Unit)).bind fun y1 => some y1.1
def an_batten_apart : An U := (.node none .nil (.node (some ⟨[], [], ⟨[], []⟩, [(.normal, ⟨[(4, .tv .bool)], []⟩)]⟩) .nil .nil))
def fe_batten_apart : Fe G := ⟨[.v .Item, .v .Item], [.bool], fun x => F_batten_apart x.1 x.2.1⟩
theorem ok_batten_apart : FnOk G 143 fe_batten_apart := fk (an := an_batten_apart) (k := 23) (res := [.tmp 4]) (lstK_ok G_ok (lnil)) Tryz.func143 fun _ => by kernel_rfl

def F_batten_twice_api_Brick (l : List TBrick) (name : TBrick → Option ByteArray) : Option (Bool) :=
 (iterF (σ := Int × List (ByteArray × Bool) × Unit) (ρ := List (ByteArray × Bool) × Unit) (fun s5 => (bif (decide (s5.1 < ((l.length : Nat) : Int))) then (idx l s5.1).bind fun x6 => (name x6).bind fun r7 => (if r7.size ≤ 2147483648 ∧ s5.2.1.length ≤ 2147483648 then some (.inl ((IntKind.i64.wrap (s5.1 + 1)), (setM r7 true s5.2.1), ())) else none) else some (.inr (s5.2.1, ())))) big (0, ([] : List (ByteArray × Bool)), ())).bind fun y8 => some (decide (((y8.1.length : Nat) : Int) < ((l.length : Nat) : Int)))
def an_batten_twice_api_Brick : An U := (.node none .nil (.node none .nil (.node none (.node none .nil (.node none (.node (some ⟨[0, 1, 4, 5, 9, 10], [0], ⟨[(11, .tv .int)], [(0, .map 186 false)]⟩, [(.exit 0, ⟨[], [(0, .map 186 false)]⟩)]⟩) .nil .nil) .nil)) .nil)))
def fe_batten_twice_api_Brick : Fe G := ⟨[.v .l_Brick, .fn .Brick .str], [.bool], fun x => F_batten_twice_api_Brick x.1 x.2.1⟩
theorem ok_batten_twice_api_Brick : FnOk G 144 fe_batten_twice_api_Brick := fk (an := an_batten_twice_api_Brick) (k := 26) (res := [.tmp 4]) (lstK_ok G_ok (lnil)) Tryz.func144 fun _ => by kernel_rfl

def F_batten_bricks_1 (b : TBrick) : Option (ByteArray) :=
 some b.name
def fe_batten_bricks_1 : Fe G := ⟨[.v .Brick], [.str], fun x => F_batten_bricks_1 x.1⟩
theorem ok_batten_bricks_1 : FnOk G 145 fe_batten_bricks_1 := fk (an := .nil) (k := 5) (res := [.tmp 2]) (lstK_ok G_ok (lnil)) Tryz.func145 fun _ => by kernel_rfl

def F_ref01_Digit (c : Int) : Option (Bool) :=
 ((bif (decide (c ≥ 48)) then some ((decide (c ≤ 57)), ()) else some (false, ())) : Option (Bool × Unit)).bind fun y1 => some y1.1
def an_ref01_Digit : An U := (.node none .nil (.node (some ⟨[], [], ⟨[], []⟩, [(.normal, ⟨[(2, .tv .bool)], []⟩)]⟩) .nil .nil))
def fe_ref01_Digit : Fe G := ⟨[.v .u8], [.bool], fun x => F_ref01_Digit x.1⟩
theorem ok_ref01_Digit : FnOk G 147 fe_ref01_Digit := fk (an := an_ref01_Digit) (k := 9) (res := [.tmp 2]) (lstK_ok G_ok (lnil)) Tryz.func147 fun _ => by kernel_rfl

def F_beam_exact__fraction (a : Texact) : Option (TFrac × Int) :=
 (bif (decide (((a.n.words.length : Nat) : Int) > 2)) then some ((TFrac.mk 0 0), 5) else (iterF (σ := Int × TAr199 × Unit) (ρ := TAr199 × Unit) (fun s7 => (bif (decide (s7.1 < ((a.n.words.length : Nat) : Int))) then (idx a.n.words s7.1).bind fun x8 => (if (IntKind.i64.wrap (32 * s7.1)) < 0 then none else some (.inl ((IntKind.i64.wrap (s7.1 + 1)), (TAr199.mk (bitsOf .or .u64 s7.2.1.e0 (IntKind.u64.wrap ((IntKind.u64.wrap x8) * 2 ^ min (Int.toNat (IntKind.i64.wrap (32 * s7.1))) IntKind.u64.bits))) s7.2.1.e1), ()))) else some (.inr (s7.2.1, ())))) big (0, (TAr199.mk 0 0), ())).bind fun y11 => (bif (decide (y11.1.e0 > 1152921504606846976)) then some ((TFrac.mk 0 0), 5) else (bif (decide (((a.d.words.length : Nat) : Int) > 2)) then some ((TFrac.mk 0 0), 5) else (iterF (σ := Int × TAr199 × Unit) (ρ := TAr199 × Unit) (fun s13 => (bif (decide (s13.1 < ((a.d.words.length : Nat) : Int))) then (idx a.d.words s13.1).bind fun x14 => (if (IntKind.i64.wrap (32 * s13.1)) < 0 then none else some (.inl ((IntKind.i64.wrap (s13.1 + 1)), (TAr199.mk s13.2.1.e0 (bitsOf .or .u64 s13.2.1.e1 (IntKind.u64.wrap ((IntKind.u64.wrap x14) * 2 ^ min (Int.toNat (IntKind.i64.wrap (32 * s13.1))) IntKind.u64.bits)))), ()))) else some (.inr (s13.2.1, ())))) big (0, y11.1, ())).bind fun y17 => (bif (decide (y17.1.e1 > 1152921504606846976)) then some ((TFrac.mk 0 0), 5) else ((bif a.n.neg then some ((TFrac.mk (IntKind.i64.wrap (0 - (IntKind.i64.wrap y17.1.e0))) (IntKind.i64.wrap y17.1.e1)), ()) else some ((TFrac.mk (IntKind.i64.wrap y17.1.e0) (IntKind.i64.wrap y17.1.e1)), ())) : Option (TFrac × Unit)).bind fun y21 => some (y21.1, 0)))))
def an_beam_exact__fraction : An U := (.node none .nil (.node none .nil (.node none (.node none .nil (.node none (.node none (.node none .nil (.node none .nil (.node none (.node none (.node none .nil (.node none .nil (.node none (.node none .nil (.node none (.node (some ⟨[1, 2, 3, 4, 5, 14, 15, 25, 26], [2], ⟨[(27, .tv .int)], [(2, .bx .ar199 [])]⟩, [(.exit 2, ⟨[], [(2, .bx .ar199 [])]⟩)]⟩) .nil .nil) .nil)) .nil))) .nil) .nil))) .nil) .nil)) (.node none .nil (.node (some ⟨[2, 3, 9], [5], ⟨[], []⟩, [(.normal, ⟨[], [(5, .bx .Frac [])]⟩)]⟩) .nil .nil)))))
def fe_beam_exact__fraction : Fe G := ⟨[.v .exact], [.Frac, .Errno], fun x => F_beam_exact__fraction x.1⟩
theorem ok_beam_exact__fraction : FnOk G 164 fe_beam_exact__fraction := fk (an := an_beam_exact__fraction) (k := 64) (res := [.cell 2 43, .tmp 3]) (lstK_ok G_ok (lnil)) Tryz.func164 fun _ => by kernel_rfl
end
end Go.Proofs.YtcaopooflemnlaaGreat

/- Functions, as plain data. Printed by mkev.py. -/
namespace Go.Proofs.YtcaopooflemnlaaGreat
open Go.RowKit
set_option linter.unusedVariables false
set_option linter.unusedSimpArgs false
noncomputable section

def F_decimal_digit (c : Int) : Option (Bool) :=
 ((bif (decide (c ≥ 48)) then some ((decide (c ≤ 57)), ()) else some (false, ())) : Option (Bool × Unit)).bind fun y1 => some y1.1
def an_decimal_digit : An U := (.node none .nil (.node (some ⟨[], [], ⟨[], []⟩, [(.normal, ⟨[(2, .tv .bool)], []⟩)]⟩) .nil .nil))
def fe_decimal_digit : Fe G := ⟨[.v .u8], [.bool], fun x => F_decimal_digit x.1⟩
theorem ok_decimal_digit : FnOk G 173 fe_decimal_digit := fk (an := an_decimal_digit) (k := 9) (res := [.tmp 2]) (lstK_ok G_ok (lnil)) Tryz.func173 fun _ => by kernel_rfl

def F_beam_Valid_1 (x : TLoad) (a1 : TBeam) : Option (Bool) :=
 ((bif (decide (x.at_ < 0)) then some (true, ()) else (bif (decide (x.at_ > a1.length)) then some (true, ()) else (bif (decide (x.weight < 0)) then some (true, ()) else some ((decide (x.weight > 67108864)), ())))) : Option (Bool × Unit)).bind fun y1 => some y1.1
def an_beam_Valid_1 : An U := (.node none .nil (.node (some ⟨[], [], ⟨[], []⟩, [(.normal, ⟨[(3, .tv .bool)], []⟩)]⟩) .nil .nil))
def fe_beam_Valid_1 : Fe G := ⟨[.v .Load, .rp .Beam], [.bool], fun x => F_beam_Valid_1 x.1 x.2.1⟩
theorem ok_beam_Valid_1 : FnOk G 188 fe_beam_Valid_1 := fk (an := an_beam_Valid_1) (k := 24) (res := [.tmp 3]) (lstK_ok G_ok (lnil)) Tryz.func188 fun _ => by kernel_rfl

def F_beam_number__sign (a : Tnumber) : Option (Int) :=
 (bif (((a.words.length : Nat) : Int) == 0) then some 0 else (bif a.neg then some (-1) else some 1))
def fe_beam_number__sign : Fe G := ⟨[.v .number], [.int1], fun x => F_beam_number__sign x.1⟩
theorem ok_beam_number__sign : FnOk G 190 fe_beam_number__sign := fk (an := .nil) (k := 11) (res := [.tmp 2]) (lstK_ok G_ok (lnil)) Tryz.func190 fun _ => by kernel_rfl

def F_beam_number__opposite (a : Tnumber) : Option (Tnumber) :=
 some (Tnumber.mk (!a.neg) a.words)
def an_beam_number__opposite : An U := .nil
def fe_beam_number__opposite : Fe G := ⟨[.v .number], [.number], fun x => F_beam_number__opposite x.1⟩
def tb_beam_number__opposite : List (FuncId × Fe G) := []
theorem ev_beam_number__opposite (x : TyP G fe_beam_number__opposite.ps) : evZ G (lstK G tb_beam_number__opposite) (bodyOf Tryz.f198) an_beam_number__opposite 9 [.cell 2 174] fe_beam_number__opposite.rs (argT G fe_beam_number__opposite.ps x) = fe_beam_number__opposite.fn x := by kernel_rfl
theorem ok_beam_number__opposite : FnOk G 198 fe_beam_number__opposite := fnOkz_of G_ok (fun _ => lstK_ok G_ok (lnil)) Tryz.func198 (by kernel_rfl) (by kernel_rfl) (by kernel_rfl) (by kernel_rfl) (by kernel_rfl) ev_beam_number__opposite

def F_ref08_trim (b : TBig) : Option (TBig) :=
 (iterF (σ := Int × Unit) (ρ := Int × Unit) (fun s4 => ((bif (decide (s4.1 > 0)) then (idx b.d (IntKind.i64.wrap (s4.1 - 1))).bind fun x5 => some ((x5 == 0), ()) else some (false, ())) : Option (Bool × Unit)).bind fun y6 => (bif y6.1 then some (.inl ((IntKind.i64.wrap (s4.1 - 1)), ())) else some (.inr (s4.1, ())))) big (((b.d.length : Nat) : Int), ())).bind fun y7 => (if 0 ≤ (0 : Int) ∧ (0 : Int) ≤ y7.1 ∧ y7.1 ≤ ((b.d.length : Nat) : Int) then ((bif (y7.1 == 0) then some ((TBig.mk false ((b.d.take (Int.toNat y7.1)).drop (Int.toNat (0 : Int)))), ()) else some ((TBig.mk b.neg ((b.d.take (Int.toNat y7.1)).drop (Int.toNat (0 : Int)))), ())) : Option (TBig × Unit)).bind fun y8 => some y8.1 else none)
def F_ref08_digit (l : List Int) (i : Int) : Option (Int) :=
 (bif (decide (i < ((l.length : Nat) : Int))) then (idx l i).bind fun x1 => some x1 else some 0)
def F_slices_IndexFunc_api_Load (s : List TLoad) (f : TLoad → Option Bool) : Option (Int) :=
 (iterF (σ := Int × Unit) (ρ := (Int × Unit) ⊕ (Unit)) (fun s3 => (bif (decide (s3.1 < ((s.length : Nat) : Int))) then (idx s s3.1).bind fun x4 => (f x4).bind fun r5 => (bif r5 then some (.inr (.inl (s3.1, ()))) else some (.inl ((IntKind.i64.wrap (s3.1 + 1)), ()))) else some (.inr (.inr ((())))))) big (0, ())).bind fun y6 => (match y6 with | .inl y7 => some y7.1 | .inr y8 => some (-1))
def an_slices_IndexFunc_api_Load : An U := (.node none .nil (.node none (.node none .nil (.node none (.node (some ⟨[0, 1, 7], [], ⟨[(8, .tv .int)], []⟩, [(.ret, ⟨[(4, .tv .int)], []⟩), (.exit 0, ⟨[], []⟩)]⟩) .nil .nil) .nil)) .nil))
def fe_slices_IndexFunc_api_Load : Fe G := ⟨[.v .l_Load, .fn .Load .bool], [.int1], fun x => F_slices_IndexFunc_api_Load x.1 x.2.1⟩
theorem ok_slices_IndexFunc_api_Load : FnOk G 209 fe_slices_IndexFunc_api_Load := fk (an := an_slices_IndexFunc_api_Load) (k := 19) (res := [.tmp 4]) (lstK_ok G_ok (lnil)) Tryz.func209 fun _ => by kernel_rfl

def F_beam_trimmed (w : List Int) : Option ((List Int)) :=
 (iterF (σ := (List Int) × Unit) (ρ := (List Int) × Unit) (fun s4 => ((bif (decide (((s4.1.length : Nat) : Int) > 0)) then (idx s4.1 (IntKind.i64.wrap (((s4.1.length : Nat) : Int) - 1))).bind fun x5 => some ((x5 == 0), ()) else some (false, ())) : Option (Bool × Unit)).bind fun y6 => (bif y6.1 then (if 0 ≤ (0 : Int) ∧ (0 : Int) ≤ (IntKind.i64.wrap (((s4.1.length : Nat) : Int) - 1)) ∧ (IntKind.i64.wrap (((s4.1.length : Nat) : Int) - 1)) ≤ ((s4.1.length : Nat) : Int) then some (.inl (((s4.1.take (Int.toNat (IntKind.i64.wrap (((s4.1.length : Nat) : Int) - 1)))).drop (Int.toNat (0 : Int))), ())) else none) else some (.inr (s4.1, ())))) big (w, ())).bind fun y7 => some y7.1
def an_beam_trimmed : An U := (.node none .nil (.node none (.node none (.node (some ⟨[2], [], ⟨[(0, .tv .l_u32)], []⟩, [(.exit 0, ⟨[(0, .tv .l_u32)], []⟩)]⟩) (.node none (.node (some ⟨[0], [], ⟨[], []⟩, [(.normal, ⟨[(14, .tv .bool)], []⟩)]⟩) .nil .nil) .nil) .nil) .nil) .nil))
def fe_beam_trimmed : Fe G := ⟨[.v .l_u32], [.l_u32], fun x => F_beam_trimmed x.1⟩
def tb_beam_trimmed : List (FuncId × Fe G) := []
theorem ev_beam_trimmed (x : TyP G fe_beam_trimmed.ps) : evZ G (lstK G tb_beam_trimmed) (bodyOf Tryz.f210) an_beam_trimmed 21 [.tmp 2] fe_beam_trimmed.rs (argT G fe_beam_trimmed.ps x) = fe_beam_trimmed.fn x := by kernel_rfl
theorem ok_beam_trimmed : FnOk G 210 fe_beam_trimmed := fnOkz_of G_ok (fun _ => lstK_ok G_ok (lnil)) Tryz.func210 (by kernel_rfl) (by kernel_rfl) (by kernel_rfl) (by kernel_rfl) (by kernel_rfl) ev_beam_trimmed

def F_beam_compared (a : List Int) (b : List Int) : Option (Int) :=
 (bif (((a.length : Nat) : Int) != ((b.length : Nat) : Int)) then some (IntKind.i64.wrap (((a.length : Nat) : Int) - ((b.length : Nat) : Int))) else (iterF (σ := Int × Unit) (ρ := (Int × Unit) ⊕ (Unit)) (fun s5 => (bif (decide (s5.1 ≥ 0)) then (idx a s5.1).bind fun x6 => (idx b s5.1).bind fun x7 => (bif (x6 != x7) then (idx a s5.1).bind fun x8 => (idx b s5.1).bind fun x9 => (bif (decide (x8 < x9)) then some (.inr (.inl ((-1), ()))) else some (.inr (.inl (1, ())))) else some (.inl ((IntKind.i64.wrap (s5.1 - 1)), ()))) else some (.inr (.inr ((())))))) big ((IntKind.i64.wrap (((a.length : Nat) : Int) - 1)), ())).bind fun y10 => (match y10 with | .inl y11 => some y11.1 | .inr y12 => some 0))
def an_beam_compared : An U := (.node none .nil (.node none .nil (.node none (.node none .nil (.node none (.node (some ⟨[0, 1], [], ⟨[(5, .tv .int)], []⟩, [(.ret, ⟨[(4, .tv .int)], []⟩), (.exit 0, ⟨[], []⟩)]⟩) .nil .nil) .nil)) .nil)))
def fe_beam_compared : Fe G := ⟨[.v .l_u32, .v .l_u32], [.int1], fun x => F_beam_compared x.1 x.2.1⟩
theorem ok_beam_compared : FnOk G 214 fe_beam_compared := fk (an := an_beam_compared) (k := 41) (res := [.tmp 4]) (lstK_ok G_ok (lnil)) Tryz.func214 fun _ => by kernel_rfl

def F_slices_ContainsFunc_api_Item (s : List TItem) (f : TItem → Option Bool) : Option (Bool) :=
 (F_slices_IndexFunc_api_Item s f).bind fun r1 => some (decide (r1 ≥ 0))
def fe_slices_ContainsFunc_api_Item : Fe G := ⟨[.v .l_Item, .fn .Item .bool], [.bool], fun x => F_slices_ContainsFunc_api_Item x.1 x.2.1⟩
theorem ok_slices_ContainsFunc_api_Item : FnOk G 18 fe_slices_ContainsFunc_api_Item := fk (an := .nil) (k := 9) (res := [.tmp 4]) (lstK_ok G_ok (lcons ok_slices_IndexFunc_api_Item (lnil))) Tryz.func18 fun _ => by kernel_rfl

def F_law24_long (s : TSet) : Option (Bool) :=
 ((bif (decide (((s.lines.length : Nat) : Int) > 5)) then (bif (decide (((s.lines.length : Nat) : Int) ≤ 10)) then some (true, ()) else (bif (decide (((s.lines.length : Nat) : Int) > 15)) then some (true, ()) else (F_ref21_Small s 8).bind fun r3 => some ((!r3), ()))) else (bif (decide (((s.lines.length : Nat) : Int) > 15)) then some (true, ()) else (F_ref21_Small s 8).bind fun r4 => some ((!r4), ()))) : Option (Bool × Unit)).bind fun y5 => some y5.1
def an_law24_long : An U := (.node none .nil (.node (some ⟨[], [], ⟨[], []⟩, [(.normal, ⟨[(2, .tv .bool)], []⟩)]⟩) .nil .nil))
def fe_law24_long : Fe G := ⟨[.v .Set], [.bool], fun x => F_law24_long x.1⟩
theorem ok_law24_long : FnOk G 35 fe_law24_long := fk (an := an_law24_long) (k := 24) (res := [.tmp 2]) (lstK_ok G_ok (lcons ok_ref21_Small (lnil))) Tryz.func35 fun _ => by kernel_rfl

def F_ref02_Cmp (a : TFrac) (b : TFrac) : Option (Int) :=
 (F_ref02_Size a.num).bind fun r1 => (F_ref02_Size b.den).bind fun r2 => (F_ref02_Mul r1 r2).bind fun r3 => (F_ref02_Size b.num).bind fun r4 => (F_ref02_Size a.den).bind fun r5 => (F_ref02_Mul r4 r5).bind fun r6 => ((bif (decide (a.num < 0)) then some ((decide (b.num ≥ 0)), ()) else some (false, ())) : Option (Bool × Unit)).bind fun y7 => (bif y7.1 then some (-1) else ((bif (decide (a.num ≥ 0)) then some ((decide (b.num < 0)), ()) else some (false, ())) : Option (Bool × Unit)).bind fun y8 => (bif y8.1 then some 1 else (bif ((r3.h == r6.h) && (r3.l == r6.l)) then some 0 else (F_ref02_Less r3 r6).bind fun r9 => (bif (r9 == (decide (a.num ≥ 0))) then some (-1) else some 1))))
def an_ref02_Cmp : An U := (.node none .nil (.node none .nil (.node none (.node (some ⟨[2, 3, 4, 5, 6], [], ⟨[], []⟩, [(.normal, ⟨[(28, .tv .bool)], []⟩)]⟩) .nil .nil) (.node none (.node (some ⟨[2, 4, 5, 6], [], ⟨[], []⟩, [(.normal, ⟨[(36, .tv .bool)], []⟩)]⟩) .nil .nil) .nil))))
def fe_ref02_Cmp : Fe G := ⟨[.v .Frac, .v .Frac], [.int1], fun x => F_ref02_Cmp x.1 x.2.1⟩
theorem ok_ref02_Cmp : FnOk G 58 fe_ref02_Cmp := fk (an := an_ref02_Cmp) (k := 47) (res := [.tmp 4]) (lstK_ok G_ok (lcons ok_ref02_Mul (lcons ok_ref02_Size (lcons ok_ref02_Less (lnil))))) Tryz.func58 fun _ => by kernel_rfl

def F_slices_Contains_bool (s : List Bool) (v : Bool) : Option (Bool) :=
 (F_slices_Index_bool s v).bind fun r1 => some (decide (r1 ≥ 0))
def fe_slices_Contains_bool : Fe G := ⟨[.v .l_bool, .v .bool], [.bool], fun x => F_slices_Contains_bool x.1 x.2.1⟩
theorem ok_slices_Contains_bool : FnOk G 60 fe_slices_Contains_bool := fk (an := .nil) (k := 9) (res := [.tmp 4]) (lstK_ok G_ok (lcons ok_slices_Index_bool (lnil))) Tryz.func60 fun _ => by kernel_rfl

def F_slices_ContainsFunc_api_Frac (s : List TFrac) (f : TFrac → Option Bool) : Option (Bool) :=
 (F_slices_IndexFunc_api_Frac s f).bind fun r1 => some (decide (r1 ≥ 0))
def fe_slices_ContainsFunc_api_Frac : Fe G := ⟨[.v .l_Frac, .fn .Frac .bool], [.bool], fun x => F_slices_ContainsFunc_api_Frac x.1 x.2.1⟩
theorem ok_slices_ContainsFunc_api_Frac : FnOk G 82 fe_slices_ContainsFunc_api_Frac := fk (an := .nil) (k := 9) (res := [.tmp 4]) (lstK_ok G_ok (lcons ok_slices_IndexFunc_api_Frac (lnil))) Tryz.func82 fun _ => by kernel_rfl

def F_failure_cut (s : TSet) (line : Int) : Option (TSet) :=
 (F_slices_Clone_int s.lines).bind fun r1 => (if 0 ≤ line ∧ line ≤ (IntKind.i64.wrap (line + 1)) ∧ (IntKind.i64.wrap (line + 1)) ≤ ((r1.length : Nat) : Int) ∧ r1.length ≤ 2147483648 then (F_slices_Clone_api_Item s.items).bind fun r2 => (F_slices_Clone_api_Brick s.bricks).bind fun r3 => some (TSet.mk s.name s.depth s.low s.high s.length (r1.take (Int.toNat line) ++ r1.drop (Int.toNat (IntKind.i64.wrap (line + 1)))) s.pipe s.arbor s.purchase s.most s.brake r2 r3) else none)
def fe_failure_cut : Fe G := ⟨[.v .Set, .v .int1], [.Set], fun x => F_failure_cut x.1 x.2.1⟩
theorem ok_failure_cut : FnOk G 85 fe_failure_cut := fk (an := .nil) (k := 22) (res := [.cell 4 26]) (lstK_ok G_ok (lcons ok_slices_Clone_int (lcons ok_slices_Clone_api_Item (lcons ok_slices_Clone_api_Brick (lnil))))) Tryz.func85 fun _ => by kernel_rfl

def F_ratio_Valid (a : TFrac) : Option (Bool) :=
 ((bif (decide (a.den ≥ 1)) then (bif (decide (a.den ≤ 1152921504606846976)) then (bif (decide (a.num ≥ (-1152921504606846976))) then (bif (decide (a.num ≤ 1152921504606846976)) then (F_ratio_size a.num).bind fun r3 => (F_ratio_gcd r3 (IntKind.u64.wrap a.den)).bind fun r4 => some ((r4 == 1), ()) else some (false, ())) else some (false, ())) else some (false, ())) else some (false, ())) : Option (Bool × Unit)).bind fun y5 => some y5.1
def an_ratio_Valid : An U := (.node none .nil (.node (some ⟨[], [], ⟨[], []⟩, [(.normal, ⟨[(2, .tv .bool)], []⟩)]⟩) .nil .nil))
def fe_ratio_Valid : Fe G := ⟨[.v .Frac], [.bool], fun x => F_ratio_Valid x.1⟩
theorem ok_ratio_Valid : FnOk G 87 fe_ratio_Valid := fk (an := an_ratio_Valid) (k := 31) (res := [.tmp 2]) (lstK_ok G_ok (lcons ok_ratio_size (lcons ok_ratio_gcd (lnil)))) Tryz.func87 fun _ => by kernel_rfl

def F_batten_beamOf (s : TSet) : Option (TBeam) :=
 (F_slices_Clone_int s.lines).bind fun r1 => (iterF (σ := Int × TBeam × Unit) (ρ := TBeam × Unit) (fun s6 => (bif (decide (s6.1 < ((s.items.length : Nat) : Int))) then (idx s.items s6.1).bind fun x7 => (F_batten_middle x7).bind fun r8 => (if s6.2.1.loads.length + ([(TLoad.mk r8 x7.weight)] : List TLoad).length ≤ 2147483648 then some (.inl ((IntKind.i64.wrap (s6.1 + 1)), (TBeam.mk s6.2.1.name s6.2.1.length s6.2.1.supports (s6.2.1.loads ++ ([(TLoad.mk r8 x7.weight)] : List TLoad)) s6.2.1.even), ())) else none) else some (.inr (s6.2.1, ())))) big (0, (TBeam.mk s.name s.length r1 ([] : List TLoad) s.pipe), ())).bind fun y9 => some y9.1
def an_batten_beamOf : An U := (.node none .nil (.node none .nil (.node none (.node none .nil (.node none (.node (some ⟨[2, 3, 17, 18], [2, 3], ⟨[(19, .tv .int)], [(2, .bx .Beam [2, 3]), (3, .gone)]⟩, [(.exit 0, ⟨[], [(2, .bx .Beam [2, 3])]⟩)]⟩) .nil .nil) .nil)) .nil)))
def fe_batten_beamOf : Fe G := ⟨[.v .Set], [.Beam], fun x => F_batten_beamOf x.1⟩
theorem ok_batten_beamOf : FnOk G 90 fe_batten_beamOf := fk (an := an_batten_beamOf) (k := 35) (res := [.cell 2 104]) (lstK_ok G_ok (lcons ok_slices_Clone_int (lcons ok_batten_middle (lnil)))) Tryz.func90 fun _ => by kernel_rfl

def F_ratio_product (a : Int) (b : Int) : Option (Twide) :=
 (F_math_bits_Mul64 a b).bind fun r1 => some (Twide.mk r1.1 r1.2)
def fe_ratio_product : Fe G := ⟨[.v .u64, .v .u64], [.wide], fun x => F_ratio_product x.1 x.2.1⟩
theorem ok_ratio_product : FnOk G 95 fe_ratio_product := fk (an := .nil) (k := 16) (res := [.cell 4 114]) (lstK_ok G_ok (lcons ok_math_bits_Mul64 (lnil))) Tryz.func95 fun _ => by kernel_rfl

def F_batten_lines (l : List Int) (length : Int) : Option (Bool) :=
 ((F_batten_between ((l.length : Nat) : Int) 2 10).bind fun r4 => (bif (!r4) then some (true, ()) else (idx l 0).bind fun x5 => (bif (decide (x5 < 0)) then some (true, ()) else (idx l (IntKind.i64.wrap (((l.length : Nat) : Int) - 1))).bind fun x6 => some ((decide (x6 > length)), ()))) : Option (Bool × Unit)).bind fun y7 => (bif y7.1 then some false else (iterF (σ := Int × Unit) (ρ := (Bool × Unit) ⊕ (Unit)) (fun s10 => (bif (decide (s10.1 < ((l.length : Nat) : Int))) then (idx l s10.1).bind fun x11 => (idx l (IntKind.i64.wrap (s10.1 - 1))).bind fun x12 => (bif (decide (x11 ≤ x12)) then some (.inr (.inl (false, ()))) else some (.inl ((IntKind.i64.wrap (s10.1 + 1)), ()))) else some (.inr (.inr ((())))))) big (1, ())).bind fun y13 => (match y13 with | .inl y14 => some y14.1 | .inr y15 => some true))
def an_batten_lines : An U := (.node none .nil (.node none (.node (some ⟨[0, 4], [], ⟨[], []⟩, [(.normal, ⟨[(25, .tv .bool)], []⟩)]⟩) .nil .nil) (.node none (.node none .nil (.node none (.node (some ⟨[0], [], ⟨[(5, .tv .int)], []⟩, [(.ret, ⟨[(4, .tv .bool)], []⟩), (.exit 0, ⟨[], []⟩)]⟩) .nil .nil) .nil)) .nil)))
def fe_batten_lines : Fe G := ⟨[.v .l_int1, .v .int1], [.bool], fun x => F_batten_lines x.1 x.2.1⟩
theorem ok_batten_lines : FnOk G 106 fe_batten_lines := fk (an := an_batten_lines) (k := 42) (res := [.tmp 4]) (lstK_ok G_ok (lcons ok_batten_between (lnil))) Tryz.func106 fun _ => by kernel_rfl

def F_ref01_word (s : ByteArray) (i : Int) : Option (Int) :=
 (iterF (σ := Int × Unit) (ρ := Int × Unit) (fun s12 => ((bif (decide (s12.1 < ((s.size : Nat) : Int))) then (idxB s s12.1).bind fun b13 => (F_ref01_Letter ((b13.toNat : Nat) : Int)).bind fun r14 => (bif r14 then some (true, ()) else (idxB s s12.1).bind fun b15 => (F_ref01_Digit ((b15.toNat : Nat) : Int)).bind fun r16 => (bif r16 then some (true, ()) else (idxB s s12.1).bind fun b17 => some ((((b17.toNat : Nat) : Int) == 95), ()))) else some (false, ())) : Option (Bool × Unit)).bind fun y18 => (bif y18.1 then some (.inl ((IntKind.i64.wrap (s12.1 + 1)), ())) else some (.inr (s12.1, ())))) big (i, ())).bind fun y19 => some y19.1
def an_ref01_word : An U := (.node none .nil (.node none (.node none (.node (some ⟨[0, 4], [], ⟨[(1, .tv .int)], []⟩, [(.exit 0, ⟨[(1, .tv .int)], []⟩)]⟩) (.node none (.node (some ⟨[1], [], ⟨[], []⟩, [(.normal, ⟨[(26, .tv .bool)], []⟩)]⟩) .nil .nil) .nil) .nil) .nil) .nil))
def fe_ref01_word : Fe G := ⟨[.v .str, .v .int1], [.int1], fun x => F_ref01_word x.1 x.2.1⟩
theorem ok_ref01_word : FnOk G 114 fe_ref01_word := fk (an := an_ref01_word) (k := 30) (res := [.tmp 4]) (lstK_ok G_ok (lcons ok_ref01_Letter (lcons ok_ref01_Digit (lnil)))) Tryz.func114 fun _ => by kernel_rfl

end
end Go.Proofs.YtcaopooflemnlaaGreat
