/- Joined by merge.py: Fn0. -/
import Derived.Test.YtcaopooflemnlaaGreatM04
/- Functions, as plain data. Printed by mkev.py. -/
namespace Go.Proofs.YtcaopooflemnlaaGreat
open Go.RowKit
set_option linter.unusedVariables false
set_option linter.unusedSimpArgs false
noncomputable section

def F_ref21_Copy (s : TSet) : Option (TSet) :=
 (if ([] : List Int).length + s.lines.length ≤ 2147483648 then (if ([] : List TItem).length + s.items.length ≤ 2147483648 then (if ([] : List TBrick).length + s.bricks.length ≤ 2147483648 then some (TSet.mk s.name s.depth s.low s.high s.length (([] : List Int) ++ s.lines) s.pipe s.arbor s.purchase s.most s.brake (([] : List TItem) ++ s.items) (([] : List TBrick) ++ s.bricks)) else none) else none) else none)
def fe_ref21_Copy : Fe G := ⟨[.v .Set], [.Set], fun x => F_ref21_Copy x.1⟩
theorem ok_ref21_Copy : FnOk G 20 fe_ref21_Copy := fk (an := .nil) (k := 19) (res := [.cell 2 26]) (lstK_ok G_ok (lnil)) Tryz.func20 fun _ => by kernel_rfl

def F_slices_Equal_api_Frac (s1_ : List TFrac) (s2_ : List TFrac) : Option (Bool) :=
 (bif (((s1_.length : Nat) : Int) != ((s2_.length : Nat) : Int)) then some false else (iterF (σ := Int × Unit) (ρ := (Bool × Unit) ⊕ (Unit)) (fun s3 => (bif (decide (s3.1 < ((s1_.length : Nat) : Int))) then (idx s1_ s3.1).bind fun x4 => (idx s2_ s3.1).bind fun x5 => (bif (!((x4.num == x5.num) && (x4.den == x5.den))) then some (.inr (.inl (false, ()))) else some (.inl ((IntKind.i64.wrap (s3.1 + 1)), ()))) else some (.inr (.inr ((())))))) big (0, ())).bind fun y6 => (match y6 with | .inl y7 => some y7.1 | .inr y8 => some true))
def an_slices_Equal_api_Frac : An U := (.node none .nil (.node none .nil (.node none (.node none .nil (.node none (.node (some ⟨[0, 1, 12], [], ⟨[(13, .tv .int)], []⟩, [(.ret, ⟨[(4, .tv .bool)], []⟩), (.exit 0, ⟨[], []⟩)]⟩) .nil .nil) .nil)) .nil)))
def fe_slices_Equal_api_Frac : Fe G := ⟨[.v .l_Frac, .v .l_Frac], [.bool], fun x => F_slices_Equal_api_Frac x.1 x.2.1⟩
theorem ok_slices_Equal_api_Frac : FnOk G 24 fe_slices_Equal_api_Frac := fk (an := an_slices_Equal_api_Frac) (k := 26) (res := [.tmp 4]) (lstK_ok G_ok (lnil)) Tryz.func24 fun _ => by kernel_rfl

def F_ref02_Of (n : Int) : Option (TFrac) :=
 some (TFrac.mk n 1)
def fe_ref02_Of : Fe G := ⟨[.v .int1], [.Frac], fun x => F_ref02_Of x.1⟩
theorem ok_ref02_Of : FnOk G 27 fe_ref02_Of := fk (an := .nil) (k := 5) (res := [.cell 2 43]) (lstK_ok G_ok (lnil)) Tryz.func27 fun _ => by kernel_rfl

def F_slices_Equal_int (s1_ : List Int) (s2_ : List Int) : Option (Bool) :=
 (bif (((s1_.length : Nat) : Int) != ((s2_.length : Nat) : Int)) then some false else (iterF (σ := Int × Unit) (ρ := (Bool × Unit) ⊕ (Unit)) (fun s3 => (bif (decide (s3.1 < ((s1_.length : Nat) : Int))) then (idx s1_ s3.1).bind fun x4 => (idx s2_ s3.1).bind fun x5 => (bif (x4 != x5) then some (.inr (.inl (false, ()))) else some (.inl ((IntKind.i64.wrap (s3.1 + 1)), ()))) else some (.inr (.inr ((())))))) big (0, ())).bind fun y6 => (match y6 with | .inl y7 => some y7.1 | .inr y8 => some true))
def an_slices_Equal_int : An U := (.node none .nil (.node none .nil (.node none (.node none .nil (.node none (.node (some ⟨[0, 1, 12], [], ⟨[(13, .tv .int)], []⟩, [(.ret, ⟨[(4, .tv .bool)], []⟩), (.exit 0, ⟨[], []⟩)]⟩) .nil .nil) .nil)) .nil)))
def fe_slices_Equal_int : Fe G := ⟨[.v .l_int1, .v .l_int1], [.bool], fun x => F_slices_Equal_int x.1 x.2.1⟩
theorem ok_slices_Equal_int : FnOk G 41 fe_slices_Equal_int := fk (an := an_slices_Equal_int) (k := 26) (res := [.tmp 4]) (lstK_ok G_ok (lnil)) Tryz.func41 fun _ => by kernel_rfl

def F_ref21_Same (a : TSet) (b : TSet) : Option (Bool) :=
 ((bif (!(a.name.toList == b.name.toList)) then some (true, ()) else (bif (a.depth != b.depth) then some (true, ()) else (bif (a.low != b.low) then some (true, ()) else (bif (a.high != b.high) then some (true, ()) else (bif (a.length != b.length) then some (true, ()) else (bif (a.pipe != b.pipe) then some (true, ()) else (bif (a.arbor != b.arbor) then some (true, ()) else (bif (a.purchase != b.purchase) then some (true, ()) else (bif (a.most != b.most) then some (true, ()) else some ((a.brake != b.brake), ())))))))))) : Option (Bool × Unit)).bind fun y1 => (bif y1.1 then some false else ((bif (((a.lines.length : Nat) : Int) != ((b.lines.length : Nat) : Int)) then some (true, ()) else (bif (((a.items.length : Nat) : Int) != ((b.items.length : Nat) : Int)) then some (true, ()) else some ((((a.bricks.length : Nat) : Int) != ((b.bricks.length : Nat) : Int)), ()))) : Option (Bool × Unit)).bind fun y2 => (bif y2.1 then some false else (iterF (σ := Int × Unit) (ρ := (Bool × Unit) ⊕ (Unit)) (fun s5 => (bif (decide (s5.1 < ((a.lines.length : Nat) : Int))) then (idx a.lines s5.1).bind fun x6 => (idx b.lines s5.1).bind fun x7 => (bif (x6 != x7) then some (.inr (.inl (false, ()))) else some (.inl ((IntKind.i64.wrap (s5.1 + 1)), ()))) else some (.inr (.inr ((())))))) big (0, ())).bind fun y8 => (match y8 with | .inl y9 => some y9.1 | .inr y10 => (iterF (σ := Int × Unit) (ρ := (Bool × Unit) ⊕ (Unit)) (fun s13 => (bif (decide (s13.1 < ((a.items.length : Nat) : Int))) then (idx a.items s13.1).bind fun x14 => (idx b.items s13.1).bind fun x15 => (bif (!((x14.name.toList == x15.name.toList) && ((x14.at_ == x15.at_) && ((x14.width == x15.width) && ((x14.weight == x15.weight) && ((x14.hang == x15.hang) && ((x14.front == x15.front) && (x14.back == x15.back)))))))) then some (.inr (.inl (false, ()))) else some (.inl ((IntKind.i64.wrap (s13.1 + 1)), ()))) else some (.inr (.inr ((())))))) big (0, ())).bind fun y16 => (match y16 with | .inl y17 => some y17.1 | .inr y18 => (iterF (σ := Int × Unit) (ρ := (Bool × Unit) ⊕ (Unit)) (fun s21 => (bif (decide (s21.1 < ((a.bricks.length : Nat) : Int))) then (idx a.bricks s21.1).bind fun x22 => (idx b.bricks s21.1).bind fun x23 => (bif (!((x22.name.toList == x23.name.toList) && ((x22.weight == x23.weight) && (x22.count == x23.count)))) then some (.inr (.inl (false, ()))) else some (.inl ((IntKind.i64.wrap (s21.1 + 1)), ()))) else some (.inr (.inr ((())))))) big (0, ())).bind fun y24 => (match y24 with | .inl y25 => some y25.1 | .inr y26 => some true)))))
def an_ref21_Same : An U := (.node none .nil (.node none (.node (some ⟨[2, 3, 4], [], ⟨[], []⟩, [(.normal, ⟨[(75, .tv .bool)], []⟩)]⟩) .nil .nil) (.node none (.node (some ⟨[2, 3, 4], [], ⟨[], []⟩, [(.normal, ⟨[(100, .tv .bool)], []⟩)]⟩) .nil .nil) (.node none (.node none .nil (.node none (.node (some ⟨[2, 3], [], ⟨[(5, .tv .int)], []⟩, [(.ret, ⟨[(4, .tv .bool)], []⟩), (.exit 0, ⟨[], []⟩)]⟩) .nil .nil) .nil)) (.node none (.node none .nil (.node none (.node (some ⟨[2, 3], [], ⟨[(6, .tv .int)], []⟩, [(.ret, ⟨[(4, .tv .bool)], []⟩), (.exit 2, ⟨[], []⟩)]⟩) .nil .nil) .nil)) (.node none (.node none .nil (.node none (.node (some ⟨[2, 3], [], ⟨[(7, .tv .int)], []⟩, [(.ret, ⟨[(4, .tv .bool)], []⟩), (.exit 4, ⟨[], []⟩)]⟩) .nil .nil) .nil)) .nil))))))
def fe_ref21_Same : Fe G := ⟨[.v .Set, .v .Set], [.bool], fun x => F_ref21_Same x.1 x.2.1⟩
theorem ok_ref21_Same : FnOk G 55 fe_ref21_Same := fk (an := an_ref21_Same) (k := 155) (res := [.tmp 4]) (lstK_ok G_ok (lnil)) Tryz.func55 fun _ => by kernel_rfl

def F_law24_of (n : Int) : Option (TFrac) :=
 some (TFrac.mk n 1)
def fe_law24_of : Fe G := ⟨[.v .int1], [.Frac], fun x => F_law24_of x.1⟩
theorem ok_law24_of : FnOk G 59 fe_law24_of := fk (an := .nil) (k := 5) (res := [.cell 2 43]) (lstK_ok G_ok (lnil)) Tryz.func59 fun _ => by kernel_rfl

def F_slices_IndexFunc_api_Item (s : List TItem) (f : TItem → Option Bool) : Option (Int) :=
 (iterF (σ := Int × Unit) (ρ := (Int × Unit) ⊕ (Unit)) (fun s3 => (bif (decide (s3.1 < ((s.length : Nat) : Int))) then (idx s s3.1).bind fun x4 => (f x4).bind fun r5 => (bif r5 then some (.inr (.inl (s3.1, ()))) else some (.inl ((IntKind.i64.wrap (s3.1 + 1)), ()))) else some (.inr (.inr ((())))))) big (0, ())).bind fun y6 => (match y6 with | .inl y7 => some y7.1 | .inr y8 => some (-1))
def an_slices_IndexFunc_api_Item : An U := (.node none .nil (.node none (.node none .nil (.node none (.node (some ⟨[0, 1, 7], [], ⟨[(8, .tv .int)], []⟩, [(.ret, ⟨[(4, .tv .int)], []⟩), (.exit 0, ⟨[], []⟩)]⟩) .nil .nil) .nil)) .nil))
def fe_slices_IndexFunc_api_Item : Fe G := ⟨[.v .l_Item, .fn .Item .bool], [.int1], fun x => F_slices_IndexFunc_api_Item x.1 x.2.1⟩
theorem ok_slices_IndexFunc_api_Item : FnOk G 67 fe_slices_IndexFunc_api_Item := fk (an := an_slices_IndexFunc_api_Item) (k := 19) (res := [.tmp 4]) (lstK_ok G_ok (lnil)) Tryz.func67 fun _ => by kernel_rfl

def F_ref21_Small (s : TSet) (most : Int) : Option (Bool) :=
 ((bif (decide (((s.name.size : Nat) : Int) > 60)) then some (true, ()) else (bif (decide (((s.lines.length : Nat) : Int) > 12)) then some (true, ()) else (bif (decide (((s.items.length : Nat) : Int) > most)) then (bif (decide (((s.items.length : Nat) : Int) ≤ 40)) then some (true, ()) else (bif (decide (((s.items.length : Nat) : Int) > 45)) then some (true, ()) else some ((decide (((s.bricks.length : Nat) : Int) > 10)), ()))) else (bif (decide (((s.items.length : Nat) : Int) > 45)) then some (true, ()) else some ((decide (((s.bricks.length : Nat) : Int) > 10)), ()))))) : Option (Bool × Unit)).bind fun y1 => (bif y1.1 then some false else (iterF (σ := Int × Unit) (ρ := (Bool × Unit) ⊕ (Unit)) (fun s3 => (bif (decide (s3.1 < ((s.items.length : Nat) : Int))) then (idx s.items s3.1).bind fun x4 => (bif (decide (((x4.name.size : Nat) : Int) > 60)) then some (.inr (.inl (false, ()))) else some (.inl ((IntKind.i64.wrap (s3.1 + 1)), ()))) else some (.inr (.inr ((())))))) big (0, ())).bind fun y5 => (match y5 with | .inl y6 => some y6.1 | .inr y7 => (iterF (σ := Int × Unit) (ρ := (Bool × Unit) ⊕ (Unit)) (fun s9 => (bif (decide (s9.1 < ((s.bricks.length : Nat) : Int))) then (idx s.bricks s9.1).bind fun x10 => (bif (decide (((x10.name.size : Nat) : Int) > 60)) then some (.inr (.inl (false, ()))) else some (.inl ((IntKind.i64.wrap (s9.1 + 1)), ()))) else some (.inr (.inr ((())))))) big (0, ())).bind fun y11 => (match y11 with | .inl y12 => some y12.1 | .inr y13 => some true)))
def an_ref21_Small : An U := (.node none .nil (.node none (.node (some ⟨[2, 4], [], ⟨[], []⟩, [(.normal, ⟨[(41, .tv .bool)], []⟩)]⟩) .nil .nil) (.node none (.node none .nil (.node none (.node (some ⟨[2], [], ⟨[(5, .tv .int)], []⟩, [(.ret, ⟨[(4, .tv .bool)], []⟩), (.exit 0, ⟨[], []⟩)]⟩) .nil .nil) .nil)) (.node none (.node none .nil (.node none (.node (some ⟨[2], [], ⟨[(6, .tv .int)], []⟩, [(.ret, ⟨[(4, .tv .bool)], []⟩), (.exit 2, ⟨[], []⟩)]⟩) .nil .nil) .nil)) .nil))))
def fe_ref21_Small : Fe G := ⟨[.v .Set, .v .int1], [.bool], fun x => F_ref21_Small x.1 x.2.1⟩
theorem ok_ref21_Small : FnOk G 70 fe_ref21_Small := fk (an := an_ref21_Small) (k := 72) (res := [.tmp 4]) (lstK_ok G_ok (lnil)) Tryz.func70 fun _ => by kernel_rfl

def F_ref21_between (n : Int) (low : Int) (high : Int) : Option (Bool) :=
 ((bif (decide (n ≥ low)) then some ((decide (n ≤ high)), ()) else some (false, ())) : Option (Bool × Unit)).bind fun y1 => some y1.1
def an_ref21_between : An U := (.node none .nil (.node (some ⟨[], [], ⟨[], []⟩, [(.normal, ⟨[(6, .tv .bool)], []⟩)]⟩) .nil .nil))
def fe_ref21_between : Fe G := ⟨[.v .int1, .v .int1, .v .int1], [.bool], fun x => F_ref21_between x.1 x.2.1 x.2.2.1⟩
theorem ok_ref21_between : FnOk G 74 fe_ref21_between := fk (an := an_ref21_between) (k := 15) (res := [.tmp 6]) (lstK_ok G_ok (lnil)) Tryz.func74 fun _ => by kernel_rfl

def F_law24_example : Option (TSet) :=
 some (TSet.mk (⟨#[115]⟩ : ByteArray) 0 0 5000 2000 ([0, 1000, 2000] : List Int) 0 0 1 500 0 ([(TItem.mk (⟨#[105]⟩ : ByteArray) 900 200 600 0 0 0)] : List TItem) ([] : List TBrick))
def fe_law24_example : Fe G := ⟨[], [.Set], fun x => F_law24_example⟩
theorem ok_law24_example : FnOk G 77 fe_law24_example := fk (an := .nil) (k := 5) (res := [.cell 0 26]) (lstK_ok G_ok (lnil)) Tryz.func77 fun _ => by kernel_rfl

def F_ref02_Mul (a : Int) (b : Int) : Option (TU) :=
 some (TU.mk (IntKind.u64.wrap ((IntKind.u64.wrap ((IntKind.u64.wrap ((a.fdiv (2 ^ min (Int.toNat 32) IntKind.u64.bits)) * (b.fdiv (2 ^ min (Int.toNat 32) IntKind.u64.bits)))) + ((IntKind.u64.wrap ((IntKind.u64.wrap ((a.fdiv (2 ^ min (Int.toNat 32) IntKind.u64.bits)) * (bitsOf .and .u64 b 4294967295))) + ((IntKind.u64.wrap ((bitsOf .and .u64 a 4294967295) * (bitsOf .and .u64 b 4294967295))).fdiv (2 ^ min (Int.toNat 32) IntKind.u64.bits)))).fdiv (2 ^ min (Int.toNat 32) IntKind.u64.bits)))) + ((IntKind.u64.wrap ((IntKind.u64.wrap ((bitsOf .and .u64 a 4294967295) * (b.fdiv (2 ^ min (Int.toNat 32) IntKind.u64.bits)))) + (bitsOf .and .u64 (IntKind.u64.wrap ((IntKind.u64.wrap ((a.fdiv (2 ^ min (Int.toNat 32) IntKind.u64.bits)) * (bitsOf .and .u64 b 4294967295))) + ((IntKind.u64.wrap ((bitsOf .and .u64 a 4294967295) * (bitsOf .and .u64 b 4294967295))).fdiv (2 ^ min (Int.toNat 32) IntKind.u64.bits)))) 4294967295))).fdiv (2 ^ min (Int.toNat 32) IntKind.u64.bits)))) (IntKind.u64.wrap ((IntKind.u64.wrap ((IntKind.u64.wrap ((IntKind.u64.wrap ((bitsOf .and .u64 a 4294967295) * (b.fdiv (2 ^ min (Int.toNat 32) IntKind.u64.bits)))) + (bitsOf .and .u64 (IntKind.u64.wrap ((IntKind.u64.wrap ((a.fdiv (2 ^ min (Int.toNat 32) IntKind.u64.bits)) * (bitsOf .and .u64 b 4294967295))) + ((IntKind.u64.wrap ((bitsOf .and .u64 a 4294967295) * (bitsOf .and .u64 b 4294967295))).fdiv (2 ^ min (Int.toNat 32) IntKind.u64.bits)))) 4294967295))) * 2 ^ min (Int.toNat 32) IntKind.u64.bits)) + (bitsOf .and .u64 (IntKind.u64.wrap ((bitsOf .and .u64 a 4294967295) * (bitsOf .and .u64 b 4294967295))) 4294967295))))
def fe_ref02_Mul : Fe G := ⟨[.v .u64, .v .u64], [.U], fun x => F_ref02_Mul x.1 x.2.1⟩
theorem ok_ref02_Mul : FnOk G 91 fe_ref02_Mul := fk (an := .nil) (k := 50) (res := [.cell 4 108]) (lstK_ok G_ok (lnil)) Tryz.func91 fun _ => by kernel_rfl

def F_ref02_Size (n : Int) : Option (Int) :=
 (bif (decide (n < 0)) then some (IntKind.u64.wrap (0 - (IntKind.u64.wrap n))) else some (IntKind.u64.wrap n))
def fe_ref02_Size : Fe G := ⟨[.v .int1], [.u64], fun x => F_ref02_Size x.1⟩
theorem ok_ref02_Size : FnOk G 92 fe_ref02_Size := fk (an := .nil) (k := 10) (res := [.tmp 2]) (lstK_ok G_ok (lnil)) Tryz.func92 fun _ => by kernel_rfl

def F_ref02_Less (a : TU) (b : TU) : Option (Bool) :=
 ((bif (decide (a.h < b.h)) then some (true, ()) else (bif (a.h == b.h) then some ((decide (a.l < b.l)), ()) else some (false, ()))) : Option (Bool × Unit)).bind fun y1 => some y1.1
def an_ref02_Less : An U := (.node none .nil (.node (some ⟨[], [], ⟨[], []⟩, [(.normal, ⟨[(4, .tv .bool)], []⟩)]⟩) .nil .nil))
def fe_ref02_Less : Fe G := ⟨[.v .U, .v .U], [.bool], fun x => F_ref02_Less x.1 x.2.1⟩
theorem ok_ref02_Less : FnOk G 93 fe_ref02_Less := fk (an := an_ref02_Less) (k := 24) (res := [.tmp 4]) (lstK_ok G_ok (lnil)) Tryz.func93 fun _ => by kernel_rfl

def F_ratio_size (n : Int) : Option (Int) :=
 (bif (decide (n < 0)) then some (IntKind.u64.wrap (0 - (IntKind.u64.wrap n))) else some (IntKind.u64.wrap n))
def fe_ratio_size : Fe G := ⟨[.v .int1], [.u64], fun x => F_ratio_size x.1⟩
theorem ok_ratio_size : FnOk G 96 fe_ratio_size := fk (an := .nil) (k := 10) (res := [.tmp 2]) (lstK_ok G_ok (lnil)) Tryz.func96 fun _ => by kernel_rfl

def F_ratio_less (a : Twide) (b : Twide) : Option (Bool) :=
 ((bif (decide (a.hi < b.hi)) then some (true, ()) else (bif (a.hi == b.hi) then some ((decide (a.lo < b.lo)), ()) else some (false, ()))) : Option (Bool × Unit)).bind fun y1 => some y1.1
def an_ratio_less : An U := (.node none .nil (.node (some ⟨[], [], ⟨[], []⟩, [(.normal, ⟨[(4, .tv .bool)], []⟩)]⟩) .nil .nil))
def fe_ratio_less : Fe G := ⟨[.v .wide, .v .wide], [.bool], fun x => F_ratio_less x.1 x.2.1⟩
theorem ok_ratio_less : FnOk G 97 fe_ratio_less := fk (an := an_ratio_less) (k := 24) (res := [.tmp 4]) (lstK_ok G_ok (lnil)) Tryz.func97 fun _ => by kernel_rfl

def F_ratio_gcd (a : Int) (b : Int) : Option (Int) :=
 (iterF (σ := Int × Int × Unit) (ρ := Int × Unit) (fun s1 => (bif (s1.2.1 != 0) then (if s1.2.1 = 0 then none else some (.inl (s1.2.1, (s1.1.tmod s1.2.1), ()))) else some (.inr (s1.1, ())))) big (a, b, ())).bind fun y2 => some y2.1
def an_ratio_gcd : An U := (.node none .nil (.node none (.node none (.node (some ⟨[4], [], ⟨[(0, .tv .u64), (1, .tv .u64)], []⟩, [(.exit 0, ⟨[(0, .tv .u64)], []⟩)]⟩) .nil .nil) .nil) .nil))
def fe_ratio_gcd : Fe G := ⟨[.v .u64, .v .u64], [.u64], fun x => F_ratio_gcd x.1 x.2.1⟩
theorem ok_ratio_gcd : FnOk G 98 fe_ratio_gcd := fk (an := an_ratio_gcd) (k := 12) (res := [.tmp 4]) (lstK_ok G_ok (lnil)) Tryz.func98 fun _ => by kernel_rfl

def F_ratio_signed (negative : Bool) (num : Int) (den : Int) : Option (TFrac × Int) :=
 ((bif (decide (num > 1152921504606846976)) then some (true, ()) else some ((decide (den > 1152921504606846976)), ())) : Option (Bool × Unit)).bind fun y1 => (bif y1.1 then some ((TFrac.mk 0 0), 5) else ((bif negative then some ((IntKind.i64.wrap (0 - (IntKind.i64.wrap num))), ()) else some ((IntKind.i64.wrap num), ())) : Option (Int × Unit)).bind fun y2 => some ((TFrac.mk y2.1 (IntKind.i64.wrap den)), 0))
def an_ratio_signed : An U := (.node none .nil (.node none (.node (some ⟨[0, 1, 2, 6, 7], [], ⟨[], []⟩, [(.normal, ⟨[(14, .tv .bool)], []⟩)]⟩) .nil .nil) (.node none .nil (.node (some ⟨[2, 6, 7], [], ⟨[], []⟩, [(.normal, ⟨[(8, .tv .int)], []⟩)]⟩) .nil .nil))))
def fe_ratio_signed : Fe G := ⟨[.v .bool, .v .u64, .v .u64], [.Frac, .Errno], fun x => F_ratio_signed x.1 x.2.1 x.2.2.1⟩
theorem ok_ratio_signed : FnOk G 99 fe_ratio_signed := fk (an := an_ratio_signed) (k := 25) (res := [.cell 6 43, .tmp 7]) (lstK_ok G_ok (lnil)) Tryz.func99 fun _ => by kernel_rfl

def F_batten_between (n : Int) (low : Int) (high : Int) : Option (Bool) :=
 ((bif (decide (n ≥ low)) then some ((decide (n ≤ high)), ()) else some (false, ())) : Option (Bool × Unit)).bind fun y1 => some y1.1
def an_batten_between : An U := (.node none .nil (.node (some ⟨[], [], ⟨[], []⟩, [(.normal, ⟨[(6, .tv .bool)], []⟩)]⟩) .nil .nil))
def fe_batten_between : Fe G := ⟨[.v .int1, .v .int1, .v .int1], [.bool], fun x => F_batten_between x.1 x.2.1 x.2.2.1⟩
theorem ok_batten_between : FnOk G 105 fe_batten_between := fk (an := an_batten_between) (k := 15) (res := [.tmp 6]) (lstK_ok G_ok (lnil)) Tryz.func105 fun _ => by kernel_rfl

def F_ref02_Plus (a : TU) (b : TU) : Option (TU) :=
 ((bif (decide ((IntKind.u64.wrap (a.l + b.l)) < a.l)) then some ((IntKind.u64.wrap ((IntKind.u64.wrap (a.h + b.h)) + 1)), ()) else some ((IntKind.u64.wrap (a.h + b.h)), ())) : Option (Int × Unit)).bind fun y1 => some (TU.mk y1.1 (IntKind.u64.wrap (a.l + b.l)))
def an_ref02_Plus : An U := (.node none .nil (.node none .nil (.node none .nil (.node (some ⟨[4, 5], [], ⟨[], []⟩, [(.normal, ⟨[(6, .tv .u64)], []⟩)]⟩) .nil .nil))))
def fe_ref02_Plus : Fe G := ⟨[.v .U, .v .U], [.U], fun x => F_ref02_Plus x.1 x.2.1⟩
theorem ok_ref02_Plus : FnOk G 111 fe_ref02_Plus := fk (an := an_ref02_Plus) (k := 26) (res := [.cell 4 108]) (lstK_ok G_ok (lnil)) Tryz.func111 fun _ => by kernel_rfl

def F_ref02_Minus (a : TU) (b : TU) : Option (TU) :=
 ((bif (decide (a.l < b.l)) then some ((IntKind.u64.wrap ((IntKind.u64.wrap (a.h - b.h)) - 1)), ()) else some ((IntKind.u64.wrap (a.h - b.h)), ())) : Option (Int × Unit)).bind fun y1 => some (TU.mk y1.1 (IntKind.u64.wrap (a.l - b.l)))
def an_ref02_Minus : An U := (.node none .nil (.node none .nil (.node (some ⟨[2, 3, 4], [], ⟨[], []⟩, [(.normal, ⟨[(5, .tv .u64)], []⟩)]⟩) .nil .nil)))
def fe_ref02_Minus : Fe G := ⟨[.v .U, .v .U], [.U], fun x => F_ref02_Minus x.1 x.2.1⟩
theorem ok_ref02_Minus : FnOk G 112 fe_ref02_Minus := fk (an := an_ref02_Minus) (k := 25) (res := [.cell 4 108]) (lstK_ok G_ok (lnil)) Tryz.func112 fun _ => by kernel_rfl

def F_ref01_Letter (c : Int) : Option (Bool) :=
 ((bif (decide (c ≥ 97)) then (bif (decide (c ≤ 122)) then some (true, ()) else (bif (decide (c ≥ 65)) then some ((decide (c ≤ 90)), ()) else some (false, ()))) else (bif (decide (c ≥ 65)) then some ((decide (c ≤ 90)), ()) else some (false, ()))) : Option (Bool × Unit)).bind fun y1 => some y1.1
def an_ref01_Letter : An U := (.node none .nil (.node (some ⟨[], [], ⟨[], []⟩, [(.normal, ⟨[(2, .tv .bool)], []⟩)]⟩) .nil .nil))
def fe_ref01_Letter : Fe G := ⟨[.v .u8], [.bool], fun x => F_ref01_Letter x.1⟩
theorem ok_ref01_Letter : FnOk G 113 fe_ref01_Letter := fk (an := an_ref01_Letter) (k := 17) (res := [.tmp 2]) (lstK_ok G_ok (lnil)) Tryz.func113 fun _ => by kernel_rfl

def F_ref21_Apart (x : TItem) (y : TItem) : Option (Bool) :=
 ((bif (decide ((IntKind.i64.wrap (x.at_ + x.width)) ≤ y.at_)) then some (true, ()) else some ((decide ((IntKind.i64.wrap (y.at_ + y.width)) ≤ x.at_)), ())) : Option (Bool × Unit)).bind fun y1 => some y1.1
def an_ref21_Apart : An U := (.node none .nil (.node (some ⟨[], [], ⟨[], []⟩, [(.normal, ⟨[(4, .tv .bool)], []⟩)]⟩) .nil .nil))
def fe_ref21_Apart : Fe G := ⟨[.v .Item, .v .Item], [.bool], fun x => F_ref21_Apart x.1 x.2.1⟩
theorem ok_ref21_Apart : FnOk G 116 fe_ref21_Apart := fk (an := an_ref21_Apart) (k := 23) (res := [.tmp 4]) (lstK_ok G_ok (lnil)) Tryz.func116 fun _ => by kernel_rfl

def F_slices_IndexFunc_api_Frac (s : List TFrac) (f : TFrac → Option Bool) : Option (Int) :=
 (iterF (σ := Int × Unit) (ρ := (Int × Unit) ⊕ (Unit)) (fun s3 => (bif (decide (s3.1 < ((s.length : Nat) : Int))) then (idx s s3.1).bind fun x4 => (f x4).bind fun r5 => (bif r5 then some (.inr (.inl (s3.1, ()))) else some (.inl ((IntKind.i64.wrap (s3.1 + 1)), ()))) else some (.inr (.inr ((())))))) big (0, ())).bind fun y6 => (match y6 with | .inl y7 => some y7.1 | .inr y8 => some (-1))
def an_slices_IndexFunc_api_Frac : An U := (.node none .nil (.node none (.node none .nil (.node none (.node (some ⟨[0, 1, 7], [], ⟨[(8, .tv .int)], []⟩, [(.ret, ⟨[(4, .tv .int)], []⟩), (.exit 0, ⟨[], []⟩)]⟩) .nil .nil) .nil)) .nil))
def fe_slices_IndexFunc_api_Frac : Fe G := ⟨[.v .l_Frac, .fn .Frac .bool], [.int1], fun x => F_slices_IndexFunc_api_Frac x.1 x.2.1⟩
theorem ok_slices_IndexFunc_api_Frac : FnOk G 122 fe_slices_IndexFunc_api_Frac := fk (an := an_slices_IndexFunc_api_Frac) (k := 19) (res := [.tmp 4]) (lstK_ok G_ok (lnil)) Tryz.func122 fun _ => by kernel_rfl

def F_slices_Clone_int (s : List Int) : Option ((List Int)) :=
 (if ([] : List Int).length + s.length ≤ 2147483648 then some (([] : List Int) ++ s) else none)
def fe_slices_Clone_int : Fe G := ⟨[.v .l_int1], [.l_int1], fun x => F_slices_Clone_int x.1⟩
theorem ok_slices_Clone_int : FnOk G 124 fe_slices_Clone_int := clone_ok G_ok (lstK_ok G_ok lnil) Tryz.func124 (by kernel_rfl) (by kernel_rfl) (k := 8) (by kernel_rfl) (by decide) (res := [.tmp 2]) (by kernel_rfl) (by kernel_rfl) (t := 22) (by kernel_rfl) (u := .int1) (lu := .l_int1) (by kernel_rfl) (cast := fun x => x) (fun _ => by kernel_rfl) (F := F_slices_Clone_int) (fun _ => by kernel_rfl) (fun x y hx h => by obtain rfl : x = ([] : List Int) := hx; rw [← h]; kernel_rfl)

def F_slices_Clone_api_Item (s : List TItem) : Option ((List TItem)) :=
 (if ([] : List TItem).length + s.length ≤ 2147483648 then some (([] : List TItem) ++ s) else none)
def fe_slices_Clone_api_Item : Fe G := ⟨[.v .l_Item], [.l_Item], fun x => F_slices_Clone_api_Item x.1⟩
theorem ok_slices_Clone_api_Item : FnOk G 125 fe_slices_Clone_api_Item := clone_ok G_ok (lstK_ok G_ok lnil) Tryz.func125 (by kernel_rfl) (by kernel_rfl) (k := 8) (by kernel_rfl) (by decide) (res := [.tmp 2]) (by kernel_rfl) (by kernel_rfl) (t := 23) (by kernel_rfl) (u := .Item) (lu := .l_Item) (by kernel_rfl) (cast := fun x => x) (fun _ => by kernel_rfl) (F := F_slices_Clone_api_Item) (fun _ => by kernel_rfl) (fun x y hx h => by obtain rfl : x = ([] : List TItem) := hx; rw [← h]; kernel_rfl)

def F_slices_Clone_api_Brick (s : List TBrick) : Option ((List TBrick)) :=
 (if ([] : List TBrick).length + s.length ≤ 2147483648 then some (([] : List TBrick) ++ s) else none)
def fe_slices_Clone_api_Brick : Fe G := ⟨[.v .l_Brick], [.l_Brick], fun x => F_slices_Clone_api_Brick x.1⟩
theorem ok_slices_Clone_api_Brick : FnOk G 126 fe_slices_Clone_api_Brick := clone_ok G_ok (lstK_ok G_ok lnil) Tryz.func126 (by kernel_rfl) (by kernel_rfl) (k := 8) (by kernel_rfl) (by decide) (res := [.tmp 2]) (by kernel_rfl) (by kernel_rfl) (t := 24) (by kernel_rfl) (u := .Brick) (lu := .l_Brick) (by kernel_rfl) (cast := fun x => x) (fun _ => by kernel_rfl) (F := F_slices_Clone_api_Brick) (fun _ => by kernel_rfl) (fun x y hx h => by obtain rfl : x = ([] : List TBrick) := hx; rw [← h]; kernel_rfl)

def F_batten_middle (x : TItem) : Option (Int) :=
 some (IntKind.i64.wrap (x.at_ + (IntKind.i64.wrap (x.width.tdiv 2))))
def fe_batten_middle : Fe G := ⟨[.v .Item], [.int1], fun x => F_batten_middle x.1⟩
theorem ok_batten_middle : FnOk G 131 fe_batten_middle := fk (an := .nil) (k := 9) (res := [.tmp 2]) (lstK_ok G_ok (lnil)) Tryz.func131 fun _ => by kernel_rfl

def F_math_bits_Mul64 (x : Int) (y : Int) : Option (Int × Int) :=
 some ((IntKind.u64.wrap ((IntKind.u64.wrap ((IntKind.u64.wrap ((x.fdiv (2 ^ min (Int.toNat 32) IntKind.u64.bits)) * (y.fdiv (2 ^ min (Int.toNat 32) IntKind.u64.bits)))) + ((IntKind.u64.wrap ((IntKind.u64.wrap ((x.fdiv (2 ^ min (Int.toNat 32) IntKind.u64.bits)) * (bitsOf .and .u64 y 4294967295))) + ((IntKind.u64.wrap ((bitsOf .and .u64 x 4294967295) * (bitsOf .and .u64 y 4294967295))).fdiv (2 ^ min (Int.toNat 32) IntKind.u64.bits)))).fdiv (2 ^ min (Int.toNat 32) IntKind.u64.bits)))) + ((IntKind.u64.wrap ((bitsOf .and .u64 (IntKind.u64.wrap ((IntKind.u64.wrap ((x.fdiv (2 ^ min (Int.toNat 32) IntKind.u64.bits)) * (bitsOf .and .u64 y 4294967295))) + ((IntKind.u64.wrap ((bitsOf .and .u64 x 4294967295) * (bitsOf .and .u64 y 4294967295))).fdiv (2 ^ min (Int.toNat 32) IntKind.u64.bits)))) 4294967295) + (IntKind.u64.wrap ((bitsOf .and .u64 x 4294967295) * (y.fdiv (2 ^ min (Int.toNat 32) IntKind.u64.bits)))))).fdiv (2 ^ min (Int.toNat 32) IntKind.u64.bits)))), (IntKind.u64.wrap (x * y)))
def fe_math_bits_Mul64 : Fe G := ⟨[.v .u64, .v .u64], [.u64, .u64], fun x => F_math_bits_Mul64 x.1 x.2.1⟩
theorem ok_math_bits_Mul64 : FnOk G 132 fe_math_bits_Mul64 := fk (an := .nil) (k := 51) (res := [.tmp 4, .tmp 5]) (lstK_ok G_ok (lnil)) Tryz.func132 fun _ => by kernel_rfl

def F_decimal_letter (c : Int) : Option (Bool) :=
 ((bif (decide (c ≥ 97)) then (bif (decide (c ≤ 122)) then some (true, ()) else (bif (decide (c ≥ 65)) then some ((decide (c ≤ 90)), ()) else some (false, ()))) else (bif (decide (c ≥ 65)) then some ((decide (c ≤ 90)), ()) else some (false, ()))) : Option (Bool × Unit)).bind fun y1 => some y1.1
def an_decimal_letter : An U := (.node none .nil (.node (some ⟨[], [], ⟨[], []⟩, [(.normal, ⟨[(2, .tv .bool)], []⟩)]⟩) .nil .nil))
def fe_decimal_letter : Fe G := ⟨[.v .u8], [.bool], fun x => F_decimal_letter x.1⟩
theorem ok_decimal_letter : FnOk G 136 fe_decimal_letter := fk (an := an_decimal_letter) (k := 17) (res := [.tmp 2]) (lstK_ok G_ok (lnil)) Tryz.func136 fun _ => by kernel_rfl

def F_batten_twice_api_Item (l : List TItem) (name : TItem → Option ByteArray) : Option (Bool) :=
 (iterF (σ := Int × List (ByteArray × Bool) × Unit) (ρ := List (ByteArray × Bool) × Unit) (fun s5 => (bif (decide (s5.1 < ((l.length : Nat) : Int))) then (idx l s5.1).bind fun x6 => (name x6).bind fun r7 => (if r7.size ≤ 2147483648 ∧ s5.2.1.length ≤ 2147483648 then some (.inl ((IntKind.i64.wrap (s5.1 + 1)), (setM r7 true s5.2.1), ())) else none) else some (.inr (s5.2.1, ())))) big (0, ([] : List (ByteArray × Bool)), ())).bind fun y8 => some (decide (((y8.1.length : Nat) : Int) < ((l.length : Nat) : Int)))
def an_batten_twice_api_Item : An U := (.node none .nil (.node none .nil (.node none (.node none .nil (.node none (.node (some ⟨[0, 1, 4, 5, 9, 10], [0], ⟨[(11, .tv .int)], [(0, .map 186 false)]⟩, [(.exit 0, ⟨[], [(0, .map 186 false)]⟩)]⟩) .nil .nil) .nil)) .nil)))
def fe_batten_twice_api_Item : Fe G := ⟨[.v .l_Item, .fn .Item .str], [.bool], fun x => F_batten_twice_api_Item x.1 x.2.1⟩
theorem ok_batten_twice_api_Item : FnOk G 138 fe_batten_twice_api_Item := fk (an := an_batten_twice_api_Item) (k := 26) (res := [.tmp 4]) (lstK_ok G_ok (lnil)) Tryz.func138 fun _ => by kernel_rfl

def F_batten_items_1 (x : TItem) : Option (ByteArray) :=
 some x.name
def fe_batten_items_1 : Fe G := ⟨[.v .Item], [.str], fun x => F_batten_items_1 x.1⟩
theorem ok_batten_items_1 : FnOk G 139 fe_batten_items_1 := fk (an := .nil) (k := 5) (res := [.tmp 2]) (lstK_ok G_ok (lnil)) Tryz.func139 fun _ => by kernel_rfl

def F_batten_apart (a : TItem) (b : TItem) : Option (Bool) :=
 ((bif (decide ((IntKind.i64.wrap (a.at_ + a.width)) ≤ b.at_)) then some (true, ()) else some ((decide ((IntKind.i64.wrap (b.at_ + b.width)) ≤ a.at_)), ())) : Option (Bool × Unit)).bind fun y1 => some y1.1
def an_batten_apart : An U := (.node none .nil (.node (some ⟨[], [], ⟨[], []⟩, [(.normal, ⟨[(4, .tv .bool)], []⟩)]⟩) .nil .nil))
def fe_batten_apart : Fe G := ⟨[.v .Item, .v .Item], [.bool], fun x => F_batten_apart x.1 x.2.1⟩
theorem ok_batten_apart : FnOk G 143 fe_batten_apart := fk (an := an_batten_apart) (k := 23) (res := [.tmp 4]) (lstK_ok G_ok (lnil)) Tryz.func143 fun _ => by kernel_rfl

def F_batten_twice_api_Brick (l : List TBrick) (name : TBrick → Option ByteArray) : Option (Bool) :=
 (iterF (σ := Int × List (ByteArray × Bool) × Unit) (ρ := List (ByteArray × Bool) × Unit) (fun s5 => (bif (decide (s5.1 < ((l.length : Nat) : Int))) then (idx l s5.1).bind fun x6 => (name x6).bind fun r7 => (if r7.size ≤ 2147483648 ∧ s5.2.1.length ≤ 2147483648 then some (.inl ((IntKind.i64.wrap (s5.1 + 1)), (setM r7 true s5.2.1), ())) else none) else some (.inr (s5.2.1, ())))) big (0, ([] : List (ByteArray × Bool)), ())).bind fun y8 => some (decide (((y8.1.length : Nat) : Int) < ((l.length : Nat) : Int)))
def an_batten_twice_api_Brick : An U := (.node none .nil (.node none .nil (.node none (.node none .nil (.node none (.node (some ⟨[0, 1, 4, 5, 9, 10], [0], ⟨[(11, .tv .int)], [(0, .map 186 false)]⟩, [(.exit 0, ⟨[], [(0, .map 186 false)]⟩)]⟩) .nil .nil) .nil)) .nil)))
def fe_batten_twice_api_Brick : Fe G := ⟨[.v .l_Brick, .fn .Brick .str], [.bool], fun x => F_batten_twice_api_Brick x.1 x.2.1⟩
theorem ok_batten_twice_api_Brick : FnOk G 144 fe_batten_twice_api_Brick := fk (an := an_batten_twice_api_Brick) (k := 26) (res := [.tmp 4]) (lstK_ok G_ok (lnil)) Tryz.func144 fun _ => by kernel_rfl

def F_batten_bricks_1 (b : TBrick) : Option (ByteArray) :=
 some b.name
def fe_batten_bricks_1 : Fe G := ⟨[.v .Brick], [.str], fun x => F_batten_bricks_1 x.1⟩
theorem ok_batten_bricks_1 : FnOk G 145 fe_batten_bricks_1 := fk (an := .nil) (k := 5) (res := [.tmp 2]) (lstK_ok G_ok (lnil)) Tryz.func145 fun _ => by kernel_rfl

def F_ref01_Digit (c : Int) : Option (Bool) :=
 ((bif (decide (c ≥ 48)) then some ((decide (c ≤ 57)), ()) else some (false, ())) : Option (Bool × Unit)).bind fun y1 => some y1.1
def an_ref01_Digit : An U := (.node none .nil (.node (some ⟨[], [], ⟨[], []⟩, [(.normal, ⟨[(2, .tv .bool)], []⟩)]⟩) .nil .nil))
def fe_ref01_Digit : Fe G := ⟨[.v .u8], [.bool], fun x => F_ref01_Digit x.1⟩
theorem ok_ref01_Digit : FnOk G 147 fe_ref01_Digit := fk (an := an_ref01_Digit) (k := 9) (res := [.tmp 2]) (lstK_ok G_ok (lnil)) Tryz.func147 fun _ => by kernel_rfl

def F_ref21_Middle (x : TItem) : Option (Int) :=
 some (IntKind.i64.wrap (x.at_ + (IntKind.i64.wrap (x.width.tdiv 2))))
def fe_ref21_Middle : Fe G := ⟨[.v .Item], [.int1], fun x => F_ref21_Middle x.1⟩
theorem ok_ref21_Middle : FnOk G 150 fe_ref21_Middle := fk (an := .nil) (k := 9) (res := [.tmp 2]) (lstK_ok G_ok (lnil)) Tryz.func150 fun _ => by kernel_rfl

def F_ref02_Half (a : TU) : Option (TU) :=
 some (TU.mk (a.h.fdiv (2 ^ min (Int.toNat 1) IntKind.u64.bits)) (IntKind.u64.wrap ((a.l.fdiv (2 ^ min (Int.toNat 1) IntKind.u64.bits)) + (IntKind.u64.wrap (a.h * 2 ^ min (Int.toNat 63) IntKind.u64.bits)))))
def fe_ref02_Half : Fe G := ⟨[.v .U], [.U], fun x => F_ref02_Half x.1⟩
theorem ok_ref02_Half : FnOk G 161 fe_ref02_Half := fk (an := .nil) (k := 14) (res := [.cell 2 108]) (lstK_ok G_ok (lnil)) Tryz.func161 fun _ => by kernel_rfl

def F_beam_exact__fraction (a : Texact) : Option (TFrac × Int) :=
 (bif (decide (((a.n.words.length : Nat) : Int) > 2)) then some ((TFrac.mk 0 0), 5) else (iterF (σ := Int × TAr199 × Unit) (ρ := TAr199 × Unit) (fun s7 => (bif (decide (s7.1 < ((a.n.words.length : Nat) : Int))) then (idx a.n.words s7.1).bind fun x8 => (if (IntKind.i64.wrap (32 * s7.1)) < 0 then none else some (.inl ((IntKind.i64.wrap (s7.1 + 1)), (TAr199.mk (bitsOf .or .u64 s7.2.1.e0 (IntKind.u64.wrap ((IntKind.u64.wrap x8) * 2 ^ min (Int.toNat (IntKind.i64.wrap (32 * s7.1))) IntKind.u64.bits))) s7.2.1.e1), ()))) else some (.inr (s7.2.1, ())))) big (0, (TAr199.mk 0 0), ())).bind fun y11 => (bif (decide (y11.1.e0 > 1152921504606846976)) then some ((TFrac.mk 0 0), 5) else (bif (decide (((a.d.words.length : Nat) : Int) > 2)) then some ((TFrac.mk 0 0), 5) else (iterF (σ := Int × TAr199 × Unit) (ρ := TAr199 × Unit) (fun s13 => (bif (decide (s13.1 < ((a.d.words.length : Nat) : Int))) then (idx a.d.words s13.1).bind fun x14 => (if (IntKind.i64.wrap (32 * s13.1)) < 0 then none else some (.inl ((IntKind.i64.wrap (s13.1 + 1)), (TAr199.mk s13.2.1.e0 (bitsOf .or .u64 s13.2.1.e1 (IntKind.u64.wrap ((IntKind.u64.wrap x14) * 2 ^ min (Int.toNat (IntKind.i64.wrap (32 * s13.1))) IntKind.u64.bits)))), ()))) else some (.inr (s13.2.1, ())))) big (0, y11.1, ())).bind fun y17 => (bif (decide (y17.1.e1 > 1152921504606846976)) then some ((TFrac.mk 0 0), 5) else ((bif a.n.neg then some ((TFrac.mk (IntKind.i64.wrap (0 - (IntKind.i64.wrap y17.1.e0))) (IntKind.i64.wrap y17.1.e1)), ()) else some ((TFrac.mk (IntKind.i64.wrap y17.1.e0) (IntKind.i64.wrap y17.1.e1)), ())) : Option (TFrac × Unit)).bind fun y21 => some (y21.1, 0)))))
def an_beam_exact__fraction : An U := (.node none .nil (.node none .nil (.node none (.node none .nil (.node none (.node none (.node none .nil (.node none .nil (.node none (.node none (.node none .nil (.node none .nil (.node none (.node none .nil (.node none (.node (some ⟨[1, 2, 3, 4, 5, 14, 15, 25, 26], [2], ⟨[(27, .tv .int)], [(2, .bx .ar199 [])]⟩, [(.exit 2, ⟨[], [(2, .bx .ar199 [])]⟩)]⟩) .nil .nil) .nil)) .nil))) .nil) .nil))) .nil) .nil)) (.node none .nil (.node (some ⟨[2, 3, 9], [5], ⟨[], []⟩, [(.normal, ⟨[], [(5, .bx .Frac [])]⟩)]⟩) .nil .nil)))))
def fe_beam_exact__fraction : Fe G := ⟨[.v .exact], [.Frac, .Errno], fun x => F_beam_exact__fraction x.1⟩
theorem ok_beam_exact__fraction : FnOk G 164 fe_beam_exact__fraction := fk (an := an_beam_exact__fraction) (k := 64) (res := [.cell 2 43, .tmp 3]) (lstK_ok G_ok (lnil)) Tryz.func164 fun _ => by kernel_rfl
end
end Go.Proofs.YtcaopooflemnlaaGreat
