/- Joined by merge.py: Fn1. -/
import Derived.Test.YtkagmdfhodbfmaaGreatM04
/- Functions, as plain data. Printed by mkev.py. -/
namespace Go.Proofs.YtkagmdfhodbfmaaGreat
open Go.RowKit
set_option linter.unusedVariables false
set_option linter.unusedSimpArgs false
noncomputable section

def F_cmp_isNaN_int (x : Int) : Option (Bool) :=
  some (x != x)
def an_cmp_isNaN_int : An U := .nil
def fe_cmp_isNaN_int : Fe G := ⟨[.v .int1], [.bool], fun x => F_cmp_isNaN_int x.1⟩
def tb_cmp_isNaN_int : List (FuncId × Fe G) := []
theorem ev_cmp_isNaN_int (x : TyP G fe_cmp_isNaN_int.ps) : evF G (lstK G tb_cmp_isNaN_int) (bodyOf Tryz.f109) an_cmp_isNaN_int 6 [.tmp 2] fe_cmp_isNaN_int.rs (argT G fe_cmp_isNaN_int.ps x) = fe_cmp_isNaN_int.fn x := by kernel_rfl
theorem ok_cmp_isNaN_int : FnOk G 109 fe_cmp_isNaN_int := fnOk_of G_ok (lstK_ok G_ok (lnil)) Tryz.func109 (by kernel_rfl) (by kernel_rfl) (by kernel_rfl) (by kernel_rfl) (by kernel_rfl) ev_cmp_isNaN_int

def F_decimal_letter (c : Int) : Option (Bool) :=
  ((bif (decide (c ≥ 97)) then (bif (decide (c ≤ 122)) then some (true, ()) else (bif (decide (c ≥ 65)) then some ((decide (c ≤ 90)), ()) else some (false, ()))) else (bif (decide (c ≥ 65)) then some ((decide (c ≤ 90)), ()) else some (false, ()))) : Option (Bool × Unit)).bind fun y1 => some y1.1
def an_decimal_letter : An U := (.node none .nil (.node (some ⟨[], [], ⟨[], []⟩, [(.normal, ⟨[(2, .tv .bool)], []⟩)]⟩) .nil .nil))
def fe_decimal_letter : Fe G := ⟨[.v .u8], [.bool], fun x => F_decimal_letter x.1⟩
def tb_decimal_letter : List (FuncId × Fe G) := []
theorem ev_decimal_letter (x : TyP G fe_decimal_letter.ps) : evF G (lstK G tb_decimal_letter) (bodyOf Tryz.f110) an_decimal_letter 17 [.tmp 2] fe_decimal_letter.rs (argT G fe_decimal_letter.ps x) = fe_decimal_letter.fn x := by kernel_rfl
theorem ok_decimal_letter : FnOk G 110 fe_decimal_letter := fnOk_of G_ok (lstK_ok G_ok (lnil)) Tryz.func110 (by kernel_rfl) (by kernel_rfl) (by kernel_rfl) (by kernel_rfl) (by kernel_rfl) ev_decimal_letter

def F_batten_twice_api_Item (l : List TItem) (name : TItem → Option ByteArray) : Option (Bool) :=
  (iterF (σ := Int × List (ByteArray × Bool) × Unit) (ρ := List (ByteArray × Bool) × Unit) (fun s5 => (bif (decide (s5.1 < ((l.length : Nat) : Int))) then (idx l s5.1).bind fun x6 => (name x6).bind fun r7 => (if r7.size ≤ 2147483648 ∧ s5.2.1.length ≤ 2147483648 then some (.inl ((IntKind.i64.wrap (s5.1 + 1)), (setM r7 true s5.2.1), ())) else none) else some (.inr (s5.2.1, ())))) big (0, ([] : List (ByteArray × Bool)), ())).bind fun y8 => some (decide (((y8.1.length : Nat) : Int) < ((l.length : Nat) : Int)))
def an_batten_twice_api_Item : An U := (.node none .nil (.node none .nil (.node none (.node none .nil (.node none (.node (some ⟨[0, 1, 4, 5, 9, 10], [0], ⟨[(11, .tv .int)], [(0, .map 179 false)]⟩, [(.exit 0, ⟨[], [(0, .map 179 false)]⟩)]⟩) .nil .nil) .nil)) .nil)))
def fe_batten_twice_api_Item : Fe G := ⟨[.v .l_Item, .fn .Item .str], [.bool], fun x => F_batten_twice_api_Item x.1 x.2.1⟩
def tb_batten_twice_api_Item : List (FuncId × Fe G) := []
theorem ev_batten_twice_api_Item (x : TyP G fe_batten_twice_api_Item.ps) : evF G (lstK G tb_batten_twice_api_Item) (bodyOf Tryz.f112) an_batten_twice_api_Item 26 [.tmp 4] fe_batten_twice_api_Item.rs (argT G fe_batten_twice_api_Item.ps x) = fe_batten_twice_api_Item.fn x := by kernel_rfl
theorem ok_batten_twice_api_Item : FnOk G 112 fe_batten_twice_api_Item := fnOk_of G_ok (lstK_ok G_ok (lnil)) Tryz.func112 (by kernel_rfl) (by kernel_rfl) (by kernel_rfl) (by kernel_rfl) (by kernel_rfl) ev_batten_twice_api_Item

def F_batten_items_1 (x : TItem) : Option (ByteArray) :=
  some x.name
def an_batten_items_1 : An U := .nil
def fe_batten_items_1 : Fe G := ⟨[.v .Item], [.str], fun x => F_batten_items_1 x.1⟩
def tb_batten_items_1 : List (FuncId × Fe G) := []
theorem ev_batten_items_1 (x : TyP G fe_batten_items_1.ps) : evF G (lstK G tb_batten_items_1) (bodyOf Tryz.f113) an_batten_items_1 5 [.tmp 2] fe_batten_items_1.rs (argT G fe_batten_items_1.ps x) = fe_batten_items_1.fn x := by kernel_rfl
theorem ok_batten_items_1 : FnOk G 113 fe_batten_items_1 := fnOk_of G_ok (lstK_ok G_ok (lnil)) Tryz.func113 (by kernel_rfl) (by kernel_rfl) (by kernel_rfl) (by kernel_rfl) (by kernel_rfl) ev_batten_items_1

def F_batten_twice_api_Brick (l : List TBrick) (name : TBrick → Option ByteArray) : Option (Bool) :=
  (iterF (σ := Int × List (ByteArray × Bool) × Unit) (ρ := List (ByteArray × Bool) × Unit) (fun s5 => (bif (decide (s5.1 < ((l.length : Nat) : Int))) then (idx l s5.1).bind fun x6 => (name x6).bind fun r7 => (if r7.size ≤ 2147483648 ∧ s5.2.1.length ≤ 2147483648 then some (.inl ((IntKind.i64.wrap (s5.1 + 1)), (setM r7 true s5.2.1), ())) else none) else some (.inr (s5.2.1, ())))) big (0, ([] : List (ByteArray × Bool)), ())).bind fun y8 => some (decide (((y8.1.length : Nat) : Int) < ((l.length : Nat) : Int)))
def an_batten_twice_api_Brick : An U := (.node none .nil (.node none .nil (.node none (.node none .nil (.node none (.node (some ⟨[0, 1, 4, 5, 9, 10], [0], ⟨[(11, .tv .int)], [(0, .map 179 false)]⟩, [(.exit 0, ⟨[], [(0, .map 179 false)]⟩)]⟩) .nil .nil) .nil)) .nil)))
def fe_batten_twice_api_Brick : Fe G := ⟨[.v .l_Brick, .fn .Brick .str], [.bool], fun x => F_batten_twice_api_Brick x.1 x.2.1⟩
def tb_batten_twice_api_Brick : List (FuncId × Fe G) := []
theorem ev_batten_twice_api_Brick (x : TyP G fe_batten_twice_api_Brick.ps) : evF G (lstK G tb_batten_twice_api_Brick) (bodyOf Tryz.f115) an_batten_twice_api_Brick 26 [.tmp 4] fe_batten_twice_api_Brick.rs (argT G fe_batten_twice_api_Brick.ps x) = fe_batten_twice_api_Brick.fn x := by kernel_rfl
theorem ok_batten_twice_api_Brick : FnOk G 115 fe_batten_twice_api_Brick := fnOk_of G_ok (lstK_ok G_ok (lnil)) Tryz.func115 (by kernel_rfl) (by kernel_rfl) (by kernel_rfl) (by kernel_rfl) (by kernel_rfl) ev_batten_twice_api_Brick

def F_batten_bricks_1 (b : TBrick) : Option (ByteArray) :=
  some b.name
def an_batten_bricks_1 : An U := .nil
def fe_batten_bricks_1 : Fe G := ⟨[.v .Brick], [.str], fun x => F_batten_bricks_1 x.1⟩
def tb_batten_bricks_1 : List (FuncId × Fe G) := []
theorem ev_batten_bricks_1 (x : TyP G fe_batten_bricks_1.ps) : evF G (lstK G tb_batten_bricks_1) (bodyOf Tryz.f116) an_batten_bricks_1 5 [.tmp 2] fe_batten_bricks_1.rs (argT G fe_batten_bricks_1.ps x) = fe_batten_bricks_1.fn x := by kernel_rfl
theorem ok_batten_bricks_1 : FnOk G 116 fe_batten_bricks_1 := fnOk_of G_ok (lstK_ok G_ok (lnil)) Tryz.func116 (by kernel_rfl) (by kernel_rfl) (by kernel_rfl) (by kernel_rfl) (by kernel_rfl) ev_batten_bricks_1

def F_beam_exact__fraction (a : Texact) : Option (TFrac × Int) :=
  (bif (decide (((a.n.words.length : Nat) : Int) > 2)) then some ((TFrac.mk 0 0), 5) else (iterF (σ := Int × TAr186 × Unit) (ρ := TAr186 × Unit) (fun s7 => (bif (decide (s7.1 < ((a.n.words.length : Nat) : Int))) then (idx a.n.words s7.1).bind fun x8 => (if (IntKind.i64.wrap (32 * s7.1)) < 0 then none else some (.inl ((IntKind.i64.wrap (s7.1 + 1)), (TAr186.mk (bitsOf .or .u64 s7.2.1.e0 (IntKind.u64.wrap ((IntKind.u64.wrap x8) * 2 ^ min (Int.toNat (IntKind.i64.wrap (32 * s7.1))) IntKind.u64.bits))) s7.2.1.e1), ()))) else some (.inr (s7.2.1, ())))) big (0, (TAr186.mk 0 0), ())).bind fun y11 => (bif (decide (y11.1.e0 > 1152921504606846976)) then some ((TFrac.mk 0 0), 5) else (bif (decide (((a.d.words.length : Nat) : Int) > 2)) then some ((TFrac.mk 0 0), 5) else (iterF (σ := Int × TAr186 × Unit) (ρ := TAr186 × Unit) (fun s13 => (bif (decide (s13.1 < ((a.d.words.length : Nat) : Int))) then (idx a.d.words s13.1).bind fun x14 => (if (IntKind.i64.wrap (32 * s13.1)) < 0 then none else some (.inl ((IntKind.i64.wrap (s13.1 + 1)), (TAr186.mk s13.2.1.e0 (bitsOf .or .u64 s13.2.1.e1 (IntKind.u64.wrap ((IntKind.u64.wrap x14) * 2 ^ min (Int.toNat (IntKind.i64.wrap (32 * s13.1))) IntKind.u64.bits)))), ()))) else some (.inr (s13.2.1, ())))) big (0, y11.1, ())).bind fun y17 => (bif (decide (y17.1.e1 > 1152921504606846976)) then some ((TFrac.mk 0 0), 5) else ((bif a.n.neg then some ((TFrac.mk (IntKind.i64.wrap (0 - (IntKind.i64.wrap y17.1.e0))) (IntKind.i64.wrap y17.1.e1)), ()) else some ((TFrac.mk (IntKind.i64.wrap y17.1.e0) (IntKind.i64.wrap y17.1.e1)), ())) : Option (TFrac × Unit)).bind fun y21 => some (y21.1, 0)))))
def an_beam_exact__fraction : An U := (.node none .nil (.node none .nil (.node none (.node none .nil (.node none (.node none (.node none .nil (.node none .nil (.node none (.node none (.node none .nil (.node none .nil (.node none (.node none .nil (.node none (.node (some ⟨[1, 2, 3, 4, 5, 14, 15, 25, 26], [2], ⟨[(27, .tv .int)], [(2, .bx .ar186 [])]⟩, [(.exit 2, ⟨[], [(2, .bx .ar186 [])]⟩)]⟩) .nil .nil) .nil)) .nil))) .nil) .nil))) .nil) .nil)) (.node none .nil (.node (some ⟨[2, 3, 9], [5], ⟨[], []⟩, [(.normal, ⟨[], [(5, .bx .Frac [])]⟩)]⟩) .nil .nil)))))
def fe_beam_exact__fraction : Fe G := ⟨[.v .exact], [.Frac, .Errno], fun x => F_beam_exact__fraction x.1⟩
def tb_beam_exact__fraction : List (FuncId × Fe G) := []
theorem ev_beam_exact__fraction (x : TyP G fe_beam_exact__fraction.ps) : evF G (lstK G tb_beam_exact__fraction) (bodyOf Tryz.f124) an_beam_exact__fraction 64 [.cell 2 37, .tmp 3] fe_beam_exact__fraction.rs (argT G fe_beam_exact__fraction.ps x) = fe_beam_exact__fraction.fn x := by kernel_rfl
theorem ok_beam_exact__fraction : FnOk G 124 fe_beam_exact__fraction := fnOk_of G_ok (lstK_ok G_ok (lnil)) Tryz.func124 (by kernel_rfl) (by kernel_rfl) (by kernel_rfl) (by kernel_rfl) (by kernel_rfl) ev_beam_exact__fraction

def F_ref01_Digit (c : Int) : Option (Bool) :=
  ((bif (decide (c ≥ 48)) then some ((decide (c ≤ 57)), ()) else some (false, ())) : Option (Bool × Unit)).bind fun y1 => some y1.1
def an_ref01_Digit : An U := (.node none .nil (.node (some ⟨[], [], ⟨[], []⟩, [(.normal, ⟨[(2, .tv .bool)], []⟩)]⟩) .nil .nil))
def fe_ref01_Digit : Fe G := ⟨[.v .u8], [.bool], fun x => F_ref01_Digit x.1⟩
def tb_ref01_Digit : List (FuncId × Fe G) := []
theorem ev_ref01_Digit (x : TyP G fe_ref01_Digit.ps) : evF G (lstK G tb_ref01_Digit) (bodyOf Tryz.f132) an_ref01_Digit 9 [.tmp 2] fe_ref01_Digit.rs (argT G fe_ref01_Digit.ps x) = fe_ref01_Digit.fn x := by kernel_rfl
theorem ok_ref01_Digit : FnOk G 132 fe_ref01_Digit := fnOk_of G_ok (lstK_ok G_ok (lnil)) Tryz.func132 (by kernel_rfl) (by kernel_rfl) (by kernel_rfl) (by kernel_rfl) (by kernel_rfl) ev_ref01_Digit

def F_ref08_larger (a : List Int) (b : List Int) : Option (Bool) :=
  (bif (((a.length : Nat) : Int) != ((b.length : Nat) : Int)) then some (decide (((a.length : Nat) : Int) > ((b.length : Nat) : Int))) else (iterF (σ := Int × Unit) (ρ := (Bool × Unit) ⊕ (Unit)) (fun s5 => (bif (decide (s5.1 ≥ 0)) then (idx a s5.1).bind fun x6 => (idx b s5.1).bind fun x7 => (bif (x6 != x7) then (idx a s5.1).bind fun x8 => (idx b s5.1).bind fun x9 => some (.inr (.inl ((decide (x8 > x9)), ()))) else some (.inl ((IntKind.i64.wrap (s5.1 - 1)), ()))) else some (.inr (.inr ((())))))) big ((IntKind.i64.wrap (((a.length : Nat) : Int) - 1)), ())).bind fun y10 => (match y10 with | .inl y11 => some y11.1 | .inr y12 => some false))
def an_ref08_larger : An U := (.node none .nil (.node none .nil (.node none (.node none .nil (.node none (.node (some ⟨[0, 1], [], ⟨[(5, .tv .int)], []⟩, [(.ret, ⟨[(4, .tv .bool)], []⟩), (.exit 0, ⟨[], []⟩)]⟩) .nil .nil) .nil)) .nil)))
def fe_ref08_larger : Fe G := ⟨[.v .l_int1, .v .l_int1], [.bool], fun x => F_ref08_larger x.1 x.2.1⟩
def tb_ref08_larger : List (FuncId × Fe G) := []
theorem ev_ref08_larger (x : TyP G fe_ref08_larger.ps) : evF G (lstK G tb_ref08_larger) (bodyOf Tryz.f137) an_ref08_larger 41 [.tmp 4] fe_ref08_larger.rs (argT G fe_ref08_larger.ps x) = fe_ref08_larger.fn x := by kernel_rfl
theorem ok_ref08_larger : FnOk G 137 fe_ref08_larger := fnOk_of G_ok (lstK_ok G_ok (lnil)) Tryz.func137 (by kernel_rfl) (by kernel_rfl) (by kernel_rfl) (by kernel_rfl) (by kernel_rfl) ev_ref08_larger

def F_ref08_Neg (a : TBig) : Option (TBig) :=
  ((bif (!a.neg) then some ((TBig.mk (decide (((a.d.length : Nat) : Int) > 0)) a.d), ()) else some ((TBig.mk false a.d), ())) : Option (TBig × Unit)).bind fun y1 => some y1.1
def an_ref08_Neg : An U := (.node none .nil (.node (some ⟨[1, 2], [0], ⟨[], []⟩, [(.normal, ⟨[], [(0, .bx .Big [])]⟩)]⟩) .nil .nil))
def fe_ref08_Neg : Fe G := ⟨[.v .Big], [.Big], fun x => F_ref08_Neg x.1⟩
def tb_ref08_Neg : List (FuncId × Fe G) := []
theorem ev_ref08_Neg (x : TyP G fe_ref08_Neg.ps) : evZ G (lstK G tb_ref08_Neg) (bodyOf Tryz.f142) an_ref08_Neg 14 [.cell 2 133] fe_ref08_Neg.rs (argT G fe_ref08_Neg.ps x) = fe_ref08_Neg.fn x := by kernel_rfl
theorem ok_ref08_Neg : FnOk G 142 fe_ref08_Neg := fnOkz_of G_ok (fun _ => lstK_ok G_ok (lnil)) Tryz.func142 (by kernel_rfl) (by kernel_rfl) (by kernel_rfl) (by kernel_rfl) (by kernel_rfl) ev_ref08_Neg

def F_decimal_digit (c : Int) : Option (Bool) :=
  ((bif (decide (c ≥ 48)) then some ((decide (c ≤ 57)), ()) else some (false, ())) : Option (Bool × Unit)).bind fun y1 => some y1.1
def an_decimal_digit : An U := (.node none .nil (.node (some ⟨[], [], ⟨[], []⟩, [(.normal, ⟨[(2, .tv .bool)], []⟩)]⟩) .nil .nil))
def fe_decimal_digit : Fe G := ⟨[.v .u8], [.bool], fun x => F_decimal_digit x.1⟩
def tb_decimal_digit : List (FuncId × Fe G) := []
theorem ev_decimal_digit (x : TyP G fe_decimal_digit.ps) : evF G (lstK G tb_decimal_digit) (bodyOf Tryz.f148) an_decimal_digit 9 [.tmp 2] fe_decimal_digit.rs (argT G fe_decimal_digit.ps x) = fe_decimal_digit.fn x := by kernel_rfl
theorem ok_decimal_digit : FnOk G 148 fe_decimal_digit := fnOk_of G_ok (lstK_ok G_ok (lnil)) Tryz.func148 (by kernel_rfl) (by kernel_rfl) (by kernel_rfl) (by kernel_rfl) (by kernel_rfl) ev_decimal_digit

def F_beam_Valid_1 (x : TLoad) (a1 : TBeam) : Option (Bool) :=
  ((bif (decide (x.at_ < 0)) then some (true, ()) else (bif (decide (x.at_ > a1.length)) then some (true, ()) else (bif (decide (x.weight < 0)) then some (true, ()) else some ((decide (x.weight > 67108864)), ())))) : Option (Bool × Unit)).bind fun y1 => some y1.1
def an_beam_Valid_1 : An U := (.node none .nil (.node (some ⟨[], [], ⟨[], []⟩, [(.normal, ⟨[(3, .tv .bool)], []⟩)]⟩) .nil .nil))
def fe_beam_Valid_1 : Fe G := ⟨[.v .Load, .rp .Beam], [.bool], fun x => F_beam_Valid_1 x.1 x.2.1⟩
def tb_beam_Valid_1 : List (FuncId × Fe G) := []
theorem ev_beam_Valid_1 (x : TyP G fe_beam_Valid_1.ps) : evF G (lstK G tb_beam_Valid_1) (bodyOf Tryz.f151) an_beam_Valid_1 24 [.tmp 3] fe_beam_Valid_1.rs (argT G fe_beam_Valid_1.ps x) = fe_beam_Valid_1.fn x := by kernel_rfl
theorem ok_beam_Valid_1 : FnOk G 151 fe_beam_Valid_1 := fnOk_of G_ok (lstK_ok G_ok (lnil)) Tryz.func151 (by kernel_rfl) (by kernel_rfl) (by kernel_rfl) (by kernel_rfl) (by kernel_rfl) ev_beam_Valid_1

def F_beam_number__sign (a : Tnumber) : Option (Int) :=
  (bif (((a.words.length : Nat) : Int) == 0) then some 0 else (bif a.neg then some (-1) else some 1))
def an_beam_number__sign : An U := .nil
def fe_beam_number__sign : Fe G := ⟨[.v .number], [.int1], fun x => F_beam_number__sign x.1⟩
def tb_beam_number__sign : List (FuncId × Fe G) := []
theorem ev_beam_number__sign (x : TyP G fe_beam_number__sign.ps) : evF G (lstK G tb_beam_number__sign) (bodyOf Tryz.f153) an_beam_number__sign 11 [.tmp 2] fe_beam_number__sign.rs (argT G fe_beam_number__sign.ps x) = fe_beam_number__sign.fn x := by kernel_rfl
theorem ok_beam_number__sign : FnOk G 153 fe_beam_number__sign := fnOk_of G_ok (lstK_ok G_ok (lnil)) Tryz.func153 (by kernel_rfl) (by kernel_rfl) (by kernel_rfl) (by kernel_rfl) (by kernel_rfl) ev_beam_number__sign

def F_beam_number__opposite (a : Tnumber) : Option (Tnumber) :=
  some (Tnumber.mk (!a.neg) a.words)
def an_beam_number__opposite : An U := .nil
def fe_beam_number__opposite : Fe G := ⟨[.v .number], [.number], fun x => F_beam_number__opposite x.1⟩
def tb_beam_number__opposite : List (FuncId × Fe G) := []
theorem ev_beam_number__opposite (x : TyP G fe_beam_number__opposite.ps) : evZ G (lstK G tb_beam_number__opposite) (bodyOf Tryz.f161) an_beam_number__opposite 9 [.cell 2 159] fe_beam_number__opposite.rs (argT G fe_beam_number__opposite.ps x) = fe_beam_number__opposite.fn x := by kernel_rfl
theorem ok_beam_number__opposite : FnOk G 161 fe_beam_number__opposite := fnOkz_of G_ok (fun _ => lstK_ok G_ok (lnil)) Tryz.func161 (by kernel_rfl) (by kernel_rfl) (by kernel_rfl) (by kernel_rfl) (by kernel_rfl) ev_beam_number__opposite

def F_ref08_Sign (a : TExact) : Option (Int) :=
  (bif a.n.neg then some (-1) else (bif (((a.n.d.length : Nat) : Int) == 0) then some 0 else some 1))
def an_ref08_Sign : An U := .nil
def fe_ref08_Sign : Fe G := ⟨[.v .Exact], [.int1], fun x => F_ref08_Sign x.1⟩
def tb_ref08_Sign : List (FuncId × Fe G) := []
theorem ev_ref08_Sign (x : TyP G fe_ref08_Sign.ps) : evF G (lstK G tb_ref08_Sign) (bodyOf Tryz.f163) an_ref08_Sign 11 [.tmp 2] fe_ref08_Sign.rs (argT G fe_ref08_Sign.ps x) = fe_ref08_Sign.fn x := by kernel_rfl
theorem ok_ref08_Sign : FnOk G 163 fe_ref08_Sign := fnOk_of G_ok (lstK_ok G_ok (lnil)) Tryz.func163 (by kernel_rfl) (by kernel_rfl) (by kernel_rfl) (by kernel_rfl) (by kernel_rfl) ev_ref08_Sign

def F_ref20_Turned (b : TBeam) : Option (TBeam) :=
  (iterF (σ := Int × TBeam × Unit) (ρ := TBeam × Unit) (fun s3 => (bif (decide (s3.1 ≥ 0)) then (idx b.supports s3.1).bind fun x4 => (if s3.2.1.supports.length + ([(IntKind.i64.wrap (b.length - x4))] : List Int).length ≤ 2147483648 then some (.inl ((IntKind.i64.wrap (s3.1 - 1)), (TBeam.mk s3.2.1.name s3.2.1.length (s3.2.1.supports ++ ([(IntKind.i64.wrap (b.length - x4))] : List Int)) s3.2.1.loads s3.2.1.even), ())) else none) else some (.inr (s3.2.1, ())))) big ((IntKind.i64.wrap (((b.supports.length : Nat) : Int) - 1)), (TBeam.mk b.name b.length ([] : List Int) ([] : List TLoad) b.even), ())).bind fun y5 => (iterF (σ := Int × TBeam × Unit) (ρ := TBeam × Unit) (fun s12 => (bif (decide (s12.1 < ((b.loads.length : Nat) : Int))) then (idx b.loads s12.1).bind fun x13 => (idx b.loads s12.1).bind fun x14 => (if s12.2.1.loads.length + ([(TLoad.mk (IntKind.i64.wrap (b.length - x13.at_)) x14.weight)] : List TLoad).length ≤ 2147483648 then some (.inl ((IntKind.i64.wrap (s12.1 + 1)), (TBeam.mk s12.2.1.name s12.2.1.length s12.2.1.supports (s12.2.1.loads ++ ([(TLoad.mk (IntKind.i64.wrap (b.length - x13.at_)) x14.weight)] : List TLoad)) s12.2.1.even), ())) else none) else some (.inr (s12.2.1, ())))) big (0, y5.1, ())).bind fun y15 => some y15.1
def an_ref20_Turned : An U := (.node none .nil (.node none .nil (.node none .nil (.node none .nil (.node none (.node none .nil (.node none (.node (some ⟨[1, 2, 3], [2], ⟨[(4, .tv .int)], [(2, .bx .Beam [2, 3])]⟩, [(.exit 0, ⟨[], [(2, .bx .Beam [2, 3])]⟩)]⟩) .nil .nil) .nil)) (.node none (.node none .nil (.node none (.node (some ⟨[1, 2, 3], [2, 3, 4], ⟨[(5, .tv .int)], [(2, .bx .Beam [2, 3]), (3, .gone), (4, .gone)]⟩, [(.exit 2, ⟨[], [(2, .bx .Beam [2, 3])]⟩)]⟩) .nil .nil) .nil)) .nil))))))
def fe_ref20_Turned : Fe G := ⟨[.v .Beam], [.Beam], fun x => F_ref20_Turned x.1⟩
def tb_ref20_Turned : List (FuncId × Fe G) := []
theorem ev_ref20_Turned (x : TyP G fe_ref20_Turned.ps) : evF G (lstK G tb_ref20_Turned) (bodyOf Tryz.f164) an_ref20_Turned 59 [.cell 2 62] fe_ref20_Turned.rs (argT G fe_ref20_Turned.ps x) = fe_ref20_Turned.fn x := by kernel_rfl
theorem ok_ref20_Turned : FnOk G 164 fe_ref20_Turned := fnOk_of G_ok (lstK_ok G_ok (lnil)) Tryz.func164 (by kernel_rfl) (by kernel_rfl) (by kernel_rfl) (by kernel_rfl) (by kernel_rfl) ev_ref20_Turned

def F_ref08_trim (b : TBig) : Option (TBig) :=
  (iterF (σ := Int × Unit) (ρ := Int × Unit) (fun s4 => ((bif (decide (s4.1 > 0)) then (idx b.d (IntKind.i64.wrap (s4.1 - 1))).bind fun x5 => some ((x5 == 0), ()) else some (false, ())) : Option (Bool × Unit)).bind fun y6 => (bif y6.1 then some (.inl ((IntKind.i64.wrap (s4.1 - 1)), ())) else some (.inr (s4.1, ())))) big (((b.d.length : Nat) : Int), ())).bind fun y7 => (if 0 ≤ (0 : Int) ∧ (0 : Int) ≤ y7.1 ∧ y7.1 ≤ ((b.d.length : Nat) : Int) then ((bif (y7.1 == 0) then some ((TBig.mk false ((b.d.take (Int.toNat y7.1)).drop (Int.toNat (0 : Int)))), ()) else some ((TBig.mk b.neg ((b.d.take (Int.toNat y7.1)).drop (Int.toNat (0 : Int)))), ())) : Option (TBig × Unit)).bind fun y8 => some y8.1 else none)
def an_ref08_trim : An U := (.node none .nil (.node none .nil (.node none (.node none (.node (some ⟨[1, 2], [], ⟨[(3, .tv .int)], []⟩, [(.exit 0, ⟨[(3, .tv .int)], []⟩)]⟩) (.node none (.node (some ⟨[3], [], ⟨[], []⟩, [(.normal, ⟨[(17, .tv .bool)], []⟩)]⟩) .nil .nil) .nil) .nil) .nil) (.node none .nil (.node (some ⟨[1, 2], [0], ⟨[], []⟩, [(.normal, ⟨[], [(0, .bx .Big [])]⟩)]⟩) .nil .nil)))))
def fe_ref08_trim : Fe G := ⟨[.v .Big], [.Big], fun x => F_ref08_trim x.1⟩
def tb_ref08_trim : List (FuncId × Fe G) := []
theorem ev_ref08_trim (x : TyP G fe_ref08_trim.ps) : evZ G (lstK G tb_ref08_trim) (bodyOf Tryz.f166) an_ref08_trim 29 [.cell 2 133] fe_ref08_trim.rs (argT G fe_ref08_trim.ps x) = fe_ref08_trim.fn x := by kernel_rfl
theorem ok_ref08_trim : FnOk G 166 fe_ref08_trim := fnOkz_of G_ok (fun _ => lstK_ok G_ok (lnil)) Tryz.func166 (by kernel_rfl) (by kernel_rfl) (by kernel_rfl) (by kernel_rfl) (by kernel_rfl) ev_ref08_trim

def F_ref08_digit (l : List Int) (i : Int) : Option (Int) :=
  (bif (decide (i < ((l.length : Nat) : Int))) then (idx l i).bind fun x1 => some x1 else some 0)
def an_ref08_digit : An U := .nil
def fe_ref08_digit : Fe G := ⟨[.v .l_int1, .v .int1], [.int1], fun x => F_ref08_digit x.1 x.2.1⟩
def tb_ref08_digit : List (FuncId × Fe G) := []
theorem ev_ref08_digit (x : TyP G fe_ref08_digit.ps) : evF G (lstK G tb_ref08_digit) (bodyOf Tryz.f168) an_ref08_digit 13 [.tmp 4] fe_ref08_digit.rs (argT G fe_ref08_digit.ps x) = fe_ref08_digit.fn x := by kernel_rfl
theorem ok_ref08_digit : FnOk G 168 fe_ref08_digit := fnOk_of G_ok (lstK_ok G_ok (lnil)) Tryz.func168 (by kernel_rfl) (by kernel_rfl) (by kernel_rfl) (by kernel_rfl) (by kernel_rfl) ev_ref08_digit

def F_ref08_even (a : List Int) : Option (Bool) :=
  ((bif (((a.length : Nat) : Int) == 0) then some (true, ()) else (idx a 0).bind fun x2 => some (((x2.tmod 2) == 0), ())) : Option (Bool × Unit)).bind fun y3 => some y3.1
def an_ref08_even : An U := (.node none .nil (.node (some ⟨[], [], ⟨[], []⟩, [(.normal, ⟨[(2, .tv .bool)], []⟩)]⟩) .nil .nil))
def fe_ref08_even : Fe G := ⟨[.v .l_int1], [.bool], fun x => F_ref08_even x.1⟩
def tb_ref08_even : List (FuncId × Fe G) := []
theorem ev_ref08_even (x : TyP G fe_ref08_even.ps) : evF G (lstK G tb_ref08_even) (bodyOf Tryz.f169) an_ref08_even 13 [.tmp 2] fe_ref08_even.rs (argT G fe_ref08_even.ps x) = fe_ref08_even.fn x := by kernel_rfl
theorem ok_ref08_even : FnOk G 169 fe_ref08_even := fnOk_of G_ok (lstK_ok G_ok (lnil)) Tryz.func169 (by kernel_rfl) (by kernel_rfl) (by kernel_rfl) (by kernel_rfl) (by kernel_rfl) ev_ref08_even

def F_math_bits_Len32 (x : Int) : Option (Int) :=
  ((bif (decide (x ≥ 65536)) then some ((x.fdiv (2 ^ min (Int.toNat 16) IntKind.u32.bits)), 16, ()) else some (x, 0, ())) : Option (Int × Int × Unit)).bind fun y1 => ((bif (decide (y1.1 ≥ 256)) then some ((y1.1.fdiv (2 ^ min (Int.toNat 8) IntKind.u32.bits)), (IntKind.i64.wrap (y1.2.1 + 8)), ()) else some (y1.1, y1.2.1, ())) : Option (Int × Int × Unit)).bind fun y2 => (idxB (⟨#[0, 1, 2, 2, 3, 3, 3, 3, 4, 4, 4, 4, 4, 4, 4, 4, 5, 5, 5, 5, 5, 5, 5, 5, 5, 5, 5, 5, 5, 5, 5, 5, 6, 6, 6, 6, 6, 6, 6, 6, 6, 6, 6, 6, 6, 6, 6, 6, 6, 6, 6, 6, 6, 6, 6, 6, 6, 6, 6, 6, 6, 6, 6, 6, 7, 7, 7, 7, 7, 7, 7, 7, 7, 7, 7, 7, 7, 7, 7, 7, 7, 7, 7, 7, 7, 7, 7, 7, 7, 7, 7, 7, 7, 7, 7, 7, 7, 7, 7, 7, 7, 7, 7, 7, 7, 7, 7, 7, 7, 7, 7, 7, 7, 7, 7, 7, 7, 7, 7, 7, 7, 7, 7, 7, 7, 7, 7, 7, 8, 8, 8, 8, 8, 8, 8, 8, 8, 8, 8, 8, 8, 8, 8, 8, 8, 8, 8, 8, 8, 8, 8, 8, 8, 8, 8, 8, 8, 8, 8, 8, 8, 8, 8, 8, 8, 8, 8, 8, 8, 8, 8, 8, 8, 8, 8, 8, 8, 8, 8, 8, 8, 8, 8, 8, 8, 8, 8, 8, 8, 8, 8, 8, 8, 8, 8, 8, 8, 8, 8, 8, 8, 8, 8, 8, 8, 8, 8, 8, 8, 8, 8, 8, 8, 8, 8, 8, 8, 8, 8, 8, 8, 8, 8, 8, 8, 8, 8, 8, 8, 8, 8, 8, 8, 8, 8, 8, 8, 8, 8, 8, 8, 8, 8, 8, 8, 8, 8, 8, 8, 8, 8, 8, 8, 8, 8, 8]⟩ : ByteArray) (IntKind.u8.wrap y2.1)).bind fun b3 => some (IntKind.i64.wrap (y2.2.1 + (IntKind.i64.wrap ((b3.toNat : Nat) : Int))))
def an_math_bits_Len32 : An U := (.node none .nil (.node (some ⟨[], [], ⟨[], []⟩, [(.normal, ⟨[(0, .tv .u32), (2, .tv .int)], []⟩)]⟩) .nil (.node (some ⟨[], [], ⟨[], []⟩, [(.normal, ⟨[(0, .tv .u32), (2, .tv .int)], []⟩)]⟩) .nil .nil)))
def fe_math_bits_Len32 : Fe G := ⟨[.v .u32], [.int1], fun x => F_math_bits_Len32 x.1⟩
def tb_math_bits_Len32 : List (FuncId × Fe G) := []
theorem ev_math_bits_Len32 (x : TyP G fe_math_bits_Len32.ps) : evF G (lstK G tb_math_bits_Len32) (bodyOf Tryz.f179) an_math_bits_Len32 19 [.tmp 2] fe_math_bits_Len32.rs (argT G fe_math_bits_Len32.ps x) = fe_math_bits_Len32.fn x := by kernel_rfl
theorem ok_math_bits_Len32 : FnOk G 179 fe_math_bits_Len32 := fnOk_of G_ok (lstK_ok G_ok (lnil)) Tryz.func179 (by kernel_rfl) (by kernel_rfl) (by kernel_rfl) (by kernel_rfl) (by kernel_rfl) ev_math_bits_Len32

def F_math_bits_Len64 (x : Int) : Option (Int) :=
  ((bif (decide (x ≥ 4294967296)) then some ((x.fdiv (2 ^ min (Int.toNat 32) IntKind.u64.bits)), 32, ()) else some (x, 0, ())) : Option (Int × Int × Unit)).bind fun y1 => ((bif (decide (y1.1 ≥ 65536)) then some ((y1.1.fdiv (2 ^ min (Int.toNat 16) IntKind.u64.bits)), (IntKind.i64.wrap (y1.2.1 + 16)), ()) else some (y1.1, y1.2.1, ())) : Option (Int × Int × Unit)).bind fun y2 => ((bif (decide (y2.1 ≥ 256)) then some ((y2.1.fdiv (2 ^ min (Int.toNat 8) IntKind.u64.bits)), (IntKind.i64.wrap (y2.2.1 + 8)), ()) else some (y2.1, y2.2.1, ())) : Option (Int × Int × Unit)).bind fun y3 => (idxB (⟨#[0, 1, 2, 2, 3, 3, 3, 3, 4, 4, 4, 4, 4, 4, 4, 4, 5, 5, 5, 5, 5, 5, 5, 5, 5, 5, 5, 5, 5, 5, 5, 5, 6, 6, 6, 6, 6, 6, 6, 6, 6, 6, 6, 6, 6, 6, 6, 6, 6, 6, 6, 6, 6, 6, 6, 6, 6, 6, 6, 6, 6, 6, 6, 6, 7, 7, 7, 7, 7, 7, 7, 7, 7, 7, 7, 7, 7, 7, 7, 7, 7, 7, 7, 7, 7, 7, 7, 7, 7, 7, 7, 7, 7, 7, 7, 7, 7, 7, 7, 7, 7, 7, 7, 7, 7, 7, 7, 7, 7, 7, 7, 7, 7, 7, 7, 7, 7, 7, 7, 7, 7, 7, 7, 7, 7, 7, 7, 7, 8, 8, 8, 8, 8, 8, 8, 8, 8, 8, 8, 8, 8, 8, 8, 8, 8, 8, 8, 8, 8, 8, 8, 8, 8, 8, 8, 8, 8, 8, 8, 8, 8, 8, 8, 8, 8, 8, 8, 8, 8, 8, 8, 8, 8, 8, 8, 8, 8, 8, 8, 8, 8, 8, 8, 8, 8, 8, 8, 8, 8, 8, 8, 8, 8, 8, 8, 8, 8, 8, 8, 8, 8, 8, 8, 8, 8, 8, 8, 8, 8, 8, 8, 8, 8, 8, 8, 8, 8, 8, 8, 8, 8, 8, 8, 8, 8, 8, 8, 8, 8, 8, 8, 8, 8, 8, 8, 8, 8, 8, 8, 8, 8, 8, 8, 8, 8, 8, 8, 8, 8, 8, 8, 8, 8, 8, 8, 8]⟩ : ByteArray) (IntKind.u8.wrap y3.1)).bind fun b4 => some (IntKind.i64.wrap (y3.2.1 + (IntKind.i64.wrap ((b4.toNat : Nat) : Int))))
def an_math_bits_Len64 : An U := (.node none .nil (.node (some ⟨[], [], ⟨[], []⟩, [(.normal, ⟨[(0, .tv .u64), (2, .tv .int)], []⟩)]⟩) .nil (.node (some ⟨[], [], ⟨[], []⟩, [(.normal, ⟨[(0, .tv .u64), (2, .tv .int)], []⟩)]⟩) .nil (.node (some ⟨[], [], ⟨[], []⟩, [(.normal, ⟨[(0, .tv .u64), (2, .tv .int)], []⟩)]⟩) .nil .nil))))
def fe_math_bits_Len64 : Fe G := ⟨[.v .u64], [.int1], fun x => F_math_bits_Len64 x.1⟩
def tb_math_bits_Len64 : List (FuncId × Fe G) := []
theorem ev_math_bits_Len64 (x : TyP G fe_math_bits_Len64.ps) : evF G (lstK G tb_math_bits_Len64) (bodyOf Tryz.f180) an_math_bits_Len64 25 [.tmp 2] fe_math_bits_Len64.rs (argT G fe_math_bits_Len64.ps x) = fe_math_bits_Len64.fn x := by kernel_rfl
theorem ok_math_bits_Len64 : FnOk G 180 fe_math_bits_Len64 := fnOk_of G_ok (lstK_ok G_ok (lnil)) Tryz.func180 (by kernel_rfl) (by kernel_rfl) (by kernel_rfl) (by kernel_rfl) (by kernel_rfl) ev_math_bits_Len64

def F_slices_IndexFunc_api_Load (s : List TLoad) (f : TLoad → Option Bool) : Option (Int) :=
  (iterF (σ := Int × Unit) (ρ := (Int × Unit) ⊕ (Unit)) (fun s3 => (bif (decide (s3.1 < ((s.length : Nat) : Int))) then (idx s s3.1).bind fun x4 => (f x4).bind fun r5 => (bif r5 then some (.inr (.inl (s3.1, ()))) else some (.inl ((IntKind.i64.wrap (s3.1 + 1)), ()))) else some (.inr (.inr ((())))))) big (0, ())).bind fun y6 => (match y6 with | .inl y7 => some y7.1 | .inr y8 => some (-1))
def an_slices_IndexFunc_api_Load : An U := (.node none .nil (.node none (.node none .nil (.node none (.node (some ⟨[0, 1, 7], [], ⟨[(8, .tv .int)], []⟩, [(.ret, ⟨[(4, .tv .int)], []⟩), (.exit 0, ⟨[], []⟩)]⟩) .nil .nil) .nil)) .nil))
def fe_slices_IndexFunc_api_Load : Fe G := ⟨[.v .l_Load, .fn .Load .bool], [.int1], fun x => F_slices_IndexFunc_api_Load x.1 x.2.1⟩
def tb_slices_IndexFunc_api_Load : List (FuncId × Fe G) := []
theorem ev_slices_IndexFunc_api_Load (x : TyP G fe_slices_IndexFunc_api_Load.ps) : evF G (lstK G tb_slices_IndexFunc_api_Load) (bodyOf Tryz.f181) an_slices_IndexFunc_api_Load 19 [.tmp 4] fe_slices_IndexFunc_api_Load.rs (argT G fe_slices_IndexFunc_api_Load.ps x) = fe_slices_IndexFunc_api_Load.fn x := by kernel_rfl
theorem ok_slices_IndexFunc_api_Load : FnOk G 181 fe_slices_IndexFunc_api_Load := fnOk_of G_ok (lstK_ok G_ok (lnil)) Tryz.func181 (by kernel_rfl) (by kernel_rfl) (by kernel_rfl) (by kernel_rfl) (by kernel_rfl) ev_slices_IndexFunc_api_Load

def F_beam_trimmed (w : List Int) : Option ((List Int)) :=
  (iterF (σ := (List Int) × Unit) (ρ := (List Int) × Unit) (fun s4 => ((bif (decide (((s4.1.length : Nat) : Int) > 0)) then (idx s4.1 (IntKind.i64.wrap (((s4.1.length : Nat) : Int) - 1))).bind fun x5 => some ((x5 == 0), ()) else some (false, ())) : Option (Bool × Unit)).bind fun y6 => (bif y6.1 then (if 0 ≤ (0 : Int) ∧ (0 : Int) ≤ (IntKind.i64.wrap (((s4.1.length : Nat) : Int) - 1)) ∧ (IntKind.i64.wrap (((s4.1.length : Nat) : Int) - 1)) ≤ ((s4.1.length : Nat) : Int) then some (.inl (((s4.1.take (Int.toNat (IntKind.i64.wrap (((s4.1.length : Nat) : Int) - 1)))).drop (Int.toNat (0 : Int))), ())) else none) else some (.inr (s4.1, ())))) big (w, ())).bind fun y7 => some y7.1
def an_beam_trimmed : An U := (.node none .nil (.node none (.node none (.node (some ⟨[2], [], ⟨[(0, .tv .l_u32)], []⟩, [(.exit 0, ⟨[(0, .tv .l_u32)], []⟩)]⟩) (.node none (.node (some ⟨[0], [], ⟨[], []⟩, [(.normal, ⟨[(14, .tv .bool)], []⟩)]⟩) .nil .nil) .nil) .nil) .nil) .nil))
def fe_beam_trimmed : Fe G := ⟨[.v .l_u32], [.l_u32], fun x => F_beam_trimmed x.1⟩
def tb_beam_trimmed : List (FuncId × Fe G) := []
theorem ev_beam_trimmed (x : TyP G fe_beam_trimmed.ps) : evZ G (lstK G tb_beam_trimmed) (bodyOf Tryz.f182) an_beam_trimmed 21 [.tmp 2] fe_beam_trimmed.rs (argT G fe_beam_trimmed.ps x) = fe_beam_trimmed.fn x := by kernel_rfl
theorem ok_beam_trimmed : FnOk G 182 fe_beam_trimmed := fnOkz_of G_ok (fun _ => lstK_ok G_ok (lnil)) Tryz.func182 (by kernel_rfl) (by kernel_rfl) (by kernel_rfl) (by kernel_rfl) (by kernel_rfl) ev_beam_trimmed

def F_beam_compared (a : List Int) (b : List Int) : Option (Int) :=
  (bif (((a.length : Nat) : Int) != ((b.length : Nat) : Int)) then some (IntKind.i64.wrap (((a.length : Nat) : Int) - ((b.length : Nat) : Int))) else (iterF (σ := Int × Unit) (ρ := (Int × Unit) ⊕ (Unit)) (fun s5 => (bif (decide (s5.1 ≥ 0)) then (idx a s5.1).bind fun x6 => (idx b s5.1).bind fun x7 => (bif (x6 != x7) then (idx a s5.1).bind fun x8 => (idx b s5.1).bind fun x9 => (bif (decide (x8 < x9)) then some (.inr (.inl ((-1), ()))) else some (.inr (.inl (1, ())))) else some (.inl ((IntKind.i64.wrap (s5.1 - 1)), ()))) else some (.inr (.inr ((())))))) big ((IntKind.i64.wrap (((a.length : Nat) : Int) - 1)), ())).bind fun y10 => (match y10 with | .inl y11 => some y11.1 | .inr y12 => some 0))
def an_beam_compared : An U := (.node none .nil (.node none .nil (.node none (.node none .nil (.node none (.node (some ⟨[0, 1], [], ⟨[(5, .tv .int)], []⟩, [(.ret, ⟨[(4, .tv .int)], []⟩), (.exit 0, ⟨[], []⟩)]⟩) .nil .nil) .nil)) .nil)))
def fe_beam_compared : Fe G := ⟨[.v .l_u32, .v .l_u32], [.int1], fun x => F_beam_compared x.1 x.2.1⟩
def tb_beam_compared : List (FuncId × Fe G) := []
theorem ev_beam_compared (x : TyP G fe_beam_compared.ps) : evF G (lstK G tb_beam_compared) (bodyOf Tryz.f186) an_beam_compared 41 [.tmp 4] fe_beam_compared.rs (argT G fe_beam_compared.ps x) = fe_beam_compared.fn x := by kernel_rfl
theorem ok_beam_compared : FnOk G 186 fe_beam_compared := fnOk_of G_ok (lstK_ok G_ok (lnil)) Tryz.func186 (by kernel_rfl) (by kernel_rfl) (by kernel_rfl) (by kernel_rfl) (by kernel_rfl) ev_beam_compared

def F_law21_large (s : TSet) : Option (Bool) :=
  (F_ref21_Small s 8).bind fun r1 => some (!r1)
def an_law21_large : An U := .nil
def fe_law21_large : Fe G := ⟨[.v .Set], [.bool], fun x => F_law21_large x.1⟩
def tb_law21_large : List (FuncId × Fe G) := [(42, fe_ref21_Small)]
theorem ev_law21_large (x : TyP G fe_law21_large.ps) : evF G (lstK G tb_law21_large) (bodyOf Tryz.f11) an_law21_large 6 [.tmp 2] fe_law21_large.rs (argT G fe_law21_large.ps x) = fe_law21_large.fn x := by kernel_rfl
theorem ok_law21_large : FnOk G 11 fe_law21_large := fnOk_of G_ok (lstK_ok G_ok (lcons ok_ref21_Small (lnil))) Tryz.func11 (by kernel_rfl) (by kernel_rfl) (by kernel_rfl) (by kernel_rfl) (by kernel_rfl) ev_law21_large

def F_slices_ContainsFunc_api_Item (s : List TItem) (f : TItem → Option Bool) : Option (Bool) :=
  (F_slices_IndexFunc_api_Item s f).bind fun r1 => some (decide (r1 ≥ 0))
def an_slices_ContainsFunc_api_Item : An U := .nil
def fe_slices_ContainsFunc_api_Item : Fe G := ⟨[.v .l_Item, .fn .Item .bool], [.bool], fun x => F_slices_ContainsFunc_api_Item x.1 x.2.1⟩
def tb_slices_ContainsFunc_api_Item : List (FuncId × Fe G) := [(61, fe_slices_IndexFunc_api_Item)]
theorem ev_slices_ContainsFunc_api_Item (x : TyP G fe_slices_ContainsFunc_api_Item.ps) : evF G (lstK G tb_slices_ContainsFunc_api_Item) (bodyOf Tryz.f18) an_slices_ContainsFunc_api_Item 9 [.tmp 4] fe_slices_ContainsFunc_api_Item.rs (argT G fe_slices_ContainsFunc_api_Item.ps x) = fe_slices_ContainsFunc_api_Item.fn x := by kernel_rfl
theorem ok_slices_ContainsFunc_api_Item : FnOk G 18 fe_slices_ContainsFunc_api_Item := fnOk_of G_ok (lstK_ok G_ok (lcons ok_slices_IndexFunc_api_Item (lnil))) Tryz.func18 (by kernel_rfl) (by kernel_rfl) (by kernel_rfl) (by kernel_rfl) (by kernel_rfl) ev_slices_ContainsFunc_api_Item

def F_ref21_Beam (s : TSet) : Option (TBeam) :=
  ((((((if ([] : List Int).length + s.lines.length ≤ 2147483648 then some ((TBeam.mk s.name s.length (([] : List Int) ++ s.lines) ([] : List TLoad) s.pipe), ()) else none))))) : Option (TBeam × Unit)).bind fun y1 => (iterF (σ := Int × TBeam × Unit) (ρ := TBeam × Unit) (fun s11 => (bif (decide (s11.1 < ((s.items.length : Nat) : Int))) then (idx s.items s11.1).bind fun x12 => (idx s.items s11.1).bind fun x13 => (F_ref21_Middle x12).bind fun r14 => (if s11.2.1.loads.length + ([(TLoad.mk r14 x13.weight)] : List TLoad).length ≤ 2147483648 then some (.inl ((IntKind.i64.wrap (s11.1 + 1)), (TBeam.mk s11.2.1.name s11.2.1.length s11.2.1.supports (s11.2.1.loads ++ ([(TLoad.mk r14 x13.weight)] : List TLoad)) s11.2.1.even), ())) else none) else some (.inr (s11.2.1, ())))) big (0, y1.1, ())).bind fun y15 => some y15.1
theorem eqK4_ref21_Beam {β : Type} (a : Option β) : eqK [a, a, a, a] = a := by unfold eqK; simp
def F0_ref21_Beam (s : TSet) : Option (TBeam) :=
  (eqK [(eqK [(eqK [(eqK [((if ([] : List Int).length + s.lines.length ≤ 2147483648 then some ((TBeam.mk s.name s.length (([] : List Int) ++ s.lines) ([] : List TLoad) s.pipe), ()) else none)), ((if ([] : List Int).length + s.lines.length ≤ 2147483648 then some ((TBeam.mk s.name s.length (([] : List Int) ++ s.lines) ([] : List TLoad) s.pipe), ()) else none))]), ((if ([] : List Int).length + s.lines.length ≤ 2147483648 then some ((TBeam.mk s.name s.length (([] : List Int) ++ s.lines) ([] : List TLoad) s.pipe), ()) else none))]), (eqK [(eqK [((if ([] : List Int).length + s.lines.length ≤ 2147483648 then some ((TBeam.mk s.name s.length (([] : List Int) ++ s.lines) ([] : List TLoad) s.pipe), ()) else none)), ((if ([] : List Int).length + s.lines.length ≤ 2147483648 then some ((TBeam.mk s.name s.length (([] : List Int) ++ s.lines) ([] : List TLoad) s.pipe), ()) else none))]), ((if ([] : List Int).length + s.lines.length ≤ 2147483648 then eqK [(some ((TBeam.mk s.name s.length (([] : List Int) ++ s.lines) ([] : List TLoad) s.pipe), ())), (some ((TBeam.mk s.name s.length (([] : List Int) ++ s.lines) ([] : List TLoad) s.pipe), ()))] else none)), (eqK [((if ([] : List Int).length + s.lines.length ≤ 2147483648 then some ((TBeam.mk s.name s.length (([] : List Int) ++ s.lines) ([] : List TLoad) s.pipe), ()) else none)), ((if ([] : List Int).length + s.lines.length ≤ 2147483648 then some ((TBeam.mk s.name s.length (([] : List Int) ++ s.lines) ([] : List TLoad) s.pipe), ()) else none))])]), (eqK [((if ([] : List Int).length + s.lines.length ≤ 2147483648 then some ((TBeam.mk s.name s.length (([] : List Int) ++ s.lines) ([] : List TLoad) s.pipe), ()) else none)), (eqK [((if ([] : List Int).length + s.lines.length ≤ 2147483648 then some ((TBeam.mk s.name s.length (([] : List Int) ++ s.lines) ([] : List TLoad) s.pipe), ()) else none)), ((if ([] : List Int).length + s.lines.length ≤ 2147483648 then some ((TBeam.mk s.name s.length (([] : List Int) ++ s.lines) ([] : List TLoad) s.pipe), ()) else none))])])]), (eqK [(eqK [(eqK [((if ([] : List Int).length + s.lines.length ≤ 2147483648 then some ((TBeam.mk s.name s.length (([] : List Int) ++ s.lines) ([] : List TLoad) s.pipe), ()) else none)), ((if ([] : List Int).length + s.lines.length ≤ 2147483648 then some ((TBeam.mk s.name s.length (([] : List Int) ++ s.lines) ([] : List TLoad) s.pipe), ()) else none))]), ((if ([] : List Int).length + s.lines.length ≤ 2147483648 then some ((TBeam.mk s.name s.length (([] : List Int) ++ s.lines) ([] : List TLoad) s.pipe), ()) else none))]), (eqK [(eqK [((if ([] : List Int).length + s.lines.length ≤ 2147483648 then some ((TBeam.mk s.name s.length (([] : List Int) ++ s.lines) ([] : List TLoad) s.pipe), ()) else none)), ((if ([] : List Int).length + s.lines.length ≤ 2147483648 then some ((TBeam.mk s.name s.length (([] : List Int) ++ s.lines) ([] : List TLoad) s.pipe), ()) else none))]), ((if ([] : List Int).length + s.lines.length ≤ 2147483648 then eqK [(some ((TBeam.mk s.name s.length (([] : List Int) ++ s.lines) ([] : List TLoad) s.pipe), ())), (some ((TBeam.mk s.name s.length (([] : List Int) ++ s.lines) ([] : List TLoad) s.pipe), ()))] else none)), (eqK [((if ([] : List Int).length + s.lines.length ≤ 2147483648 then some ((TBeam.mk s.name s.length (([] : List Int) ++ s.lines) ([] : List TLoad) s.pipe), ()) else none)), ((if ([] : List Int).length + s.lines.length ≤ 2147483648 then some ((TBeam.mk s.name s.length (([] : List Int) ++ s.lines) ([] : List TLoad) s.pipe), ()) else none))])]), (eqK [((if ([] : List Int).length + s.lines.length ≤ 2147483648 then some ((TBeam.mk s.name s.length (([] : List Int) ++ s.lines) ([] : List TLoad) s.pipe), ()) else none)), (eqK [((if ([] : List Int).length + s.lines.length ≤ 2147483648 then some ((TBeam.mk s.name s.length (([] : List Int) ++ s.lines) ([] : List TLoad) s.pipe), ()) else none)), ((if ([] : List Int).length + s.lines.length ≤ 2147483648 then some ((TBeam.mk s.name s.length (([] : List Int) ++ s.lines) ([] : List TLoad) s.pipe), ()) else none))])])]), (eqK [(eqK [(eqK [((if ([] : List Int).length + s.lines.length ≤ 2147483648 then some ((TBeam.mk s.name s.length (([] : List Int) ++ s.lines) ([] : List TLoad) s.pipe), ()) else none)), ((if ([] : List Int).length + s.lines.length ≤ 2147483648 then some ((TBeam.mk s.name s.length (([] : List Int) ++ s.lines) ([] : List TLoad) s.pipe), ()) else none))]), ((if ([] : List Int).length + s.lines.length ≤ 2147483648 then eqK [(some ((TBeam.mk s.name s.length (([] : List Int) ++ s.lines) ([] : List TLoad) s.pipe), ())), (some ((TBeam.mk s.name s.length (([] : List Int) ++ s.lines) ([] : List TLoad) s.pipe), ()))] else none)), (eqK [((if ([] : List Int).length + s.lines.length ≤ 2147483648 then some ((TBeam.mk s.name s.length (([] : List Int) ++ s.lines) ([] : List TLoad) s.pipe), ()) else none)), ((if ([] : List Int).length + s.lines.length ≤ 2147483648 then some ((TBeam.mk s.name s.length (([] : List Int) ++ s.lines) ([] : List TLoad) s.pipe), ()) else none))])]), (eqK [(eqK [((if ([] : List Int).length + s.lines.length ≤ 2147483648 then some ((TBeam.mk s.name s.length (([] : List Int) ++ s.lines) ([] : List TLoad) s.pipe), ()) else none)), ((if ([] : List Int).length + s.lines.length ≤ 2147483648 then some ((TBeam.mk s.name s.length (([] : List Int) ++ s.lines) ([] : List TLoad) s.pipe), ()) else none))]), ((if ([] : List Int).length + s.lines.length ≤ 2147483648 then eqK [(some ((TBeam.mk s.name s.length (([] : List Int) ++ s.lines) ([] : List TLoad) s.pipe), ())), (some ((TBeam.mk s.name s.length (([] : List Int) ++ s.lines) ([] : List TLoad) s.pipe), ()))] else none)), (eqK [((if ([] : List Int).length + s.lines.length ≤ 2147483648 then some ((TBeam.mk s.name s.length (([] : List Int) ++ s.lines) ([] : List TLoad) s.pipe), ()) else none)), ((if ([] : List Int).length + s.lines.length ≤ 2147483648 then some ((TBeam.mk s.name s.length (([] : List Int) ++ s.lines) ([] : List TLoad) s.pipe), ()) else none))])]), ((if ([] : List Int).length + s.lines.length ≤ 2147483648 then eqK [(eqK [(some ((TBeam.mk s.name s.length (([] : List Int) ++ s.lines) ([] : List TLoad) s.pipe), ())), (some ((TBeam.mk s.name s.length (([] : List Int) ++ s.lines) ([] : List TLoad) s.pipe), ()))]), (eqK [(some ((TBeam.mk s.name s.length (([] : List Int) ++ s.lines) ([] : List TLoad) s.pipe), ())), (some ((TBeam.mk s.name s.length (([] : List Int) ++ s.lines) ([] : List TLoad) s.pipe), ()))]), (eqK [(some ((TBeam.mk s.name s.length (([] : List Int) ++ s.lines) ([] : List TLoad) s.pipe), ())), (some ((TBeam.mk s.name s.length (([] : List Int) ++ s.lines) ([] : List TLoad) s.pipe), ()))])] else none)), (eqK [(eqK [((if ([] : List Int).length + s.lines.length ≤ 2147483648 then some ((TBeam.mk s.name s.length (([] : List Int) ++ s.lines) ([] : List TLoad) s.pipe), ()) else none)), ((if ([] : List Int).length + s.lines.length ≤ 2147483648 then some ((TBeam.mk s.name s.length (([] : List Int) ++ s.lines) ([] : List TLoad) s.pipe), ()) else none))]), (eqK [((if ([] : List Int).length + s.lines.length ≤ 2147483648 then some ((TBeam.mk s.name s.length (([] : List Int) ++ s.lines) ([] : List TLoad) s.pipe), ()) else none)), ((if ([] : List Int).length + s.lines.length ≤ 2147483648 then some ((TBeam.mk s.name s.length (([] : List Int) ++ s.lines) ([] : List TLoad) s.pipe), ()) else none))]), ((if ([] : List Int).length + s.lines.length ≤ 2147483648 then eqK [(some ((TBeam.mk s.name s.length (([] : List Int) ++ s.lines) ([] : List TLoad) s.pipe), ())), (some ((TBeam.mk s.name s.length (([] : List Int) ++ s.lines) ([] : List TLoad) s.pipe), ()))] else none))])]), (eqK [(eqK [((if ([] : List Int).length + s.lines.length ≤ 2147483648 then some ((TBeam.mk s.name s.length (([] : List Int) ++ s.lines) ([] : List TLoad) s.pipe), ()) else none)), (eqK [((if ([] : List Int).length + s.lines.length ≤ 2147483648 then some ((TBeam.mk s.name s.length (([] : List Int) ++ s.lines) ([] : List TLoad) s.pipe), ()) else none)), ((if ([] : List Int).length + s.lines.length ≤ 2147483648 then some ((TBeam.mk s.name s.length (([] : List Int) ++ s.lines) ([] : List TLoad) s.pipe), ()) else none))])]), (eqK [((if ([] : List Int).length + s.lines.length ≤ 2147483648 then some ((TBeam.mk s.name s.length (([] : List Int) ++ s.lines) ([] : List TLoad) s.pipe), ()) else none)), (eqK [((if ([] : List Int).length + s.lines.length ≤ 2147483648 then some ((TBeam.mk s.name s.length (([] : List Int) ++ s.lines) ([] : List TLoad) s.pipe), ()) else none)), ((if ([] : List Int).length + s.lines.length ≤ 2147483648 then some ((TBeam.mk s.name s.length (([] : List Int) ++ s.lines) ([] : List TLoad) s.pipe), ()) else none))])]), (eqK [(eqK [((if ([] : List Int).length + s.lines.length ≤ 2147483648 then some ((TBeam.mk s.name s.length (([] : List Int) ++ s.lines) ([] : List TLoad) s.pipe), ()) else none)), ((if ([] : List Int).length + s.lines.length ≤ 2147483648 then some ((TBeam.mk s.name s.length (([] : List Int) ++ s.lines) ([] : List TLoad) s.pipe), ()) else none))]), (eqK [((if ([] : List Int).length + s.lines.length ≤ 2147483648 then some ((TBeam.mk s.name s.length (([] : List Int) ++ s.lines) ([] : List TLoad) s.pipe), ()) else none)), ((if ([] : List Int).length + s.lines.length ≤ 2147483648 then some ((TBeam.mk s.name s.length (([] : List Int) ++ s.lines) ([] : List TLoad) s.pipe), ()) else none))]), ((if ([] : List Int).length + s.lines.length ≤ 2147483648 then eqK [(some ((TBeam.mk s.name s.length (([] : List Int) ++ s.lines) ([] : List TLoad) s.pipe), ())), (some ((TBeam.mk s.name s.length (([] : List Int) ++ s.lines) ([] : List TLoad) s.pipe), ()))] else none))])])] : Option (TBeam × Unit)).bind fun y1 => (iterF (σ := Int × TBeam × Unit) (ρ := TBeam × Unit) (fun s11 => (bif (decide (s11.1 < ((s.items.length : Nat) : Int))) then (idx s.items s11.1).bind fun x12 => (idx s.items s11.1).bind fun x13 => (F_ref21_Middle x12).bind fun r14 => (if s11.2.1.loads.length + ([(TLoad.mk r14 x13.weight)] : List TLoad).length ≤ 2147483648 then some (.inl ((IntKind.i64.wrap (s11.1 + 1)), (TBeam.mk s11.2.1.name s11.2.1.length s11.2.1.supports (s11.2.1.loads ++ ([(TLoad.mk r14 x13.weight)] : List TLoad)) s11.2.1.even), ())) else none) else some (.inr (s11.2.1, ())))) big (0, y1.1, ())).bind fun y15 => some y15.1
theorem F0_ref21_Beam_eq : @F0_ref21_Beam = @F_ref21_Beam := by unfold F0_ref21_Beam F_ref21_Beam; simp only [eqK_two, eqK_three, eqK4_ref21_Beam]
def an_ref21_Beam : An U := (.node none .nil (.node (some ⟨[1, 2], [], ⟨[], []⟩, [(.normal, ⟨[(3, .bx .Beam [2, 3])], []⟩)]⟩) .nil (.node none (.node none .nil (.node none (.node (some ⟨[1, 2, 3], [2, 3, 4], ⟨[(4, .tv .int)], [(2, .bx .Beam [2, 3]), (3, .gone), (4, .gone)]⟩, [(.exit 0, ⟨[], [(2, .bx .Beam [2, 3])]⟩)]⟩) .nil .nil) .nil)) .nil)))
def fe_ref21_Beam : Fe G := ⟨[.v .Set], [.Beam], fun x => F_ref21_Beam x.1⟩
def tb_ref21_Beam : List (FuncId × Fe G) := [(73, fe_ref21_Middle)]
theorem ev_ref21_Beam (x : TyP G fe_ref21_Beam.ps) : evF G (lstK G tb_ref21_Beam) (bodyOf Tryz.f30) an_ref21_Beam 42 [.cell 2 62] fe_ref21_Beam.rs (argT G fe_ref21_Beam.ps x) = fe_ref21_Beam.fn x := by
  have h : evF G (lstK G tb_ref21_Beam) (bodyOf Tryz.f30) an_ref21_Beam 42 [.cell 2 62] fe_ref21_Beam.rs (argT G fe_ref21_Beam.ps x) = F0_ref21_Beam x.1 := by kernel_rfl
  rw [F0_ref21_Beam_eq] at h
  exact h
theorem ok_ref21_Beam : FnOk G 30 fe_ref21_Beam := fnOk_of G_ok (lstK_ok G_ok (lcons ok_ref21_Middle (lnil))) Tryz.func30 (by kernel_rfl) (by kernel_rfl) (by kernel_rfl) (by kernel_rfl) (by kernel_rfl) ev_ref21_Beam
end
end Go.Proofs.YtkagmdfhodbfmaaGreat
