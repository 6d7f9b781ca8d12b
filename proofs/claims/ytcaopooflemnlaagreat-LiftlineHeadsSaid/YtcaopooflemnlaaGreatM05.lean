/- Joined by merge.py: Fn1. -/
import Derived.Test.YtcaopooflemnlaaGreatM04
/- Functions, as plain data. Printed by mkev.py. -/
namespace Go.Proofs.YtcaopooflemnlaaGreat
open Go.RowKit
set_option linter.unusedVariables false
set_option linter.unusedSimpArgs false
noncomputable section

def F_batten_bricks_1 (b : TBrick) : Option (ByteArray) :=
 some b.name
def an_batten_bricks_1 : An U := .nil
def fe_batten_bricks_1 : Fe G := ⟨[.v .Brick], [.str], fun x => F_batten_bricks_1 x.1⟩
def tb_batten_bricks_1 : List (FuncId × Fe G) := []
theorem ev_batten_bricks_1 (x : TyP G fe_batten_bricks_1.ps) : evF G (lstK G tb_batten_bricks_1) (bodyOf Tryz.f145) an_batten_bricks_1 5 [.tmp 2] fe_batten_bricks_1.rs (argT G fe_batten_bricks_1.ps x) = fe_batten_bricks_1.fn x := by kernel_rfl
theorem ok_batten_bricks_1 : FnOk G 145 fe_batten_bricks_1 := fnOk_of G_ok (lstK_ok G_ok (lnil)) Tryz.func145 (by kernel_rfl) (by kernel_rfl) (by kernel_rfl) (by kernel_rfl) (by kernel_rfl) ev_batten_bricks_1

def F_ref01_Digit (c : Int) : Option (Bool) :=
 ((bif (decide (c ≥ 48)) then some ((decide (c ≤ 57)), ()) else some (false, ())) : Option (Bool × Unit)).bind fun y1 => some y1.1
def an_ref01_Digit : An U := (.node none .nil (.node (some ⟨[], [], ⟨[], []⟩, [(.normal, ⟨[(2, .tv .bool)], []⟩)]⟩) .nil .nil))
def fe_ref01_Digit : Fe G := ⟨[.v .u8], [.bool], fun x => F_ref01_Digit x.1⟩
def tb_ref01_Digit : List (FuncId × Fe G) := []
theorem ev_ref01_Digit (x : TyP G fe_ref01_Digit.ps) : evF G (lstK G tb_ref01_Digit) (bodyOf Tryz.f147) an_ref01_Digit 9 [.tmp 2] fe_ref01_Digit.rs (argT G fe_ref01_Digit.ps x) = fe_ref01_Digit.fn x := by kernel_rfl
theorem ok_ref01_Digit : FnOk G 147 fe_ref01_Digit := fnOk_of G_ok (lstK_ok G_ok (lnil)) Tryz.func147 (by kernel_rfl) (by kernel_rfl) (by kernel_rfl) (by kernel_rfl) (by kernel_rfl) ev_ref01_Digit

def F_ref21_Middle (x : TItem) : Option (Int) :=
 some (IntKind.i64.wrap (x.at_ + (IntKind.i64.wrap (x.width.tdiv 2))))
def an_ref21_Middle : An U := .nil
def fe_ref21_Middle : Fe G := ⟨[.v .Item], [.int1], fun x => F_ref21_Middle x.1⟩
def tb_ref21_Middle : List (FuncId × Fe G) := []
theorem ev_ref21_Middle (x : TyP G fe_ref21_Middle.ps) : evF G (lstK G tb_ref21_Middle) (bodyOf Tryz.f150) an_ref21_Middle 9 [.tmp 2] fe_ref21_Middle.rs (argT G fe_ref21_Middle.ps x) = fe_ref21_Middle.fn x := by kernel_rfl
theorem ok_ref21_Middle : FnOk G 150 fe_ref21_Middle := fnOk_of G_ok (lstK_ok G_ok (lnil)) Tryz.func150 (by kernel_rfl) (by kernel_rfl) (by kernel_rfl) (by kernel_rfl) (by kernel_rfl) ev_ref21_Middle

def F_ref02_Half (a : TU) : Option (TU) :=
 some (TU.mk (a.h.fdiv (2 ^ min (Int.toNat 1) IntKind.u64.bits)) (IntKind.u64.wrap ((a.l.fdiv (2 ^ min (Int.toNat 1) IntKind.u64.bits)) + (IntKind.u64.wrap (a.h * 2 ^ min (Int.toNat 63) IntKind.u64.bits)))))
def an_ref02_Half : An U := .nil
def fe_ref02_Half : Fe G := ⟨[.v .U], [.U], fun x => F_ref02_Half x.1⟩
def tb_ref02_Half : List (FuncId × Fe G) := []
theorem ev_ref02_Half (x : TyP G fe_ref02_Half.ps) : evF G (lstK G tb_ref02_Half) (bodyOf Tryz.f161) an_ref02_Half 14 [.cell 2 108] fe_ref02_Half.rs (argT G fe_ref02_Half.ps x) = fe_ref02_Half.fn x := by kernel_rfl
theorem ok_ref02_Half : FnOk G 161 fe_ref02_Half := fnOk_of G_ok (lstK_ok G_ok (lnil)) Tryz.func161 (by kernel_rfl) (by kernel_rfl) (by kernel_rfl) (by kernel_rfl) (by kernel_rfl) ev_ref02_Half

def F_beam_exact__fraction (a : Texact) : Option (TFrac × Int) :=
 (bif (decide (((a.n.words.length : Nat) : Int) > 2)) then some ((TFrac.mk 0 0), 5) else (iterF (σ := Int × TAr199 × Unit) (ρ := TAr199 × Unit) (fun s7 => (bif (decide (s7.1 < ((a.n.words.length : Nat) : Int))) then (idx a.n.words s7.1).bind fun x8 => (if (IntKind.i64.wrap (32 * s7.1)) < 0 then none else some (.inl ((IntKind.i64.wrap (s7.1 + 1)), (TAr199.mk (bitsOf .or .u64 s7.2.1.e0 (IntKind.u64.wrap ((IntKind.u64.wrap x8) * 2 ^ min (Int.toNat (IntKind.i64.wrap (32 * s7.1))) IntKind.u64.bits))) s7.2.1.e1), ()))) else some (.inr (s7.2.1, ())))) big (0, (TAr199.mk 0 0), ())).bind fun y11 => (bif (decide (y11.1.e0 > 1152921504606846976)) then some ((TFrac.mk 0 0), 5) else (bif (decide (((a.d.words.length : Nat) : Int) > 2)) then some ((TFrac.mk 0 0), 5) else (iterF (σ := Int × TAr199 × Unit) (ρ := TAr199 × Unit) (fun s13 => (bif (decide (s13.1 < ((a.d.words.length : Nat) : Int))) then (idx a.d.words s13.1).bind fun x14 => (if (IntKind.i64.wrap (32 * s13.1)) < 0 then none else some (.inl ((IntKind.i64.wrap (s13.1 + 1)), (TAr199.mk s13.2.1.e0 (bitsOf .or .u64 s13.2.1.e1 (IntKind.u64.wrap ((IntKind.u64.wrap x14) * 2 ^ min (Int.toNat (IntKind.i64.wrap (32 * s13.1))) IntKind.u64.bits)))), ()))) else some (.inr (s13.2.1, ())))) big (0, y11.1, ())).bind fun y17 => (bif (decide (y17.1.e1 > 1152921504606846976)) then some ((TFrac.mk 0 0), 5) else ((bif a.n.neg then some ((TFrac.mk (IntKind.i64.wrap (0 - (IntKind.i64.wrap y17.1.e0))) (IntKind.i64.wrap y17.1.e1)), ()) else some ((TFrac.mk (IntKind.i64.wrap y17.1.e0) (IntKind.i64.wrap y17.1.e1)), ())) : Option (TFrac × Unit)).bind fun y21 => some (y21.1, 0)))))
def an_beam_exact__fraction : An U := (.node none .nil (.node none .nil (.node none (.node none .nil (.node none (.node none (.node none .nil (.node none .nil (.node none (.node none (.node none .nil (.node none .nil (.node none (.node none .nil (.node none (.node (some ⟨[1, 2, 3, 4, 5, 14, 15, 25, 26], [2], ⟨[(27, .tv .int)], [(2, .bx .ar199 [])]⟩, [(.exit 2, ⟨[], [(2, .bx .ar199 [])]⟩)]⟩) .nil .nil) .nil)) .nil))) .nil) .nil))) .nil) .nil)) (.node none .nil (.node (some ⟨[2, 3, 9], [5], ⟨[], []⟩, [(.normal, ⟨[], [(5, .bx .Frac [])]⟩)]⟩) .nil .nil)))))
def fe_beam_exact__fraction : Fe G := ⟨[.v .exact], [.Frac, .Errno], fun x => F_beam_exact__fraction x.1⟩
def tb_beam_exact__fraction : List (FuncId × Fe G) := []
theorem ev_beam_exact__fraction (x : TyP G fe_beam_exact__fraction.ps) : evF G (lstK G tb_beam_exact__fraction) (bodyOf Tryz.f164) an_beam_exact__fraction 64 [.cell 2 43, .tmp 3] fe_beam_exact__fraction.rs (argT G fe_beam_exact__fraction.ps x) = fe_beam_exact__fraction.fn x := by kernel_rfl
theorem ok_beam_exact__fraction : FnOk G 164 fe_beam_exact__fraction := fnOk_of G_ok (lstK_ok G_ok (lnil)) Tryz.func164 (by kernel_rfl) (by kernel_rfl) (by kernel_rfl) (by kernel_rfl) (by kernel_rfl) ev_beam_exact__fraction

def F_decimal_digit (c : Int) : Option (Bool) :=
 ((bif (decide (c ≥ 48)) then some ((decide (c ≤ 57)), ()) else some (false, ())) : Option (Bool × Unit)).bind fun y1 => some y1.1
def an_decimal_digit : An U := (.node none .nil (.node (some ⟨[], [], ⟨[], []⟩, [(.normal, ⟨[(2, .tv .bool)], []⟩)]⟩) .nil .nil))
def fe_decimal_digit : Fe G := ⟨[.v .u8], [.bool], fun x => F_decimal_digit x.1⟩
def tb_decimal_digit : List (FuncId × Fe G) := []
theorem ev_decimal_digit (x : TyP G fe_decimal_digit.ps) : evF G (lstK G tb_decimal_digit) (bodyOf Tryz.f173) an_decimal_digit 9 [.tmp 2] fe_decimal_digit.rs (argT G fe_decimal_digit.ps x) = fe_decimal_digit.fn x := by kernel_rfl
theorem ok_decimal_digit : FnOk G 173 fe_decimal_digit := fnOk_of G_ok (lstK_ok G_ok (lnil)) Tryz.func173 (by kernel_rfl) (by kernel_rfl) (by kernel_rfl) (by kernel_rfl) (by kernel_rfl) ev_decimal_digit

def F_ref08_larger (a : List Int) (b : List Int) : Option (Bool) :=
 (bif (((a.length : Nat) : Int) != ((b.length : Nat) : Int)) then some (decide (((a.length : Nat) : Int) > ((b.length : Nat) : Int))) else (iterF (σ := Int × Unit) (ρ := (Bool × Unit) ⊕ (Unit)) (fun s5 => (bif (decide (s5.1 ≥ 0)) then (idx a s5.1).bind fun x6 => (idx b s5.1).bind fun x7 => (bif (x6 != x7) then (idx a s5.1).bind fun x8 => (idx b s5.1).bind fun x9 => some (.inr (.inl ((decide (x8 > x9)), ()))) else some (.inl ((IntKind.i64.wrap (s5.1 - 1)), ()))) else some (.inr (.inr ((())))))) big ((IntKind.i64.wrap (((a.length : Nat) : Int) - 1)), ())).bind fun y10 => (match y10 with | .inl y11 => some y11.1 | .inr y12 => some false))
def an_ref08_larger : An U := (.node none .nil (.node none .nil (.node none (.node none .nil (.node none (.node (some ⟨[0, 1], [], ⟨[(5, .tv .int)], []⟩, [(.ret, ⟨[(4, .tv .bool)], []⟩), (.exit 0, ⟨[], []⟩)]⟩) .nil .nil) .nil)) .nil)))
def fe_ref08_larger : Fe G := ⟨[.v .l_int1, .v .l_int1], [.bool], fun x => F_ref08_larger x.1 x.2.1⟩
def tb_ref08_larger : List (FuncId × Fe G) := []
theorem ev_ref08_larger (x : TyP G fe_ref08_larger.ps) : evF G (lstK G tb_ref08_larger) (bodyOf Tryz.f179) an_ref08_larger 41 [.tmp 4] fe_ref08_larger.rs (argT G fe_ref08_larger.ps x) = fe_ref08_larger.fn x := by kernel_rfl
theorem ok_ref08_larger : FnOk G 179 fe_ref08_larger := fnOk_of G_ok (lstK_ok G_ok (lnil)) Tryz.func179 (by kernel_rfl) (by kernel_rfl) (by kernel_rfl) (by kernel_rfl) (by kernel_rfl) ev_ref08_larger

def F_ref08_Neg (a : TBig) : Option (TBig) :=
 ((bif (!a.neg) then some ((TBig.mk (decide (((a.d.length : Nat) : Int) > 0)) a.d), ()) else some ((TBig.mk false a.d), ())) : Option (TBig × Unit)).bind fun y1 => some y1.1
def an_ref08_Neg : An U := (.node none .nil (.node (some ⟨[1, 2], [0], ⟨[], []⟩, [(.normal, ⟨[], [(0, .bx .Big [])]⟩)]⟩) .nil .nil))
def fe_ref08_Neg : Fe G := ⟨[.v .Big], [.Big], fun x => F_ref08_Neg x.1⟩
def tb_ref08_Neg : List (FuncId × Fe G) := []
theorem ev_ref08_Neg (x : TyP G fe_ref08_Neg.ps) : evZ G (lstK G tb_ref08_Neg) (bodyOf Tryz.f184) an_ref08_Neg 14 [.cell 2 162] fe_ref08_Neg.rs (argT G fe_ref08_Neg.ps x) = fe_ref08_Neg.fn x := by kernel_rfl
theorem ok_ref08_Neg : FnOk G 184 fe_ref08_Neg := fnOkz_of G_ok (fun _ => lstK_ok G_ok (lnil)) Tryz.func184 (by kernel_rfl) (by kernel_rfl) (by kernel_rfl) (by kernel_rfl) (by kernel_rfl) ev_ref08_Neg

def F_beam_Valid_1 (x : TLoad) (a1 : TBeam) : Option (Bool) :=
 ((bif (decide (x.at_ < 0)) then some (true, ()) else (bif (decide (x.at_ > a1.length)) then some (true, ()) else (bif (decide (x.weight < 0)) then some (true, ()) else some ((decide (x.weight > 67108864)), ())))) : Option (Bool × Unit)).bind fun y1 => some y1.1
def an_beam_Valid_1 : An U := (.node none .nil (.node (some ⟨[], [], ⟨[], []⟩, [(.normal, ⟨[(3, .tv .bool)], []⟩)]⟩) .nil .nil))
def fe_beam_Valid_1 : Fe G := ⟨[.v .Load, .rp .Beam], [.bool], fun x => F_beam_Valid_1 x.1 x.2.1⟩
def tb_beam_Valid_1 : List (FuncId × Fe G) := []
theorem ev_beam_Valid_1 (x : TyP G fe_beam_Valid_1.ps) : evF G (lstK G tb_beam_Valid_1) (bodyOf Tryz.f188) an_beam_Valid_1 24 [.tmp 3] fe_beam_Valid_1.rs (argT G fe_beam_Valid_1.ps x) = fe_beam_Valid_1.fn x := by kernel_rfl
theorem ok_beam_Valid_1 : FnOk G 188 fe_beam_Valid_1 := fnOk_of G_ok (lstK_ok G_ok (lnil)) Tryz.func188 (by kernel_rfl) (by kernel_rfl) (by kernel_rfl) (by kernel_rfl) (by kernel_rfl) ev_beam_Valid_1

def F_beam_number__sign (a : Tnumber) : Option (Int) :=
 (bif (((a.words.length : Nat) : Int) == 0) then some 0 else (bif a.neg then some (-1) else some 1))
def an_beam_number__sign : An U := .nil
def fe_beam_number__sign : Fe G := ⟨[.v .number], [.int1], fun x => F_beam_number__sign x.1⟩
def tb_beam_number__sign : List (FuncId × Fe G) := []
theorem ev_beam_number__sign (x : TyP G fe_beam_number__sign.ps) : evF G (lstK G tb_beam_number__sign) (bodyOf Tryz.f190) an_beam_number__sign 11 [.tmp 2] fe_beam_number__sign.rs (argT G fe_beam_number__sign.ps x) = fe_beam_number__sign.fn x := by kernel_rfl
theorem ok_beam_number__sign : FnOk G 190 fe_beam_number__sign := fnOk_of G_ok (lstK_ok G_ok (lnil)) Tryz.func190 (by kernel_rfl) (by kernel_rfl) (by kernel_rfl) (by kernel_rfl) (by kernel_rfl) ev_beam_number__sign

def F_beam_number__opposite (a : Tnumber) : Option (Tnumber) :=
 some (Tnumber.mk (!a.neg) a.words)
def an_beam_number__opposite : An U := .nil
def fe_beam_number__opposite : Fe G := ⟨[.v .number], [.number], fun x => F_beam_number__opposite x.1⟩
def tb_beam_number__opposite : List (FuncId × Fe G) := []
theorem ev_beam_number__opposite (x : TyP G fe_beam_number__opposite.ps) : evZ G (lstK G tb_beam_number__opposite) (bodyOf Tryz.f198) an_beam_number__opposite 9 [.cell 2 174] fe_beam_number__opposite.rs (argT G fe_beam_number__opposite.ps x) = fe_beam_number__opposite.fn x := by kernel_rfl
theorem ok_beam_number__opposite : FnOk G 198 fe_beam_number__opposite := fnOkz_of G_ok (fun _ => lstK_ok G_ok (lnil)) Tryz.func198 (by kernel_rfl) (by kernel_rfl) (by kernel_rfl) (by kernel_rfl) (by kernel_rfl) ev_beam_number__opposite

def F_math_bits_Len64 (x : Int) : Option (Int) :=
 ((bif (decide (x ≥ 4294967296)) then some ((x.fdiv (2 ^ min (Int.toNat 32) IntKind.u64.bits)), 32, ()) else some (x, 0, ())) : Option (Int × Int × Unit)).bind fun y1 => ((bif (decide (y1.1 ≥ 65536)) then some ((y1.1.fdiv (2 ^ min (Int.toNat 16) IntKind.u64.bits)), (IntKind.i64.wrap (y1.2.1 + 16)), ()) else some (y1.1, y1.2.1, ())) : Option (Int × Int × Unit)).bind fun y2 => ((bif (decide (y2.1 ≥ 256)) then some ((y2.1.fdiv (2 ^ min (Int.toNat 8) IntKind.u64.bits)), (IntKind.i64.wrap (y2.2.1 + 8)), ()) else some (y2.1, y2.2.1, ())) : Option (Int × Int × Unit)).bind fun y3 => (idxB (⟨#[0, 1, 2, 2, 3, 3, 3, 3, 4, 4, 4, 4, 4, 4, 4, 4, 5, 5, 5, 5, 5, 5, 5, 5, 5, 5, 5, 5, 5, 5, 5, 5, 6, 6, 6, 6, 6, 6, 6, 6, 6, 6, 6, 6, 6, 6, 6, 6, 6, 6, 6, 6, 6, 6, 6, 6, 6, 6, 6, 6, 6, 6, 6, 6, 7, 7, 7, 7, 7, 7, 7, 7, 7, 7, 7, 7, 7, 7, 7, 7, 7, 7, 7, 7, 7, 7, 7, 7, 7, 7, 7, 7, 7, 7, 7, 7, 7, 7, 7, 7, 7, 7, 7, 7, 7, 7, 7, 7, 7, 7, 7, 7, 7, 7, 7, 7, 7, 7, 7, 7, 7, 7, 7, 7, 7, 7, 7, 7, 8, 8, 8, 8, 8, 8, 8, 8, 8, 8, 8, 8, 8, 8, 8, 8, 8, 8, 8, 8, 8, 8, 8, 8, 8, 8, 8, 8, 8, 8, 8, 8, 8, 8, 8, 8, 8, 8, 8, 8, 8, 8, 8, 8, 8, 8, 8, 8, 8, 8, 8, 8, 8, 8, 8, 8, 8, 8, 8, 8, 8, 8, 8, 8, 8, 8, 8, 8, 8, 8, 8, 8, 8, 8, 8, 8, 8, 8, 8, 8, 8, 8, 8, 8, 8, 8, 8, 8, 8, 8, 8, 8, 8, 8, 8, 8, 8, 8, 8, 8, 8, 8, 8, 8, 8, 8, 8, 8, 8, 8, 8, 8, 8, 8, 8, 8, 8, 8, 8, 8, 8, 8, 8, 8, 8, 8, 8, 8]⟩ : ByteArray) (IntKind.u8.wrap y3.1)).bind fun b4 => some (IntKind.i64.wrap (y3.2.1 + (IntKind.i64.wrap ((b4.toNat : Nat) : Int))))
def an_math_bits_Len64 : An U := (.node none .nil (.node (some ⟨[], [], ⟨[], []⟩, [(.normal, ⟨[(0, .tv .u64), (2, .tv .int)], []⟩)]⟩) .nil (.node (some ⟨[], [], ⟨[], []⟩, [(.normal, ⟨[(0, .tv .u64), (2, .tv .int)], []⟩)]⟩) .nil (.node (some ⟨[], [], ⟨[], []⟩, [(.normal, ⟨[(0, .tv .u64), (2, .tv .int)], []⟩)]⟩) .nil .nil))))
def fe_math_bits_Len64 : Fe G := ⟨[.v .u64], [.int1], fun x => F_math_bits_Len64 x.1⟩
def tb_math_bits_Len64 : List (FuncId × Fe G) := []
theorem ev_math_bits_Len64 (x : TyP G fe_math_bits_Len64.ps) : evF G (lstK G tb_math_bits_Len64) (bodyOf Tryz.f200) an_math_bits_Len64 25 [.tmp 2] fe_math_bits_Len64.rs (argT G fe_math_bits_Len64.ps x) = fe_math_bits_Len64.fn x := by kernel_rfl
theorem ok_math_bits_Len64 : FnOk G 200 fe_math_bits_Len64 := fnOk_of G_ok (lstK_ok G_ok (lnil)) Tryz.func200 (by kernel_rfl) (by kernel_rfl) (by kernel_rfl) (by kernel_rfl) (by kernel_rfl) ev_math_bits_Len64

def F_ref08_Sign (a : TExact) : Option (Int) :=
 (bif a.n.neg then some (-1) else (bif (((a.n.d.length : Nat) : Int) == 0) then some 0 else some 1))
def an_ref08_Sign : An U := .nil
def fe_ref08_Sign : Fe G := ⟨[.v .Exact], [.int1], fun x => F_ref08_Sign x.1⟩
def tb_ref08_Sign : List (FuncId × Fe G) := []
theorem ev_ref08_Sign (x : TyP G fe_ref08_Sign.ps) : evF G (lstK G tb_ref08_Sign) (bodyOf Tryz.f201) an_ref08_Sign 11 [.tmp 2] fe_ref08_Sign.rs (argT G fe_ref08_Sign.ps x) = fe_ref08_Sign.fn x := by kernel_rfl
theorem ok_ref08_Sign : FnOk G 201 fe_ref08_Sign := fnOk_of G_ok (lstK_ok G_ok (lnil)) Tryz.func201 (by kernel_rfl) (by kernel_rfl) (by kernel_rfl) (by kernel_rfl) (by kernel_rfl) ev_ref08_Sign

def F_ref20_Turned (b : TBeam) : Option (TBeam) :=
 (iterF (σ := Int × TBeam × Unit) (ρ := TBeam × Unit) (fun s3 => (bif (decide (s3.1 ≥ 0)) then (idx b.supports s3.1).bind fun x4 => (if s3.2.1.supports.length + ([(IntKind.i64.wrap (b.length - x4))] : List Int).length ≤ 2147483648 then some (.inl ((IntKind.i64.wrap (s3.1 - 1)), (TBeam.mk s3.2.1.name s3.2.1.length (s3.2.1.supports ++ ([(IntKind.i64.wrap (b.length - x4))] : List Int)) s3.2.1.loads s3.2.1.even), ())) else none) else some (.inr (s3.2.1, ())))) big ((IntKind.i64.wrap (((b.supports.length : Nat) : Int) - 1)), (TBeam.mk b.name b.length ([] : List Int) ([] : List TLoad) b.even), ())).bind fun y5 => (iterF (σ := Int × TBeam × Unit) (ρ := TBeam × Unit) (fun s12 => (bif (decide (s12.1 < ((b.loads.length : Nat) : Int))) then (idx b.loads s12.1).bind fun x13 => (idx b.loads s12.1).bind fun x14 => (if s12.2.1.loads.length + ([(TLoad.mk (IntKind.i64.wrap (b.length - x13.at_)) x14.weight)] : List TLoad).length ≤ 2147483648 then some (.inl ((IntKind.i64.wrap (s12.1 + 1)), (TBeam.mk s12.2.1.name s12.2.1.length s12.2.1.supports (s12.2.1.loads ++ ([(TLoad.mk (IntKind.i64.wrap (b.length - x13.at_)) x14.weight)] : List TLoad)) s12.2.1.even), ())) else none) else some (.inr (s12.2.1, ())))) big (0, y5.1, ())).bind fun y15 => some y15.1
def an_ref20_Turned : An U := (.node none .nil (.node none .nil (.node none .nil (.node none .nil (.node none (.node none .nil (.node none (.node (some ⟨[1, 2, 3], [2], ⟨[(4, .tv .int)], [(2, .bx .Beam [2, 3])]⟩, [(.exit 0, ⟨[], [(2, .bx .Beam [2, 3])]⟩)]⟩) .nil .nil) .nil)) (.node none (.node none .nil (.node none (.node (some ⟨[1, 2, 3], [2, 3, 4], ⟨[(5, .tv .int)], [(2, .bx .Beam [2, 3]), (3, .gone), (4, .gone)]⟩, [(.exit 2, ⟨[], [(2, .bx .Beam [2, 3])]⟩)]⟩) .nil .nil) .nil)) .nil))))))
def fe_ref20_Turned : Fe G := ⟨[.v .Beam], [.Beam], fun x => F_ref20_Turned x.1⟩
def tb_ref20_Turned : List (FuncId × Fe G) := []
theorem ev_ref20_Turned (x : TyP G fe_ref20_Turned.ps) : evF G (lstK G tb_ref20_Turned) (bodyOf Tryz.f202) an_ref20_Turned 59 [.cell 2 104] fe_ref20_Turned.rs (argT G fe_ref20_Turned.ps x) = fe_ref20_Turned.fn x := by kernel_rfl
theorem ok_ref20_Turned : FnOk G 202 fe_ref20_Turned := fnOk_of G_ok (lstK_ok G_ok (lnil)) Tryz.func202 (by kernel_rfl) (by kernel_rfl) (by kernel_rfl) (by kernel_rfl) (by kernel_rfl) ev_ref20_Turned

def F_ref08_trim (b : TBig) : Option (TBig) :=
 (iterF (σ := Int × Unit) (ρ := Int × Unit) (fun s4 => ((bif (decide (s4.1 > 0)) then (idx b.d (IntKind.i64.wrap (s4.1 - 1))).bind fun x5 => some ((x5 == 0), ()) else some (false, ())) : Option (Bool × Unit)).bind fun y6 => (bif y6.1 then some (.inl ((IntKind.i64.wrap (s4.1 - 1)), ())) else some (.inr (s4.1, ())))) big (((b.d.length : Nat) : Int), ())).bind fun y7 => (if 0 ≤ (0 : Int) ∧ (0 : Int) ≤ y7.1 ∧ y7.1 ≤ ((b.d.length : Nat) : Int) then ((bif (y7.1 == 0) then some ((TBig.mk false ((b.d.take (Int.toNat y7.1)).drop (Int.toNat (0 : Int)))), ()) else some ((TBig.mk b.neg ((b.d.take (Int.toNat y7.1)).drop (Int.toNat (0 : Int)))), ())) : Option (TBig × Unit)).bind fun y8 => some y8.1 else none)
def an_ref08_trim : An U := (.node none .nil (.node none .nil (.node none (.node none (.node (some ⟨[1, 2], [], ⟨[(3, .tv .int)], []⟩, [(.exit 0, ⟨[(3, .tv .int)], []⟩)]⟩) (.node none (.node (some ⟨[3], [], ⟨[], []⟩, [(.normal, ⟨[(17, .tv .bool)], []⟩)]⟩) .nil .nil) .nil) .nil) .nil) (.node none .nil (.node (some ⟨[1, 2], [0], ⟨[], []⟩, [(.normal, ⟨[], [(0, .bx .Big [])]⟩)]⟩) .nil .nil)))))
def fe_ref08_trim : Fe G := ⟨[.v .Big], [.Big], fun x => F_ref08_trim x.1⟩
def tb_ref08_trim : List (FuncId × Fe G) := []
theorem ev_ref08_trim (x : TyP G fe_ref08_trim.ps) : evZ G (lstK G tb_ref08_trim) (bodyOf Tryz.f204) an_ref08_trim 29 [.cell 2 162] fe_ref08_trim.rs (argT G fe_ref08_trim.ps x) = fe_ref08_trim.fn x := by kernel_rfl
theorem ok_ref08_trim : FnOk G 204 fe_ref08_trim := fnOkz_of G_ok (fun _ => lstK_ok G_ok (lnil)) Tryz.func204 (by kernel_rfl) (by kernel_rfl) (by kernel_rfl) (by kernel_rfl) (by kernel_rfl) ev_ref08_trim

def F_ref08_digit (l : List Int) (i : Int) : Option (Int) :=
 (bif (decide (i < ((l.length : Nat) : Int))) then (idx l i).bind fun x1 => some x1 else some 0)
def an_ref08_digit : An U := .nil
def fe_ref08_digit : Fe G := ⟨[.v .l_int1, .v .int1], [.int1], fun x => F_ref08_digit x.1 x.2.1⟩
def tb_ref08_digit : List (FuncId × Fe G) := []
theorem ev_ref08_digit (x : TyP G fe_ref08_digit.ps) : evF G (lstK G tb_ref08_digit) (bodyOf Tryz.f206) an_ref08_digit 13 [.tmp 4] fe_ref08_digit.rs (argT G fe_ref08_digit.ps x) = fe_ref08_digit.fn x := by kernel_rfl
theorem ok_ref08_digit : FnOk G 206 fe_ref08_digit := fnOk_of G_ok (lstK_ok G_ok (lnil)) Tryz.func206 (by kernel_rfl) (by kernel_rfl) (by kernel_rfl) (by kernel_rfl) (by kernel_rfl) ev_ref08_digit

def F_ref08_even (a : List Int) : Option (Bool) :=
 ((bif (((a.length : Nat) : Int) == 0) then some (true, ()) else (idx a 0).bind fun x2 => some (((x2.tmod 2) == 0), ())) : Option (Bool × Unit)).bind fun y3 => some y3.1
def an_ref08_even : An U := (.node none .nil (.node (some ⟨[], [], ⟨[], []⟩, [(.normal, ⟨[(2, .tv .bool)], []⟩)]⟩) .nil .nil))
def fe_ref08_even : Fe G := ⟨[.v .l_int1], [.bool], fun x => F_ref08_even x.1⟩
def tb_ref08_even : List (FuncId × Fe G) := []
theorem ev_ref08_even (x : TyP G fe_ref08_even.ps) : evF G (lstK G tb_ref08_even) (bodyOf Tryz.f207) an_ref08_even 13 [.tmp 2] fe_ref08_even.rs (argT G fe_ref08_even.ps x) = fe_ref08_even.fn x := by kernel_rfl
theorem ok_ref08_even : FnOk G 207 fe_ref08_even := fnOk_of G_ok (lstK_ok G_ok (lnil)) Tryz.func207 (by kernel_rfl) (by kernel_rfl) (by kernel_rfl) (by kernel_rfl) (by kernel_rfl) ev_ref08_even

def F_slices_IndexFunc_api_Load (s : List TLoad) (f : TLoad → Option Bool) : Option (Int) :=
 (iterF (σ := Int × Unit) (ρ := (Int × Unit) ⊕ (Unit)) (fun s3 => (bif (decide (s3.1 < ((s.length : Nat) : Int))) then (idx s s3.1).bind fun x4 => (f x4).bind fun r5 => (bif r5 then some (.inr (.inl (s3.1, ()))) else some (.inl ((IntKind.i64.wrap (s3.1 + 1)), ()))) else some (.inr (.inr ((())))))) big (0, ())).bind fun y6 => (match y6 with | .inl y7 => some y7.1 | .inr y8 => some (-1))
def an_slices_IndexFunc_api_Load : An U := (.node none .nil (.node none (.node none .nil (.node none (.node (some ⟨[0, 1, 7], [], ⟨[(8, .tv .int)], []⟩, [(.ret, ⟨[(4, .tv .int)], []⟩), (.exit 0, ⟨[], []⟩)]⟩) .nil .nil) .nil)) .nil))
def fe_slices_IndexFunc_api_Load : Fe G := ⟨[.v .l_Load, .fn .Load .bool], [.int1], fun x => F_slices_IndexFunc_api_Load x.1 x.2.1⟩
def tb_slices_IndexFunc_api_Load : List (FuncId × Fe G) := []
theorem ev_slices_IndexFunc_api_Load (x : TyP G fe_slices_IndexFunc_api_Load.ps) : evF G (lstK G tb_slices_IndexFunc_api_Load) (bodyOf Tryz.f209) an_slices_IndexFunc_api_Load 19 [.tmp 4] fe_slices_IndexFunc_api_Load.rs (argT G fe_slices_IndexFunc_api_Load.ps x) = fe_slices_IndexFunc_api_Load.fn x := by kernel_rfl
theorem ok_slices_IndexFunc_api_Load : FnOk G 209 fe_slices_IndexFunc_api_Load := fnOk_of G_ok (lstK_ok G_ok (lnil)) Tryz.func209 (by kernel_rfl) (by kernel_rfl) (by kernel_rfl) (by kernel_rfl) (by kernel_rfl) ev_slices_IndexFunc_api_Load

def F_beam_trimmed (w : List Int) : Option ((List Int)) :=
 (iterF (σ := (List Int) × Unit) (ρ := (List Int) × Unit) (fun s4 => ((bif (decide (((s4.1.length : Nat) : Int) > 0)) then (idx s4.1 (IntKind.i64.wrap (((s4.1.length : Nat) : Int) - 1))).bind fun x5 => some ((x5 == 0), ()) else some (false, ())) : Option (Bool × Unit)).bind fun y6 => (bif y6.1 then (if 0 ≤ (0 : Int) ∧ (0 : Int) ≤ (IntKind.i64.wrap (((s4.1.length : Nat) : Int) - 1)) ∧ (IntKind.i64.wrap (((s4.1.length : Nat) : Int) - 1)) ≤ ((s4.1.length : Nat) : Int) then some (.inl (((s4.1.take (Int.toNat (IntKind.i64.wrap (((s4.1.length : Nat) : Int) - 1)))).drop (Int.toNat (0 : Int))), ())) else none) else some (.inr (s4.1, ())))) big (w, ())).bind fun y7 => some y7.1
def an_beam_trimmed : An U := (.node none .nil (.node none (.node none (.node (some ⟨[2], [], ⟨[(0, .tv .l_u32)], []⟩, [(.exit 0, ⟨[(0, .tv .l_u32)], []⟩)]⟩) (.node none (.node (some ⟨[0], [], ⟨[], []⟩, [(.normal, ⟨[(14, .tv .bool)], []⟩)]⟩) .nil .nil) .nil) .nil) .nil) .nil))
def fe_beam_trimmed : Fe G := ⟨[.v .l_u32], [.l_u32], fun x => F_beam_trimmed x.1⟩
def tb_beam_trimmed : List (FuncId × Fe G) := []
theorem ev_beam_trimmed (x : TyP G fe_beam_trimmed.ps) : evZ G (lstK G tb_beam_trimmed) (bodyOf Tryz.f210) an_beam_trimmed 21 [.tmp 2] fe_beam_trimmed.rs (argT G fe_beam_trimmed.ps x) = fe_beam_trimmed.fn x := by kernel_rfl
theorem ok_beam_trimmed : FnOk G 210 fe_beam_trimmed := fnOkz_of G_ok (fun _ => lstK_ok G_ok (lnil)) Tryz.func210 (by kernel_rfl) (by kernel_rfl) (by kernel_rfl) (by kernel_rfl) (by kernel_rfl) ev_beam_trimmed

def F_beam_compared (a : List Int) (b : List Int) : Option (Int) :=
 (bif (((a.length : Nat) : Int) != ((b.length : Nat) : Int)) then some (IntKind.i64.wrap (((a.length : Nat) : Int) - ((b.length : Nat) : Int))) else (iterF (σ := Int × Unit) (ρ := (Int × Unit) ⊕ (Unit)) (fun s5 => (bif (decide (s5.1 ≥ 0)) then (idx a s5.1).bind fun x6 => (idx b s5.1).bind fun x7 => (bif (x6 != x7) then (idx a s5.1).bind fun x8 => (idx b s5.1).bind fun x9 => (bif (decide (x8 < x9)) then some (.inr (.inl ((-1), ()))) else some (.inr (.inl (1, ())))) else some (.inl ((IntKind.i64.wrap (s5.1 - 1)), ()))) else some (.inr (.inr ((())))))) big ((IntKind.i64.wrap (((a.length : Nat) : Int) - 1)), ())).bind fun y10 => (match y10 with | .inl y11 => some y11.1 | .inr y12 => some 0))
def an_beam_compared : An U := (.node none .nil (.node none .nil (.node none (.node none .nil (.node none (.node (some ⟨[0, 1], [], ⟨[(5, .tv .int)], []⟩, [(.ret, ⟨[(4, .tv .int)], []⟩), (.exit 0, ⟨[], []⟩)]⟩) .nil .nil) .nil)) .nil)))
def fe_beam_compared : Fe G := ⟨[.v .l_u32, .v .l_u32], [.int1], fun x => F_beam_compared x.1 x.2.1⟩
def tb_beam_compared : List (FuncId × Fe G) := []
theorem ev_beam_compared (x : TyP G fe_beam_compared.ps) : evF G (lstK G tb_beam_compared) (bodyOf Tryz.f214) an_beam_compared 41 [.tmp 4] fe_beam_compared.rs (argT G fe_beam_compared.ps x) = fe_beam_compared.fn x := by kernel_rfl
theorem ok_beam_compared : FnOk G 214 fe_beam_compared := fnOk_of G_ok (lstK_ok G_ok (lnil)) Tryz.func214 (by kernel_rfl) (by kernel_rfl) (by kernel_rfl) (by kernel_rfl) (by kernel_rfl) ev_beam_compared

def F_slices_ContainsFunc_api_Item (s : List TItem) (f : TItem → Option Bool) : Option (Bool) :=
 (F_slices_IndexFunc_api_Item s f).bind fun r1 => some (decide (r1 ≥ 0))
def an_slices_ContainsFunc_api_Item : An U := .nil
def fe_slices_ContainsFunc_api_Item : Fe G := ⟨[.v .l_Item, .fn .Item .bool], [.bool], fun x => F_slices_ContainsFunc_api_Item x.1 x.2.1⟩
def tb_slices_ContainsFunc_api_Item : List (FuncId × Fe G) := [(67, fe_slices_IndexFunc_api_Item)]
theorem ev_slices_ContainsFunc_api_Item (x : TyP G fe_slices_ContainsFunc_api_Item.ps) : evF G (lstK G tb_slices_ContainsFunc_api_Item) (bodyOf Tryz.f18) an_slices_ContainsFunc_api_Item 9 [.tmp 4] fe_slices_ContainsFunc_api_Item.rs (argT G fe_slices_ContainsFunc_api_Item.ps x) = fe_slices_ContainsFunc_api_Item.fn x := by kernel_rfl
theorem ok_slices_ContainsFunc_api_Item : FnOk G 18 fe_slices_ContainsFunc_api_Item := fnOk_of G_ok (lstK_ok G_ok (lcons ok_slices_IndexFunc_api_Item (lnil))) Tryz.func18 (by kernel_rfl) (by kernel_rfl) (by kernel_rfl) (by kernel_rfl) (by kernel_rfl) ev_slices_ContainsFunc_api_Item

def F_law22_small (s : TSet) : Option (Bool) :=
 (F_ref21_Small s 8).bind fun r1 => some r1
def an_law22_small : An U := .nil
def fe_law22_small : Fe G := ⟨[.v .Set], [.bool], fun x => F_law22_small x.1⟩
def tb_law22_small : List (FuncId × Fe G) := [(70, fe_ref21_Small)]
theorem ev_law22_small (x : TyP G fe_law22_small.ps) : evF G (lstK G tb_law22_small) (bodyOf Tryz.f28) an_law22_small 5 [.tmp 2] fe_law22_small.rs (argT G fe_law22_small.ps x) = fe_law22_small.fn x := by kernel_rfl
theorem ok_law22_small : FnOk G 28 fe_law22_small := fnOk_of G_ok (lstK_ok G_ok (lcons ok_ref21_Small (lnil))) Tryz.func28 (by kernel_rfl) (by kernel_rfl) (by kernel_rfl) (by kernel_rfl) (by kernel_rfl) ev_law22_small

def F_slices_ContainsFunc_api_Frac (s : List TFrac) (f : TFrac → Option Bool) : Option (Bool) :=
 (F_slices_IndexFunc_api_Frac s f).bind fun r1 => some (decide (r1 ≥ 0))
def an_slices_ContainsFunc_api_Frac : An U := .nil
def fe_slices_ContainsFunc_api_Frac : Fe G := ⟨[.v .l_Frac, .fn .Frac .bool], [.bool], fun x => F_slices_ContainsFunc_api_Frac x.1 x.2.1⟩
def tb_slices_ContainsFunc_api_Frac : List (FuncId × Fe G) := [(122, fe_slices_IndexFunc_api_Frac)]
theorem ev_slices_ContainsFunc_api_Frac (x : TyP G fe_slices_ContainsFunc_api_Frac.ps) : evF G (lstK G tb_slices_ContainsFunc_api_Frac) (bodyOf Tryz.f82) an_slices_ContainsFunc_api_Frac 9 [.tmp 4] fe_slices_ContainsFunc_api_Frac.rs (argT G fe_slices_ContainsFunc_api_Frac.ps x) = fe_slices_ContainsFunc_api_Frac.fn x := by kernel_rfl
theorem ok_slices_ContainsFunc_api_Frac : FnOk G 82 fe_slices_ContainsFunc_api_Frac := fnOk_of G_ok (lstK_ok G_ok (lcons ok_slices_IndexFunc_api_Frac (lnil))) Tryz.func82 (by kernel_rfl) (by kernel_rfl) (by kernel_rfl) (by kernel_rfl) (by kernel_rfl) ev_slices_ContainsFunc_api_Frac

def F_ratio_Valid (a : TFrac) : Option (Bool) :=
 ((bif (decide (a.den ≥ 1)) then (bif (decide (a.den ≤ 1152921504606846976)) then (bif (decide (a.num ≥ (-1152921504606846976))) then (bif (decide (a.num ≤ 1152921504606846976)) then (F_ratio_size a.num).bind fun r3 => (F_ratio_gcd r3 (IntKind.u64.wrap a.den)).bind fun r4 => some ((r4 == 1), ()) else some (false, ())) else some (false, ())) else some (false, ())) else some (false, ())) : Option (Bool × Unit)).bind fun y5 => some y5.1
def an_ratio_Valid : An U := (.node none .nil (.node (some ⟨[], [], ⟨[], []⟩, [(.normal, ⟨[(2, .tv .bool)], []⟩)]⟩) .nil .nil))
def fe_ratio_Valid : Fe G := ⟨[.v .Frac], [.bool], fun x => F_ratio_Valid x.1⟩
def tb_ratio_Valid : List (FuncId × Fe G) := [(96, fe_ratio_size), (98, fe_ratio_gcd)]
theorem ev_ratio_Valid (x : TyP G fe_ratio_Valid.ps) : evF G (lstK G tb_ratio_Valid) (bodyOf Tryz.f87) an_ratio_Valid 31 [.tmp 2] fe_ratio_Valid.rs (argT G fe_ratio_Valid.ps x) = fe_ratio_Valid.fn x := by kernel_rfl
theorem ok_ratio_Valid : FnOk G 87 fe_ratio_Valid := fnOk_of G_ok (lstK_ok G_ok (lcons ok_ratio_size (lcons ok_ratio_gcd (lnil)))) Tryz.func87 (by kernel_rfl) (by kernel_rfl) (by kernel_rfl) (by kernel_rfl) (by kernel_rfl) ev_ratio_Valid

def F_batten_beamOf (s : TSet) : Option (TBeam) :=
 (F_slices_Clone_int s.lines).bind fun r1 => (iterF (σ := Int × TBeam × Unit) (ρ := TBeam × Unit) (fun s6 => (bif (decide (s6.1 < ((s.items.length : Nat) : Int))) then (idx s.items s6.1).bind fun x7 => (F_batten_middle x7).bind fun r8 => (if s6.2.1.loads.length + ([(TLoad.mk r8 x7.weight)] : List TLoad).length ≤ 2147483648 then some (.inl ((IntKind.i64.wrap (s6.1 + 1)), (TBeam.mk s6.2.1.name s6.2.1.length s6.2.1.supports (s6.2.1.loads ++ ([(TLoad.mk r8 x7.weight)] : List TLoad)) s6.2.1.even), ())) else none) else some (.inr (s6.2.1, ())))) big (0, (TBeam.mk s.name s.length r1 ([] : List TLoad) s.pipe), ())).bind fun y9 => some y9.1
def an_batten_beamOf : An U := (.node none .nil (.node none .nil (.node none (.node none .nil (.node none (.node (some ⟨[2, 3, 17, 18], [2, 3], ⟨[(19, .tv .int)], [(2, .bx .Beam [2, 3]), (3, .gone)]⟩, [(.exit 0, ⟨[], [(2, .bx .Beam [2, 3])]⟩)]⟩) .nil .nil) .nil)) .nil)))
def fe_batten_beamOf : Fe G := ⟨[.v .Set], [.Beam], fun x => F_batten_beamOf x.1⟩
def tb_batten_beamOf : List (FuncId × Fe G) := [(124, fe_slices_Clone_int), (131, fe_batten_middle)]
theorem ev_batten_beamOf (x : TyP G fe_batten_beamOf.ps) : evF G (lstK G tb_batten_beamOf) (bodyOf Tryz.f90) an_batten_beamOf 35 [.cell 2 104] fe_batten_beamOf.rs (argT G fe_batten_beamOf.ps x) = fe_batten_beamOf.fn x := by kernel_rfl
theorem ok_batten_beamOf : FnOk G 90 fe_batten_beamOf := fnOk_of G_ok (lstK_ok G_ok (lcons ok_slices_Clone_int (lcons ok_batten_middle (lnil)))) Tryz.func90 (by kernel_rfl) (by kernel_rfl) (by kernel_rfl) (by kernel_rfl) (by kernel_rfl) ev_batten_beamOf

def F_ratio_product (a : Int) (b : Int) : Option (Twide) :=
 (F_math_bits_Mul64 a b).bind fun r1 => some (Twide.mk r1.1 r1.2)
def an_ratio_product : An U := .nil
def fe_ratio_product : Fe G := ⟨[.v .u64, .v .u64], [.wide], fun x => F_ratio_product x.1 x.2.1⟩
def tb_ratio_product : List (FuncId × Fe G) := [(132, fe_math_bits_Mul64)]
theorem ev_ratio_product (x : TyP G fe_ratio_product.ps) : evF G (lstK G tb_ratio_product) (bodyOf Tryz.f95) an_ratio_product 16 [.cell 4 114] fe_ratio_product.rs (argT G fe_ratio_product.ps x) = fe_ratio_product.fn x := by kernel_rfl
theorem ok_ratio_product : FnOk G 95 fe_ratio_product := fnOk_of G_ok (lstK_ok G_ok (lcons ok_math_bits_Mul64 (lnil))) Tryz.func95 (by kernel_rfl) (by kernel_rfl) (by kernel_rfl) (by kernel_rfl) (by kernel_rfl) ev_ratio_product

def F_batten_lines (l : List Int) (length : Int) : Option (Bool) :=
 ((F_batten_between ((l.length : Nat) : Int) 2 10).bind fun r4 => (bif (!r4) then some (true, ()) else (idx l 0).bind fun x5 => (bif (decide (x5 < 0)) then some (true, ()) else (idx l (IntKind.i64.wrap (((l.length : Nat) : Int) - 1))).bind fun x6 => some ((decide (x6 > length)), ()))) : Option (Bool × Unit)).bind fun y7 => (bif y7.1 then some false else (iterF (σ := Int × Unit) (ρ := (Bool × Unit) ⊕ (Unit)) (fun s10 => (bif (decide (s10.1 < ((l.length : Nat) : Int))) then (idx l s10.1).bind fun x11 => (idx l (IntKind.i64.wrap (s10.1 - 1))).bind fun x12 => (bif (decide (x11 ≤ x12)) then some (.inr (.inl (false, ()))) else some (.inl ((IntKind.i64.wrap (s10.1 + 1)), ()))) else some (.inr (.inr ((())))))) big (1, ())).bind fun y13 => (match y13 with | .inl y14 => some y14.1 | .inr y15 => some true))
def an_batten_lines : An U := (.node none .nil (.node none (.node (some ⟨[0, 4], [], ⟨[], []⟩, [(.normal, ⟨[(25, .tv .bool)], []⟩)]⟩) .nil .nil) (.node none (.node none .nil (.node none (.node (some ⟨[0], [], ⟨[(5, .tv .int)], []⟩, [(.ret, ⟨[(4, .tv .bool)], []⟩), (.exit 0, ⟨[], []⟩)]⟩) .nil .nil) .nil)) .nil)))
def fe_batten_lines : Fe G := ⟨[.v .l_int1, .v .int1], [.bool], fun x => F_batten_lines x.1 x.2.1⟩
def tb_batten_lines : List (FuncId × Fe G) := [(105, fe_batten_between)]
theorem ev_batten_lines (x : TyP G fe_batten_lines.ps) : evF G (lstK G tb_batten_lines) (bodyOf Tryz.f106) an_batten_lines 42 [.tmp 4] fe_batten_lines.rs (argT G fe_batten_lines.ps x) = fe_batten_lines.fn x := by kernel_rfl
theorem ok_batten_lines : FnOk G 106 fe_batten_lines := fnOk_of G_ok (lstK_ok G_ok (lcons ok_batten_between (lnil))) Tryz.func106 (by kernel_rfl) (by kernel_rfl) (by kernel_rfl) (by kernel_rfl) (by kernel_rfl) ev_batten_lines

def F_ref01_word (s : ByteArray) (i : Int) : Option (Int) :=
 (iterF (σ := Int × Unit) (ρ := Int × Unit) (fun s12 => ((bif (decide (s12.1 < ((s.size : Nat) : Int))) then (idxB s s12.1).bind fun b13 => (F_ref01_Letter ((b13.toNat : Nat) : Int)).bind fun r14 => (bif r14 then some (true, ()) else (idxB s s12.1).bind fun b15 => (F_ref01_Digit ((b15.toNat : Nat) : Int)).bind fun r16 => (bif r16 then some (true, ()) else (idxB s s12.1).bind fun b17 => some ((((b17.toNat : Nat) : Int) == 95), ()))) else some (false, ())) : Option (Bool × Unit)).bind fun y18 => (bif y18.1 then some (.inl ((IntKind.i64.wrap (s12.1 + 1)), ())) else some (.inr (s12.1, ())))) big (i, ())).bind fun y19 => some y19.1
def an_ref01_word : An U := (.node none .nil (.node none (.node none (.node (some ⟨[0, 4], [], ⟨[(1, .tv .int)], []⟩, [(.exit 0, ⟨[(1, .tv .int)], []⟩)]⟩) (.node none (.node (some ⟨[1], [], ⟨[], []⟩, [(.normal, ⟨[(26, .tv .bool)], []⟩)]⟩) .nil .nil) .nil) .nil) .nil) .nil))
def fe_ref01_word : Fe G := ⟨[.v .str, .v .int1], [.int1], fun x => F_ref01_word x.1 x.2.1⟩
def tb_ref01_word : List (FuncId × Fe G) := [(113, fe_ref01_Letter), (147, fe_ref01_Digit)]
theorem ev_ref01_word (x : TyP G fe_ref01_word.ps) : evF G (lstK G tb_ref01_word) (bodyOf Tryz.f114) an_ref01_word 30 [.tmp 4] fe_ref01_word.rs (argT G fe_ref01_word.ps x) = fe_ref01_word.fn x := by kernel_rfl
theorem ok_ref01_word : FnOk G 114 fe_ref01_word := fnOk_of G_ok (lstK_ok G_ok (lcons ok_ref01_Letter (lcons ok_ref01_Digit (lnil)))) Tryz.func114 (by kernel_rfl) (by kernel_rfl) (by kernel_rfl) (by kernel_rfl) (by kernel_rfl) ev_ref01_word

def F_ref21_Beam (s : TSet) : Option (TBeam) :=
 ((((((if ([] : List Int).length + s.lines.length ≤ 2147483648 then some ((TBeam.mk s.name s.length (([] : List Int) ++ s.lines) ([] : List TLoad) s.pipe), ()) else none))))) : Option (TBeam × Unit)).bind fun y1 => (iterF (σ := Int × TBeam × Unit) (ρ := TBeam × Unit) (fun s11 => (bif (decide (s11.1 < ((s.items.length : Nat) : Int))) then (idx s.items s11.1).bind fun x12 => (idx s.items s11.1).bind fun x13 => (F_ref21_Middle x12).bind fun r14 => (if s11.2.1.loads.length + ([(TLoad.mk r14 x13.weight)] : List TLoad).length ≤ 2147483648 then some (.inl ((IntKind.i64.wrap (s11.1 + 1)), (TBeam.mk s11.2.1.name s11.2.1.length s11.2.1.supports (s11.2.1.loads ++ ([(TLoad.mk r14 x13.weight)] : List TLoad)) s11.2.1.even), ())) else none) else some (.inr (s11.2.1, ())))) big (0, y1.1, ())).bind fun y15 => some y15.1
theorem eqK4_ref21_Beam {β : Type} (a : Option β) : eqK [a, a, a, a] = a := by unfold eqK; simp
def F0_ref21_Beam (s : TSet) : Option (TBeam) :=
 (eqK [(eqK [(eqK [(eqK [((if ([] : List Int).length + s.lines.length ≤ 2147483648 then some ((TBeam.mk s.name s.length (([] : List Int) ++ s.lines) ([] : List TLoad) s.pipe), ()) else none)), ((if ([] : List Int).length + s.lines.length ≤ 2147483648 then some ((TBeam.mk s.name s.length (([] : List Int) ++ s.lines) ([] : List TLoad) s.pipe), ()) else none))]), ((if ([] : List Int).length + s.lines.length ≤ 2147483648 then some ((TBeam.mk s.name s.length (([] : List Int) ++ s.lines) ([] : List TLoad) s.pipe), ()) else none))]), (eqK [(eqK [((if ([] : List Int).length + s.lines.length ≤ 2147483648 then some ((TBeam.mk s.name s.length (([] : List Int) ++ s.lines) ([] : List TLoad) s.pipe), ()) else none)), ((if ([] : List Int).length + s.lines.length ≤ 2147483648 then some ((TBeam.mk s.name s.length (([] : List Int) ++ s.lines) ([] : List TLoad) s.pipe), ()) else none))]), ((if ([] : List Int).length + s.lines.length ≤ 2147483648 then eqK [(some ((TBeam.mk s.name s.length (([] : List Int) ++ s.lines) ([] : List TLoad) s.pipe), ())), (some ((TBeam.mk s.name s.length (([] : List Int) ++ s.lines) ([] : List TLoad) s.pipe), ()))] else none)), (eqK [((if ([] : List Int).length + s.lines.length ≤ 2147483648 then some ((TBeam.mk s.name s.length (([] : List Int) ++ s.lines) ([] : List TLoad) s.pipe), ()) else none)), ((if ([] : List Int).length + s.lines.length ≤ 2147483648 then some ((TBeam.mk s.name s.length (([] : List Int) ++ s.lines) ([] : List TLoad) s.pipe), ()) else none))])]), (eqK [((if ([] : List Int).length + s.lines.length ≤ 2147483648 then some ((TBeam.mk s.name s.length (([] : List Int) ++ s.lines) ([] : List TLoad) s.pipe), ()) else none)), (eqK [((if ([] : List Int).length + s.lines.length ≤ 2147483648 then some ((TBeam.mk s.name s.length (([] : List Int) ++ s.lines) ([] : List TLoad) s.pipe), ()) else none)), ((if ([] : List Int).length + s.lines.length ≤ 2147483648 then some ((TBeam.mk s.name s.length (([] : List Int) ++ s.lines) ([] : List TLoad) s.pipe), ()) else none))])])]), (eqK [(eqK [(eqK [((if ([] : List Int).length + s.lines.length ≤ 2147483648 then some ((TBeam.mk s.name s.length (([] : List Int) ++ s.lines) ([] : List TLoad) s.pipe), ()) else none)), ((if ([] : List Int).length + s.lines.length ≤ 2147483648 then some ((TBeam.mk s.name s.length (([] : List Int) ++ s.lines) ([] : List TLoad) s.pipe), ()) else none))]), ((if ([] : List Int).length + s.lines.length ≤ 2147483648 then some ((TBeam.mk s.name s.length (([] : List Int) ++ s.lines) ([] : List TLoad) s.pipe), ()) else none))]), (eqK [(eqK [((if ([] : List Int).length + s.lines.length ≤ 2147483648 then some ((TBeam.mk s.name s.length (([] : List Int) ++ s.lines) ([] : List TLoad) s.pipe), ()) else none)), ((if ([] : List Int).length + s.lines.length ≤ 2147483648 then some ((TBeam.mk s.name s.length (([] : List Int) ++ s.lines) ([] : List TLoad) s.pipe), ()) else none))]), ((if ([] : List Int).length + s.lines.length ≤ 2147483648 then eqK [(some ((TBeam.mk s.name s.length (([] : List Int) ++ s.lines) ([] : List TLoad) s.pipe), ())), (some ((TBeam.mk s.name s.length (([] : List Int) ++ s.lines) ([] : List TLoad) s.pipe), ()))] else none)), (eqK [((if ([] : List Int).length + s.lines.length ≤ 2147483648 then some ((TBeam.mk s.name s.length (([] : List Int) ++ s.lines) ([] : List TLoad) s.pipe), ()) else none)), ((if ([] : List Int).length + s.lines.length ≤ 2147483648 then some ((TBeam.mk s.name s.length (([] : List Int) ++ s.lines) ([] : List TLoad) s.pipe), ()) else none))])]), (eqK [((if ([] : List Int).length + s.lines.length ≤ 2147483648 then some ((TBeam.mk s.name s.length (([] : List Int) ++ s.lines) ([] : List TLoad) s.pipe), ()) else none)), (eqK [((if ([] : List Int).length + s.lines.length ≤ 2147483648 then some ((TBeam.mk s.name s.length (([] : List Int) ++ s.lines) ([] : List TLoad) s.pipe), ()) else none)), ((if ([] : List Int).length + s.lines.length ≤ 2147483648 then some ((TBeam.mk s.name s.length (([] : List Int) ++ s.lines) ([] : List TLoad) s.pipe), ()) else none))])])]), (eqK [(eqK [(eqK [((if ([] : List Int).length + s.lines.length ≤ 2147483648 then some ((TBeam.mk s.name s.length (([] : List Int) ++ s.lines) ([] : List TLoad) s.pipe), ()) else none)), ((if ([] : List Int).length + s.lines.length ≤ 2147483648 then some ((TBeam.mk s.name s.length (([] : List Int) ++ s.lines) ([] : List TLoad) s.pipe), ()) else none))]), ((if ([] : List Int).length + s.lines.length ≤ 2147483648 then eqK [(some ((TBeam.mk s.name s.length (([] : List Int) ++ s.lines) ([] : List TLoad) s.pipe), ())), (some ((TBeam.mk s.name s.length (([] : List Int) ++ s.lines) ([] : List TLoad) s.pipe), ()))] else none)), (eqK [((if ([] : List Int).length + s.lines.length ≤ 2147483648 then some ((TBeam.mk s.name s.length (([] : List Int) ++ s.lines) ([] : List TLoad) s.pipe), ()) else none)), ((if ([] : List Int).length + s.lines.length ≤ 2147483648 then some ((TBeam.mk s.name s.length (([] : List Int) ++ s.lines) ([] : List TLoad) s.pipe), ()) else none))])]), (eqK [(eqK [((if ([] : List Int).length + s.lines.length ≤ 2147483648 then some ((TBeam.mk s.name s.length (([] : List Int) ++ s.lines) ([] : List TLoad) s.pipe), ()) else none)), ((if ([] : List Int).length + s.lines.length ≤ 2147483648 then some ((TBeam.mk s.name s.length (([] : List Int) ++ s.lines) ([] : List TLoad) s.pipe), ()) else none))]), ((if ([] : List Int).length + s.lines.length ≤ 2147483648 then eqK [(some ((TBeam.mk s.name s.length (([] : List Int) ++ s.lines) ([] : List TLoad) s.pipe), ())), (some ((TBeam.mk s.name s.length (([] : List Int) ++ s.lines) ([] : List TLoad) s.pipe), ()))] else none)), (eqK [((if ([] : List Int).length + s.lines.length ≤ 2147483648 then some ((TBeam.mk s.name s.length (([] : List Int) ++ s.lines) ([] : List TLoad) s.pipe), ()) else none)), ((if ([] : List Int).length + s.lines.length ≤ 2147483648 then some ((TBeam.mk s.name s.length (([] : List Int) ++ s.lines) ([] : List TLoad) s.pipe), ()) else none))])]), ((if ([] : List Int).length + s.lines.length ≤ 2147483648 then eqK [(eqK [(some ((TBeam.mk s.name s.length (([] : List Int) ++ s.lines) ([] : List TLoad) s.pipe), ())), (some ((TBeam.mk s.name s.length (([] : List Int) ++ s.lines) ([] : List TLoad) s.pipe), ()))]), (eqK [(some ((TBeam.mk s.name s.length (([] : List Int) ++ s.lines) ([] : List TLoad) s.pipe), ())), (some ((TBeam.mk s.name s.length (([] : List Int) ++ s.lines) ([] : List TLoad) s.pipe), ()))]), (eqK [(some ((TBeam.mk s.name s.length (([] : List Int) ++ s.lines) ([] : List TLoad) s.pipe), ())), (some ((TBeam.mk s.name s.length (([] : List Int) ++ s.lines) ([] : List TLoad) s.pipe), ()))])] else none)), (eqK [(eqK [((if ([] : List Int).length + s.lines.length ≤ 2147483648 then some ((TBeam.mk s.name s.length (([] : List Int) ++ s.lines) ([] : List TLoad) s.pipe), ()) else none)), ((if ([] : List Int).length + s.lines.length ≤ 2147483648 then some ((TBeam.mk s.name s.length (([] : List Int) ++ s.lines) ([] : List TLoad) s.pipe), ()) else none))]), (eqK [((if ([] : List Int).length + s.lines.length ≤ 2147483648 then some ((TBeam.mk s.name s.length (([] : List Int) ++ s.lines) ([] : List TLoad) s.pipe), ()) else none)), ((if ([] : List Int).length + s.lines.length ≤ 2147483648 then some ((TBeam.mk s.name s.length (([] : List Int) ++ s.lines) ([] : List TLoad) s.pipe), ()) else none))]), ((if ([] : List Int).length + s.lines.length ≤ 2147483648 then eqK [(some ((TBeam.mk s.name s.length (([] : List Int) ++ s.lines) ([] : List TLoad) s.pipe), ())), (some ((TBeam.mk s.name s.length (([] : List Int) ++ s.lines) ([] : List TLoad) s.pipe), ()))] else none))])]), (eqK [(eqK [((if ([] : List Int).length + s.lines.length ≤ 2147483648 then some ((TBeam.mk s.name s.length (([] : List Int) ++ s.lines) ([] : List TLoad) s.pipe), ()) else none)), (eqK [((if ([] : List Int).length + s.lines.length ≤ 2147483648 then some ((TBeam.mk s.name s.length (([] : List Int) ++ s.lines) ([] : List TLoad) s.pipe), ()) else none)), ((if ([] : List Int).length + s.lines.length ≤ 2147483648 then some ((TBeam.mk s.name s.length (([] : List Int) ++ s.lines) ([] : List TLoad) s.pipe), ()) else none))])]), (eqK [((if ([] : List Int).length + s.lines.length ≤ 2147483648 then some ((TBeam.mk s.name s.length (([] : List Int) ++ s.lines) ([] : List TLoad) s.pipe), ()) else none)), (eqK [((if ([] : List Int).length + s.lines.length ≤ 2147483648 then some ((TBeam.mk s.name s.length (([] : List Int) ++ s.lines) ([] : List TLoad) s.pipe), ()) else none)), ((if ([] : List Int).length + s.lines.length ≤ 2147483648 then some ((TBeam.mk s.name s.length (([] : List Int) ++ s.lines) ([] : List TLoad) s.pipe), ()) else none))])]), (eqK [(eqK [((if ([] : List Int).length + s.lines.length ≤ 2147483648 then some ((TBeam.mk s.name s.length (([] : List Int) ++ s.lines) ([] : List TLoad) s.pipe), ()) else none)), ((if ([] : List Int).length + s.lines.length ≤ 2147483648 then some ((TBeam.mk s.name s.length (([] : List Int) ++ s.lines) ([] : List TLoad) s.pipe), ()) else none))]), (eqK [((if ([] : List Int).length + s.lines.length ≤ 2147483648 then some ((TBeam.mk s.name s.length (([] : List Int) ++ s.lines) ([] : List TLoad) s.pipe), ()) else none)), ((if ([] : List Int).length + s.lines.length ≤ 2147483648 then some ((TBeam.mk s.name s.length (([] : List Int) ++ s.lines) ([] : List TLoad) s.pipe), ()) else none))]), ((if ([] : List Int).length + s.lines.length ≤ 2147483648 then eqK [(some ((TBeam.mk s.name s.length (([] : List Int) ++ s.lines) ([] : List TLoad) s.pipe), ())), (some ((TBeam.mk s.name s.length (([] : List Int) ++ s.lines) ([] : List TLoad) s.pipe), ()))] else none))])])] : Option (TBeam × Unit)).bind fun y1 => (iterF (σ := Int × TBeam × Unit) (ρ := TBeam × Unit) (fun s11 => (bif (decide (s11.1 < ((s.items.length : Nat) : Int))) then (idx s.items s11.1).bind fun x12 => (idx s.items s11.1).bind fun x13 => (F_ref21_Middle x12).bind fun r14 => (if s11.2.1.loads.length + ([(TLoad.mk r14 x13.weight)] : List TLoad).length ≤ 2147483648 then some (.inl ((IntKind.i64.wrap (s11.1 + 1)), (TBeam.mk s11.2.1.name s11.2.1.length s11.2.1.supports (s11.2.1.loads ++ ([(TLoad.mk r14 x13.weight)] : List TLoad)) s11.2.1.even), ())) else none) else some (.inr (s11.2.1, ())))) big (0, y1.1, ())).bind fun y15 => some y15.1
theorem F0_ref21_Beam_eq : @F0_ref21_Beam = @F_ref21_Beam := by unfold F0_ref21_Beam F_ref21_Beam; simp only [eqK_two, eqK_three, eqK4_ref21_Beam]
def an_ref21_Beam : An U := (.node none .nil (.node (some ⟨[1, 2], [], ⟨[], []⟩, [(.normal, ⟨[(3, .bx .Beam [2, 3])], []⟩)]⟩) .nil (.node none (.node none .nil (.node none (.node (some ⟨[1, 2, 3], [2, 3, 4], ⟨[(4, .tv .int)], [(2, .bx .Beam [2, 3]), (3, .gone), (4, .gone)]⟩, [(.exit 0, ⟨[], [(2, .bx .Beam [2, 3])]⟩)]⟩) .nil .nil) .nil)) .nil)))
def fe_ref21_Beam : Fe G := ⟨[.v .Set], [.Beam], fun x => F_ref21_Beam x.1⟩
def tb_ref21_Beam : List (FuncId × Fe G) := [(150, fe_ref21_Middle)]
theorem ev_ref21_Beam (x : TyP G fe_ref21_Beam.ps) : evF G (lstK G tb_ref21_Beam) (bodyOf Tryz.f118) an_ref21_Beam 42 [.cell 2 104] fe_ref21_Beam.rs (argT G fe_ref21_Beam.ps x) = fe_ref21_Beam.fn x := by
 have h : evF G (lstK G tb_ref21_Beam) (bodyOf Tryz.f118) an_ref21_Beam 42 [.cell 2 104] fe_ref21_Beam.rs (argT G fe_ref21_Beam.ps x) = F0_ref21_Beam x.1 := by kernel_rfl
 rw [F0_ref21_Beam_eq] at h
 exact h
theorem ok_ref21_Beam : FnOk G 118 fe_ref21_Beam := fnOk_of G_ok (lstK_ok G_ok (lcons ok_ref21_Middle (lnil))) Tryz.func118 (by kernel_rfl) (by kernel_rfl) (by kernel_rfl) (by kernel_rfl) (by kernel_rfl) ev_ref21_Beam
end
end Go.Proofs.YtcaopooflemnlaaGreat
