/- Joined by merge.py: Fn3. -/
import Derived.Test.YtbamoboldhabjaaM06
/- Functions, as plain data. Printed by mkev.py. -/
namespace Go.Proofs.Ytbamoboldhabjaa
open Go.RowKit
set_option linter.unusedVariables false
set_option linter.unusedSimpArgs false
noncomputable section

def F_beam_divided (a : List Int) (b : List Int) : Option ((List Int)) :=
  (if 0 ≤ ((a.length : Nat) : Int) ∧ ((a.length : Nat) : Int) ≤ 16777216 then (iterF (σ := (List Int) × Int × List Int × Unit) (ρ := List Int × Unit) (fun s24 => (bif (decide (s24.2.1 ≥ 0)) then (F_beam_added s24.1 s24.1).bind fun r25 => ((idx a (IntKind.i64.wrap (s24.2.1.tdiv 32))).bind fun x26 => (if (s24.2.1.tmod 32) < 0 then none else (bif ((bitsOf .and .u32 (x26.fdiv (2 ^ min (Int.toNat (s24.2.1.tmod 32)) IntKind.u32.bits)) 1) == 1) then (F_beam_added r25 ([1] : List Int)).bind fun r27 => some (r27, ()) else some (r25, ()))) : Option ((List Int) × Unit)).bind fun y28 => (F_beam_compared y28.1 b).bind fun r29 => (bif (decide (r29 ≥ 0)) then (F_beam_taken y28.1 b).bind fun r30 => (idx s24.2.2.1 (IntKind.i64.wrap (s24.2.1.tdiv 32))).bind fun _x31 => (s24.2.2.1[(Int.toNat (IntKind.i64.wrap (s24.2.1.tdiv 32)))]?).bind fun x32 => (if (s24.2.1.tmod 32) < 0 then none else (idx s24.2.2.1 (IntKind.i64.wrap (s24.2.1.tdiv 32))).bind fun _x33 => (s24.2.2.1[(Int.toNat (IntKind.i64.wrap (s24.2.1.tdiv 32)))]?).bind fun x34 => some (.inl (r30, (IntKind.i64.wrap (s24.2.1 - 1)), (s24.2.2.1.set (Int.toNat (IntKind.i64.wrap (s24.2.1.tdiv 32))) (bitsOf .or .u32 x32 (IntKind.u32.wrap (1 * 2 ^ min (Int.toNat (s24.2.1.tmod 32)) IntKind.u32.bits)))), ()))) else some (.inl (y28.1, (IntKind.i64.wrap (s24.2.1 - 1)), s24.2.2.1, ()))) else some (.inr (s24.2.2.1, ())))) big (([] : List Int), (IntKind.i64.wrap ((IntKind.i64.wrap (32 * ((a.length : Nat) : Int))) - 1)), (List.replicate (Int.toNat ((a.length : Nat) : Int)) (0 : Int)), ())).bind fun y35 => (F_beam_trimmed y35.1).bind fun r36 => some r36 else none)
def an_beam_divided : An U := (.node none .nil (.node none .nil (.node none .nil (.node none (.node none .nil (.node (some ⟨[], [2], ⟨[], []⟩, []⟩) (.node (some ⟨[0, 1, 4, 5], [1], ⟨[(6, .tv .l_u32), (7, .tv .int)], [(1, .row .u32)]⟩, [(.exit 0, ⟨[], [(1, .row .u32)]⟩)]⟩) (.node none .nil (.node none (.node none (.node none .nil (.node (some ⟨[7], [], ⟨[], []⟩, [(.normal, ⟨[(6, .tv .l_u32)], []⟩)]⟩) .nil .nil)) .nil) .nil)) .nil) .nil)) .nil))))
def fe_beam_divided : Fe G := ⟨[.v .l_u32, .v .l_u32], [.l_u32], fun x => F_beam_divided x.1 x.2.1⟩
def tb_beam_divided : List (FuncId × Fe G) := [(125, fe_beam_trimmed), (128, fe_beam_added), (129, fe_beam_compared), (130, fe_beam_taken)]
theorem ev_beam_divided (x : TyP G fe_beam_divided.ps) : evZ G (lstK G tb_beam_divided) (bodyOf Try.f127) an_beam_divided 54 [.tmp 4] fe_beam_divided.rs (argT G fe_beam_divided.ps x) = fe_beam_divided.fn x := by kernel_rfl
theorem ok_beam_divided : FnOk G 127 fe_beam_divided := fnOkz_of G_ok (fun _ => lstK_ok G_ok (lcons ok_beam_trimmed (lcons ok_beam_added (lcons ok_beam_compared (lcons ok_beam_taken (lnil)))))) Try.func127 (by kernel_rfl) (by kernel_rfl) (by kernel_rfl) (by kernel_rfl) (by kernel_rfl) ev_beam_divided

def F_beam_Valid (b : TBeam) : Option (Bool) :=
  ((F_decimal_IsName b.name).bind fun r2 => (bif (!r2) then some (true, ()) else (bif (decide (b.length < 1)) then some (true, ()) else (bif (decide (b.length > 1048576)) then some (true, ()) else (bif (decide (b.even < 0)) then some (true, ()) else (bif (decide (b.even > 1048576)) then some (true, ()) else (bif (decide (((b.supports.length : Nat) : Int) < 1)) then some (true, ()) else (bif (decide (((b.supports.length : Nat) : Int) > 10)) then some (true, ()) else some ((decide (((b.loads.length : Nat) : Int) > 40)), ())))))))) : Option (Bool × Unit)).bind fun y3 => (bif y3.1 then some false else (iterF (σ := Int × Unit) (ρ := (Bool × Unit) ⊕ (Unit)) (fun s8 => (bif (decide (s8.1 < ((b.supports.length : Nat) : Int))) then (idx b.supports s8.1).bind fun x9 => ((bif (decide (x9 < 0)) then some (true, ()) else (bif (decide (x9 > b.length)) then some (true, ()) else (bif (decide (s8.1 > 0)) then (idx b.supports (IntKind.i64.wrap (s8.1 - 1))).bind fun x10 => some ((decide (x9 ≤ x10)), ()) else some (false, ())))) : Option (Bool × Unit)).bind fun y11 => (bif y11.1 then some (.inr (.inl (false, ()))) else some (.inl ((IntKind.i64.wrap (s8.1 + 1)), ()))) else some (.inr (.inr ((())))))) big (0, ())).bind fun y12 => (match y12 with | .inl y13 => some y13.1 | .inr y14 => (F_slices_ContainsFunc_api_Load b.loads (fun z16 => F_beam_Valid_1 z16 b)).bind fun r17 => some (!r17)))
def an_beam_Valid : An U := (.node none .nil (.node none (.node (some ⟨[1, 2], [], ⟨[], []⟩, [(.normal, ⟨[(46, .tv .bool)], []⟩)]⟩) .nil .nil) (.node none (.node none .nil (.node none (.node (some ⟨[1, 48, 49], [], ⟨[(50, .tv .int)], []⟩, [(.ret, ⟨[(2, .tv .bool)], []⟩), (.exit 0, ⟨[], []⟩)]⟩) (.node none .nil (.node none .nil (.node none (.node none (.node none .nil (.node (some ⟨[50], [], ⟨[], []⟩, [(.normal, ⟨[(76, .tv .bool)], []⟩)]⟩) .nil .nil)) .nil) .nil))) .nil) .nil)) .nil)))
def fe_beam_Valid : Fe G := ⟨[.v .Beam], [.bool], fun x => F_beam_Valid x.1⟩
def tb_beam_Valid : List (FuncId × Fe G) := [(41, fe_decimal_IsName), (42, fe_slices_ContainsFunc_api_Load), (43, fe_beam_Valid_1)]
theorem ev_beam_Valid (x : TyP G fe_beam_Valid.ps) : evF G (lstK G tb_beam_Valid) (bodyOf Try.f14) an_beam_Valid 83 [.tmp 2] fe_beam_Valid.rs (argT G fe_beam_Valid.ps x) = fe_beam_Valid.fn x := by kernel_rfl
theorem ok_beam_Valid : FnOk G 14 fe_beam_Valid := fnOk_of G_ok (lstK_ok G_ok (lcons ok_decimal_IsName (lcons ok_slices_ContainsFunc_api_Load (lcons ok_beam_Valid_1 (lnil))))) Try.func14 (by kernel_rfl) (by kernel_rfl) (by kernel_rfl) (by kernel_rfl) (by kernel_rfl) ev_beam_Valid

def F_ref20_Valid (b : TBeam) : Option (Bool) :=
  ((F_ref01_IsName b.name).bind fun r2 => (bif (!r2) then some (true, ()) else (bif (decide (b.length < 1)) then some (true, ()) else (bif (decide (b.length > 1048576)) then some (true, ()) else (bif (decide (b.even < 0)) then some (true, ()) else some ((decide (b.even > 1048576)), ()))))) : Option (Bool × Unit)).bind fun y3 => (bif y3.1 then some false else ((bif (decide (((b.supports.length : Nat) : Int) < 1)) then some (true, ()) else (bif (decide (((b.supports.length : Nat) : Int) > 10)) then some (true, ()) else some ((decide (((b.loads.length : Nat) : Int) > 40)), ()))) : Option (Bool × Unit)).bind fun y4 => (bif y4.1 then some false else (iterF (σ := Int × Unit) (ρ := (Bool × Unit) ⊕ (Unit)) (fun s14 => (bif (decide (s14.1 < ((b.supports.length : Nat) : Int))) then ((idx b.supports s14.1).bind fun x15 => (bif (decide (x15 < 0)) then some (true, ()) else (idx b.supports s14.1).bind fun x16 => (bif (decide (x16 > b.length)) then some (true, ()) else (bif (decide (s14.1 > 0)) then (idx b.supports s14.1).bind fun x17 => (idx b.supports (IntKind.i64.wrap (s14.1 - 1))).bind fun x18 => some ((decide (x17 ≤ x18)), ()) else some (false, ())))) : Option (Bool × Unit)).bind fun y19 => (bif y19.1 then some (.inr (.inl (false, ()))) else some (.inl ((IntKind.i64.wrap (s14.1 + 1)), ()))) else some (.inr (.inr ((())))))) big (0, ())).bind fun y20 => (match y20 with | .inl y21 => some y21.1 | .inr y22 => (iterF (σ := Int × Unit) (ρ := (Bool × Unit) ⊕ (Unit)) (fun s25 => (bif (decide (s25.1 < ((b.loads.length : Nat) : Int))) then (idx b.loads s25.1).bind fun x26 => ((bif (decide (x26.at_ < 0)) then some (true, ()) else (bif (decide (x26.at_ > b.length)) then some (true, ()) else (bif (decide (x26.weight < 0)) then some (true, ()) else some ((decide (x26.weight > 67108864)), ())))) : Option (Bool × Unit)).bind fun y27 => (bif y27.1 then some (.inr (.inl (false, ()))) else some (.inl ((IntKind.i64.wrap (s25.1 + 1)), ()))) else some (.inr (.inr ((())))))) big (0, ())).bind fun y28 => (match y28 with | .inl y29 => some y29.1 | .inr y30 => some true))))
def an_ref20_Valid : An U := (.node none .nil (.node none (.node (some ⟨[1, 2], [], ⟨[], []⟩, [(.normal, ⟨[(29, .tv .bool)], []⟩)]⟩) .nil .nil) (.node none (.node (some ⟨[1, 2], [], ⟨[], []⟩, [(.normal, ⟨[(45, .tv .bool)], []⟩)]⟩) .nil .nil) (.node none (.node none .nil (.node none (.node (some ⟨[1], [], ⟨[(3, .tv .int)], []⟩, [(.ret, ⟨[(2, .tv .bool)], []⟩), (.exit 0, ⟨[], []⟩)]⟩) (.node none .nil (.node none (.node none (.node (some ⟨[3], [], ⟨[], []⟩, [(.normal, ⟨[(86, .tv .bool)], []⟩)]⟩) .nil .nil) .nil) .nil)) .nil) .nil)) (.node none (.node none .nil (.node none (.node (some ⟨[1], [], ⟨[(4, .tv .int)], []⟩, [(.ret, ⟨[(2, .tv .bool)], []⟩), (.exit 2, ⟨[], []⟩)]⟩) (.node none .nil (.node none (.node none (.node none .nil (.node (some ⟨[4], [], ⟨[], []⟩, [(.normal, ⟨[(118, .tv .bool)], []⟩)]⟩) .nil .nil)) .nil) .nil)) .nil) .nil)) .nil)))))
def fe_ref20_Valid : Fe G := ⟨[.v .Beam], [.bool], fun x => F_ref20_Valid x.1⟩
def tb_ref20_Valid : List (FuncId × Fe G) := [(44, fe_ref01_IsName)]
theorem ev_ref20_Valid (x : TyP G fe_ref20_Valid.ps) : evF G (lstK G tb_ref20_Valid) (bodyOf Try.f15) an_ref20_Valid 119 [.tmp 2] fe_ref20_Valid.rs (argT G fe_ref20_Valid.ps x) = fe_ref20_Valid.fn x := by kernel_rfl
theorem ok_ref20_Valid : FnOk G 15 fe_ref20_Valid := fnOk_of G_ok (lstK_ok G_ok (lcons ok_ref01_IsName (lnil))) Try.func15 (by kernel_rfl) (by kernel_rfl) (by kernel_rfl) (by kernel_rfl) (by kernel_rfl) ev_ref20_Valid

def F_ref02_Make (num : Int) (den : Int) : Option (TFrac × Int) :=
  (F_ref02_Size num).bind fun r1 => (F_ref02_Size den).bind fun r2 => (F_ref02_Made (TU.mk 0 r1) (!((decide (num < 0)) == (decide (den < 0)))) (TU.mk 0 r2)).bind fun r3 => some (r3.1, r3.2)
def an_ref02_Make : An U := .nil
def fe_ref02_Make : Fe G := ⟨[.v .int1, .v .int1], [.Frac, .int1], fun x => F_ref02_Make x.1 x.2.1⟩
def tb_ref02_Make : List (FuncId × Fe G) := [(82, fe_ref02_Made), (83, fe_ref02_Size)]
theorem ev_ref02_Make (x : TyP G fe_ref02_Make.ps) : evF G (lstK G tb_ref02_Make) (bodyOf Try.f36) an_ref02_Make 20 [.cell 4 39, .tmp 5] fe_ref02_Make.rs (argT G fe_ref02_Make.ps x) = fe_ref02_Make.fn x := by kernel_rfl
theorem ok_ref02_Make : FnOk G 36 fe_ref02_Make := fnOk_of G_ok (lstK_ok G_ok (lcons ok_ref02_Made (lcons ok_ref02_Size (lnil)))) Try.func36 (by kernel_rfl) (by kernel_rfl) (by kernel_rfl) (by kernel_rfl) (by kernel_rfl) ev_ref02_Make

def F_ref20_zero : Option (TExact) :=
  (F_ref20_part ([0] : List Int) 1).bind fun r1 => some r1
def an_ref20_zero : An U := .nil
def fe_ref20_zero : Fe G := ⟨[], [.Exact], fun x => F_ref20_zero⟩
def tb_ref20_zero : List (FuncId × Fe G) := [(55, fe_ref20_part)]
theorem ev0_ref20_zero (F_ref20_part : (List Int) → (Int) → Option (TExact)) : evZ G (lstK G [(55, ⟨[.v .l_int1, .v .int1], [.Exact], fun x => F_ref20_part x.1 x.2.1⟩)]) (bodyOf Try.f48) an_ref20_zero 3 [.cell 0 57] [.Exact] [] = ((F_ref20_part ([0] : List Int) 1).bind fun r1 => some r1 : Option (TExact)) := by kernel_rfl
theorem ev_ref20_zero (x : TyP G fe_ref20_zero.ps) : evZ G (lstK G tb_ref20_zero) (bodyOf Try.f48) an_ref20_zero 3 [.cell 0 57] fe_ref20_zero.rs (argT G fe_ref20_zero.ps x) = fe_ref20_zero.fn x := ev0_ref20_zero F_ref20_part
theorem ok_ref20_zero : FnOk G 48 fe_ref20_zero := fnOkz_of G_ok (fun _ => lstK_ok G_ok (lcons ok_ref20_part (lnil))) Try.func48 (by kernel_rfl) (by kernel_rfl) (by kernel_rfl) (by kernel_rfl) (by kernel_rfl) ev_ref20_zero

def F_ref08_Lower (a : TExact) : Option (TExact) :=
  (bif (((a.n.d.length : Nat) : Int) == 0) then (F_ref08_Int 0).bind fun r1 => (F_ref08_Int 1).bind fun r2 => some (TExact.mk r1 r2) else (F_ref08_Gcd a.n.d a.d.d).bind fun r3 => (F_ref08_Quotient a.n.d r3).bind fun r4 => (F_ref08_Quotient a.d.d r3).bind fun r5 => some (TExact.mk (TBig.mk a.n.neg r4) (TBig.mk false r5)))
def an_ref08_Lower : An U := .nil
def fe_ref08_Lower : Fe G := ⟨[.v .Exact], [.Exact], fun x => F_ref08_Lower x.1⟩
def tb_ref08_Lower : List (FuncId × Fe G) := [(93, fe_ref08_Int), (96, fe_ref08_Gcd), (97, fe_ref08_Quotient)]
theorem ev_ref08_Lower (x : TyP G fe_ref08_Lower.ps) : evZ G (lstK G tb_ref08_Lower) (bodyOf Try.f51) an_ref08_Lower 35 [.cell 2 57] fe_ref08_Lower.rs (argT G fe_ref08_Lower.ps x) = fe_ref08_Lower.fn x := by kernel_rfl
theorem ok_ref08_Lower : FnOk G 51 fe_ref08_Lower := fnOkz_of G_ok (fun _ => lstK_ok G_ok (lcons ok_ref08_Int (lcons ok_ref08_Gcd (lcons ok_ref08_Quotient (lnil))))) Try.func51 (by kernel_rfl) (by kernel_rfl) (by kernel_rfl) (by kernel_rfl) (by kernel_rfl) ev_ref08_Lower

def F_ref08_Plus (a : TExact) (b : TExact) : Option (TExact) :=
  (F_ref08_Product a.n b.d).bind fun r1 => (F_ref08_Product b.n a.d).bind fun r2 => (F_ref08_Sum r1 r2).bind fun r3 => (F_ref08_Product a.d b.d).bind fun r4 => some (TExact.mk r3 r4)
def an_ref08_Plus : An U := .nil
def fe_ref08_Plus : Fe G := ⟨[.v .Exact, .v .Exact], [.Exact], fun x => F_ref08_Plus x.1 x.2.1⟩
def tb_ref08_Plus : List (FuncId × Fe G) := [(98, fe_ref08_Sum), (99, fe_ref08_Product)]
theorem ev_ref08_Plus (x : TyP G fe_ref08_Plus.ps) : evZ G (lstK G tb_ref08_Plus) (bodyOf Try.f52) an_ref08_Plus 22 [.cell 4 57] fe_ref08_Plus.rs (argT G fe_ref08_Plus.ps x) = fe_ref08_Plus.fn x := by kernel_rfl
theorem ok_ref08_Plus : FnOk G 52 fe_ref08_Plus := fnOkz_of G_ok (fun _ => lstK_ok G_ok (lcons ok_ref08_Sum (lcons ok_ref08_Product (lnil)))) Try.func52 (by kernel_rfl) (by kernel_rfl) (by kernel_rfl) (by kernel_rfl) (by kernel_rfl) ev_ref08_Plus

def F_ref02_All (l : List TFrac) : Option (Bool) :=
  (iterF (σ := Int × Unit) (ρ := (Bool × Unit) ⊕ (Unit)) (fun s3 => (bif (decide (s3.1 < ((l.length : Nat) : Int))) then (idx l s3.1).bind fun x4 => (F_ref02_Valid x4).bind fun r5 => (bif (!r5) then some (.inr (.inl (false, ()))) else some (.inl ((IntKind.i64.wrap (s3.1 + 1)), ()))) else some (.inr (.inr ((())))))) big (0, ())).bind fun y6 => (match y6 with | .inl y7 => some y7.1 | .inr y8 => some true)
def an_ref02_All : An U := (.node none .nil (.node none (.node none .nil (.node none (.node (some ⟨[0], [], ⟨[(3, .tv .int)], []⟩, [(.ret, ⟨[(2, .tv .bool)], []⟩), (.exit 0, ⟨[], []⟩)]⟩) .nil .nil) .nil)) .nil))
def fe_ref02_All : Fe G := ⟨[.v .l_Frac], [.bool], fun x => F_ref02_All x.1⟩
def tb_ref02_All : List (FuncId × Fe G) := [(106, fe_ref02_Valid)]
theorem ev_ref02_All (x : TyP G fe_ref02_All.ps) : evF G (lstK G tb_ref02_All) (bodyOf Try.f67) an_ref02_All 16 [.tmp 2] fe_ref02_All.rs (argT G fe_ref02_All.ps x) = fe_ref02_All.fn x := by kernel_rfl
theorem ok_ref02_All : FnOk G 67 fe_ref02_All := fnOk_of G_ok (lstK_ok G_ok (lcons ok_ref02_Valid (lnil))) Try.func67 (by kernel_rfl) (by kernel_rfl) (by kernel_rfl) (by kernel_rfl) (by kernel_rfl) ev_ref02_All

def F_ratio_over (a : Twide) (b : Int) : Option (Twide × Int) :=
  (if b = 0 then none else (F_math_bits_Div64 (a.hi.tmod b) a.lo b).bind fun r1 => (if b = 0 then none else some ((Twide.mk (IntKind.u64.wrap (a.hi.tdiv b)) r1.1), r1.2)))
def an_ratio_over : An U := .nil
def fe_ratio_over : Fe G := ⟨[.v .wide, .v .u64], [.wide, .u64], fun x => F_ratio_over x.1 x.2.1⟩
def tb_ratio_over : List (FuncId × Fe G) := [(112, fe_math_bits_Div64)]
theorem ev_ratio_over (x : TyP G fe_ratio_over.ps) : evF G (lstK G tb_ratio_over) (bodyOf Try.f80) an_ratio_over 26 [.cell 4 105, .tmp 5] fe_ratio_over.rs (argT G fe_ratio_over.ps x) = fe_ratio_over.fn x := by kernel_rfl
theorem ok_ratio_over : FnOk G 80 fe_ratio_over := fnOk_of G_ok (lstK_ok G_ok (lcons ok_math_bits_Div64 (lnil))) Try.func80 (by kernel_rfl) (by kernel_rfl) (by kernel_rfl) (by kernel_rfl) (by kernel_rfl) ev_ratio_over

def F_beam_lowest (n : Tnumber) (d : Tnumber) : Option (Texact) :=
  (F_beam_number__sign n).bind fun r1 => (bif (r1 == 0) then (F_beam_whole 0).bind fun r2 => some r2 else ((bif d.neg then (F_beam_number__opposite n).bind fun r9 => (F_beam_number__opposite d).bind fun r10 => some (r9, r10, ()) else some (n, d, ())) : Option (Tnumber × Tnumber × Unit)).bind fun y11 => (F_beam_common y11.1.words y11.2.1.words).bind fun r12 => (F_beam_divided y11.1.words r12).bind fun r13 => (F_beam_divided y11.2.1.words r12).bind fun r14 => some (Texact.mk (Tnumber.mk y11.1.neg r13) (Tnumber.mk false r14)))
def an_beam_lowest : An U := (.node none .nil (.node none .nil (.node (some ⟨[2, 3, 4], [0, 1], ⟨[], []⟩, [(.normal, ⟨[], [(0, .bx .number []), (1, .bx .number [])]⟩)]⟩) .nil .nil)))
def fe_beam_lowest : Fe G := ⟨[.v .number, .v .number], [.exact], fun x => F_beam_lowest x.1 x.2.1⟩
def tb_beam_lowest : List (FuncId × Fe G) := [(62, fe_beam_whole), (66, fe_beam_number__sign), (105, fe_beam_number__opposite), (126, fe_beam_common), (127, fe_beam_divided)]
theorem ev_beam_lowest (x : TyP G fe_beam_lowest.ps) : evZ G (lstK G tb_beam_lowest) (bodyOf Try.f103) an_beam_lowest 34 [.cell 4 90] fe_beam_lowest.rs (argT G fe_beam_lowest.ps x) = fe_beam_lowest.fn x := by kernel_rfl
theorem ok_beam_lowest : FnOk G 103 fe_beam_lowest := fnOkz_of G_ok (fun _ => lstK_ok G_ok (lcons ok_beam_whole (lcons ok_beam_number__sign (lcons ok_beam_number__opposite (lcons ok_beam_common (lcons ok_beam_divided (lnil))))))) Try.func103 (by kernel_rfl) (by kernel_rfl) (by kernel_rfl) (by kernel_rfl) (by kernel_rfl) ev_beam_lowest

def F_beam_Turned (b : TBeam) : Option (TBeam × Int) :=
  (F_beam_Valid b).bind fun r1 => (bif (!r1) then some ((TBeam.mk (⟨#[]⟩ : ByteArray) 0 ([] : List Int) ([] : List TLoad) 0), 1) else (F_beam_turned b).bind fun r2 => some (r2, 0))
def an_beam_Turned : An U := .nil
def fe_beam_Turned : Fe G := ⟨[.v .Beam], [.Beam, .Errno], fun x => F_beam_Turned x.1⟩
def tb_beam_Turned : List (FuncId × Fe G) := [(14, fe_beam_Valid), (71, fe_beam_turned)]
theorem ev_beam_Turned (x : TyP G fe_beam_Turned.ps) : evF G (lstK G tb_beam_Turned) (bodyOf Try.f23) an_beam_Turned 10 [.cell 2 25, .tmp 3] fe_beam_Turned.rs (argT G fe_beam_Turned.ps x) = fe_beam_Turned.fn x := by kernel_rfl
theorem ok_beam_Turned : FnOk G 23 fe_beam_Turned := fnOk_of G_ok (lstK_ok G_ok (lcons ok_beam_Valid (lcons ok_beam_turned (lnil)))) Try.func23 (by kernel_rfl) (by kernel_rfl) (by kernel_rfl) (by kernel_rfl) (by kernel_rfl) ev_beam_Turned

def F_ratio_Add (a : TFrac) (b : TFrac) : Option (TFrac × Int) :=
  ((F_ratio_Valid a).bind fun r3 => (bif (!r3) then some (true, ()) else (F_ratio_Valid b).bind fun r4 => some ((!r4), ())) : Option (Bool × Unit)).bind fun y5 => (bif y5.1 then some ((TFrac.mk 0 0), 1) else (F_ratio_gcd (IntKind.u64.wrap a.den) (IntKind.u64.wrap b.den)).bind fun r6 => (if r6 = 0 then none else (if r6 = 0 then none else (F_ratio_size a.num).bind fun r7 => (F_ratio_product r7 (IntKind.u64.wrap ((IntKind.u64.wrap b.den).tdiv r6))).bind fun r8 => (F_ratio_size b.num).bind fun r9 => (F_ratio_product r9 (IntKind.u64.wrap ((IntKind.u64.wrap a.den).tdiv r6))).bind fun r10 => ((bif ((decide (a.num < 0)) == (decide (b.num < 0))) then (F_ratio_plus r8 r10).bind fun r16 => some ((decide (a.num < 0)), r16, ()) else (F_ratio_less r8 r10).bind fun r17 => (bif r17 then (F_ratio_minus r10 r8).bind fun r18 => some ((!(decide (a.num < 0))), r18, ()) else (F_ratio_minus r8 r10).bind fun r19 => some ((decide (a.num < 0)), r19, ()))) : Option (Bool × Twide × Unit)).bind fun y20 => (bif ((y20.2.1.hi == 0) && (y20.2.1.lo == 0)) then some ((TFrac.mk 0 1), 0) else (F_ratio_over y20.2.1 r6).bind fun r21 => (F_ratio_gcd r6 r21.2).bind fun r22 => (F_ratio_over y20.2.1 r22).bind fun r23 => (if r6 = 0 then none else (if r22 = 0 then none else (F_ratio_product (IntKind.u64.wrap ((IntKind.u64.wrap a.den).tdiv r6)) (IntKind.u64.wrap ((IntKind.u64.wrap b.den).tdiv r22))).bind fun r24 => ((bif (decide (r23.1.hi > 0)) then some (true, ()) else some ((decide (r24.hi > 0)), ())) : Option (Bool × Unit)).bind fun y25 => (bif y25.1 then some ((TFrac.mk 0 0), 5) else (F_ratio_signed y20.1 r23.1.lo r24.lo).bind fun r26 => some (r26.1, r26.2))))))))
def an_ratio_Add : An U := (.node none .nil (.node none (.node (some ⟨[2, 3, 4, 5], [], ⟨[], []⟩, [(.normal, ⟨[(22, .tv .bool)], []⟩)]⟩) .nil .nil) (.node none .nil (.node none .nil (.node none .nil (.node (some ⟨[2, 3, 4, 5, 6, 10], [5], ⟨[], []⟩, [(.normal, ⟨[(9, .tv .bool)], [(5, .bx .wide [])]⟩)]⟩) .nil (.node none .nil (.node none .nil (.node none .nil (.node none .nil (.node none .nil (.node none (.node (some ⟨[4, 5, 9, 10, 14], [], ⟨[], []⟩, [(.normal, ⟨[(113, .tv .bool)], []⟩)]⟩) .nil .nil) .nil))))))))))))
def fe_ratio_Add : Fe G := ⟨[.v .Frac, .v .Frac], [.Frac, .Errno], fun x => F_ratio_Add x.1 x.2.1⟩
def tb_ratio_Add : List (FuncId × Fe G) := [(59, fe_ratio_Valid), (74, fe_ratio_gcd), (75, fe_ratio_product), (76, fe_ratio_size), (77, fe_ratio_plus), (78, fe_ratio_less), (79, fe_ratio_minus), (80, fe_ratio_over), (81, fe_ratio_signed)]
theorem ev_ratio_Add (x : TyP G fe_ratio_Add.ps) : evF G (lstK G tb_ratio_Add) (bodyOf Try.f32) an_ratio_Add 123 [.cell 4 39, .tmp 5] fe_ratio_Add.rs (argT G fe_ratio_Add.ps x) = fe_ratio_Add.fn x := by kernel_rfl
theorem ok_ratio_Add : FnOk G 32 fe_ratio_Add := fnOk_of G_ok (lstK_ok G_ok (lcons ok_ratio_Valid (lcons ok_ratio_gcd (lcons ok_ratio_product (lcons ok_ratio_size (lcons ok_ratio_plus (lcons ok_ratio_less (lcons ok_ratio_minus (lcons ok_ratio_over (lcons ok_ratio_signed (lnil))))))))))) Try.func32 (by kernel_rfl) (by kernel_rfl) (by kernel_rfl) (by kernel_rfl) (by kernel_rfl) ev_ratio_Add

def F_ref08_Fraction (a : TExact) : Option (TFrac × Int) :=
  (F_ref08_Lower a).bind fun r1 => (F_ref08_Int 1152921504606846976).bind fun r2 => ((F_ref08_larger r1.n.d r2.d).bind fun r5 => (bif r5 then some (true, ()) else (F_ref08_larger r1.d.d r2.d).bind fun r6 => some (r6, ())) : Option (Bool × Unit)).bind fun y7 => (bif y7.1 then some ((TFrac.mk 0 0), 5) else (iterF (σ := Int × TFrac × Unit) (ρ := TFrac × Unit) (fun s10 => (bif (decide (s10.1 ≥ 0)) then (idx r1.n.d s10.1).bind fun x11 => some (.inl ((IntKind.i64.wrap (s10.1 - 1)), (TFrac.mk (IntKind.i64.wrap ((IntKind.i64.wrap (16777216 * s10.2.1.num)) + x11)) s10.2.1.den), ())) else some (.inr (s10.2.1, ())))) big ((IntKind.i64.wrap (((r1.n.d.length : Nat) : Int) - 1)), (TFrac.mk 0 0), ())).bind fun y12 => (iterF (σ := Int × TFrac × Unit) (ρ := TFrac × Unit) (fun s15 => (bif (decide (s15.1 ≥ 0)) then (idx r1.d.d s15.1).bind fun x16 => some (.inl ((IntKind.i64.wrap (s15.1 - 1)), (TFrac.mk s15.2.1.num (IntKind.i64.wrap ((IntKind.i64.wrap (16777216 * s15.2.1.den)) + x16))), ())) else some (.inr (s15.2.1, ())))) big ((IntKind.i64.wrap (((r1.d.d.length : Nat) : Int) - 1)), y12.1, ())).bind fun y17 => ((bif r1.n.neg then some ((TFrac.mk (IntKind.i64.wrap (0 - y17.1.num)) y17.1.den), ()) else some (y17.1, ())) : Option (TFrac × Unit)).bind fun y18 => some (y18.1, 0))
def an_ref08_Fraction : An U := (.node none .nil (.node none .nil (.node none .nil (.node none (.node (some ⟨[2, 3, 4], [], ⟨[], []⟩, [(.normal, ⟨[(25, .tv .bool)], []⟩)]⟩) .nil .nil) (.node none .nil (.node none (.node none .nil (.node none (.node (some ⟨[2, 3, 4, 6], [4], ⟨[(7, .tv .int)], [(4, .bx .Frac [])]⟩, [(.exit 0, ⟨[], [(4, .bx .Frac [])]⟩)]⟩) .nil .nil) .nil)) (.node none (.node none .nil (.node none (.node (some ⟨[2, 3, 4, 6], [4], ⟨[(8, .tv .int)], [(4, .bx .Frac [])]⟩, [(.exit 2, ⟨[], [(4, .bx .Frac [])]⟩)]⟩) .nil .nil) .nil)) (.node (some ⟨[2, 3, 6], [4], ⟨[], []⟩, [(.normal, ⟨[], [(4, .bx .Frac [])]⟩)]⟩) .nil .nil))))))))
def fe_ref08_Fraction : Fe G := ⟨[.v .Exact], [.Frac, .int1], fun x => F_ref08_Fraction x.1⟩
def tb_ref08_Fraction : List (FuncId × Fe G) := [(51, fe_ref08_Lower), (93, fe_ref08_Int), (94, fe_ref08_larger)]
theorem ev_ref08_Fraction (x : TyP G fe_ref08_Fraction.ps) : evF G (lstK G tb_ref08_Fraction) (bodyOf Try.f46) an_ref08_Fraction 75 [.cell 2 39, .tmp 3] fe_ref08_Fraction.rs (argT G fe_ref08_Fraction.ps x) = fe_ref08_Fraction.fn x := by kernel_rfl
theorem ok_ref08_Fraction : FnOk G 46 fe_ref08_Fraction := fnOk_of G_ok (lstK_ok G_ok (lcons ok_ref08_Lower (lcons ok_ref08_Int (lcons ok_ref08_larger (lnil))))) Try.func46 (by kernel_rfl) (by kernel_rfl) (by kernel_rfl) (by kernel_rfl) (by kernel_rfl) ev_ref08_Fraction

def F_ref08_Less (a : TExact) (b : TExact) : Option (TExact) :=
  (F_ref08_Neg b.n).bind fun r1 => (F_ref08_Plus a (TExact.mk r1 b.d)).bind fun r2 => some r2
def an_ref08_Less : An U := .nil
def fe_ref08_Less : Fe G := ⟨[.v .Exact, .v .Exact], [.Exact], fun x => F_ref08_Less x.1 x.2.1⟩
def tb_ref08_Less : List (FuncId × Fe G) := [(52, fe_ref08_Plus), (95, fe_ref08_Neg)]
theorem ev_ref08_Less (x : TyP G fe_ref08_Less.ps) : evZ G (lstK G tb_ref08_Less) (bodyOf Try.f47) an_ref08_Less 13 [.cell 4 57] fe_ref08_Less.rs (argT G fe_ref08_Less.ps x) = fe_ref08_Less.fn x := by kernel_rfl
theorem ok_ref08_Less : FnOk G 47 fe_ref08_Less := fnOkz_of G_ok (fun _ => lstK_ok G_ok (lcons ok_ref08_Plus (lcons ok_ref08_Neg (lnil)))) Try.func47 (by kernel_rfl) (by kernel_rfl) (by kernel_rfl) (by kernel_rfl) (by kernel_rfl) ev_ref08_Less

def F_ref20_Left (b : TBeam) (at_ : Int) : Option (TExact) :=
  (F_ref20_part ([b.even, at_, at_] : List Int) 2000).bind fun r1 => (iterF (σ := Int × TExact × Unit) (ρ := TExact × Unit) (fun s23 => (bif (decide (s23.1 < ((b.loads.length : Nat) : Int))) then ((idx b.loads s23.1).bind fun x24 => (bif (decide (x24.at_ < at_)) then (idx b.loads s23.1).bind fun x25 => (idx b.loads s23.1).bind fun x26 => (F_ref20_part ([x25.weight, (IntKind.i64.wrap (at_ - x26.at_))] : List Int) 1).bind fun r27 => (F_ref08_Plus s23.2.1 r27).bind fun r28 => some (r28, ()) else some (s23.2.1, ())) : Option (TExact × Unit)).bind fun y29 => some (.inl ((IntKind.i64.wrap (s23.1 + 1)), y29.1, ())) else some (.inr (s23.2.1, ())))) big (0, r1, ())).bind fun y30 => some y30.1
def an_ref20_Left : An U := (.node none .nil (.node none .nil (.node none (.node none .nil (.node none (.node (some ⟨[1, 2, 4, 5], [3], ⟨[(6, .tv .int)], [(3, .bx .Exact [])]⟩, [(.exit 0, ⟨[], [(3, .bx .Exact [])]⟩)]⟩) (.node none .nil (.node (some ⟨[6], [3], ⟨[], []⟩, [(.normal, ⟨[], [(3, .bx .Exact [])]⟩)]⟩) .nil .nil)) .nil) .nil)) .nil)))
def fe_ref20_Left : Fe G := ⟨[.v .Beam, .v .int1], [.Exact], fun x => F_ref20_Left x.1 x.2.1⟩
def tb_ref20_Left : List (FuncId × Fe G) := [(52, fe_ref08_Plus), (55, fe_ref20_part)]
theorem ev_ref20_Left (x : TyP G fe_ref20_Left.ps) : evZ G (lstK G tb_ref20_Left) (bodyOf Try.f49) an_ref20_Left 47 [.cell 4 57] fe_ref20_Left.rs (argT G fe_ref20_Left.ps x) = fe_ref20_Left.fn x := by kernel_rfl
theorem ok_ref20_Left : FnOk G 49 fe_ref20_Left := fnOkz_of G_ok (fun _ => lstK_ok G_ok (lcons ok_ref08_Plus (lcons ok_ref20_part (lnil)))) Try.func49 (by kernel_rfl) (by kernel_rfl) (by kernel_rfl) (by kernel_rfl) (by kernel_rfl) ev_ref20_Left

def F_ref20_far (b : TBeam) (at_ : Int) (other : Int) : Option (TExact) :=
  ((bif (decide ((IntKind.i64.wrap (at_ - other)) < 0)) then some ((IntKind.i64.wrap (other - at_)), ()) else some ((IntKind.i64.wrap (at_ - other)), ())) : Option (Int × Unit)).bind fun y1 => (F_ref20_part ([b.even, y1.1, y1.1, y1.1] : List Int) 4000).bind fun r2 => (iterF (σ := Int × TExact × Unit) (ρ := TExact × Unit) (fun s35 => (bif (decide (s35.1 < ((b.loads.length : Nat) : Int))) then ((idx b.loads s35.1).bind fun x36 => ((bif (decide (at_ < other)) then (idx b.loads s35.1).bind fun x37 => some ((IntKind.i64.wrap (other - x37.at_)), ()) else some ((IntKind.i64.wrap (x36.at_ - other)), ())) : Option (Int × Unit)).bind fun y38 => ((bif (decide (y38.1 > 0)) then some ((decide (y38.1 < y1.1)), ()) else some (false, ())) : Option (Bool × Unit)).bind fun y39 => (bif y39.1 then (idx b.loads s35.1).bind fun x40 => (F_ref20_part ([x40.weight, y38.1, (IntKind.i64.wrap ((IntKind.i64.wrap (y1.1 * y1.1)) - (IntKind.i64.wrap (y38.1 * y38.1))))] : List Int) y1.1).bind fun r41 => (F_ref08_Plus s35.2.1 r41).bind fun r42 => some (r42, ()) else some (s35.2.1, ())) : Option (TExact × Unit)).bind fun y43 => some (.inl ((IntKind.i64.wrap (s35.1 + 1)), y43.1, ())) else some (.inr (s35.2.1, ())))) big (0, r2, ())).bind fun y44 => some y44.1
def an_ref20_far : An U := (.node none .nil (.node none .nil (.node (some ⟨[1, 2, 3, 6], [], ⟨[], []⟩, [(.normal, ⟨[(7, .tv .int)], []⟩)]⟩) .nil (.node none .nil (.node none (.node none .nil (.node none (.node (some ⟨[1, 2, 3, 6, 7, 8], [3], ⟨[(9, .tv .int)], [(3, .bx .Exact [])]⟩, [(.exit 0, ⟨[], [(3, .bx .Exact [])]⟩)]⟩) (.node none .nil (.node (some ⟨[9], [3], ⟨[], []⟩, [(.normal, ⟨[], [(3, .bx .Exact [])]⟩)]⟩) (.node none (.node none .nil (.node (some ⟨[], [], ⟨[], []⟩, [(.normal, ⟨[(10, .tv .int)], []⟩)]⟩) .nil (.node (some ⟨[10], [], ⟨[], []⟩, [(.normal, ⟨[(58, .tv .bool)], []⟩)]⟩) .nil .nil))) .nil) .nil)) .nil) .nil)) .nil)))))
def fe_ref20_far : Fe G := ⟨[.v .Beam, .v .int1, .v .int1], [.Exact], fun x => F_ref20_far x.1 x.2.1 x.2.2.1⟩
def tb_ref20_far : List (FuncId × Fe G) := [(52, fe_ref08_Plus), (55, fe_ref20_part)]
theorem ev_ref20_far (x : TyP G fe_ref20_far.ps) : evZ G (lstK G tb_ref20_far) (bodyOf Try.f53) an_ref20_far 79 [.cell 6 57] fe_ref20_far.rs (argT G fe_ref20_far.ps x) = fe_ref20_far.fn x := by kernel_rfl
theorem ok_ref20_far : FnOk G 53 fe_ref20_far := fnOkz_of G_ok (fun _ => lstK_ok G_ok (lcons ok_ref08_Plus (lcons ok_ref20_part (lnil)))) Try.func53 (by kernel_rfl) (by kernel_rfl) (by kernel_rfl) (by kernel_rfl) (by kernel_rfl) ev_ref20_far

def F_beam_product (by_ : Int) (l : List Int) : Option (Texact) :=
  (F_beam_integer 1).bind fun r1 => (iterF (σ := Int × Tnumber × Unit) (ρ := Tnumber × Unit) (fun s8 => (bif (decide (s8.1 < ((l.length : Nat) : Int))) then (idx l s8.1).bind fun x9 => (F_beam_integer x9).bind fun r10 => (F_beam_number__times s8.2.1 r10).bind fun r11 => some (.inl ((IntKind.i64.wrap (s8.1 + 1)), r11, ())) else some (.inr (s8.2.1, ())))) big (0, r1, ())).bind fun y12 => (F_beam_integer by_).bind fun r13 => (F_beam_lowest y12.1 r13).bind fun r14 => some r14
def an_beam_product : An U := (.node none .nil (.node none .nil (.node none (.node none .nil (.node none (.node (some ⟨[0, 4, 5, 9, 10], [1], ⟨[(11, .tv .int)], [(1, .bx .number [])]⟩, [(.exit 0, ⟨[], [(1, .bx .number [])]⟩)]⟩) .nil .nil) .nil)) .nil)))
def fe_beam_product : Fe G := ⟨[.v .int1, .v .l_int1], [.exact], fun x => F_beam_product x.1 x.2.1⟩
def tb_beam_product : List (FuncId × Fe G) := [(101, fe_beam_integer), (102, fe_beam_number__times), (103, fe_beam_lowest)]
theorem ev_beam_product (x : TyP G fe_beam_product.ps) : evZ G (lstK G tb_beam_product) (bodyOf Try.f60) an_beam_product 24 [.cell 4 90] fe_beam_product.rs (argT G fe_beam_product.ps x) = fe_beam_product.fn x := by kernel_rfl
theorem ok_beam_product : FnOk G 60 fe_beam_product := fnOkz_of G_ok (fun _ => lstK_ok G_ok (lcons ok_beam_integer (lcons ok_beam_number__times (lcons ok_beam_lowest (lnil))))) Try.func60 (by kernel_rfl) (by kernel_rfl) (by kernel_rfl) (by kernel_rfl) (by kernel_rfl) ev_beam_product

def F_beam_exact__plus (a : Texact) (b : Texact) : Option (Texact) :=
  (F_beam_number__times a.n b.d).bind fun r1 => (F_beam_number__times b.n a.d).bind fun r2 => (F_beam_number__plus r1 r2).bind fun r3 => (F_beam_number__times a.d b.d).bind fun r4 => (F_beam_lowest r3 r4).bind fun r5 => some r5
def an_beam_exact__plus : An U := .nil
def fe_beam_exact__plus : Fe G := ⟨[.v .exact, .v .exact], [.exact], fun x => F_beam_exact__plus x.1 x.2.1⟩
def tb_beam_exact__plus : List (FuncId × Fe G) := [(102, fe_beam_number__times), (103, fe_beam_lowest), (104, fe_beam_number__plus)]
theorem ev_beam_exact__plus (x : TyP G fe_beam_exact__plus.ps) : evZ G (lstK G tb_beam_exact__plus) (bodyOf Try.f61) an_beam_exact__plus 22 [.cell 4 90] fe_beam_exact__plus.rs (argT G fe_beam_exact__plus.ps x) = fe_beam_exact__plus.fn x := by kernel_rfl
theorem ok_beam_exact__plus : FnOk G 61 fe_beam_exact__plus := fnOkz_of G_ok (fun _ => lstK_ok G_ok (lcons ok_beam_number__times (lcons ok_beam_lowest (lcons ok_beam_number__plus (lnil))))) Try.func61 (by kernel_rfl) (by kernel_rfl) (by kernel_rfl) (by kernel_rfl) (by kernel_rfl) ev_beam_exact__plus

def F_beam_over (n : Int) (d : Int) : Option (Texact) :=
  (F_beam_integer n).bind fun r1 => (F_beam_integer d).bind fun r2 => (F_beam_lowest r1 r2).bind fun r3 => some r3
def an_beam_over : An U := .nil
def fe_beam_over : Fe G := ⟨[.v .int1, .v .int1], [.exact], fun x => F_beam_over x.1 x.2.1⟩
def tb_beam_over : List (FuncId × Fe G) := [(101, fe_beam_integer), (103, fe_beam_lowest)]
theorem ev_beam_over (x : TyP G fe_beam_over.ps) : evZ G (lstK G tb_beam_over) (bodyOf Try.f63) an_beam_over 10 [.cell 4 90] fe_beam_over.rs (argT G fe_beam_over.ps x) = fe_beam_over.fn x := by kernel_rfl
theorem ok_beam_over : FnOk G 63 fe_beam_over := fnOkz_of G_ok (fun _ => lstK_ok G_ok (lcons ok_beam_integer (lcons ok_beam_lowest (lnil)))) Try.func63 (by kernel_rfl) (by kernel_rfl) (by kernel_rfl) (by kernel_rfl) (by kernel_rfl) ev_beam_over

def F_beam_exact__times (a : Texact) (b : Texact) : Option (Texact) :=
  (F_beam_number__times a.n b.n).bind fun r1 => (F_beam_number__times a.d b.d).bind fun r2 => (F_beam_lowest r1 r2).bind fun r3 => some r3
def an_beam_exact__times : An U := .nil
def fe_beam_exact__times : Fe G := ⟨[.v .exact, .v .exact], [.exact], fun x => F_beam_exact__times x.1 x.2.1⟩
def tb_beam_exact__times : List (FuncId × Fe G) := [(102, fe_beam_number__times), (103, fe_beam_lowest)]
theorem ev_beam_exact__times (x : TyP G fe_beam_exact__times.ps) : evZ G (lstK G tb_beam_exact__times) (bodyOf Try.f65) an_beam_exact__times 16 [.cell 4 90] fe_beam_exact__times.rs (argT G fe_beam_exact__times.ps x) = fe_beam_exact__times.fn x := by kernel_rfl
theorem ok_beam_exact__times : FnOk G 65 fe_beam_exact__times := fnOkz_of G_ok (fun _ => lstK_ok G_ok (lcons ok_beam_number__times (lcons ok_beam_lowest (lnil)))) Try.func65 (by kernel_rfl) (by kernel_rfl) (by kernel_rfl) (by kernel_rfl) (by kernel_rfl) ev_beam_exact__times

def F_ref20_Weight (b : TBeam) : Option (TExact) :=
  (F_ref20_part ([b.even, b.length] : List Int) 1000).bind fun r1 => (iterF (σ := Int × TExact × Unit) (ρ := TExact × Unit) (fun s8 => (bif (decide (s8.1 < ((b.loads.length : Nat) : Int))) then (idx b.loads s8.1).bind fun x9 => (F_ref20_part ([x9.weight] : List Int) 1).bind fun r10 => (F_ref08_Plus s8.2.1 r10).bind fun r11 => some (.inl ((IntKind.i64.wrap (s8.1 + 1)), r11, ())) else some (.inr (s8.2.1, ())))) big (0, r1, ())).bind fun y12 => some y12.1
def an_ref20_Weight : An U := (.node none .nil (.node none .nil (.node none (.node none .nil (.node none (.node (some ⟨[1, 2, 3], [3], ⟨[(4, .tv .int)], [(3, .bx .Exact [])]⟩, [(.exit 0, ⟨[], [(3, .bx .Exact [])]⟩)]⟩) .nil .nil) .nil)) .nil)))
def fe_ref20_Weight : Fe G := ⟨[.v .Beam], [.Exact], fun x => F_ref20_Weight x.1⟩
def tb_ref20_Weight : List (FuncId × Fe G) := [(52, fe_ref08_Plus), (55, fe_ref20_part)]
theorem ev_ref20_Weight (x : TyP G fe_ref20_Weight.ps) : evZ G (lstK G tb_ref20_Weight) (bodyOf Try.f70) an_ref20_Weight 29 [.cell 2 57] fe_ref20_Weight.rs (argT G fe_ref20_Weight.ps x) = fe_ref20_Weight.fn x := by kernel_rfl
theorem ok_ref20_Weight : FnOk G 70 fe_ref20_Weight := fnOkz_of G_ok (fun _ => lstK_ok G_ok (lcons ok_ref08_Plus (lcons ok_ref20_part (lnil)))) Try.func70 (by kernel_rfl) (by kernel_rfl) (by kernel_rfl) (by kernel_rfl) (by kernel_rfl) ev_ref20_Weight

def F_beam_exact__by (a : Texact) (b : Texact) : Option (Texact) :=
  (F_beam_number__times a.n b.d).bind fun r1 => (F_beam_number__times a.d b.n).bind fun r2 => (F_beam_lowest r1 r2).bind fun r3 => some r3
def an_beam_exact__by : An U := .nil
def fe_beam_exact__by : Fe G := ⟨[.v .exact, .v .exact], [.exact], fun x => F_beam_exact__by x.1 x.2.1⟩
def tb_beam_exact__by : List (FuncId × Fe G) := [(102, fe_beam_number__times), (103, fe_beam_lowest)]
theorem ev_beam_exact__by (x : TyP G fe_beam_exact__by.ps) : evZ G (lstK G tb_beam_exact__by) (bodyOf Try.f86) an_beam_exact__by 16 [.cell 4 90] fe_beam_exact__by.rs (argT G fe_beam_exact__by.ps x) = fe_beam_exact__by.fn x := by kernel_rfl
theorem ok_beam_exact__by : FnOk G 86 fe_beam_exact__by := fnOkz_of G_ok (fun _ => lstK_ok G_ok (lcons ok_beam_number__times (lcons ok_beam_lowest (lnil)))) Try.func86 (by kernel_rfl) (by kernel_rfl) (by kernel_rfl) (by kernel_rfl) (by kernel_rfl) ev_beam_exact__by

def F_ref20_Told (l : List TExact) : Option ((List TFrac) × Int) :=
  (iterF (σ := Int × List TFrac × Unit) (ρ := (List TFrac × Int × List TFrac × Unit) ⊕ (List TFrac × Unit)) (fun s5 => (bif (decide (s5.1 < ((l.length : Nat) : Int))) then (idx l s5.1).bind fun x6 => (F_ref08_Fraction x6).bind fun r7 => (bif (r7.2 != 0) then some (.inr (.inl (([] : List TFrac), r7.2, s5.2.1, ()))) else (if s5.2.1.length + ([r7.1] : List TFrac).length ≤ 2147483648 then some (.inl ((IntKind.i64.wrap (s5.1 + 1)), (s5.2.1 ++ ([r7.1] : List TFrac)), ())) else none)) else some (.inr (.inr ((s5.2.1, ())))))) big (0, ([] : List TFrac), ())).bind fun y8 => (match y8 with | .inl y9 => some (y9.1, y9.2.1) | .inr y10 => some (y10.1, 0))
def an_ref20_Told : An U := (.node none .nil (.node none .nil (.node none (.node none .nil (.node none (.node (some ⟨[0], [1], ⟨[(4, .os 1), (5, .tv .int)], [(1, .row .Frac)]⟩, [(.ret, ⟨[(2, .nr .Frac), (3, .tv .int)], [(1, .row .Frac)]⟩), (.exit 0, ⟨[(4, .os 1)], [(1, .row .Frac)]⟩)]⟩) .nil .nil) .nil)) .nil)))
def fe_ref20_Told : Fe G := ⟨[.v .l_Exact], [.l_Frac, .int1], fun x => F_ref20_Told x.1⟩
def tb_ref20_Told : List (FuncId × Fe G) := [(46, fe_ref08_Fraction)]
theorem ev_ref20_Told (x : TyP G fe_ref20_Told.ps) : evF G (lstK G tb_ref20_Told) (bodyOf Try.f17) an_ref20_Told 30 [.tmp 2, .tmp 3] fe_ref20_Told.rs (argT G fe_ref20_Told.ps x) = fe_ref20_Told.fn x := by kernel_rfl
theorem ok_ref20_Told : FnOk G 17 fe_ref20_Told := fnOk_of G_ok (lstK_ok G_ok (lcons ok_ref08_Fraction (lnil))) Try.func17 (by kernel_rfl) (by kernel_rfl) (by kernel_rfl) (by kernel_rfl) (by kernel_rfl) ev_ref20_Told

def F_ref20_Right (b : TBeam) (at_ : Int) : Option (TExact) :=
  (F_ref20_Turned b).bind fun r1 => (F_ref20_Left r1 (IntKind.i64.wrap (b.length - at_))).bind fun r2 => some r2
def an_ref20_Right : An U := .nil
def fe_ref20_Right : Fe G := ⟨[.v .Beam, .v .int1], [.Exact], fun x => F_ref20_Right x.1 x.2.1⟩
def tb_ref20_Right : List (FuncId × Fe G) := [(25, fe_ref20_Turned), (49, fe_ref20_Left)]
theorem ev_ref20_Right (x : TyP G fe_ref20_Right.ps) : evZ G (lstK G tb_ref20_Right) (bodyOf Try.f50) an_ref20_Right 12 [.cell 4 57] fe_ref20_Right.rs (argT G fe_ref20_Right.ps x) = fe_ref20_Right.fn x := by kernel_rfl
theorem ok_ref20_Right : FnOk G 50 fe_ref20_Right := fnOkz_of G_ok (fun _ => lstK_ok G_ok (lcons ok_ref20_Turned (lcons ok_ref20_Left (lnil)))) Try.func50 (by kernel_rfl) (by kernel_rfl) (by kernel_rfl) (by kernel_rfl) (by kernel_rfl) ev_ref20_Right

def F_beam_exact__less (a : Texact) (b : Texact) : Option (Texact) :=
  (F_beam_number__opposite b.n).bind fun r1 => (F_beam_exact__plus a (Texact.mk r1 b.d)).bind fun r2 => some r2
def an_beam_exact__less : An U := .nil
def fe_beam_exact__less : Fe G := ⟨[.v .exact, .v .exact], [.exact], fun x => F_beam_exact__less x.1 x.2.1⟩
def tb_beam_exact__less : List (FuncId × Fe G) := [(61, fe_beam_exact__plus), (105, fe_beam_number__opposite)]
theorem ev_beam_exact__less (x : TyP G fe_beam_exact__less.ps) : evZ G (lstK G tb_beam_exact__less) (bodyOf Try.f64) an_beam_exact__less 13 [.cell 4 90] fe_beam_exact__less.rs (argT G fe_beam_exact__less.ps x) = fe_beam_exact__less.fn x := by kernel_rfl
theorem ok_beam_exact__less : FnOk G 64 fe_beam_exact__less := fnOkz_of G_ok (fun _ => lstK_ok G_ok (lcons ok_beam_exact__plus (lcons ok_beam_number__opposite (lnil)))) Try.func64 (by kernel_rfl) (by kernel_rfl) (by kernel_rfl) (by kernel_rfl) (by kernel_rfl) ev_beam_exact__less

def F_ref08_Cmp (a : TExact) (b : TExact) : Option (Int) :=
  (F_ref08_Less a b).bind fun r1 => (F_ref08_Sign r1).bind fun r2 => some r2
def an_ref08_Cmp : An U := .nil
def fe_ref08_Cmp : Fe G := ⟨[.v .Exact, .v .Exact], [.int1], fun x => F_ref08_Cmp x.1 x.2.1⟩
def tb_ref08_Cmp : List (FuncId × Fe G) := [(47, fe_ref08_Less), (107, fe_ref08_Sign)]
theorem ev_ref08_Cmp (x : TyP G fe_ref08_Cmp.ps) : evF G (lstK G tb_ref08_Cmp) (bodyOf Try.f69) an_ref08_Cmp 9 [.tmp 4] fe_ref08_Cmp.rs (argT G fe_ref08_Cmp.ps x) = fe_ref08_Cmp.fn x := by kernel_rfl
theorem ok_ref08_Cmp : FnOk G 69 fe_ref08_Cmp := fnOk_of G_ok (lstK_ok G_ok (lcons ok_ref08_Less (lcons ok_ref08_Sign (lnil)))) Try.func69 (by kernel_rfl) (by kernel_rfl) (by kernel_rfl) (by kernel_rfl) (by kernel_rfl) ev_ref08_Cmp

def F_beam_lever (b : TBeam) (from_ : Int) (to : Int) (left : Bool) : Option (Texact) :=
  (F_beam_product 2000 ([b.even, (IntKind.i64.wrap (to - from_))] : List Int)).bind fun r1 => (iterF (σ := Int × Texact × Unit) (ρ := Texact × Unit) (fun s23 => (bif (decide (s23.1 < ((b.loads.length : Nat) : Int))) then ((idx b.loads s23.1).bind fun x24 => ((bif (decide (x24.at_ ≤ from_)) then some (true, ()) else some ((decide (x24.at_ ≥ to)), ())) : Option (Bool × Unit)).bind fun y25 => (bif y25.1 then some (s23.2.1, ()) else ((bif (!left) then some ((IntKind.i64.wrap (x24.at_ - from_)), ()) else some ((IntKind.i64.wrap (to - x24.at_)), ())) : Option (Int × Unit)).bind fun y26 => (F_beam_product (IntKind.i64.wrap (to - from_)) ([x24.weight, y26.1] : List Int)).bind fun r27 => (F_beam_exact__plus s23.2.1 r27).bind fun r28 => some (r28, ())) : Option (Texact × Unit)).bind fun y29 => some (.inl ((IntKind.i64.wrap (s23.1 + 1)), y29.1, ())) else some (.inr (s23.2.1, ())))) big (0, r1, ())).bind fun y30 => some y30.1
def an_beam_lever : An U := (.node none .nil (.node none .nil (.node none (.node none .nil (.node none (.node (some ⟨[1, 2, 3, 8, 9, 21, 22], [3], ⟨[(23, .tv .int)], [(3, .bx .exact [])]⟩, [(.exit 0, ⟨[], [(3, .bx .exact [])]⟩)]⟩) (.node none .nil (.node none .nil (.node (some ⟨[23], [3], ⟨[], []⟩, [(.normal, ⟨[], [(3, .bx .exact [])]⟩)]⟩) (.node none (.node none .nil (.node none (.node (some ⟨[11], [], ⟨[], []⟩, [(.normal, ⟨[(36, .tv .bool)], []⟩)]⟩) .nil .nil) (.node none .nil (.node (some ⟨[11], [], ⟨[], []⟩, [(.normal, ⟨[(12, .tv .int)], []⟩)]⟩) .nil .nil)))) .nil) .nil))) .nil) .nil)) .nil)))
def fe_beam_lever : Fe G := ⟨[.v .Beam, .v .int1, .v .int1, .v .bool], [.exact], fun x => F_beam_lever x.1 x.2.1 x.2.2.1 x.2.2.2.1⟩
def tb_beam_lever : List (FuncId × Fe G) := [(60, fe_beam_product), (61, fe_beam_exact__plus)]
theorem ev_beam_lever (x : TyP G fe_beam_lever.ps) : evZ G (lstK G tb_beam_lever) (bodyOf Try.f85) an_beam_lever 59 [.cell 8 90] fe_beam_lever.rs (argT G fe_beam_lever.ps x) = fe_beam_lever.fn x := by kernel_rfl
theorem ok_beam_lever : FnOk G 85 fe_beam_lever := fnOkz_of G_ok (fun _ => lstK_ok G_ok (lcons ok_beam_product (lcons ok_beam_exact__plus (lnil)))) Try.func85 (by kernel_rfl) (by kernel_rfl) (by kernel_rfl) (by kernel_rfl) (by kernel_rfl) ev_beam_lever
end
end Go.Proofs.Ytbamoboldhabjaa
