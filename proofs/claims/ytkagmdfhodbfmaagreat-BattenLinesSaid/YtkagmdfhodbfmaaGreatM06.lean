/- Joined by merge.py: Fn2. -/
import Derived.Test.YtkagmdfhodbfmaaGreatM05
/- Functions, as plain data. Printed by mkev.py. -/
namespace Go.Proofs.YtkagmdfhodbfmaaGreat
open Go.RowKit
set_option linter.unusedVariables false
set_option linter.unusedSimpArgs false
noncomputable section

def F_batten_beamOf (s : TSet) : Option (TBeam) :=
  (F_slices_Clone_int s.lines).bind fun r1 => (iterF (σ := Int × TBeam × Unit) (ρ := TBeam × Unit) (fun s6 => (bif (decide (s6.1 < ((s.items.length : Nat) : Int))) then (idx s.items s6.1).bind fun x7 => (F_batten_middle x7).bind fun r8 => (if s6.2.1.loads.length + ([(TLoad.mk r8 x7.weight)] : List TLoad).length ≤ 2147483648 then some (.inl ((IntKind.i64.wrap (s6.1 + 1)), (TBeam.mk s6.2.1.name s6.2.1.length s6.2.1.supports (s6.2.1.loads ++ ([(TLoad.mk r8 x7.weight)] : List TLoad)) s6.2.1.even), ())) else none) else some (.inr (s6.2.1, ())))) big (0, (TBeam.mk s.name s.length r1 ([] : List TLoad) s.pipe), ())).bind fun y9 => some y9.1
def an_batten_beamOf : An U := (.node none .nil (.node none .nil (.node none (.node none .nil (.node none (.node (some ⟨[2, 3, 17, 18], [2, 3], ⟨[(19, .tv .int)], [(2, .bx .Beam [2, 3]), (3, .gone)]⟩, [(.exit 0, ⟨[], [(2, .bx .Beam [2, 3])]⟩)]⟩) .nil .nil) .nil)) .nil)))
def fe_batten_beamOf : Fe G := ⟨[.v .Set], [.Beam], fun x => F_batten_beamOf x.1⟩
def tb_batten_beamOf : List (FuncId × Fe G) := [(70, fe_batten_middle), (93, fe_slices_Clone_int)]
theorem ev_batten_beamOf (x : TyP G fe_batten_beamOf.ps) : evF G (lstK G tb_batten_beamOf) (bodyOf Tryz.f44) an_batten_beamOf 35 [.cell 2 62] fe_batten_beamOf.rs (argT G fe_batten_beamOf.ps x) = fe_batten_beamOf.fn x := by kernel_rfl
theorem ok_batten_beamOf : FnOk G 44 fe_batten_beamOf := fnOk_of G_ok (lstK_ok G_ok (lcons ok_batten_middle (lcons ok_slices_Clone_int (lnil)))) Tryz.func44 (by kernel_rfl) (by kernel_rfl) (by kernel_rfl) (by kernel_rfl) (by kernel_rfl) ev_batten_beamOf

def F_cmp_Compare_int (x : Int) (y : Int) : Option (Int) :=
  (F_cmp_isNaN_int x).bind fun r1 => (F_cmp_isNaN_int y).bind fun r2 => (bif r1 then (bif r2 then some 0 else some (-1)) else (bif r2 then some 1 else (bif (decide (x < y)) then some (-1) else (bif (decide (x > y)) then some 1 else some 0))))
def an_cmp_Compare_int : An U := .nil
def fe_cmp_Compare_int : Fe G := ⟨[.v .int1, .v .int1], [.int1], fun x => F_cmp_Compare_int x.1 x.2.1⟩
def tb_cmp_Compare_int : List (FuncId × Fe G) := [(109, fe_cmp_isNaN_int)]
theorem ev_cmp_Compare_int (x : TyP G fe_cmp_Compare_int.ps) : evF G (lstK G tb_cmp_Compare_int) (bodyOf Tryz.f55) an_cmp_Compare_int 20 [.tmp 4] fe_cmp_Compare_int.rs (argT G fe_cmp_Compare_int.ps x) = fe_cmp_Compare_int.fn x := by kernel_rfl
theorem ok_cmp_Compare_int : FnOk G 55 fe_cmp_Compare_int := fnOk_of G_ok (lstK_ok G_ok (lcons ok_cmp_isNaN_int (lnil))) Tryz.func55 (by kernel_rfl) (by kernel_rfl) (by kernel_rfl) (by kernel_rfl) (by kernel_rfl) ev_cmp_Compare_int

def F_batten_lines (l : List Int) (length : Int) : Option (Bool) :=
  ((F_batten_between ((l.length : Nat) : Int) 2 10).bind fun r4 => (bif (!r4) then some (true, ()) else (idx l 0).bind fun x5 => (bif (decide (x5 < 0)) then some (true, ()) else (idx l (IntKind.i64.wrap (((l.length : Nat) : Int) - 1))).bind fun x6 => some ((decide (x6 > length)), ()))) : Option (Bool × Unit)).bind fun y7 => (bif y7.1 then some false else (iterF (σ := Int × Unit) (ρ := (Bool × Unit) ⊕ (Unit)) (fun s10 => (bif (decide (s10.1 < ((l.length : Nat) : Int))) then (idx l s10.1).bind fun x11 => (idx l (IntKind.i64.wrap (s10.1 - 1))).bind fun x12 => (bif (decide (x11 ≤ x12)) then some (.inr (.inl (false, ()))) else some (.inl ((IntKind.i64.wrap (s10.1 + 1)), ()))) else some (.inr (.inr ((())))))) big (1, ())).bind fun y13 => (match y13 with | .inl y14 => some y14.1 | .inr y15 => some true))
def an_batten_lines : An U := (.node none .nil (.node none (.node (some ⟨[0, 4], [], ⟨[], []⟩, [(.normal, ⟨[(25, .tv .bool)], []⟩)]⟩) .nil .nil) (.node none (.node none .nil (.node none (.node (some ⟨[0], [], ⟨[(5, .tv .int)], []⟩, [(.ret, ⟨[(4, .tv .bool)], []⟩), (.exit 0, ⟨[], []⟩)]⟩) .nil .nil) .nil)) .nil)))
def fe_batten_lines : Fe G := ⟨[.v .l_int1, .v .int1], [.bool], fun x => F_batten_lines x.1 x.2.1⟩
def tb_batten_lines : List (FuncId × Fe G) := [(57, fe_batten_between)]
theorem ev_batten_lines (x : TyP G fe_batten_lines.ps) : evF G (lstK G tb_batten_lines) (bodyOf Tryz.f58) an_batten_lines 42 [.tmp 4] fe_batten_lines.rs (argT G fe_batten_lines.ps x) = fe_batten_lines.fn x := by kernel_rfl
theorem ok_batten_lines : FnOk G 58 fe_batten_lines := fnOk_of G_ok (lstK_ok G_ok (lcons ok_batten_between (lnil))) Tryz.func58 (by kernel_rfl) (by kernel_rfl) (by kernel_rfl) (by kernel_rfl) (by kernel_rfl) ev_batten_lines

def F_batten_weight (s : TSet) : Option (Int) :=
  (F_batten_pipe s).bind fun r1 => (iterF (σ := Int × Int × Unit) (ρ := Int × Unit) (fun s3 => (bif (decide (s3.2.1 < ((s.items.length : Nat) : Int))) then (idx s.items s3.2.1).bind fun x4 => some (.inl ((IntKind.i64.wrap (s3.1 + x4.weight)), (IntKind.i64.wrap (s3.2.1 + 1)), ())) else some (.inr (s3.1, ())))) big (r1, 0, ())).bind fun y5 => some y5.1
def an_batten_weight : An U := (.node none .nil (.node none .nil (.node none (.node none .nil (.node none (.node (some ⟨[2, 9, 10], [], ⟨[(3, .tv .int), (11, .tv .int)], []⟩, [(.exit 0, ⟨[(3, .tv .int)], []⟩)]⟩) .nil .nil) .nil)) .nil)))
def fe_batten_weight : Fe G := ⟨[.v .Set], [.int1], fun x => F_batten_weight x.1⟩
def tb_batten_weight : List (FuncId × Fe G) := [(69, fe_batten_pipe)]
theorem ev_batten_weight (x : TyP G fe_batten_weight.ps) : evF G (lstK G tb_batten_weight) (bodyOf Tryz.f62) an_batten_weight 21 [.tmp 2] fe_batten_weight.rs (argT G fe_batten_weight.ps x) = fe_batten_weight.fn x := by kernel_rfl
theorem ok_batten_weight : FnOk G 62 fe_batten_weight := fnOk_of G_ok (lstK_ok G_ok (lcons ok_batten_pipe (lnil))) Tryz.func62 (by kernel_rfl) (by kernel_rfl) (by kernel_rfl) (by kernel_rfl) (by kernel_rfl) ev_batten_weight

def F_ratio_Make (num : Int) (den : Int) : Option (TFrac × Int) :=
  (bif (den == 0) then some ((TFrac.mk 0 0), 16) else (F_ratio_size num).bind fun r1 => (F_ratio_size den).bind fun r2 => (F_ratio_gcd r1 r2).bind fun r3 => ((bif (num != 0) then (if r3 = 0 then none else (if r3 = 0 then none else (F_ratio_signed (!((decide (num < 0)) == (decide (den < 0)))) (IntKind.u64.wrap (r1.tdiv r3)) (IntKind.u64.wrap (r2.tdiv r3))).bind fun r7 => some (r7.2, r7.1, ()))) else (if r3 = 0 then none else (if r3 = 0 then none else (F_ratio_signed false (IntKind.u64.wrap (r1.tdiv r3)) (IntKind.u64.wrap (r2.tdiv r3))).bind fun r8 => some (r8.2, r8.1, ())))) : Option (Int × TFrac × Unit)).bind fun y9 => some (y9.2.1, y9.1))
def an_ratio_Make : An U := (.node none .nil (.node none .nil (.node none .nil (.node none .nil (.node (some ⟨[4], [0], ⟨[], []⟩, [(.normal, ⟨[(5, .tv .int)], [(0, .bx .Frac [])]⟩)]⟩) .nil .nil)))))
def fe_ratio_Make : Fe G := ⟨[.v .int1, .v .int1], [.Frac, .Errno], fun x => F_ratio_Make x.1 x.2.1⟩
def tb_ratio_Make : List (FuncId × Fe G) := [(86, fe_ratio_gcd), (87, fe_ratio_size), (89, fe_ratio_signed)]
theorem ev_ratio_Make (x : TyP G fe_ratio_Make.ps) : evF G (lstK G tb_ratio_Make) (bodyOf Tryz.f71) an_ratio_Make 37 [.cell 4 37, .tmp 5] fe_ratio_Make.rs (argT G fe_ratio_Make.ps x) = fe_ratio_Make.fn x := by kernel_rfl
theorem ok_ratio_Make : FnOk G 71 fe_ratio_Make := fnOk_of G_ok (lstK_ok G_ok (lcons ok_ratio_gcd (lcons ok_ratio_size (lcons ok_ratio_signed (lnil))))) Tryz.func71 (by kernel_rfl) (by kernel_rfl) (by kernel_rfl) (by kernel_rfl) (by kernel_rfl) ev_ratio_Make

def F_batten_inside (x : TItem) (length : Int) : Option (Bool) :=
  ((bif (decide (x.at_ ≥ 0)) then (F_batten_between x.width 1 1048576).bind fun r2 => (bif r2 then some ((decide (x.at_ ≤ (IntKind.i64.wrap (length - x.width)))), ()) else some (false, ())) else some (false, ())) : Option (Bool × Unit)).bind fun y3 => some y3.1
def an_batten_inside : An U := (.node none .nil (.node (some ⟨[], [], ⟨[], []⟩, [(.normal, ⟨[(4, .tv .bool)], []⟩)]⟩) .nil .nil))
def fe_batten_inside : Fe G := ⟨[.v .Item, .v .int1], [.bool], fun x => F_batten_inside x.1 x.2.1⟩
def tb_batten_inside : List (FuncId × Fe G) := [(57, fe_batten_between)]
theorem ev_batten_inside (x : TyP G fe_batten_inside.ps) : evF G (lstK G tb_batten_inside) (bodyOf Tryz.f77) an_batten_inside 22 [.tmp 4] fe_batten_inside.rs (argT G fe_batten_inside.ps x) = fe_batten_inside.fn x := by kernel_rfl
theorem ok_batten_inside : FnOk G 77 fe_batten_inside := fnOk_of G_ok (lstK_ok G_ok (lcons ok_batten_between (lnil))) Tryz.func77 (by kernel_rfl) (by kernel_rfl) (by kernel_rfl) (by kernel_rfl) (by kernel_rfl) ev_batten_inside

def F_beam_fractions (l : List Texact) : Option ((List TFrac) × Int) :=
  (iterF (σ := Int × List TFrac × Unit) (ρ := (List TFrac × Int × List TFrac × Unit) ⊕ (List TFrac × Unit)) (fun s5 => (bif (decide (s5.1 < ((l.length : Nat) : Int))) then (idx l s5.1).bind fun x6 => (F_beam_exact__fraction x6).bind fun r7 => (bif (r7.2 != 0) then some (.inr (.inl (([] : List TFrac), r7.2, s5.2.1, ()))) else (if s5.2.1.length + ([r7.1] : List TFrac).length ≤ 2147483648 then some (.inl ((IntKind.i64.wrap (s5.1 + 1)), (s5.2.1 ++ ([r7.1] : List TFrac)), ())) else none)) else some (.inr (.inr ((s5.2.1, ())))))) big (0, ([] : List TFrac), ())).bind fun y8 => (match y8 with | .inl y9 => some (y9.1, y9.2.1) | .inr y10 => some (y10.1, 0))
def an_beam_fractions : An U := (.node none .nil (.node none .nil (.node none (.node none .nil (.node none (.node (some ⟨[9, 10], [1], ⟨[(4, .os 1), (11, .tv .int)], [(1, .row .Frac)]⟩, [(.ret, ⟨[(2, .nr .Frac), (3, .tv .int)], [(1, .row .Frac)]⟩), (.exit 0, ⟨[(4, .os 1)], [(1, .row .Frac)]⟩)]⟩) .nil .nil) .nil)) .nil)))
def fe_beam_fractions : Fe G := ⟨[.v .l_exact], [.l_Frac, .Errno], fun x => F_beam_fractions x.1⟩
def tb_beam_fractions : List (FuncId × Fe G) := [(124, fe_beam_exact__fraction)]
theorem ev_beam_fractions (x : TyP G fe_beam_fractions.ps) : evF G (lstK G tb_beam_fractions) (bodyOf Tryz.f91) an_beam_fractions 29 [.tmp 2, .tmp 3] fe_beam_fractions.rs (argT G fe_beam_fractions.ps x) = fe_beam_fractions.fn x := by kernel_rfl
theorem ok_beam_fractions : FnOk G 91 fe_beam_fractions := fnOk_of G_ok (lstK_ok G_ok (lcons ok_beam_exact__fraction (lnil))) Tryz.func91 (by kernel_rfl) (by kernel_rfl) (by kernel_rfl) (by kernel_rfl) (by kernel_rfl) ev_beam_fractions

def F_ref01_word (s : ByteArray) (i : Int) : Option (Int) :=
  (iterF (σ := Int × Unit) (ρ := Int × Unit) (fun s12 => ((bif (decide (s12.1 < ((s.size : Nat) : Int))) then (idxB s s12.1).bind fun b13 => (F_ref01_Letter ((b13.toNat : Nat) : Int)).bind fun r14 => (bif r14 then some (true, ()) else (idxB s s12.1).bind fun b15 => (F_ref01_Digit ((b15.toNat : Nat) : Int)).bind fun r16 => (bif r16 then some (true, ()) else (idxB s s12.1).bind fun b17 => some ((((b17.toNat : Nat) : Int) == 95), ()))) else some (false, ())) : Option (Bool × Unit)).bind fun y18 => (bif y18.1 then some (.inl ((IntKind.i64.wrap (s12.1 + 1)), ())) else some (.inr (s12.1, ())))) big (i, ())).bind fun y19 => some y19.1
def an_ref01_word : An U := (.node none .nil (.node none (.node none (.node (some ⟨[0, 4], [], ⟨[(1, .tv .int)], []⟩, [(.exit 0, ⟨[(1, .tv .int)], []⟩)]⟩) (.node none (.node (some ⟨[1], [], ⟨[], []⟩, [(.normal, ⟨[(26, .tv .bool)], []⟩)]⟩) .nil .nil) .nil) .nil) .nil) .nil))
def fe_ref01_word : Fe G := ⟨[.v .str, .v .int1], [.int1], fun x => F_ref01_word x.1 x.2.1⟩
def tb_ref01_word : List (FuncId × Fe G) := [(94, fe_ref01_Letter), (132, fe_ref01_Digit)]
theorem ev_ref01_word (x : TyP G fe_ref01_word.ps) : evF G (lstK G tb_ref01_word) (bodyOf Tryz.f95) an_ref01_word 30 [.tmp 4] fe_ref01_word.rs (argT G fe_ref01_word.ps x) = fe_ref01_word.fn x := by kernel_rfl
theorem ok_ref01_word : FnOk G 95 fe_ref01_word := fnOk_of G_ok (lstK_ok G_ok (lcons ok_ref01_Letter (lcons ok_ref01_Digit (lnil)))) Tryz.func95 (by kernel_rfl) (by kernel_rfl) (by kernel_rfl) (by kernel_rfl) (by kernel_rfl) ev_ref01_word

def F_decimal_word (s : ByteArray) : Option (Int) :=
  (iterF (σ := Int × Unit) (ρ := Int × Unit) (fun s12 => ((bif (decide (s12.1 < ((s.size : Nat) : Int))) then (idxB s s12.1).bind fun b13 => (F_decimal_letter ((b13.toNat : Nat) : Int)).bind fun r14 => (bif r14 then some (true, ()) else (idxB s s12.1).bind fun b15 => (F_decimal_digit ((b15.toNat : Nat) : Int)).bind fun r16 => (bif r16 then some (true, ()) else (idxB s s12.1).bind fun b17 => some ((((b17.toNat : Nat) : Int) == 95), ()))) else some (false, ())) : Option (Bool × Unit)).bind fun y18 => (bif y18.1 then some (.inl ((IntKind.i64.wrap (s12.1 + 1)), ())) else some (.inr (s12.1, ())))) big (0, ())).bind fun y19 => some y19.1
def an_decimal_word : An U := (.node none .nil (.node none .nil (.node none (.node none (.node (some ⟨[0, 2], [], ⟨[(3, .tv .int)], []⟩, [(.exit 0, ⟨[(3, .tv .int)], []⟩)]⟩) (.node none (.node (some ⟨[3], [], ⟨[], []⟩, [(.normal, ⟨[(25, .tv .bool)], []⟩)]⟩) .nil .nil) .nil) .nil) .nil) .nil)))
def fe_decimal_word : Fe G := ⟨[.v .str], [.int1], fun x => F_decimal_word x.1⟩
def tb_decimal_word : List (FuncId × Fe G) := [(110, fe_decimal_letter), (148, fe_decimal_digit)]
theorem ev_decimal_word (x : TyP G fe_decimal_word.ps) : evF G (lstK G tb_decimal_word) (bodyOf Tryz.f111) an_decimal_word 29 [.tmp 2] fe_decimal_word.rs (argT G fe_decimal_word.ps x) = fe_decimal_word.fn x := by kernel_rfl
theorem ok_decimal_word : FnOk G 111 fe_decimal_word := fnOk_of G_ok (lstK_ok G_ok (lcons ok_decimal_letter (lcons ok_decimal_digit (lnil)))) Tryz.func111 (by kernel_rfl) (by kernel_rfl) (by kernel_rfl) (by kernel_rfl) (by kernel_rfl) ev_decimal_word

def F_batten_items_2 (y : TItem) (a1 : TItem) : Option (Bool) :=
  (F_batten_apart a1 y).bind fun r1 => some (!r1)
def an_batten_items_2 : An U := .nil
def fe_batten_items_2 : Fe G := ⟨[.v .Item, .rp .Item], [.bool], fun x => F_batten_items_2 x.1 x.2.1⟩
def tb_batten_items_2 : List (FuncId × Fe G) := [(79, fe_batten_apart)]
theorem ev_batten_items_2 (x : TyP G fe_batten_items_2.ps) : evF G (lstK G tb_batten_items_2) (bodyOf Tryz.f114) an_batten_items_2 8 [.tmp 3] fe_batten_items_2.rs (argT G fe_batten_items_2.ps x) = fe_batten_items_2.fn x := by kernel_rfl
theorem ok_batten_items_2 : FnOk G 114 fe_batten_items_2 := fnOk_of G_ok (lstK_ok G_ok (lcons ok_batten_apart (lnil))) Tryz.func114 (by kernel_rfl) (by kernel_rfl) (by kernel_rfl) (by kernel_rfl) (by kernel_rfl) ev_batten_items_2

def F_ref08_Int (n : Int) : Option (TBig) :=
  (F_ref02_Size n).bind fun r1 => (iterF (σ := Int × TBig × Unit) (ρ := TBig × Unit) (fun s2 => (bif (decide (s2.1 > 0)) then (if s2.2.1.d.length + ([(IntKind.i64.wrap (s2.1.tmod 16777216))] : List Int).length ≤ 2147483648 then some (.inl ((IntKind.u64.wrap (s2.1.tdiv 16777216)), (TBig.mk s2.2.1.neg (s2.2.1.d ++ ([(IntKind.i64.wrap (s2.1.tmod 16777216))] : List Int))), ())) else none) else some (.inr (s2.2.1, ())))) big (r1, (TBig.mk (decide (n < 0)) ([] : List Int)), ())).bind fun y3 => some y3.1
def an_ref08_Int : An U := (.node none .nil (.node none .nil (.node none .nil (.node none .nil (.node none (.node none (.node (some ⟨[2, 3], [1], ⟨[(4, .tv .u64)], [(1, .bx .Big [1])]⟩, [(.exit 0, ⟨[], [(1, .bx .Big [1])]⟩)]⟩) .nil .nil) .nil) .nil)))))
def fe_ref08_Int : Fe G := ⟨[.v .int1], [.Big], fun x => F_ref08_Int x.1⟩
def tb_ref08_Int : List (FuncId × Fe G) := [(64, fe_ref02_Size)]
theorem ev_ref08_Int (x : TyP G fe_ref08_Int.ps) : evZ G (lstK G tb_ref08_Int) (bodyOf Tryz.f136) an_ref08_Int 23 [.cell 2 133] fe_ref08_Int.rs (argT G fe_ref08_Int.ps x) = fe_ref08_Int.fn x := by kernel_rfl
theorem ok_ref08_Int : FnOk G 136 fe_ref08_Int := fnOkz_of G_ok (fun _ => lstK_ok G_ok (lcons ok_ref02_Size (lnil))) Tryz.func136 (by kernel_rfl) (by kernel_rfl) (by kernel_rfl) (by kernel_rfl) (by kernel_rfl) ev_ref08_Int

def F_ref08_Product (a : TBig) (b : TBig) : Option (TBig) :=
  (if 0 ≤ (IntKind.i64.wrap ((IntKind.i64.wrap (((a.d.length : Nat) : Int) + ((b.d.length : Nat) : Int))) + 1)) ∧ (IntKind.i64.wrap ((IntKind.i64.wrap (((a.d.length : Nat) : Int) + ((b.d.length : Nat) : Int))) + 1)) ≤ 16777216 then (iterF (σ := Int × List Int × Unit) (ρ := List Int × Unit) (fun s29 => (bif (decide (s29.1 < ((a.d.length : Nat) : Int))) then (iterF (σ := Int × Int × List Int × Unit) (ρ := List Int × Unit) (fun s30 => ((bif (decide (s30.2.1 < ((b.d.length : Nat) : Int))) then some (true, ()) else some ((decide (s30.1 > 0)), ())) : Option (Bool × Unit)).bind fun y31 => (bif y31.1 then (idx s30.2.2.1 (IntKind.i64.wrap (s29.1 + s30.2.1))).bind fun _x32 => (s30.2.2.1[(Int.toNat (IntKind.i64.wrap (s29.1 + s30.2.1)))]?).bind fun x33 => (idx a.d s29.1).bind fun x34 => (F_ref08_digit b.d s30.2.1).bind fun r35 => (idx s30.2.2.1 (IntKind.i64.wrap (s29.1 + s30.2.1))).bind fun _x36 => (s30.2.2.1[(Int.toNat (IntKind.i64.wrap (s29.1 + s30.2.1)))]?).bind fun x37 => some (.inl ((IntKind.i64.wrap ((IntKind.i64.wrap ((IntKind.i64.wrap (x33 + (IntKind.i64.wrap (x34 * r35)))) + s30.1)).tdiv 16777216)), (IntKind.i64.wrap (s30.2.1 + 1)), (s30.2.2.1.set (Int.toNat (IntKind.i64.wrap (s29.1 + s30.2.1))) ((IntKind.i64.wrap ((IntKind.i64.wrap (x33 + (IntKind.i64.wrap (x34 * r35)))) + s30.1)).tmod 16777216)), ())) else some (.inr (s30.2.2.1, ())))) big (0, 0, s29.2.1, ())).bind fun y38 => some (.inl ((IntKind.i64.wrap (s29.1 + 1)), y38.1, ())) else some (.inr (s29.2.1, ())))) big (0, (List.replicate (Int.toNat (IntKind.i64.wrap ((IntKind.i64.wrap (((a.d.length : Nat) : Int) + ((b.d.length : Nat) : Int))) + 1))) (0 : Int)), ())).bind fun y39 => (F_ref08_trim (TBig.mk (!(a.neg == b.neg)) y39.1)).bind fun r40 => some r40 else none)
def an_ref08_Product : An U := (.node none .nil (.node none .nil (.node none (.node none .nil (.node none (.node (some ⟨[2, 3, 4, 5], [3], ⟨[(6, .tv .int)], [(3, .row .int1)]⟩, [(.exit 0, ⟨[], [(3, .row .int1)]⟩)]⟩) (.node none .nil (.node none (.node none (.node none .nil (.node none .nil (.node none (.node (some ⟨[6], [3], ⟨[(7, .tv .int), (8, .tv .int)], [(3, .row .int1)]⟩, [(.exit 2, ⟨[], [(3, .row .int1)]⟩)]⟩) (.node none (.node (some ⟨[7, 8], [], ⟨[], []⟩, [(.normal, ⟨[(34, .tv .bool)], []⟩)]⟩) .nil .nil) .nil) .nil) .nil))) .nil) .nil)) .nil) .nil)) .nil)))
def fe_ref08_Product : Fe G := ⟨[.v .Big, .v .Big], [.Big], fun x => F_ref08_Product x.1 x.2.1⟩
def tb_ref08_Product : List (FuncId × Fe G) := [(166, fe_ref08_trim), (168, fe_ref08_digit)]
theorem ev_ref08_Product (x : TyP G fe_ref08_Product.ps) : evZ G (lstK G tb_ref08_Product) (bodyOf Tryz.f141) an_ref08_Product 73 [.cell 4 133] fe_ref08_Product.rs (argT G fe_ref08_Product.ps x) = fe_ref08_Product.fn x := by kernel_rfl
theorem ok_ref08_Product : FnOk G 141 fe_ref08_Product := fnOkz_of G_ok (fun _ => lstK_ok G_ok (lcons ok_ref08_trim (lcons ok_ref08_digit (lnil)))) Tryz.func141 (by kernel_rfl) (by kernel_rfl) (by kernel_rfl) (by kernel_rfl) (by kernel_rfl) ev_ref08_Product

def F_math_bits_Len (x : Int) : Option (Int) :=
  (F_math_bits_Len64 x).bind fun r1 => some r1
def an_math_bits_Len : An U := .nil
def fe_math_bits_Len : Fe G := ⟨[.v .u641], [.int1], fun x => F_math_bits_Len x.1⟩
def tb_math_bits_Len : List (FuncId × Fe G) := [(179, fe_math_bits_Len32), (180, fe_math_bits_Len64)]
theorem ev_math_bits_Len (x : TyP G fe_math_bits_Len.ps) : evF G (lstK G tb_math_bits_Len) (bodyOf Tryz.f147) an_math_bits_Len 8 [.tmp 2] fe_math_bits_Len.rs (argT G fe_math_bits_Len.ps x) = fe_math_bits_Len.fn x := by kernel_rfl
theorem ok_math_bits_Len : FnOk G 147 fe_math_bits_Len := fnOk_of G_ok (lstK_ok G_ok (lcons ok_math_bits_Len32 (lcons ok_math_bits_Len64 (lnil)))) Tryz.func147 (by kernel_rfl) (by kernel_rfl) (by kernel_rfl) (by kernel_rfl) (by kernel_rfl) ev_math_bits_Len

def F_slices_ContainsFunc_api_Load (s : List TLoad) (f : TLoad → Option Bool) : Option (Bool) :=
  (F_slices_IndexFunc_api_Load s f).bind fun r1 => some (decide (r1 ≥ 0))
def an_slices_ContainsFunc_api_Load : An U := .nil
def fe_slices_ContainsFunc_api_Load : Fe G := ⟨[.v .l_Load, .fn .Load .bool], [.bool], fun x => F_slices_ContainsFunc_api_Load x.1 x.2.1⟩
def tb_slices_ContainsFunc_api_Load : List (FuncId × Fe G) := [(181, fe_slices_IndexFunc_api_Load)]
theorem ev_slices_ContainsFunc_api_Load (x : TyP G fe_slices_ContainsFunc_api_Load.ps) : evF G (lstK G tb_slices_ContainsFunc_api_Load) (bodyOf Tryz.f150) an_slices_ContainsFunc_api_Load 9 [.tmp 4] fe_slices_ContainsFunc_api_Load.rs (argT G fe_slices_ContainsFunc_api_Load.ps x) = fe_slices_ContainsFunc_api_Load.fn x := by kernel_rfl
theorem ok_slices_ContainsFunc_api_Load : FnOk G 150 fe_slices_ContainsFunc_api_Load := fnOk_of G_ok (lstK_ok G_ok (lcons ok_slices_IndexFunc_api_Load (lnil))) Tryz.func150 (by kernel_rfl) (by kernel_rfl) (by kernel_rfl) (by kernel_rfl) (by kernel_rfl) ev_slices_ContainsFunc_api_Load

def F_beam_integer (n : Int) : Option (Tnumber) :=
  ((bif (decide (n < 0)) then some ((IntKind.u64.wrap (0 - (IntKind.u64.wrap n))), ()) else some ((IntKind.u64.wrap n), ())) : Option (Int × Unit)).bind fun y1 => (F_beam_trimmed ([(IntKind.u32.wrap y1.1), (IntKind.u32.wrap (y1.1.fdiv (2 ^ min (Int.toNat 32) IntKind.u64.bits)))] : List Int)).bind fun r2 => some (Tnumber.mk (decide (n < 0)) r2)
def an_beam_integer : An U := (.node none .nil (.node none .nil (.node (some ⟨[0, 2], [], ⟨[], []⟩, [(.normal, ⟨[(3, .tv .u64)], []⟩)]⟩) .nil .nil)))
def fe_beam_integer : Fe G := ⟨[.v .int1], [.number], fun x => F_beam_integer x.1⟩
def tb_beam_integer : List (FuncId × Fe G) := [(182, fe_beam_trimmed)]
theorem ev_beam_integer (x : TyP G fe_beam_integer.ps) : evZ G (lstK G tb_beam_integer) (bodyOf Tryz.f156) an_beam_integer 20 [.cell 2 159] fe_beam_integer.rs (argT G fe_beam_integer.ps x) = fe_beam_integer.fn x := by kernel_rfl
theorem ok_beam_integer : FnOk G 156 fe_beam_integer := fnOkz_of G_ok (fun _ => lstK_ok G_ok (lcons ok_beam_trimmed (lnil))) Tryz.func156 (by kernel_rfl) (by kernel_rfl) (by kernel_rfl) (by kernel_rfl) (by kernel_rfl) ev_beam_integer

def F_beam_number__times (a : Tnumber) (b : Tnumber) : Option (Tnumber) :=
  (if 0 ≤ (IntKind.i64.wrap (((a.words.length : Nat) : Int) + ((b.words.length : Nat) : Int))) ∧ (IntKind.i64.wrap (((a.words.length : Nat) : Int) + ((b.words.length : Nat) : Int))) ≤ 16777216 then (iterF (σ := Int × List Int × Unit) (ρ := List Int × Unit) (fun s25 => (bif (decide (s25.1 < ((a.words.length : Nat) : Int))) then (idx a.words s25.1).bind fun x26 => (iterF (σ := Int × Int × List Int × Unit) (ρ := Int × List Int × Unit) (fun s27 => (bif (decide (s27.2.1 < ((b.words.length : Nat) : Int))) then (idx b.words s27.2.1).bind fun x28 => (idx s27.2.2.1 (IntKind.i64.wrap (s25.1 + s27.2.1))).bind fun _x29 => (s27.2.2.1[(Int.toNat (IntKind.i64.wrap (s25.1 + s27.2.1)))]?).bind fun x30 => (idx s27.2.2.1 (IntKind.i64.wrap (s25.1 + s27.2.1))).bind fun _x31 => (s27.2.2.1[(Int.toNat (IntKind.i64.wrap (s25.1 + s27.2.1)))]?).bind fun x32 => some (.inl (((IntKind.u64.wrap (s27.1 + (IntKind.u64.wrap ((IntKind.u64.wrap ((IntKind.u64.wrap x26) * (IntKind.u64.wrap x28))) + (IntKind.u64.wrap x30))))).fdiv (2 ^ min (Int.toNat 32) IntKind.u64.bits)), (IntKind.i64.wrap (s27.2.1 + 1)), (s27.2.2.1.set (Int.toNat (IntKind.i64.wrap (s25.1 + s27.2.1))) (IntKind.u32.wrap (IntKind.u64.wrap (s27.1 + (IntKind.u64.wrap ((IntKind.u64.wrap ((IntKind.u64.wrap x26) * (IntKind.u64.wrap x28))) + (IntKind.u64.wrap x30))))))), ())) else some (.inr (s27.1, s27.2.2.1, ())))) big (0, 0, s25.2.1, ())).bind fun y33 => (idx y33.2.1 (IntKind.i64.wrap (s25.1 + ((b.words.length : Nat) : Int)))).bind fun _x34 => (y33.2.1[(Int.toNat (IntKind.i64.wrap (s25.1 + ((b.words.length : Nat) : Int))))]?).bind fun x35 => some (.inl ((IntKind.i64.wrap (s25.1 + 1)), (y33.2.1.set (Int.toNat (IntKind.i64.wrap (s25.1 + ((b.words.length : Nat) : Int)))) (IntKind.u32.wrap y33.1)), ())) else some (.inr (s25.2.1, ())))) big (0, (List.replicate (Int.toNat (IntKind.i64.wrap (((a.words.length : Nat) : Int) + ((b.words.length : Nat) : Int)))) (0 : Int)), ())).bind fun y36 => (F_beam_trimmed y36.1).bind fun r37 => some (Tnumber.mk (!(a.neg == b.neg)) r37) else none)
def an_beam_number__times : An U := (.node none .nil (.node none .nil (.node none (.node none .nil (.node none (.node (some ⟨[2, 3, 4, 5, 20, 21], [3], ⟨[(22, .tv .int)], [(3, .row .u32)]⟩, [(.exit 0, ⟨[], [(3, .row .u32)]⟩)]⟩) (.node none .nil (.node none .nil (.node none (.node none (.node none .nil (.node none .nil (.node none (.node none .nil (.node none (.node (some ⟨[6, 7, 22, 28, 29], [3], ⟨[(8, .tv .u64), (30, .tv .int)], [(3, .row .u32)]⟩, [(.exit 2, ⟨[(8, .tv .u64)], [(3, .row .u32)]⟩)]⟩) .nil .nil) .nil)) .nil))) .nil) .nil))) .nil) .nil)) .nil)))
def fe_beam_number__times : Fe G := ⟨[.v .number, .v .number], [.number], fun x => F_beam_number__times x.1 x.2.1⟩
def tb_beam_number__times : List (FuncId × Fe G) := [(182, fe_beam_trimmed)]
theorem ev_beam_number__times (x : TyP G fe_beam_number__times.ps) : evZ G (lstK G tb_beam_number__times) (bodyOf Tryz.f158) an_beam_number__times 78 [.cell 4 159] fe_beam_number__times.rs (argT G fe_beam_number__times.ps x) = fe_beam_number__times.fn x := by kernel_rfl
theorem ok_beam_number__times : FnOk G 158 fe_beam_number__times := fnOkz_of G_ok (fun _ => lstK_ok G_ok (lcons ok_beam_trimmed (lnil))) Tryz.func158 (by kernel_rfl) (by kernel_rfl) (by kernel_rfl) (by kernel_rfl) (by kernel_rfl) ev_beam_number__times

def F_ref08_plus (a : List Int) (b : List Int) : Option ((List Int)) :=
  (iterF (σ := Int × Int × List Int × Unit) (ρ := List Int × Unit) (fun s7 => ((bif (decide (s7.2.1 < ((a.length : Nat) : Int))) then some (true, ()) else (bif (decide (s7.2.1 < ((b.length : Nat) : Int))) then some (true, ()) else some ((decide (s7.1 > 0)), ()))) : Option (Bool × Unit)).bind fun y8 => (bif y8.1 then (F_ref08_digit a s7.2.1).bind fun r9 => (F_ref08_digit b s7.2.1).bind fun r10 => (if s7.2.2.1.length + ([((IntKind.i64.wrap ((IntKind.i64.wrap (r9 + r10)) + s7.1)).tmod 16777216)] : List Int).length ≤ 2147483648 then some (.inl ((IntKind.i64.wrap ((IntKind.i64.wrap ((IntKind.i64.wrap (r9 + r10)) + s7.1)).tdiv 16777216)), (IntKind.i64.wrap (s7.2.1 + 1)), (s7.2.2.1 ++ ([((IntKind.i64.wrap ((IntKind.i64.wrap (r9 + r10)) + s7.1)).tmod 16777216)] : List Int)), ())) else none) else some (.inr (s7.2.2.1, ())))) big (0, 0, ([] : List Int), ())).bind fun y11 => some y11.1
def an_ref08_plus : An U := (.node none .nil (.node none .nil (.node none .nil (.node none (.node none .nil (.node none (.node (some ⟨[0, 1, 4], [1], ⟨[(5, .os 1), (6, .tv .int), (7, .tv .int)], [(1, .row .int1)]⟩, [(.exit 0, ⟨[(5, .os 1)], [(1, .row .int1)]⟩)]⟩) (.node none (.node (some ⟨[5, 6, 7], [], ⟨[], []⟩, [(.normal, ⟨[(22, .tv .bool)], []⟩)]⟩) .nil .nil) .nil) .nil) .nil)) .nil))))
def fe_ref08_plus : Fe G := ⟨[.v .l_int1, .v .l_int1], [.l_int1], fun x => F_ref08_plus x.1 x.2.1⟩
def tb_ref08_plus : List (FuncId × Fe G) := [(168, fe_ref08_digit)]
theorem ev_ref08_plus (x : TyP G fe_ref08_plus.ps) : evZ G (lstK G tb_ref08_plus) (bodyOf Tryz.f165) an_ref08_plus 42 [.tmp 4] fe_ref08_plus.rs (argT G fe_ref08_plus.ps x) = fe_ref08_plus.fn x := by kernel_rfl
theorem ok_ref08_plus : FnOk G 165 fe_ref08_plus := fnOkz_of G_ok (fun _ => lstK_ok G_ok (lcons ok_ref08_digit (lnil))) Tryz.func165 (by kernel_rfl) (by kernel_rfl) (by kernel_rfl) (by kernel_rfl) (by kernel_rfl) ev_ref08_plus
end
end Go.Proofs.YtkagmdfhodbfmaaGreat
