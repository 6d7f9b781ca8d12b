/- Joined by merge.py: Fn2, Fn3, Fn4. -/
import Derived.Test.YtkagmdfhodbfmaaGreatM04
/- Functions, as plain data. Printed by mkev.py. -/
namespace Go.Proofs.YtkagmdfhodbfmaaGreat
open Go.RowKit
set_option linter.unusedVariables false
set_option linter.unusedSimpArgs false
noncomputable section

def F_slices_ContainsFunc_api_Span (s : List TSpan) (f : TSpan → Option Bool) : Option (Bool) :=
  (F_slices_IndexFunc_api_Span s f).bind fun r1 => some (decide (r1 ≥ 0))
def an_slices_ContainsFunc_api_Span : An U := .nil
def fe_slices_ContainsFunc_api_Span : Fe G := ⟨[.v .l_Span, .fn .Span .bool], [.bool], fun x => F_slices_ContainsFunc_api_Span x.1 x.2.1⟩
def tb_slices_ContainsFunc_api_Span : List (FuncId × Fe G) := [(84, fe_slices_IndexFunc_api_Span)]
theorem ev_slices_ContainsFunc_api_Span (x : TyP G fe_slices_ContainsFunc_api_Span.ps) : evF G (lstK G tb_slices_ContainsFunc_api_Span) (bodyOf Tryz.f36) an_slices_ContainsFunc_api_Span 9 [.tmp 4] fe_slices_ContainsFunc_api_Span.rs (argT G fe_slices_ContainsFunc_api_Span.ps x) = fe_slices_ContainsFunc_api_Span.fn x := by kernel_rfl
theorem ok_slices_ContainsFunc_api_Span : FnOk G 36 fe_slices_ContainsFunc_api_Span := fnOk_of G_ok (lstK_ok G_ok (lcons ok_slices_IndexFunc_api_Span (lnil))) Tryz.func36 (by kernel_rfl) (by kernel_rfl) (by kernel_rfl) (by kernel_rfl) (by kernel_rfl) ev_slices_ContainsFunc_api_Span

def F_batten_beamOf (s : TSet) : Option (TBeam) :=
  (F_slices_Clone_int s.lines).bind fun r1 => (iterF (σ := Int × TBeam × Unit) (ρ := TBeam × Unit) (fun s6 => (bif (decide (s6.1 < ((s.items.length : Nat) : Int))) then (idx s.items s6.1).bind fun x7 => (F_batten_middle x7).bind fun r8 => (if s6.2.1.loads.length + ([(TLoad.mk r8 x7.weight)] : List TLoad).length ≤ 2147483648 then some (.inl ((IntKind.i64.wrap (s6.1 + 1)), (TBeam.mk s6.2.1.name s6.2.1.length s6.2.1.supports (s6.2.1.loads ++ ([(TLoad.mk r8 x7.weight)] : List TLoad)) s6.2.1.even), ())) else none) else some (.inr (s6.2.1, ())))) big (0, (TBeam.mk s.name s.length r1 ([] : List TLoad) s.pipe), ())).bind fun y9 => some y9.1
def an_batten_beamOf : An U := (.node none .nil (.node none .nil (.node none (.node none .nil (.node none (.node (some ⟨[2, 3, 17, 18], [2, 3], ⟨[(19, .tv .int)], [(2, .bx .Beam [2, 3]), (3, .gone)]⟩, [(.exit 0, ⟨[], [(2, .bx .Beam [2, 3])]⟩)]⟩) .nil .nil) .nil)) .nil)))
def fe_batten_beamOf : Fe G := ⟨[.v .Set], [.Beam], fun x => F_batten_beamOf x.1⟩
def tb_batten_beamOf : List (FuncId × Fe G) := [(70, fe_batten_middle), (93, fe_slices_Clone_int)]
theorem ev_batten_beamOf (x : TyP G fe_batten_beamOf.ps) : evF G (lstK G tb_batten_beamOf) (bodyOf Tryz.f44) an_batten_beamOf 35 [.cell 2 62] fe_batten_beamOf.rs (argT G fe_batten_beamOf.ps x) = fe_batten_beamOf.fn x := by kernel_rfl
theorem ok_batten_beamOf : FnOk G 44 fe_batten_beamOf := fnOk_of G_ok (lstK_ok G_ok (lcons ok_batten_middle (lcons ok_slices_Clone_int (lnil)))) Tryz.func44 (by kernel_rfl) (by kernel_rfl) (by kernel_rfl) (by kernel_rfl) (by kernel_rfl) ev_batten_beamOf

def F_cmp_Compare_int (x : Int) (y : Int) : Option (Int) :=
  (F_cmp_isNaN_int x).bind fun r1 => (F_cmp_isNaN_int y).bind fun r2 => (bif r1 then (bif r2 then some 0 else some (-1)) else (bif r2 then some 1 else (bif (decide (x < y)) then some (-1) else (bif (decide (x > y)) then some 1 else some 0))))
def an_cmp_Compare_int : An U := .nil
def fe_cmp_Compare_int : Fe G := ⟨[.v .int1, .v .int1], [.int1], fun x => F_cmp_Compare_int x.1 x.2.1⟩
def tb_cmp_Compare_int : List (FuncId × Fe G) := [(109, fe_cmp_isNaN_int)]
theorem ev_cmp_Compare_int (x : TyP G fe_cmp_Compare_int.ps) : evF G (lstK G tb_cmp_Compare_int) (bodyOf Tryz.f55) an_cmp_Compare_int 20 [.tmp 4] fe_cmp_Compare_int.rs (argT G fe_cmp_Compare_int.ps x) = fe_cmp_Compare_int.fn x := by kernel_rfl
theorem ok_cmp_Compare_int : FnOk G 55 fe_cmp_Compare_int := fnOk_of G_ok (lstK_ok G_ok (lcons ok_cmp_isNaN_int (lnil))) Tryz.func55 (by kernel_rfl) (by kernel_rfl) (by kernel_rfl) (by kernel_rfl) (by kernel_rfl) ev_cmp_Compare_int

def F_batten_lines (l : List Int) (length : Int) : Option (Bool) :=
  ((F_batten_between ((l.length : Nat) : Int) 2 10).bind fun r4 => (bif (!r4) then some (true, ()) else (idx l 0).bind fun x5 => (bif (decide (x5 < 0)) then some (true, ()) else (idx l (IntKind.i64.wrap (((l.length : Nat) : Int) - 1))).bind fun x6 => some ((decide (x6 > length)), ()))) : Option (Bool × Unit)).bind fun y7 => (bif y7.1 then some false else (iterF (σ := Int × Unit) (ρ := (Bool × Unit) ⊕ (Unit)) (fun s10 => (bif (decide (s10.1 < ((l.length : Nat) : Int))) then (idx l s10.1).bind fun x11 => (idx l (IntKind.i64.wrap (s10.1 - 1))).bind fun x12 => (bif (decide (x11 ≤ x12)) then some (.inr (.inl (false, ()))) else some (.inl ((IntKind.i64.wrap (s10.1 + 1)), ()))) else some (.inr (.inr ((())))))) big (1, ())).bind fun y13 => (match y13 with | .inl y14 => some y14.1 | .inr y15 => some true))
def an_batten_lines : An U := (.node none .nil (.node none (.node (some ⟨[0, 4], [], ⟨[], []⟩, [(.normal, ⟨[(25, .tv .bool)], []⟩)]⟩) .nil .nil) (.node none (.node none .nil (.node none (.node (some ⟨[0], [], ⟨[(5, .tv .int)], []⟩, [(.ret, ⟨[(4, .tv .bool)], []⟩), (.exit 0, ⟨[], []⟩)]⟩) .nil .nil) .nil)) .nil)))
def fe_batten_lines : Fe G := ⟨[.v .l_int1, .v .int1], [.bool], fun x => F_batten_lines x.1 x.2.1⟩
def tb_batten_lines : List (FuncId × Fe G) := [(57, fe_batten_between)]
theorem ev_batten_lines (x : TyP G fe_batten_lines.ps) : evF G (lstK G tb_batten_lines) (bodyOf Tryz.f58) an_batten_lines 42 [.tmp 4] fe_batten_lines.rs (argT G fe_batten_lines.ps x) = fe_batten_lines.fn x := by kernel_rfl
theorem ok_batten_lines : FnOk G 58 fe_batten_lines := fnOk_of G_ok (lstK_ok G_ok (lcons ok_batten_between (lnil))) Tryz.func58 (by kernel_rfl) (by kernel_rfl) (by kernel_rfl) (by kernel_rfl) (by kernel_rfl) ev_batten_lines

def F_batten_weight (s : TSet) : Option (Int) :=
  (F_batten_pipe s).bind fun r1 => (iterF (σ := Int × Int × Unit) (ρ := Int × Unit) (fun s3 => (bif (decide (s3.2.1 < ((s.items.length : Nat) : Int))) then (idx s.items s3.2.1).bind fun x4 => some (.inl ((IntKind.i64.wrap (s3.1 + x4.weight)), (IntKind.i64.wrap (s3.2.1 + 1)), ())) else some (.inr (s3.1, ())))) big (r1, 0, ())).bind fun y5 => some y5.1
def an_batten_weight : An U := (.node none .nil (.node none .nil (.node none (.node none .nil (.node none (.node (some ⟨[2, 9, 10], [], ⟨[(3, .tv .int), (11, .tv .int)], []⟩, [(.exit 0, ⟨[(3, .tv .int)], []⟩)]⟩) .nil .nil) .nil)) .nil)))
def fe_batten_weight : Fe G := ⟨[.v .Set], [.int1], fun x => F_batten_weight x.1⟩
def tb_batten_weight : List (FuncId × Fe G) := [(69, fe_batten_pipe)]
theorem ev_batten_weight (x : TyP G fe_batten_weight.ps) : evF G (lstK G tb_batten_weight) (bodyOf Tryz.f62) an_batten_weight 21 [.tmp 2] fe_batten_weight.rs (argT G fe_batten_weight.ps x) = fe_batten_weight.fn x := by kernel_rfl
theorem ok_batten_weight : FnOk G 62 fe_batten_weight := fnOk_of G_ok (lstK_ok G_ok (lcons ok_batten_pipe (lnil))) Tryz.func62 (by kernel_rfl) (by kernel_rfl) (by kernel_rfl) (by kernel_rfl) (by kernel_rfl) ev_batten_weight

def F_ratio_Make (num : Int) (den : Int) : Option (TFrac × Int) :=
  (bif (den == 0) then some ((TFrac.mk 0 0), 16) else (F_ratio_size num).bind fun r1 => (F_ratio_size den).bind fun r2 => (F_ratio_gcd r1 r2).bind fun r3 => ((bif (num != 0) then (if r3 = 0 then none else (if r3 = 0 then none else (F_ratio_signed (!((decide (num < 0)) == (decide (den < 0)))) (IntKind.u64.wrap (r1.tdiv r3)) (IntKind.u64.wrap (r2.tdiv r3))).bind fun r7 => some (r7.2, r7.1, ()))) else (if r3 = 0 then none else (if r3 = 0 then none else (F_ratio_signed false (IntKind.u64.wrap (r1.tdiv r3)) (IntKind.u64.wrap (r2.tdiv r3))).bind fun r8 => some (r8.2, r8.1, ())))) : Option (Int × TFrac × Unit)).bind fun y9 => some (y9.2.1, y9.1))
def an_ratio_Make : An U := (.node none .nil (.node none .nil (.node none .nil (.node none .nil (.node (some ⟨[4], [0], ⟨[], []⟩, [(.normal, ⟨[(5, .tv .int)], [(0, .bx .Frac [])]⟩)]⟩) .nil .nil)))))
def fe_ratio_Make : Fe G := ⟨[.v .int1, .v .int1], [.Frac, .Errno], fun x => F_ratio_Make x.1 x.2.1⟩
def tb_ratio_Make : List (FuncId × Fe G) := [(86, fe_ratio_gcd), (87, fe_ratio_size), (89, fe_ratio_signed)]
theorem ev_ratio_Make (x : TyP G fe_ratio_Make.ps) : evF G (lstK G tb_ratio_Make) (bodyOf Tryz.f71) an_ratio_Make 37 [.cell 4 37, .tmp 5] fe_ratio_Make.rs (argT G fe_ratio_Make.ps x) = fe_ratio_Make.fn x := by kernel_rfl
theorem ok_ratio_Make : FnOk G 71 fe_ratio_Make := fnOk_of G_ok (lstK_ok G_ok (lcons ok_ratio_gcd (lcons ok_ratio_size (lcons ok_ratio_signed (lnil))))) Tryz.func71 (by kernel_rfl) (by kernel_rfl) (by kernel_rfl) (by kernel_rfl) (by kernel_rfl) ev_ratio_Make

def F_batten_inside (x : TItem) (length : Int) : Option (Bool) :=
  ((bif (decide (x.at_ ≥ 0)) then (F_batten_between x.width 1 1048576).bind fun r2 => (bif r2 then some ((decide (x.at_ ≤ (IntKind.i64.wrap (length - x.width)))), ()) else some (false, ())) else some (false, ())) : Option (Bool × Unit)).bind fun y3 => some y3.1
def an_batten_inside : An U := (.node none .nil (.node (some ⟨[], [], ⟨[], []⟩, [(.normal, ⟨[(4, .tv .bool)], []⟩)]⟩) .nil .nil))
def fe_batten_inside : Fe G := ⟨[.v .Item, .v .int1], [.bool], fun x => F_batten_inside x.1 x.2.1⟩
def tb_batten_inside : List (FuncId × Fe G) := [(57, fe_batten_between)]
theorem ev_batten_inside (x : TyP G fe_batten_inside.ps) : evF G (lstK G tb_batten_inside) (bodyOf Tryz.f77) an_batten_inside 22 [.tmp 4] fe_batten_inside.rs (argT G fe_batten_inside.ps x) = fe_batten_inside.fn x := by kernel_rfl
theorem ok_batten_inside : FnOk G 77 fe_batten_inside := fnOk_of G_ok (lstK_ok G_ok (lcons ok_batten_between (lnil))) Tryz.func77 (by kernel_rfl) (by kernel_rfl) (by kernel_rfl) (by kernel_rfl) (by kernel_rfl) ev_batten_inside

def F_batten_Put_2 (y : TItem) (a1 : TItem) : Option (Bool) :=
  (F_batten_apart a1 y).bind fun r1 => some (!r1)
def an_batten_Put_2 : An U := .nil
def fe_batten_Put_2 : Fe G := ⟨[.v .Item, .rp .Item], [.bool], fun x => F_batten_Put_2 x.1 x.2.1⟩
def tb_batten_Put_2 : List (FuncId × Fe G) := [(79, fe_batten_apart)]
theorem ev_batten_Put_2 (x : TyP G fe_batten_Put_2.ps) : evF G (lstK G tb_batten_Put_2) (bodyOf Tryz.f78) an_batten_Put_2 8 [.tmp 3] fe_batten_Put_2.rs (argT G fe_batten_Put_2.ps x) = fe_batten_Put_2.fn x := by kernel_rfl
theorem ok_batten_Put_2 : FnOk G 78 fe_batten_Put_2 := fnOk_of G_ok (lstK_ok G_ok (lcons ok_batten_apart (lnil))) Tryz.func78 (by kernel_rfl) (by kernel_rfl) (by kernel_rfl) (by kernel_rfl) (by kernel_rfl) ev_batten_Put_2

def F_batten_copyOf (s : TSet) : Option (TSet) :=
  (F_slices_Clone_int s.lines).bind fun r1 => (F_slices_Clone_api_Item s.items).bind fun r2 => (F_slices_Clone_api_Brick s.bricks).bind fun r3 => some (TSet.mk s.name s.depth s.low s.high s.length r1 s.pipe s.arbor s.purchase s.most s.brake r2 r3)
def an_batten_copyOf : An U := .nil
def fe_batten_copyOf : Fe G := ⟨[.v .Set], [.Set], fun x => F_batten_copyOf x.1⟩
def tb_batten_copyOf : List (FuncId × Fe G) := [(93, fe_slices_Clone_int), (119, fe_slices_Clone_api_Item), (120, fe_slices_Clone_api_Brick)]
theorem ev_batten_copyOf (x : TyP G fe_batten_copyOf.ps) : evF G (lstK G tb_batten_copyOf) (bodyOf Tryz.f80) an_batten_copyOf 16 [.cell 2 26] fe_batten_copyOf.rs (argT G fe_batten_copyOf.ps x) = fe_batten_copyOf.fn x := by kernel_rfl
theorem ok_batten_copyOf : FnOk G 80 fe_batten_copyOf := fnOk_of G_ok (lstK_ok G_ok (lcons ok_slices_Clone_int (lcons ok_slices_Clone_api_Item (lcons ok_slices_Clone_api_Brick (lnil))))) Tryz.func80 (by kernel_rfl) (by kernel_rfl) (by kernel_rfl) (by kernel_rfl) (by kernel_rfl) ev_batten_copyOf

def F_beam_fractions (l : List Texact) : Option ((List TFrac) × Int) :=
  (iterF (σ := Int × List TFrac × Unit) (ρ := (List TFrac × Int × List TFrac × Unit) ⊕ (List TFrac × Unit)) (fun s5 => (bif (decide (s5.1 < ((l.length : Nat) : Int))) then (idx l s5.1).bind fun x6 => (F_beam_exact__fraction x6).bind fun r7 => (bif (r7.2 != 0) then some (.inr (.inl (([] : List TFrac), r7.2, s5.2.1, ()))) else (if s5.2.1.length + ([r7.1] : List TFrac).length ≤ 2147483648 then some (.inl ((IntKind.i64.wrap (s5.1 + 1)), (s5.2.1 ++ ([r7.1] : List TFrac)), ())) else none)) else some (.inr (.inr ((s5.2.1, ())))))) big (0, ([] : List TFrac), ())).bind fun y8 => (match y8 with | .inl y9 => some (y9.1, y9.2.1) | .inr y10 => some (y10.1, 0))
def an_beam_fractions : An U := (.node none .nil (.node none .nil (.node none (.node none .nil (.node none (.node (some ⟨[9, 10], [1], ⟨[(4, .os 1), (11, .tv .int)], [(1, .row .Frac)]⟩, [(.ret, ⟨[(2, .nr .Frac), (3, .tv .int)], [(1, .row .Frac)]⟩), (.exit 0, ⟨[(4, .os 1)], [(1, .row .Frac)]⟩)]⟩) .nil .nil) .nil)) .nil)))
def fe_beam_fractions : Fe G := ⟨[.v .l_exact], [.l_Frac, .Errno], fun x => F_beam_fractions x.1⟩
def tb_beam_fractions : List (FuncId × Fe G) := [(124, fe_beam_exact__fraction)]
theorem ev_beam_fractions (x : TyP G fe_beam_fractions.ps) : evF G (lstK G tb_beam_fractions) (bodyOf Tryz.f91) an_beam_fractions 29 [.tmp 2, .tmp 3] fe_beam_fractions.rs (argT G fe_beam_fractions.ps x) = fe_beam_fractions.fn x := by kernel_rfl
theorem ok_beam_fractions : FnOk G 91 fe_beam_fractions := fnOk_of G_ok (lstK_ok G_ok (lcons ok_beam_exact__fraction (lnil))) Tryz.func91 (by kernel_rfl) (by kernel_rfl) (by kernel_rfl) (by kernel_rfl) (by kernel_rfl) ev_beam_fractions

def F_decimal_word (s : ByteArray) : Option (Int) :=
  (iterF (σ := Int × Unit) (ρ := Int × Unit) (fun s12 => ((bif (decide (s12.1 < ((s.size : Nat) : Int))) then (idxB s s12.1).bind fun b13 => (F_decimal_letter ((b13.toNat : Nat) : Int)).bind fun r14 => (bif r14 then some (true, ()) else (idxB s s12.1).bind fun b15 => (F_decimal_digit ((b15.toNat : Nat) : Int)).bind fun r16 => (bif r16 then some (true, ()) else (idxB s s12.1).bind fun b17 => some ((((b17.toNat : Nat) : Int) == 95), ()))) else some (false, ())) : Option (Bool × Unit)).bind fun y18 => (bif y18.1 then some (.inl ((IntKind.i64.wrap (s12.1 + 1)), ())) else some (.inr (s12.1, ())))) big (0, ())).bind fun y19 => some y19.1
def an_decimal_word : An U := (.node none .nil (.node none .nil (.node none (.node none (.node (some ⟨[0, 2], [], ⟨[(3, .tv .int)], []⟩, [(.exit 0, ⟨[(3, .tv .int)], []⟩)]⟩) (.node none (.node (some ⟨[3], [], ⟨[], []⟩, [(.normal, ⟨[(25, .tv .bool)], []⟩)]⟩) .nil .nil) .nil) .nil) .nil) .nil)))
def fe_decimal_word : Fe G := ⟨[.v .str], [.int1], fun x => F_decimal_word x.1⟩
def tb_decimal_word : List (FuncId × Fe G) := [(110, fe_decimal_letter), (148, fe_decimal_digit)]
theorem ev_decimal_word (x : TyP G fe_decimal_word.ps) : evF G (lstK G tb_decimal_word) (bodyOf Tryz.f111) an_decimal_word 29 [.tmp 2] fe_decimal_word.rs (argT G fe_decimal_word.ps x) = fe_decimal_word.fn x := by kernel_rfl
theorem ok_decimal_word : FnOk G 111 fe_decimal_word := fnOk_of G_ok (lstK_ok G_ok (lcons ok_decimal_letter (lcons ok_decimal_digit (lnil)))) Tryz.func111 (by kernel_rfl) (by kernel_rfl) (by kernel_rfl) (by kernel_rfl) (by kernel_rfl) ev_decimal_word

def F_batten_items_2 (y : TItem) (a1 : TItem) : Option (Bool) :=
  (F_batten_apart a1 y).bind fun r1 => some (!r1)
def an_batten_items_2 : An U := .nil
def fe_batten_items_2 : Fe G := ⟨[.v .Item, .rp .Item], [.bool], fun x => F_batten_items_2 x.1 x.2.1⟩
def tb_batten_items_2 : List (FuncId × Fe G) := [(79, fe_batten_apart)]
theorem ev_batten_items_2 (x : TyP G fe_batten_items_2.ps) : evF G (lstK G tb_batten_items_2) (bodyOf Tryz.f114) an_batten_items_2 8 [.tmp 3] fe_batten_items_2.rs (argT G fe_batten_items_2.ps x) = fe_batten_items_2.fn x := by kernel_rfl
theorem ok_batten_items_2 : FnOk G 114 fe_batten_items_2 := fnOk_of G_ok (lstK_ok G_ok (lcons ok_batten_apart (lnil))) Tryz.func114 (by kernel_rfl) (by kernel_rfl) (by kernel_rfl) (by kernel_rfl) (by kernel_rfl) ev_batten_items_2

def F_math_bits_Len (x : Int) : Option (Int) :=
  (F_math_bits_Len64 x).bind fun r1 => some r1
def an_math_bits_Len : An U := .nil
def fe_math_bits_Len : Fe G := ⟨[.v .u641], [.int1], fun x => F_math_bits_Len x.1⟩
def tb_math_bits_Len : List (FuncId × Fe G) := [(179, fe_math_bits_Len32), (180, fe_math_bits_Len64)]
theorem ev_math_bits_Len (x : TyP G fe_math_bits_Len.ps) : evF G (lstK G tb_math_bits_Len) (bodyOf Tryz.f147) an_math_bits_Len 8 [.tmp 2] fe_math_bits_Len.rs (argT G fe_math_bits_Len.ps x) = fe_math_bits_Len.fn x := by kernel_rfl
theorem ok_math_bits_Len : FnOk G 147 fe_math_bits_Len := fnOk_of G_ok (lstK_ok G_ok (lcons ok_math_bits_Len32 (lcons ok_math_bits_Len64 (lnil)))) Tryz.func147 (by kernel_rfl) (by kernel_rfl) (by kernel_rfl) (by kernel_rfl) (by kernel_rfl) ev_math_bits_Len

def F_slices_ContainsFunc_api_Load (s : List TLoad) (f : TLoad → Option Bool) : Option (Bool) :=
  (F_slices_IndexFunc_api_Load s f).bind fun r1 => some (decide (r1 ≥ 0))
def an_slices_ContainsFunc_api_Load : An U := .nil
def fe_slices_ContainsFunc_api_Load : Fe G := ⟨[.v .l_Load, .fn .Load .bool], [.bool], fun x => F_slices_ContainsFunc_api_Load x.1 x.2.1⟩
def tb_slices_ContainsFunc_api_Load : List (FuncId × Fe G) := [(181, fe_slices_IndexFunc_api_Load)]
theorem ev_slices_ContainsFunc_api_Load (x : TyP G fe_slices_ContainsFunc_api_Load.ps) : evF G (lstK G tb_slices_ContainsFunc_api_Load) (bodyOf Tryz.f150) an_slices_ContainsFunc_api_Load 9 [.tmp 4] fe_slices_ContainsFunc_api_Load.rs (argT G fe_slices_ContainsFunc_api_Load.ps x) = fe_slices_ContainsFunc_api_Load.fn x := by kernel_rfl
theorem ok_slices_ContainsFunc_api_Load : FnOk G 150 fe_slices_ContainsFunc_api_Load := fnOk_of G_ok (lstK_ok G_ok (lcons ok_slices_IndexFunc_api_Load (lnil))) Tryz.func150 (by kernel_rfl) (by kernel_rfl) (by kernel_rfl) (by kernel_rfl) (by kernel_rfl) ev_slices_ContainsFunc_api_Load

def F_beam_integer (n : Int) : Option (Tnumber) :=
  ((bif (decide (n < 0)) then some ((IntKind.u64.wrap (0 - (IntKind.u64.wrap n))), ()) else some ((IntKind.u64.wrap n), ())) : Option (Int × Unit)).bind fun y1 => (F_beam_trimmed ([(IntKind.u32.wrap y1.1), (IntKind.u32.wrap (y1.1.fdiv (2 ^ min (Int.toNat 32) IntKind.u64.bits)))] : List Int)).bind fun r2 => some (Tnumber.mk (decide (n < 0)) r2)
def an_beam_integer : An U := (.node none .nil (.node none .nil (.node (some ⟨[0, 2], [], ⟨[], []⟩, [(.normal, ⟨[(3, .tv .u64)], []⟩)]⟩) .nil .nil)))
def fe_beam_integer : Fe G := ⟨[.v .int1], [.number], fun x => F_beam_integer x.1⟩
def tb_beam_integer : List (FuncId × Fe G) := [(182, fe_beam_trimmed)]
theorem ev_beam_integer (x : TyP G fe_beam_integer.ps) : evZ G (lstK G tb_beam_integer) (bodyOf Tryz.f156) an_beam_integer 20 [.cell 2 159] fe_beam_integer.rs (argT G fe_beam_integer.ps x) = fe_beam_integer.fn x := by kernel_rfl
theorem ok_beam_integer : FnOk G 156 fe_beam_integer := fnOkz_of G_ok (fun _ => lstK_ok G_ok (lcons ok_beam_trimmed (lnil))) Tryz.func156 (by kernel_rfl) (by kernel_rfl) (by kernel_rfl) (by kernel_rfl) (by kernel_rfl) ev_beam_integer

def F_beam_number__times (a : Tnumber) (b : Tnumber) : Option (Tnumber) :=
  (if 0 ≤ (IntKind.i64.wrap (((a.words.length : Nat) : Int) + ((b.words.length : Nat) : Int))) ∧ (IntKind.i64.wrap (((a.words.length : Nat) : Int) + ((b.words.length : Nat) : Int))) ≤ 16777216 then (iterF (σ := Int × List Int × Unit) (ρ := List Int × Unit) (fun s25 => (bif (decide (s25.1 < ((a.words.length : Nat) : Int))) then (idx a.words s25.1).bind fun x26 => (iterF (σ := Int × Int × List Int × Unit) (ρ := Int × List Int × Unit) (fun s27 => (bif (decide (s27.2.1 < ((b.words.length : Nat) : Int))) then (idx b.words s27.2.1).bind fun x28 => (idx s27.2.2.1 (IntKind.i64.wrap (s25.1 + s27.2.1))).bind fun _x29 => (s27.2.2.1[(Int.toNat (IntKind.i64.wrap (s25.1 + s27.2.1)))]?).bind fun x30 => (idx s27.2.2.1 (IntKind.i64.wrap (s25.1 + s27.2.1))).bind fun _x31 => (s27.2.2.1[(Int.toNat (IntKind.i64.wrap (s25.1 + s27.2.1)))]?).bind fun x32 => some (.inl (((IntKind.u64.wrap (s27.1 + (IntKind.u64.wrap ((IntKind.u64.wrap ((IntKind.u64.wrap x26) * (IntKind.u64.wrap x28))) + (IntKind.u64.wrap x30))))).fdiv (2 ^ min (Int.toNat 32) IntKind.u64.bits)), (IntKind.i64.wrap (s27.2.1 + 1)), (s27.2.2.1.set (Int.toNat (IntKind.i64.wrap (s25.1 + s27.2.1))) (IntKind.u32.wrap (IntKind.u64.wrap (s27.1 + (IntKind.u64.wrap ((IntKind.u64.wrap ((IntKind.u64.wrap x26) * (IntKind.u64.wrap x28))) + (IntKind.u64.wrap x30))))))), ())) else some (.inr (s27.1, s27.2.2.1, ())))) big (0, 0, s25.2.1, ())).bind fun y33 => (idx y33.2.1 (IntKind.i64.wrap (s25.1 + ((b.words.length : Nat) : Int)))).bind fun _x34 => (y33.2.1[(Int.toNat (IntKind.i64.wrap (s25.1 + ((b.words.length : Nat) : Int))))]?).bind fun x35 => some (.inl ((IntKind.i64.wrap (s25.1 + 1)), (y33.2.1.set (Int.toNat (IntKind.i64.wrap (s25.1 + ((b.words.length : Nat) : Int)))) (IntKind.u32.wrap y33.1)), ())) else some (.inr (s25.2.1, ())))) big (0, (List.replicate (Int.toNat (IntKind.i64.wrap (((a.words.length : Nat) : Int) + ((b.words.length : Nat) : Int)))) (0 : Int)), ())).bind fun y36 => (F_beam_trimmed y36.1).bind fun r37 => some (Tnumber.mk (!(a.neg == b.neg)) r37) else none)
def an_beam_number__times : An U := (.node none .nil (.node none .nil (.node none (.node none .nil (.node none (.node (some ⟨[2, 3, 4, 5, 20, 21], [3], ⟨[(22, .tv .int)], [(3, .row .u32)]⟩, [(.exit 0, ⟨[], [(3, .row .u32)]⟩)]⟩) (.node none .nil (.node none .nil (.node none (.node none (.node none .nil (.node none .nil (.node none (.node none .nil (.node none (.node (some ⟨[6, 7, 22, 28, 29], [3], ⟨[(8, .tv .u64), (30, .tv .int)], [(3, .row .u32)]⟩, [(.exit 2, ⟨[(8, .tv .u64)], [(3, .row .u32)]⟩)]⟩) .nil .nil) .nil)) .nil))) .nil) .nil))) .nil) .nil)) .nil)))
def fe_beam_number__times : Fe G := ⟨[.v .number, .v .number], [.number], fun x => F_beam_number__times x.1 x.2.1⟩
def tb_beam_number__times : List (FuncId × Fe G) := [(182, fe_beam_trimmed)]
theorem ev_beam_number__times (x : TyP G fe_beam_number__times.ps) : evZ G (lstK G tb_beam_number__times) (bodyOf Tryz.f158) an_beam_number__times 78 [.cell 4 159] fe_beam_number__times.rs (argT G fe_beam_number__times.ps x) = fe_beam_number__times.fn x := by kernel_rfl
theorem ok_beam_number__times : FnOk G 158 fe_beam_number__times := fnOkz_of G_ok (fun _ => lstK_ok G_ok (lcons ok_beam_trimmed (lnil))) Tryz.func158 (by kernel_rfl) (by kernel_rfl) (by kernel_rfl) (by kernel_rfl) (by kernel_rfl) ev_beam_number__times

def F_ref08_plus (a : List Int) (b : List Int) : Option ((List Int)) :=
  (iterF (σ := Int × Int × List Int × Unit) (ρ := List Int × Unit) (fun s7 => ((bif (decide (s7.2.1 < ((a.length : Nat) : Int))) then some (true, ()) else (bif (decide (s7.2.1 < ((b.length : Nat) : Int))) then some (true, ()) else some ((decide (s7.1 > 0)), ()))) : Option (Bool × Unit)).bind fun y8 => (bif y8.1 then (F_ref08_digit a s7.2.1).bind fun r9 => (F_ref08_digit b s7.2.1).bind fun r10 => (if s7.2.2.1.length + ([((IntKind.i64.wrap ((IntKind.i64.wrap (r9 + r10)) + s7.1)).tmod 16777216)] : List Int).length ≤ 2147483648 then some (.inl ((IntKind.i64.wrap ((IntKind.i64.wrap ((IntKind.i64.wrap (r9 + r10)) + s7.1)).tdiv 16777216)), (IntKind.i64.wrap (s7.2.1 + 1)), (s7.2.2.1 ++ ([((IntKind.i64.wrap ((IntKind.i64.wrap (r9 + r10)) + s7.1)).tmod 16777216)] : List Int)), ())) else none) else some (.inr (s7.2.2.1, ())))) big (0, 0, ([] : List Int), ())).bind fun y11 => some y11.1
end
end Go.Proofs.YtkagmdfhodbfmaaGreat

/- Functions, as plain data. Printed by mkev.py. -/
namespace Go.Proofs.YtkagmdfhodbfmaaGreat
open Go.RowKit
set_option linter.unusedVariables false
set_option linter.unusedSimpArgs false
noncomputable section

def F_ref08_minus (a : List Int) (b : List Int) : Option ((List Int)) :=
  (iterF (σ := Int × Int × List Int × Unit) (ρ := List Int × Unit) (fun s7 => (bif (decide (s7.2.1 < ((a.length : Nat) : Int))) then (idx a s7.2.1).bind fun x8 => (F_ref08_digit b s7.2.1).bind fun r9 => ((bif (decide ((IntKind.i64.wrap ((IntKind.i64.wrap (x8 - r9)) - s7.1)) < 0)) then some (1, (IntKind.i64.wrap ((IntKind.i64.wrap ((IntKind.i64.wrap (x8 - r9)) - s7.1)) + 16777216)), ()) else some (0, (IntKind.i64.wrap ((IntKind.i64.wrap (x8 - r9)) - s7.1)), ())) : Option (Int × Int × Unit)).bind fun y10 => (if s7.2.2.1.length + ([y10.2.1] : List Int).length ≤ 2147483648 then some (.inl (y10.1, (IntKind.i64.wrap (s7.2.1 + 1)), (s7.2.2.1 ++ ([y10.2.1] : List Int)), ())) else none) else some (.inr (s7.2.2.1, ())))) big (0, 0, ([] : List Int), ())).bind fun y11 => some y11.1
def F_beam_added (a : List Int) (b : List Int) : Option ((List Int)) :=
  ((bif (decide (((a.length : Nat) : Int) < ((b.length : Nat) : Int))) then some (b, a, ()) else some (a, b, ())) : Option ((List Int) × (List Int) × Unit)).bind fun y1 => (if 0 ≤ (IntKind.i64.wrap (((y1.1.length : Nat) : Int) + 1)) ∧ (IntKind.i64.wrap (((y1.1.length : Nat) : Int) + 1)) ≤ 16777216 then (iterF (σ := Int × Int × List Int × Unit) (ρ := List Int × Unit) (fun s17 => (bif (decide (s17.2.1 < (((List.replicate (Int.toNat (IntKind.i64.wrap (((y1.1.length : Nat) : Int) + 1))) (0 : Int)).length : Nat) : Int))) then ((bif (decide (s17.2.1 < ((y1.1.length : Nat) : Int))) then (idx y1.1 s17.2.1).bind fun x18 => some ((IntKind.u64.wrap (s17.1 + (IntKind.u64.wrap x18))), ()) else some (s17.1, ())) : Option (Int × Unit)).bind fun y19 => ((bif (decide (s17.2.1 < ((y1.2.1.length : Nat) : Int))) then (idx y1.2.1 s17.2.1).bind fun x20 => some ((IntKind.u64.wrap (y19.1 + (IntKind.u64.wrap x20))), ()) else some (y19.1, ())) : Option (Int × Unit)).bind fun y21 => (idx s17.2.2.1 s17.2.1).bind fun _x22 => (s17.2.2.1[(Int.toNat s17.2.1)]?).bind fun x23 => some (.inl ((y21.1.fdiv (2 ^ min (Int.toNat 32) IntKind.u64.bits)), (IntKind.i64.wrap (s17.2.1 + 1)), (s17.2.2.1.set (Int.toNat s17.2.1) (IntKind.u32.wrap y21.1)), ())) else some (.inr (s17.2.2.1, ())))) big (0, 0, (List.replicate (Int.toNat (IntKind.i64.wrap (((y1.1.length : Nat) : Int) + 1))) (0 : Int)), ())).bind fun y24 => (F_beam_trimmed y24.1).bind fun r25 => some r25 else none)
def an_beam_added : An U := (.node none .nil (.node (some ⟨[4], [], ⟨[], []⟩, [(.normal, ⟨[(0, .tv .l_u32), (1, .tv .l_u32)], []⟩)]⟩) .nil (.node none .nil (.node none .nil (.node none (.node none .nil (.node none (.node (some ⟨[0, 1, 4, 5, 20], [1], ⟨[(6, .tv .u64), (21, .tv .int)], [(1, .row .u32)]⟩, [(.exit 0, ⟨[], [(1, .row .u32)]⟩)]⟩) (.node none .nil (.node none .nil (.node none (.node none (.node none .nil (.node (some ⟨[7, 21], [], ⟨[], []⟩, [(.normal, ⟨[(6, .tv .u64)], []⟩)]⟩) .nil (.node (some ⟨[7, 21], [], ⟨[], []⟩, [(.normal, ⟨[(6, .tv .u64)], []⟩)]⟩) .nil .nil))) .nil) .nil))) .nil) .nil)) .nil)))))
def fe_beam_added : Fe G := ⟨[.v .l_u32, .v .l_u32], [.l_u32], fun x => F_beam_added x.1 x.2.1⟩
def tb_beam_added : List (FuncId × Fe G) := [(182, fe_beam_trimmed)]
theorem ev_beam_added (x : TyP G fe_beam_added.ps) : evZ G (lstK G tb_beam_added) (bodyOf Tryz.f185) an_beam_added 56 [.tmp 4] fe_beam_added.rs (argT G fe_beam_added.ps x) = fe_beam_added.fn x := by kernel_rfl
theorem ok_beam_added : FnOk G 185 fe_beam_added := fnOkz_of G_ok (fun _ => lstK_ok G_ok (lcons ok_beam_trimmed (lnil))) Tryz.func185 (by kernel_rfl) (by kernel_rfl) (by kernel_rfl) (by kernel_rfl) (by kernel_rfl) ev_beam_added

def F_beam_taken (a : List Int) (b : List Int) : Option ((List Int)) :=
  (if 0 ≤ ((a.length : Nat) : Int) ∧ ((a.length : Nat) : Int) ≤ 16777216 then (iterF (σ := Int × Int × List Int × Unit) (ρ := List Int × Unit) (fun s14 => (bif (decide (s14.2.1 < ((a.length : Nat) : Int))) then (idx a s14.2.1).bind fun x15 => ((bif (decide (s14.2.1 < ((b.length : Nat) : Int))) then (idx b s14.2.1).bind fun x16 => some ((IntKind.i64.wrap ((IntKind.i64.wrap ((IntKind.i64.wrap x15) - s14.1)) - (IntKind.i64.wrap x16))), ()) else some ((IntKind.i64.wrap ((IntKind.i64.wrap x15) - s14.1)), ())) : Option (Int × Unit)).bind fun y17 => ((bif (decide (y17.1 < 0)) then some (1, (IntKind.i64.wrap (y17.1 + 4294967296)), ()) else some (0, y17.1, ())) : Option (Int × Int × Unit)).bind fun y18 => (idx s14.2.2.1 s14.2.1).bind fun _x19 => (s14.2.2.1[(Int.toNat s14.2.1)]?).bind fun x20 => some (.inl (y18.1, (IntKind.i64.wrap (s14.2.1 + 1)), (s14.2.2.1.set (Int.toNat s14.2.1) (IntKind.u32.wrap y18.2.1)), ())) else some (.inr (s14.2.2.1, ())))) big (0, 0, (List.replicate (Int.toNat ((a.length : Nat) : Int)) (0 : Int)), ())).bind fun y21 => (F_beam_trimmed y21.1).bind fun r22 => some r22 else none)
def an_beam_taken : An U := (.node none .nil (.node none .nil (.node none .nil (.node none (.node none .nil (.node none (.node (some ⟨[0, 1, 4, 5, 13], [1], ⟨[(6, .tv .int), (14, .tv .int)], [(1, .row .u32)]⟩, [(.exit 0, ⟨[], [(1, .row .u32)]⟩)]⟩) (.node none .nil (.node none .nil (.node none (.node none (.node none .nil (.node none .nil (.node (some ⟨[6, 7, 14], [], ⟨[], []⟩, [(.normal, ⟨[(8, .tv .int)], []⟩)]⟩) .nil (.node none .nil (.node (some ⟨[7, 14], [], ⟨[], []⟩, [(.normal, ⟨[(6, .tv .int), (8, .tv .int)], []⟩)]⟩) .nil .nil))))) .nil) .nil))) .nil) .nil)) .nil))))
def fe_beam_taken : Fe G := ⟨[.v .l_u32, .v .l_u32], [.l_u32], fun x => F_beam_taken x.1 x.2.1⟩
def tb_beam_taken : List (FuncId × Fe G) := [(182, fe_beam_trimmed)]
theorem ev_beam_taken (x : TyP G fe_beam_taken.ps) : evZ G (lstK G tb_beam_taken) (bodyOf Tryz.f187) an_beam_taken 47 [.tmp 4] fe_beam_taken.rs (argT G fe_beam_taken.ps x) = fe_beam_taken.fn x := by kernel_rfl
theorem ok_beam_taken : FnOk G 187 fe_beam_taken := fnOkz_of G_ok (fun _ => lstK_ok G_ok (lcons ok_beam_trimmed (lnil))) Tryz.func187 (by kernel_rfl) (by kernel_rfl) (by kernel_rfl) (by kernel_rfl) (by kernel_rfl) ev_beam_taken

def F_beam_halved (a : List Int) : Option ((List Int)) :=
  (if 0 ≤ ((a.length : Nat) : Int) ∧ ((a.length : Nat) : Int) ≤ 16777216 then (iterF (σ := Int × List Int × Unit) (ρ := List Int × Unit) (fun s22 => (bif (decide (s22.1 < ((a.length : Nat) : Int))) then ((idx a s22.1).bind fun x23 => (idx s22.2.1 s22.1).bind fun _x24 => (s22.2.1[(Int.toNat s22.1)]?).bind fun x25 => (bif (decide ((IntKind.i64.wrap (s22.1 + 1)) < ((a.length : Nat) : Int))) then (idx (s22.2.1.set (Int.toNat s22.1) (x23.fdiv (2 ^ min (Int.toNat 1) IntKind.u32.bits))) s22.1).bind fun _x26 => ((s22.2.1.set (Int.toNat s22.1) (x23.fdiv (2 ^ min (Int.toNat 1) IntKind.u32.bits)))[(Int.toNat s22.1)]?).bind fun x27 => (idx a (IntKind.i64.wrap (s22.1 + 1))).bind fun x28 => (idx (s22.2.1.set (Int.toNat s22.1) (x23.fdiv (2 ^ min (Int.toNat 1) IntKind.u32.bits))) s22.1).bind fun _x29 => ((s22.2.1.set (Int.toNat s22.1) (x23.fdiv (2 ^ min (Int.toNat 1) IntKind.u32.bits)))[(Int.toNat s22.1)]?).bind fun x30 => some (((s22.2.1.set (Int.toNat s22.1) (x23.fdiv (2 ^ min (Int.toNat 1) IntKind.u32.bits))).set (Int.toNat s22.1) (bitsOf .or .u32 x27 (IntKind.u32.wrap (x28 * 2 ^ min (Int.toNat 31) IntKind.u32.bits)))), ()) else some ((s22.2.1.set (Int.toNat s22.1) (x23.fdiv (2 ^ min (Int.toNat 1) IntKind.u32.bits))), ())) : Option (List Int × Unit)).bind fun y31 => some (.inl ((IntKind.i64.wrap (s22.1 + 1)), y31.1, ())) else some (.inr (s22.2.1, ())))) big (0, (List.replicate (Int.toNat ((a.length : Nat) : Int)) (0 : Int)), ())).bind fun y32 => (F_beam_trimmed y32.1).bind fun r33 => some r33 else none)
def an_beam_halved : An U := (.node none .nil (.node none .nil (.node none (.node none .nil (.node none (.node (some ⟨[0, 2, 3, 9], [1], ⟨[(10, .tv .int)], [(1, .row .u32)]⟩, [(.exit 0, ⟨[], [(1, .row .u32)]⟩)]⟩) (.node none .nil (.node none .nil (.node (some ⟨[10], [1], ⟨[], []⟩, [(.normal, ⟨[], [(1, .row .u32)]⟩)]⟩) .nil .nil))) .nil) .nil)) .nil)))
def fe_beam_halved : Fe G := ⟨[.v .l_u32], [.l_u32], fun x => F_beam_halved x.1⟩
def tb_beam_halved : List (FuncId × Fe G) := [(182, fe_beam_trimmed)]
theorem ev_beam_halved (x : TyP G fe_beam_halved.ps) : evZ G (lstK G tb_beam_halved) (bodyOf Tryz.f194) an_beam_halved 41 [.tmp 2] fe_beam_halved.rs (argT G fe_beam_halved.ps x) = fe_beam_halved.fn x := by kernel_rfl
theorem ok_beam_halved : FnOk G 194 fe_beam_halved := fnOkz_of G_ok (fun _ => lstK_ok G_ok (lcons ok_beam_trimmed (lnil))) Tryz.func194 (by kernel_rfl) (by kernel_rfl) (by kernel_rfl) (by kernel_rfl) (by kernel_rfl) ev_beam_halved

def F_batten_Room_1 (a : TItem) (b : TItem) : Option (Int) :=
  (F_cmp_Compare_int a.at_ b.at_).bind fun r1 => some r1
def an_batten_Room_1 : An U := .nil
def fe_batten_Room_1 : Fe G := ⟨[.v .Item, .v .Item], [.int1], fun x => F_batten_Room_1 x.1 x.2.1⟩
def tb_batten_Room_1 : List (FuncId × Fe G) := [(55, fe_cmp_Compare_int)]
theorem ev_batten_Room_1 (x : TyP G fe_batten_Room_1.ps) : evF G (lstK G tb_batten_Room_1) (bodyOf Tryz.f54) an_batten_Room_1 10 [.tmp 4] fe_batten_Room_1.rs (argT G fe_batten_Room_1.ps x) = fe_batten_Room_1.fn x := by kernel_rfl
theorem ok_batten_Room_1 : FnOk G 54 fe_batten_Room_1 := fnOk_of G_ok (lstK_ok G_ok (lcons ok_cmp_Compare_int (lnil))) Tryz.func54 (by kernel_rfl) (by kernel_rfl) (by kernel_rfl) (by kernel_rfl) (by kernel_rfl) ev_batten_Room_1

def F_decimal_IsName (s : ByteArray) : Option (Bool) :=
  ((bif (!(s.toList == (⟨#[]⟩ : ByteArray).toList)) then (bif (decide (((s.size : Nat) : Int) ≤ 20)) then (idxB s 0).bind fun b4 => (F_decimal_letter ((b4.toNat : Nat) : Int)).bind fun r5 => (bif r5 then (F_decimal_word s).bind fun r6 => some ((r6 == ((s.size : Nat) : Int)), ()) else some (false, ())) else some (false, ())) else some (false, ())) : Option (Bool × Unit)).bind fun y7 => some y7.1
def an_decimal_IsName : An U := (.node none .nil (.node (some ⟨[], [], ⟨[], []⟩, [(.normal, ⟨[(2, .tv .bool)], []⟩)]⟩) .nil .nil))
def fe_decimal_IsName : Fe G := ⟨[.v .str], [.bool], fun x => F_decimal_IsName x.1⟩
def tb_decimal_IsName : List (FuncId × Fe G) := [(110, fe_decimal_letter), (111, fe_decimal_word)]
theorem ev_decimal_IsName (x : TyP G fe_decimal_IsName.ps) : evF G (lstK G tb_decimal_IsName) (bodyOf Tryz.f56) an_decimal_IsName 22 [.tmp 2] fe_decimal_IsName.rs (argT G fe_decimal_IsName.ps x) = fe_decimal_IsName.fn x := by kernel_rfl
theorem ok_decimal_IsName : FnOk G 56 fe_decimal_IsName := fnOk_of G_ok (lstK_ok G_ok (lcons ok_decimal_letter (lcons ok_decimal_word (lnil)))) Tryz.func56 (by kernel_rfl) (by kernel_rfl) (by kernel_rfl) (by kernel_rfl) (by kernel_rfl) ev_decimal_IsName

def F_beam_whole (n : Int) : Option (Texact) :=
  (F_beam_integer n).bind fun r1 => (F_beam_integer 1).bind fun r2 => some (Texact.mk r1 r2)
def an_beam_whole : An U := .nil
def fe_beam_whole : Fe G := ⟨[.v .int1], [.exact], fun x => F_beam_whole x.1⟩
def tb_beam_whole : List (FuncId × Fe G) := [(156, fe_beam_integer)]
theorem ev_beam_whole (x : TyP G fe_beam_whole.ps) : evZ G (lstK G tb_beam_whole) (bodyOf Tryz.f125) an_beam_whole 7 [.cell 2 161] fe_beam_whole.rs (argT G fe_beam_whole.ps x) = fe_beam_whole.fn x := by kernel_rfl
theorem ok_beam_whole : FnOk G 125 fe_beam_whole := fnOkz_of G_ok (fun _ => lstK_ok G_ok (lcons ok_beam_integer (lnil))) Tryz.func125 (by kernel_rfl) (by kernel_rfl) (by kernel_rfl) (by kernel_rfl) (by kernel_rfl) ev_beam_whole

def F_beam_turned (b : TBeam) : Option (TBeam) :=
  (if b.supports.length ≤ 16777216 then foldR (σ := TBeam × Unit) (τ := Nat × Int) (fun s1 x2 => (if s1.1.supports.length + ([(IntKind.i64.wrap (b.length - x2.2))] : List Int).length ≤ 2147483648 then some ((TBeam.mk s1.1.name s1.1.length (s1.1.supports ++ ([(IntKind.i64.wrap (b.length - x2.2))] : List Int)) s1.1.loads s1.1.even), ()) else none)) (ordS true b.supports) ((TBeam.mk b.name b.length ([] : List Int) ([] : List TLoad) b.even), ()) else none).bind fun s3 => (some (s3.1, ()) : Option (TBeam × Unit)).bind fun y4 => (iterF (σ := Int × TBeam × Unit) (ρ := TBeam × Unit) (fun s8 => (bif (decide (s8.1 < ((b.loads.length : Nat) : Int))) then (idx b.loads s8.1).bind fun x9 => (if s8.2.1.loads.length + ([(TLoad.mk (IntKind.i64.wrap (b.length - x9.at_)) x9.weight)] : List TLoad).length ≤ 2147483648 then some (.inl ((IntKind.i64.wrap (s8.1 + 1)), (TBeam.mk s8.2.1.name s8.2.1.length s8.2.1.supports (s8.2.1.loads ++ ([(TLoad.mk (IntKind.i64.wrap (b.length - x9.at_)) x9.weight)] : List TLoad)) s8.2.1.even), ())) else none) else some (.inr (s8.2.1, ())))) big (0, y4.1, ())).bind fun y10 => some y10.1
def an_beam_turned : An U := (.node none .nil (.node none .nil (.node none .nil (.node none (.node none .nil (.node none (.node (some ⟨[1, 2, 3], [2], ⟨[], [(2, .bx .Beam [2, 3])]⟩, [(.normal, ⟨[], [(2, .bx .Beam [2, 3])]⟩)]⟩) .nil .nil) .nil)) (.node none (.node none .nil (.node none (.node (some ⟨[1, 2, 3, 26, 27], [2, 5, 6], ⟨[(28, .tv .int)], [(2, .bx .Beam [2, 3]), (5, .gone), (6, .gone)]⟩, [(.exit 2, ⟨[], [(2, .bx .Beam [2, 3])]⟩)]⟩) .nil .nil) .nil)) .nil)))))
def fe_beam_turned : Fe G := ⟨[.v .Beam], [.Beam], fun x => F_beam_turned x.1⟩
def tb_beam_turned : List (FuncId × Fe G) := []
theorem ev_beam_turned (x : TyP G fe_beam_turned.ps) : evF G (inlK G [⟨162, 3, [], [], bodyOf Tryz.f162, .nil, 4, [.tmp 2]⟩] (lstK G tb_beam_turned) 1) (bodyOf Tryz.f131) an_beam_turned 47 [.cell 2 62] fe_beam_turned.rs (argT G fe_beam_turned.ps x) = fe_beam_turned.fn x := by kernel_rfl
theorem ok_beam_turned : FnOk G 131 fe_beam_turned := fnOk_of G_ok (inlK_ok G_ok (icons Tryz.func162 (by kernel_rfl) (by kernel_rfl) (by kernel_rfl) (by kernel_rfl) (inil)) (lstK_ok G_ok (lnil)) 1) Tryz.func131 (by kernel_rfl) (by kernel_rfl) (by kernel_rfl) (by kernel_rfl) (by kernel_rfl) ev_beam_turned

def F_beam_number__plus (a : Tnumber) (b : Tnumber) : Option (Tnumber) :=
  (bif (a.neg == b.neg) then (F_beam_added a.words b.words).bind fun r1 => some (Tnumber.mk a.neg r1) else (F_beam_compared a.words b.words).bind fun r2 => (bif (decide (r2 < 0)) then (F_beam_taken b.words a.words).bind fun r3 => some (Tnumber.mk b.neg r3) else (F_beam_taken a.words b.words).bind fun r4 => some (Tnumber.mk a.neg r4)))
def an_beam_number__plus : An U := .nil
def fe_beam_number__plus : Fe G := ⟨[.v .number, .v .number], [.number], fun x => F_beam_number__plus x.1 x.2.1⟩
def tb_beam_number__plus : List (FuncId × Fe G) := [(185, fe_beam_added), (186, fe_beam_compared), (187, fe_beam_taken)]
theorem ev_beam_number__plus (x : TyP G fe_beam_number__plus.ps) : evZ G (lstK G tb_beam_number__plus) (bodyOf Tryz.f159) an_beam_number__plus 40 [.cell 4 159] fe_beam_number__plus.rs (argT G fe_beam_number__plus.ps x) = fe_beam_number__plus.fn x := by kernel_rfl
theorem ok_beam_number__plus : FnOk G 159 fe_beam_number__plus := fnOkz_of G_ok (fun _ => lstK_ok G_ok (lcons ok_beam_added (lcons ok_beam_compared (lcons ok_beam_taken (lnil))))) Tryz.func159 (by kernel_rfl) (by kernel_rfl) (by kernel_rfl) (by kernel_rfl) (by kernel_rfl) ev_beam_number__plus

def F_beam_common (a : List Int) (b : List Int) : Option ((List Int)) :=
  (iterF (σ := (List Int) × (List Int) × Int × Unit) (ρ := (List Int) × (List Int) × Int × Unit) (fun s8 => ((idx s8.1 0).bind fun x9 => (bif ((bitsOf .and .u32 x9 1) == 0) then (idx s8.2.1 0).bind fun x10 => some (((bitsOf .and .u32 x10 1) == 0), ()) else some (false, ())) : Option (Bool × Unit)).bind fun y11 => (bif y11.1 then (F_beam_halved s8.1).bind fun r12 => (F_beam_halved s8.2.1).bind fun r13 => some (.inl (r12, r13, (IntKind.i64.wrap (s8.2.2.1 + 1)), ())) else some (.inr (s8.1, s8.2.1, s8.2.2.1, ())))) big (a, b, 0, ())).bind fun y14 => (iterF (σ := (List Int) × (List Int) × Unit) (ρ := (List Int) × Unit) (fun s31 => (bif (decide (((s31.1.length : Nat) : Int) > 0)) then (iterF (σ := (List Int) × Unit) (ρ := (List Int) × Unit) (fun s32 => (idx s32.1 0).bind fun x33 => (bif ((bitsOf .and .u32 x33 1) == 0) then (F_beam_halved s32.1).bind fun r34 => some (.inl (r34, ())) else some (.inr (s32.1, ())))) big (s31.1, ())).bind fun y35 => (iterF (σ := (List Int) × Unit) (ρ := (List Int) × Unit) (fun s36 => (idx s36.1 0).bind fun x37 => (bif ((bitsOf .and .u32 x37 1) == 0) then (F_beam_halved s36.1).bind fun r38 => some (.inl (r38, ())) else some (.inr (s36.1, ())))) big (s31.2.1, ())).bind fun y39 => ((F_beam_compared y35.1 y39.1).bind fun r40 => (bif (decide (r40 < 0)) then some (y39.1, y35.1, ()) else some (y35.1, y39.1, ())) : Option ((List Int) × (List Int) × Unit)).bind fun y41 => (F_beam_taken y41.1 y41.2.1).bind fun r42 => some (.inl (r42, y41.2.1, ())) else some (.inr (s31.2.1, ())))) big (y14.1, y14.2.1, ())).bind fun y43 => (iterF (σ := (List Int) × Int × Unit) (ρ := (List Int) × Unit) (fun s45 => (bif (decide (s45.2.1 < y14.2.2.1)) then (F_beam_added s45.1 s45.1).bind fun r46 => some (.inl (r46, (IntKind.i64.wrap (s45.2.1 + 1)), ())) else some (.inr (s45.1, ())))) big (y43.1, 0, ())).bind fun y47 => some y47.1
def an_beam_common : An U := (.node none .nil (.node none .nil (.node none (.node none (.node (some ⟨[4], [], ⟨[(0, .tv .l_u32), (1, .tv .l_u32), (5, .tv .int)], []⟩, [(.exit 0, ⟨[(0, .tv .l_u32), (1, .tv .l_u32), (5, .tv .int)], []⟩)]⟩) (.node none (.node (some ⟨[0, 1, 5], [], ⟨[], []⟩, [(.normal, ⟨[(17, .tv .bool)], []⟩)]⟩) .nil .nil) .nil) .nil) .nil) (.node none (.node none (.node (some ⟨[4, 5], [], ⟨[(0, .tv .l_u32), (1, .tv .l_u32)], []⟩, [(.exit 2, ⟨[(1, .tv .l_u32)], []⟩)]⟩) (.node none .nil (.node none (.node none (.node none (.node (some ⟨[1], [], ⟨[(0, .tv .l_u32)], []⟩, [(.exit 4, ⟨[(0, .tv .l_u32)], []⟩)]⟩) .nil .nil) .nil) (.node none (.node none (.node (some ⟨[0], [], ⟨[(1, .tv .l_u32)], []⟩, [(.exit 6, ⟨[(1, .tv .l_u32)], []⟩)]⟩) .nil .nil) .nil) (.node (some ⟨[], [], ⟨[], []⟩, [(.normal, ⟨[(0, .tv .l_u32), (1, .tv .l_u32)], []⟩)]⟩) .nil .nil))) .nil)) .nil) .nil) (.node none (.node none .nil (.node none (.node (some ⟨[4, 50], [], ⟨[(1, .tv .l_u32), (51, .tv .int)], []⟩, [(.exit 8, ⟨[(1, .tv .l_u32)], []⟩)]⟩) .nil .nil) .nil)) .nil)))))
def fe_beam_common : Fe G := ⟨[.v .l_u32, .v .l_u32], [.l_u32], fun x => F_beam_common x.1 x.2.1⟩
def tb_beam_common : List (FuncId × Fe G) := [(185, fe_beam_added), (186, fe_beam_compared), (187, fe_beam_taken), (194, fe_beam_halved)]
theorem ev_beam_common (x : TyP G fe_beam_common.ps) : evZ G (lstK G tb_beam_common) (bodyOf Tryz.f183) an_beam_common 58 [.tmp 4] fe_beam_common.rs (argT G fe_beam_common.ps x) = fe_beam_common.fn x := by kernel_rfl
theorem ok_beam_common : FnOk G 183 fe_beam_common := fnOkz_of G_ok (fun _ => lstK_ok G_ok (lcons ok_beam_added (lcons ok_beam_compared (lcons ok_beam_taken (lcons ok_beam_halved (lnil)))))) Tryz.func183 (by kernel_rfl) (by kernel_rfl) (by kernel_rfl) (by kernel_rfl) (by kernel_rfl) ev_beam_common

def F_beam_divided (a : List Int) (b : List Int) : Option ((List Int)) :=
  (if 0 ≤ ((a.length : Nat) : Int) ∧ ((a.length : Nat) : Int) ≤ 16777216 then (iterF (σ := (List Int) × Int × List Int × Unit) (ρ := List Int × Unit) (fun s24 => (bif (decide (s24.2.1 ≥ 0)) then (F_beam_added s24.1 s24.1).bind fun r25 => ((idx a (IntKind.i64.wrap (s24.2.1.tdiv 32))).bind fun x26 => (if (s24.2.1.tmod 32) < 0 then none else (bif ((bitsOf .and .u32 (x26.fdiv (2 ^ min (Int.toNat (s24.2.1.tmod 32)) IntKind.u32.bits)) 1) == 1) then (F_beam_added r25 ([1] : List Int)).bind fun r27 => some (r27, ()) else some (r25, ()))) : Option ((List Int) × Unit)).bind fun y28 => (F_beam_compared y28.1 b).bind fun r29 => (bif (decide (r29 ≥ 0)) then (F_beam_taken y28.1 b).bind fun r30 => (idx s24.2.2.1 (IntKind.i64.wrap (s24.2.1.tdiv 32))).bind fun _x31 => (s24.2.2.1[(Int.toNat (IntKind.i64.wrap (s24.2.1.tdiv 32)))]?).bind fun x32 => (if (s24.2.1.tmod 32) < 0 then none else (idx s24.2.2.1 (IntKind.i64.wrap (s24.2.1.tdiv 32))).bind fun _x33 => (s24.2.2.1[(Int.toNat (IntKind.i64.wrap (s24.2.1.tdiv 32)))]?).bind fun x34 => some (.inl (r30, (IntKind.i64.wrap (s24.2.1 - 1)), (s24.2.2.1.set (Int.toNat (IntKind.i64.wrap (s24.2.1.tdiv 32))) (bitsOf .or .u32 x32 (IntKind.u32.wrap (1 * 2 ^ min (Int.toNat (s24.2.1.tmod 32)) IntKind.u32.bits)))), ()))) else some (.inl (y28.1, (IntKind.i64.wrap (s24.2.1 - 1)), s24.2.2.1, ()))) else some (.inr (s24.2.2.1, ())))) big (([] : List Int), (IntKind.i64.wrap ((IntKind.i64.wrap (32 * ((a.length : Nat) : Int))) - 1)), (List.replicate (Int.toNat ((a.length : Nat) : Int)) (0 : Int)), ())).bind fun y35 => (F_beam_trimmed y35.1).bind fun r36 => some r36 else none)
def an_beam_divided : An U := (.node none .nil (.node none .nil (.node none .nil (.node none (.node none .nil (.node (some ⟨[], [2], ⟨[], []⟩, []⟩) (.node (some ⟨[0, 1, 4, 5], [1], ⟨[(6, .tv .l_u32), (7, .tv .int)], [(1, .row .u32)]⟩, [(.exit 0, ⟨[], [(1, .row .u32)]⟩)]⟩) (.node none .nil (.node none (.node none (.node none .nil (.node (some ⟨[7], [], ⟨[], []⟩, [(.normal, ⟨[(6, .tv .l_u32)], []⟩)]⟩) .nil .nil)) .nil) .nil)) .nil) .nil)) .nil))))
def fe_beam_divided : Fe G := ⟨[.v .l_u32, .v .l_u32], [.l_u32], fun x => F_beam_divided x.1 x.2.1⟩
def tb_beam_divided : List (FuncId × Fe G) := [(182, fe_beam_trimmed), (185, fe_beam_added), (186, fe_beam_compared), (187, fe_beam_taken)]
theorem ev_beam_divided (x : TyP G fe_beam_divided.ps) : evZ G (lstK G tb_beam_divided) (bodyOf Tryz.f184) an_beam_divided 54 [.tmp 4] fe_beam_divided.rs (argT G fe_beam_divided.ps x) = fe_beam_divided.fn x := by kernel_rfl
theorem ok_beam_divided : FnOk G 184 fe_beam_divided := fnOkz_of G_ok (fun _ => lstK_ok G_ok (lcons ok_beam_trimmed (lcons ok_beam_added (lcons ok_beam_compared (lcons ok_beam_taken (lnil)))))) Tryz.func184 (by kernel_rfl) (by kernel_rfl) (by kernel_rfl) (by kernel_rfl) (by kernel_rfl) ev_beam_divided
end
end Go.Proofs.YtkagmdfhodbfmaaGreat

/- Functions, as plain data. Printed by mkev.py. -/
namespace Go.Proofs.YtkagmdfhodbfmaaGreat
open Go.RowKit
set_option linter.unusedVariables false
set_option linter.unusedSimpArgs false
noncomputable section

def F_batten_bricks (l : List TBrick) : Option (Bool) :=
  ((bif (decide (((l.length : Nat) : Int) > 8)) then some (true, ()) else (F_batten_twice_api_Brick l (fun z5 => F_batten_bricks_1 z5)).bind fun r6 => some (r6, ())) : Option (Bool × Unit)).bind fun y7 => (bif y7.1 then some false else (iterF (σ := Int × Int × Unit) (ρ := (Bool × Unit) ⊕ (Int × Unit)) (fun s16 => (bif (decide (s16.2.1 < ((l.length : Nat) : Int))) then (idx l s16.2.1).bind fun x17 => ((F_decimal_IsName x17.name).bind fun r18 => (bif (!r18) then some (true, ()) else (F_batten_between x17.weight 1 1048576).bind fun r19 => (bif (!r19) then some (true, ()) else (F_batten_between x17.count 0 60).bind fun r20 => some ((!r20), ()))) : Option (Bool × Unit)).bind fun y21 => (bif y21.1 then some (.inr (.inl (false, ()))) else some (.inl ((IntKind.i64.wrap (s16.1 + x17.count)), (IntKind.i64.wrap (s16.2.1 + 1)), ()))) else some (.inr (.inr ((s16.1, ())))))) big (0, 0, ())).bind fun y22 => (match y22 with | .inl y23 => some y23.1 | .inr y24 => some (decide (y24.1 ≤ 60))))
def an_batten_bricks : An U := (.node none .nil (.node none (.node (some ⟨[0, 2], [], ⟨[], []⟩, [(.normal, ⟨[(12, .tv .bool)], []⟩)]⟩) .nil .nil) (.node none .nil (.node none (.node none .nil (.node none (.node (some ⟨[13, 14], [], ⟨[(3, .tv .int), (15, .tv .int)], []⟩, [(.ret, ⟨[(2, .tv .bool)], []⟩), (.exit 0, ⟨[(3, .tv .int)], []⟩)]⟩) (.node none .nil (.node none .nil (.node none (.node none (.node none .nil (.node none (.node (some ⟨[3, 5, 15], [], ⟨[], []⟩, [(.normal, ⟨[(34, .tv .bool)], []⟩)]⟩) .nil .nil) .nil)) .nil) .nil))) .nil) .nil)) .nil))))
def fe_batten_bricks : Fe G := ⟨[.v .l_Brick], [.bool], fun x => F_batten_bricks x.1⟩
def tb_batten_bricks : List (FuncId × Fe G) := [(56, fe_decimal_IsName), (57, fe_batten_between), (115, fe_batten_twice_api_Brick), (116, fe_batten_bricks_1)]
theorem ev_batten_bricks (x : TyP G fe_batten_bricks.ps) : evF G (lstK G tb_batten_bricks) (bodyOf Tryz.f60) an_batten_bricks 42 [.tmp 2] fe_batten_bricks.rs (argT G fe_batten_bricks.ps x) = fe_batten_bricks.fn x := by kernel_rfl
theorem ok_batten_bricks : FnOk G 60 fe_batten_bricks := fnOk_of G_ok (lstK_ok G_ok (lcons ok_decimal_IsName (lcons ok_batten_between (lcons ok_batten_twice_api_Brick (lcons ok_batten_bricks_1 (lnil)))))) Tryz.func60 (by kernel_rfl) (by kernel_rfl) (by kernel_rfl) (by kernel_rfl) (by kernel_rfl) ev_batten_bricks

def F_batten_alone (x : TItem) : Option (Bool) :=
  ((F_decimal_IsName x.name).bind fun r6 => (bif r6 then (F_batten_between x.weight 0 1048576).bind fun r7 => (bif r7 then (F_batten_between x.hang 0 1048576).bind fun r8 => (bif r8 then (F_batten_between x.front 0 1048576).bind fun r9 => (bif r9 then (F_batten_between x.back 0 1048576).bind fun r10 => some (r10, ()) else some (false, ())) else some (false, ())) else some (false, ())) else some (false, ())) : Option (Bool × Unit)).bind fun y11 => some y11.1
def an_batten_alone : An U := (.node none .nil (.node (some ⟨[], [], ⟨[], []⟩, [(.normal, ⟨[(2, .tv .bool)], []⟩)]⟩) .nil .nil))
def fe_batten_alone : Fe G := ⟨[.v .Item], [.bool], fun x => F_batten_alone x.1⟩
def tb_batten_alone : List (FuncId × Fe G) := [(56, fe_decimal_IsName), (57, fe_batten_between)]
theorem ev_batten_alone (x : TyP G fe_batten_alone.ps) : evF G (lstK G tb_batten_alone) (bodyOf Tryz.f76) an_batten_alone 26 [.tmp 2] fe_batten_alone.rs (argT G fe_batten_alone.ps x) = fe_batten_alone.fn x := by kernel_rfl
theorem ok_batten_alone : FnOk G 76 fe_batten_alone := fnOk_of G_ok (lstK_ok G_ok (lcons ok_decimal_IsName (lcons ok_batten_between (lnil)))) Tryz.func76 (by kernel_rfl) (by kernel_rfl) (by kernel_rfl) (by kernel_rfl) (by kernel_rfl) ev_batten_alone

def F_beam_Valid (b : TBeam) : Option (Bool) :=
  ((F_decimal_IsName b.name).bind fun r2 => (bif (!r2) then some (true, ()) else (bif (decide (b.length < 1)) then some (true, ()) else (bif (decide (b.length > 1048576)) then some (true, ()) else (bif (decide (b.even < 0)) then some (true, ()) else (bif (decide (b.even > 1048576)) then some (true, ()) else (bif (decide (((b.supports.length : Nat) : Int) < 1)) then some (true, ()) else (bif (decide (((b.supports.length : Nat) : Int) > 10)) then some (true, ()) else some ((decide (((b.loads.length : Nat) : Int) > 40)), ())))))))) : Option (Bool × Unit)).bind fun y3 => (bif y3.1 then some false else (iterF (σ := Int × Unit) (ρ := (Bool × Unit) ⊕ (Unit)) (fun s8 => (bif (decide (s8.1 < ((b.supports.length : Nat) : Int))) then (idx b.supports s8.1).bind fun x9 => ((bif (decide (x9 < 0)) then some (true, ()) else (bif (decide (x9 > b.length)) then some (true, ()) else (bif (decide (s8.1 > 0)) then (idx b.supports (IntKind.i64.wrap (s8.1 - 1))).bind fun x10 => some ((decide (x9 ≤ x10)), ()) else some (false, ())))) : Option (Bool × Unit)).bind fun y11 => (bif y11.1 then some (.inr (.inl (false, ()))) else some (.inl ((IntKind.i64.wrap (s8.1 + 1)), ()))) else some (.inr (.inr ((())))))) big (0, ())).bind fun y12 => (match y12 with | .inl y13 => some y13.1 | .inr y14 => (F_slices_ContainsFunc_api_Load b.loads (fun z16 => F_beam_Valid_1 z16 b)).bind fun r17 => some (!r17)))
def an_beam_Valid : An U := (.node none .nil (.node none (.node (some ⟨[1, 2], [], ⟨[], []⟩, [(.normal, ⟨[(46, .tv .bool)], []⟩)]⟩) .nil .nil) (.node none (.node none .nil (.node none (.node (some ⟨[1, 48, 49], [], ⟨[(50, .tv .int)], []⟩, [(.ret, ⟨[(2, .tv .bool)], []⟩), (.exit 0, ⟨[], []⟩)]⟩) (.node none .nil (.node none .nil (.node none (.node none (.node none .nil (.node (some ⟨[50], [], ⟨[], []⟩, [(.normal, ⟨[(76, .tv .bool)], []⟩)]⟩) .nil .nil)) .nil) .nil))) .nil) .nil)) .nil)))
def fe_beam_Valid : Fe G := ⟨[.v .Beam], [.bool], fun x => F_beam_Valid x.1⟩
def tb_beam_Valid : List (FuncId × Fe G) := [(56, fe_decimal_IsName), (150, fe_slices_ContainsFunc_api_Load), (151, fe_beam_Valid_1)]
theorem ev_beam_Valid (x : TyP G fe_beam_Valid.ps) : evF G (lstK G tb_beam_Valid) (bodyOf Tryz.f122) an_beam_Valid 83 [.tmp 2] fe_beam_Valid.rs (argT G fe_beam_Valid.ps x) = fe_beam_Valid.fn x := by kernel_rfl
theorem ok_beam_Valid : FnOk G 122 fe_beam_Valid := fnOk_of G_ok (lstK_ok G_ok (lcons ok_decimal_IsName (lcons ok_slices_ContainsFunc_api_Load (lcons ok_beam_Valid_1 (lnil))))) Tryz.func122 (by kernel_rfl) (by kernel_rfl) (by kernel_rfl) (by kernel_rfl) (by kernel_rfl) ev_beam_Valid

def F_beam_lowest (n : Tnumber) (d : Tnumber) : Option (Texact) :=
  (F_beam_number__sign n).bind fun r1 => (bif (r1 == 0) then (F_beam_whole 0).bind fun r2 => some r2 else ((bif d.neg then (F_beam_number__opposite n).bind fun r9 => (F_beam_number__opposite d).bind fun r10 => some (r9, r10, ()) else some (n, d, ())) : Option (Tnumber × Tnumber × Unit)).bind fun y11 => (F_beam_common y11.1.words y11.2.1.words).bind fun r12 => (F_beam_divided y11.1.words r12).bind fun r13 => (F_beam_divided y11.2.1.words r12).bind fun r14 => some (Texact.mk (Tnumber.mk y11.1.neg r13) (Tnumber.mk false r14)))
def an_beam_lowest : An U := (.node none .nil (.node none .nil (.node (some ⟨[2, 3, 4], [0, 1], ⟨[], []⟩, [(.normal, ⟨[], [(0, .bx .number []), (1, .bx .number [])]⟩)]⟩) .nil .nil)))
def fe_beam_lowest : Fe G := ⟨[.v .number, .v .number], [.exact], fun x => F_beam_lowest x.1 x.2.1⟩
def tb_beam_lowest : List (FuncId × Fe G) := [(125, fe_beam_whole), (153, fe_beam_number__sign), (161, fe_beam_number__opposite), (183, fe_beam_common), (184, fe_beam_divided)]
theorem ev_beam_lowest (x : TyP G fe_beam_lowest.ps) : evZ G (lstK G tb_beam_lowest) (bodyOf Tryz.f157) an_beam_lowest 34 [.cell 4 161] fe_beam_lowest.rs (argT G fe_beam_lowest.ps x) = fe_beam_lowest.fn x := by kernel_rfl
theorem ok_beam_lowest : FnOk G 157 fe_beam_lowest := fnOkz_of G_ok (fun _ => lstK_ok G_ok (lcons ok_beam_whole (lcons ok_beam_number__sign (lcons ok_beam_number__opposite (lcons ok_beam_common (lcons ok_beam_divided (lnil))))))) Tryz.func157 (by kernel_rfl) (by kernel_rfl) (by kernel_rfl) (by kernel_rfl) (by kernel_rfl) ev_beam_lowest

def F_batten_items (l : List TItem) (length : Int) : Option (Bool) :=
  ((bif (decide (((l.length : Nat) : Int) > 40)) then some (true, ()) else (F_batten_twice_api_Item l (fun z5 => F_batten_items_1 z5)).bind fun r6 => some (r6, ())) : Option (Bool × Unit)).bind fun y7 => (bif y7.1 then some false else (iterF (σ := Int × Unit) (ρ := (Bool × Unit) ⊕ (Unit)) (fun s20 => (bif (decide (s20.1 < ((l.length : Nat) : Int))) then (idx l s20.1).bind fun x21 => ((F_batten_alone x21).bind fun r22 => (bif (!r22) then some (true, ()) else (F_batten_inside x21 length).bind fun r23 => (bif (!r23) then some (true, ()) else (if 0 ≤ (0 : Int) ∧ (0 : Int) ≤ s20.1 ∧ s20.1 ≤ ((l.length : Nat) : Int) then (F_slices_ContainsFunc_api_Item ((l.take (Int.toNat s20.1)).drop (Int.toNat (0 : Int))) (fun z25 => F_batten_items_2 z25 x21)).bind fun r26 => some (r26, ()) else none))) : Option (Bool × Unit)).bind fun y27 => (bif y27.1 then some (.inr (.inl (false, ()))) else some (.inl ((IntKind.i64.wrap (s20.1 + 1)), ()))) else some (.inr (.inr ((())))))) big (0, ())).bind fun y28 => (match y28 with | .inl y29 => some y29.1 | .inr y30 => some true))
def an_batten_items : An U := (.node none .nil (.node none (.node (some ⟨[0, 1, 4], [], ⟨[], []⟩, [(.normal, ⟨[(13, .tv .bool)], []⟩)]⟩) .nil .nil) (.node none (.node none .nil (.node none (.node (some ⟨[0, 1, 14, 15], [], ⟨[(16, .tv .int)], []⟩, [(.ret, ⟨[(4, .tv .bool)], []⟩), (.exit 0, ⟨[], []⟩)]⟩) (.node none .nil (.node none .nil (.node none (.node none (.node none .nil (.node (some ⟨[16], [], ⟨[], []⟩, [(.normal, ⟨[(36, .tv .bool)], []⟩)]⟩) .nil .nil)) .nil) .nil))) .nil) .nil)) .nil)))
def fe_batten_items : Fe G := ⟨[.v .l_Item, .v .int1], [.bool], fun x => F_batten_items x.1 x.2.1⟩
def tb_batten_items : List (FuncId × Fe G) := [(18, fe_slices_ContainsFunc_api_Item), (76, fe_batten_alone), (77, fe_batten_inside), (112, fe_batten_twice_api_Item), (113, fe_batten_items_1), (114, fe_batten_items_2)]
theorem ev_batten_items (x : TyP G fe_batten_items.ps) : evF G (lstK G tb_batten_items) (bodyOf Tryz.f59) an_batten_items 38 [.tmp 4] fe_batten_items.rs (argT G fe_batten_items.ps x) = fe_batten_items.fn x := by kernel_rfl
theorem ok_batten_items : FnOk G 59 fe_batten_items := fnOk_of G_ok (lstK_ok G_ok (lcons ok_slices_ContainsFunc_api_Item (lcons ok_batten_alone (lcons ok_batten_inside (lcons ok_batten_twice_api_Item (lcons ok_batten_items_1 (lcons ok_batten_items_2 (lnil)))))))) Tryz.func59 (by kernel_rfl) (by kernel_rfl) (by kernel_rfl) (by kernel_rfl) (by kernel_rfl) ev_batten_items

def F_beam_exact__plus (a : Texact) (b : Texact) : Option (Texact) :=
  (F_beam_number__times a.n b.d).bind fun r1 => (F_beam_number__times b.n a.d).bind fun r2 => (F_beam_number__plus r1 r2).bind fun r3 => (F_beam_number__times a.d b.d).bind fun r4 => (F_beam_lowest r3 r4).bind fun r5 => some r5
def an_beam_exact__plus : An U := .nil
def fe_beam_exact__plus : Fe G := ⟨[.v .exact, .v .exact], [.exact], fun x => F_beam_exact__plus x.1 x.2.1⟩
def tb_beam_exact__plus : List (FuncId × Fe G) := [(157, fe_beam_lowest), (158, fe_beam_number__times), (159, fe_beam_number__plus)]
theorem ev_beam_exact__plus (x : TyP G fe_beam_exact__plus.ps) : evZ G (lstK G tb_beam_exact__plus) (bodyOf Tryz.f126) an_beam_exact__plus 22 [.cell 4 161] fe_beam_exact__plus.rs (argT G fe_beam_exact__plus.ps x) = fe_beam_exact__plus.fn x := by kernel_rfl
theorem ok_beam_exact__plus : FnOk G 126 fe_beam_exact__plus := fnOkz_of G_ok (fun _ => lstK_ok G_ok (lcons ok_beam_lowest (lcons ok_beam_number__times (lcons ok_beam_number__plus (lnil))))) Tryz.func126 (by kernel_rfl) (by kernel_rfl) (by kernel_rfl) (by kernel_rfl) (by kernel_rfl) ev_beam_exact__plus

def F_beam_exact__by (a : Texact) (b : Texact) : Option (Texact) :=
  (F_beam_number__times a.n b.d).bind fun r1 => (F_beam_number__times a.d b.n).bind fun r2 => (F_beam_lowest r1 r2).bind fun r3 => some r3
def an_beam_exact__by : An U := .nil
def fe_beam_exact__by : Fe G := ⟨[.v .exact, .v .exact], [.exact], fun x => F_beam_exact__by x.1 x.2.1⟩
def tb_beam_exact__by : List (FuncId × Fe G) := [(157, fe_beam_lowest), (158, fe_beam_number__times)]
theorem ev_beam_exact__by (x : TyP G fe_beam_exact__by.ps) : evZ G (lstK G tb_beam_exact__by) (bodyOf Tryz.f129) an_beam_exact__by 16 [.cell 4 161] fe_beam_exact__by.rs (argT G fe_beam_exact__by.ps x) = fe_beam_exact__by.fn x := by kernel_rfl
theorem ok_beam_exact__by : FnOk G 129 fe_beam_exact__by := fnOkz_of G_ok (fun _ => lstK_ok G_ok (lcons ok_beam_lowest (lcons ok_beam_number__times (lnil)))) Tryz.func129 (by kernel_rfl) (by kernel_rfl) (by kernel_rfl) (by kernel_rfl) (by kernel_rfl) ev_beam_exact__by

end
end Go.Proofs.YtkagmdfhodbfmaaGreat
