/- Joined by merge.py: Fn0, Fn1. -/
import Derived.Test.YtbamoboldhabjaaM03
/- Functions, as plain data. Printed by mkev.py. -/
namespace Go.Proofs.Ytbamoboldhabjaa
open Go.RowKit
set_option linter.unusedVariables false
set_option linter.unusedSimpArgs false
noncomputable section

def F_law20_long (b : TBeam) : Option (Bool) :=
  ((bif (decide (((b.supports.length : Nat) : Int) > 5)) then (bif (decide (((b.supports.length : Nat) : Int) ≤ 10)) then some (true, ()) else (bif (decide (((b.supports.length : Nat) : Int) > 15)) then some (true, ()) else (bif (decide (((b.loads.length : Nat) : Int) > 8)) then (bif (decide (((b.loads.length : Nat) : Int) ≤ 40)) then some (true, ()) else (bif (decide (((b.loads.length : Nat) : Int) > 45)) then some (true, ()) else some ((decide (((b.name.size : Nat) : Int) > 60)), ()))) else (bif (decide (((b.loads.length : Nat) : Int) > 45)) then some (true, ()) else some ((decide (((b.name.size : Nat) : Int) > 60)), ()))))) else (bif (decide (((b.supports.length : Nat) : Int) > 15)) then some (true, ()) else (bif (decide (((b.loads.length : Nat) : Int) > 8)) then (bif (decide (((b.loads.length : Nat) : Int) ≤ 40)) then some (true, ()) else (bif (decide (((b.loads.length : Nat) : Int) > 45)) then some (true, ()) else some ((decide (((b.name.size : Nat) : Int) > 60)), ()))) else (bif (decide (((b.loads.length : Nat) : Int) > 45)) then some (true, ()) else some ((decide (((b.name.size : Nat) : Int) > 60)), ()))))) : Option (Bool × Unit)).bind fun y1 => some y1.1
def an_law20_long : An U := (.node none .nil (.node (some ⟨[], [], ⟨[], []⟩, [(.normal, ⟨[(2, .tv .bool)], []⟩)]⟩) .nil .nil))
def fe_law20_long : Fe G := ⟨[.v .Beam], [.bool], fun x => F_law20_long x.1⟩
def tb_law20_long : List (FuncId × Fe G) := []
theorem ev_law20_long (x : TyP G fe_law20_long.ps) : evF G (lstK G tb_law20_long) (bodyOf Try.f11) an_law20_long 43 [.tmp 2] fe_law20_long.rs (argT G fe_law20_long.ps x) = fe_law20_long.fn x := by kernel_rfl
theorem ok_law20_long : FnOk G 11 fe_law20_long := fnOk_of G_ok (lstK_ok G_ok (lnil)) Try.func11 (by kernel_rfl) (by kernel_rfl) (by kernel_rfl) (by kernel_rfl) (by kernel_rfl) ev_law20_long

def F_slices_Equal_api_Frac (s1_ : List TFrac) (s2_ : List TFrac) : Option (Bool) :=
  (bif (((s1_.length : Nat) : Int) != ((s2_.length : Nat) : Int)) then some false else (iterF (σ := Int × Unit) (ρ := (Bool × Unit) ⊕ (Unit)) (fun s3 => (bif (decide (s3.1 < ((s1_.length : Nat) : Int))) then (idx s1_ s3.1).bind fun x4 => (idx s2_ s3.1).bind fun x5 => (bif (!((x4.num == x5.num) && (x4.den == x5.den))) then some (.inr (.inl (false, ()))) else some (.inl ((IntKind.i64.wrap (s3.1 + 1)), ()))) else some (.inr (.inr ((())))))) big (0, ())).bind fun y6 => (match y6 with | .inl y7 => some y7.1 | .inr y8 => some true))
def an_slices_Equal_api_Frac : An U := (.node none .nil (.node none .nil (.node none (.node none .nil (.node none (.node (some ⟨[0, 1, 12], [], ⟨[(13, .tv .int)], []⟩, [(.ret, ⟨[(4, .tv .bool)], []⟩), (.exit 0, ⟨[], []⟩)]⟩) .nil .nil) .nil)) .nil)))
def fe_slices_Equal_api_Frac : Fe G := ⟨[.v .l_Frac, .v .l_Frac], [.bool], fun x => F_slices_Equal_api_Frac x.1 x.2.1⟩
def tb_slices_Equal_api_Frac : List (FuncId × Fe G) := []
theorem ev_slices_Equal_api_Frac (x : TyP G fe_slices_Equal_api_Frac.ps) : evF G (lstK G tb_slices_Equal_api_Frac) (bodyOf Try.f20) an_slices_Equal_api_Frac 26 [.tmp 4] fe_slices_Equal_api_Frac.rs (argT G fe_slices_Equal_api_Frac.ps x) = fe_slices_Equal_api_Frac.fn x := by kernel_rfl
theorem ok_slices_Equal_api_Frac : FnOk G 20 fe_slices_Equal_api_Frac := fnOk_of G_ok (lstK_ok G_ok (lnil)) Try.func20 (by kernel_rfl) (by kernel_rfl) (by kernel_rfl) (by kernel_rfl) (by kernel_rfl) ev_slices_Equal_api_Frac

def F_ref20_Same (a : TBeam) (b : TBeam) : Option (Bool) :=
  ((bif (!(a.name.toList == b.name.toList)) then some (true, ()) else (bif (a.length != b.length) then some (true, ()) else (bif (a.even != b.even) then some (true, ()) else (bif (((a.supports.length : Nat) : Int) != ((b.supports.length : Nat) : Int)) then some (true, ()) else some ((((a.loads.length : Nat) : Int) != ((b.loads.length : Nat) : Int)), ()))))) : Option (Bool × Unit)).bind fun y1 => (bif y1.1 then some false else (iterF (σ := Int × Unit) (ρ := (Bool × Unit) ⊕ (Unit)) (fun s4 => (bif (decide (s4.1 < ((a.supports.length : Nat) : Int))) then (idx a.supports s4.1).bind fun x5 => (idx b.supports s4.1).bind fun x6 => (bif (x5 != x6) then some (.inr (.inl (false, ()))) else some (.inl ((IntKind.i64.wrap (s4.1 + 1)), ()))) else some (.inr (.inr ((())))))) big (0, ())).bind fun y7 => (match y7 with | .inl y8 => some y8.1 | .inr y9 => (iterF (σ := Int × Unit) (ρ := (Bool × Unit) ⊕ (Unit)) (fun s12 => (bif (decide (s12.1 < ((a.loads.length : Nat) : Int))) then (idx a.loads s12.1).bind fun x13 => (idx b.loads s12.1).bind fun x14 => (bif (!((x13.at_ == x14.at_) && (x13.weight == x14.weight))) then some (.inr (.inl (false, ()))) else some (.inl ((IntKind.i64.wrap (s12.1 + 1)), ()))) else some (.inr (.inr ((())))))) big (0, ())).bind fun y15 => (match y15 with | .inl y16 => some y16.1 | .inr y17 => some true)))
def an_ref20_Same : An U := (.node none .nil (.node none (.node (some ⟨[2, 3, 4], [], ⟨[], []⟩, [(.normal, ⟨[(43, .tv .bool)], []⟩)]⟩) .nil .nil) (.node none (.node none .nil (.node none (.node (some ⟨[2, 3], [], ⟨[(5, .tv .int)], []⟩, [(.ret, ⟨[(4, .tv .bool)], []⟩), (.exit 0, ⟨[], []⟩)]⟩) .nil .nil) .nil)) (.node none (.node none .nil (.node none (.node (some ⟨[2, 3], [], ⟨[(6, .tv .int)], []⟩, [(.ret, ⟨[(4, .tv .bool)], []⟩), (.exit 2, ⟨[], []⟩)]⟩) .nil .nil) .nil)) .nil))))
def fe_ref20_Same : Fe G := ⟨[.v .Beam, .v .Beam], [.bool], fun x => F_ref20_Same x.1 x.2.1⟩
def tb_ref20_Same : List (FuncId × Fe G) := []
theorem ev_ref20_Same (x : TyP G fe_ref20_Same.ps) : evF G (lstK G tb_ref20_Same) (bodyOf Try.f24) an_ref20_Same 80 [.tmp 4] fe_ref20_Same.rs (argT G fe_ref20_Same.ps x) = fe_ref20_Same.fn x := by kernel_rfl
theorem ok_ref20_Same : FnOk G 24 fe_ref20_Same := fnOk_of G_ok (lstK_ok G_ok (lnil)) Try.func24 (by kernel_rfl) (by kernel_rfl) (by kernel_rfl) (by kernel_rfl) (by kernel_rfl) ev_ref20_Same

def F_ref20_Turned (b : TBeam) : Option (TBeam) :=
  (iterF (σ := Int × TBeam × Unit) (ρ := TBeam × Unit) (fun s3 => (bif (decide (s3.1 ≥ 0)) then (idx b.supports s3.1).bind fun x4 => (if s3.2.1.supports.length + ([(IntKind.i64.wrap (b.length - x4))] : List Int).length ≤ 2147483648 then some (.inl ((IntKind.i64.wrap (s3.1 - 1)), (TBeam.mk s3.2.1.name s3.2.1.length (s3.2.1.supports ++ ([(IntKind.i64.wrap (b.length - x4))] : List Int)) s3.2.1.loads s3.2.1.even), ())) else none) else some (.inr (s3.2.1, ())))) big ((IntKind.i64.wrap (((b.supports.length : Nat) : Int) - 1)), (TBeam.mk b.name b.length ([] : List Int) ([] : List TLoad) b.even), ())).bind fun y5 => (iterF (σ := Int × TBeam × Unit) (ρ := TBeam × Unit) (fun s12 => (bif (decide (s12.1 < ((b.loads.length : Nat) : Int))) then (idx b.loads s12.1).bind fun x13 => (idx b.loads s12.1).bind fun x14 => (if s12.2.1.loads.length + ([(TLoad.mk (IntKind.i64.wrap (b.length - x13.at_)) x14.weight)] : List TLoad).length ≤ 2147483648 then some (.inl ((IntKind.i64.wrap (s12.1 + 1)), (TBeam.mk s12.2.1.name s12.2.1.length s12.2.1.supports (s12.2.1.loads ++ ([(TLoad.mk (IntKind.i64.wrap (b.length - x13.at_)) x14.weight)] : List TLoad)) s12.2.1.even), ())) else none) else some (.inr (s12.2.1, ())))) big (0, y5.1, ())).bind fun y15 => some y15.1
def an_ref20_Turned : An U := (.node none .nil (.node none .nil (.node none .nil (.node none .nil (.node none (.node none .nil (.node none (.node (some ⟨[1, 2, 3], [2], ⟨[(4, .tv .int)], [(2, .bx .Beam [2, 3])]⟩, [(.exit 0, ⟨[], [(2, .bx .Beam [2, 3])]⟩)]⟩) .nil .nil) .nil)) (.node none (.node none .nil (.node none (.node (some ⟨[1, 2, 3], [2, 3, 4], ⟨[(5, .tv .int)], [(2, .bx .Beam [2, 3]), (3, .gone), (4, .gone)]⟩, [(.exit 2, ⟨[], [(2, .bx .Beam [2, 3])]⟩)]⟩) .nil .nil) .nil)) .nil))))))
def fe_ref20_Turned : Fe G := ⟨[.v .Beam], [.Beam], fun x => F_ref20_Turned x.1⟩
def tb_ref20_Turned : List (FuncId × Fe G) := []
theorem ev_ref20_Turned (x : TyP G fe_ref20_Turned.ps) : evF G (lstK G tb_ref20_Turned) (bodyOf Try.f25) an_ref20_Turned 59 [.cell 2 25] fe_ref20_Turned.rs (argT G fe_ref20_Turned.ps x) = fe_ref20_Turned.fn x := by kernel_rfl
theorem ok_ref20_Turned : FnOk G 25 fe_ref20_Turned := fnOk_of G_ok (lstK_ok G_ok (lnil)) Try.func25 (by kernel_rfl) (by kernel_rfl) (by kernel_rfl) (by kernel_rfl) (by kernel_rfl) ev_ref20_Turned

def F_law20_of (n : Int) : Option (TFrac) :=
  some (TFrac.mk n 1)
def an_law20_of : An U := .nil
def fe_law20_of : Fe G := ⟨[.v .int1], [.Frac], fun x => F_law20_of x.1⟩
def tb_law20_of : List (FuncId × Fe G) := []
theorem ev_law20_of (x : TyP G fe_law20_of.ps) : evF G (lstK G tb_law20_of) (bodyOf Try.f35) an_law20_of 5 [.cell 2 39] fe_law20_of.rs (argT G fe_law20_of.ps x) = fe_law20_of.fn x := by kernel_rfl
theorem ok_law20_of : FnOk G 35 fe_law20_of := fnOk_of G_ok (lstK_ok G_ok (lnil)) Try.func35 (by kernel_rfl) (by kernel_rfl) (by kernel_rfl) (by kernel_rfl) (by kernel_rfl) ev_law20_of

def F_beam_Valid_1 (x : TLoad) (a1 : TBeam) : Option (Bool) :=
  ((bif (decide (x.at_ < 0)) then some (true, ()) else (bif (decide (x.at_ > a1.length)) then some (true, ()) else (bif (decide (x.weight < 0)) then some (true, ()) else some ((decide (x.weight > 67108864)), ())))) : Option (Bool × Unit)).bind fun y1 => some y1.1
def an_beam_Valid_1 : An U := (.node none .nil (.node (some ⟨[], [], ⟨[], []⟩, [(.normal, ⟨[(3, .tv .bool)], []⟩)]⟩) .nil .nil))
def fe_beam_Valid_1 : Fe G := ⟨[.v .Load, .rp .Beam], [.bool], fun x => F_beam_Valid_1 x.1 x.2.1⟩
def tb_beam_Valid_1 : List (FuncId × Fe G) := []
theorem ev_beam_Valid_1 (x : TyP G fe_beam_Valid_1.ps) : evF G (lstK G tb_beam_Valid_1) (bodyOf Try.f43) an_beam_Valid_1 24 [.tmp 3] fe_beam_Valid_1.rs (argT G fe_beam_Valid_1.ps x) = fe_beam_Valid_1.fn x := by kernel_rfl
theorem ok_beam_Valid_1 : FnOk G 43 fe_beam_Valid_1 := fnOk_of G_ok (lstK_ok G_ok (lnil)) Try.func43 (by kernel_rfl) (by kernel_rfl) (by kernel_rfl) (by kernel_rfl) (by kernel_rfl) ev_beam_Valid_1

def F_beam_number__sign (a : Tnumber) : Option (Int) :=
  (bif (((a.words.length : Nat) : Int) == 0) then some 0 else (bif a.neg then some (-1) else some 1))
def an_beam_number__sign : An U := .nil
def fe_beam_number__sign : Fe G := ⟨[.v .number], [.int1], fun x => F_beam_number__sign x.1⟩
def tb_beam_number__sign : List (FuncId × Fe G) := []
theorem ev_beam_number__sign (x : TyP G fe_beam_number__sign.ps) : evF G (lstK G tb_beam_number__sign) (bodyOf Try.f66) an_beam_number__sign 11 [.tmp 2] fe_beam_number__sign.rs (argT G fe_beam_number__sign.ps x) = fe_beam_number__sign.fn x := by kernel_rfl
theorem ok_beam_number__sign : FnOk G 66 fe_beam_number__sign := fnOk_of G_ok (lstK_ok G_ok (lnil)) Try.func66 (by kernel_rfl) (by kernel_rfl) (by kernel_rfl) (by kernel_rfl) (by kernel_rfl) ev_beam_number__sign

def F_beam_exact__fraction (a : Texact) : Option (TFrac × Int) :=
  (bif (decide (((a.n.words.length : Nat) : Int) > 2)) then some ((TFrac.mk 0 0), 5) else (iterF (σ := Int × TAr138 × Unit) (ρ := TAr138 × Unit) (fun s7 => (bif (decide (s7.1 < ((a.n.words.length : Nat) : Int))) then (idx a.n.words s7.1).bind fun x8 => (if (IntKind.i64.wrap (32 * s7.1)) < 0 then none else some (.inl ((IntKind.i64.wrap (s7.1 + 1)), (TAr138.mk (bitsOf .or .u64 s7.2.1.e0 (IntKind.u64.wrap ((IntKind.u64.wrap x8) * 2 ^ min (Int.toNat (IntKind.i64.wrap (32 * s7.1))) IntKind.u64.bits))) s7.2.1.e1), ()))) else some (.inr (s7.2.1, ())))) big (0, (TAr138.mk 0 0), ())).bind fun y11 => (bif (decide (y11.1.e0 > 1152921504606846976)) then some ((TFrac.mk 0 0), 5) else (bif (decide (((a.d.words.length : Nat) : Int) > 2)) then some ((TFrac.mk 0 0), 5) else (iterF (σ := Int × TAr138 × Unit) (ρ := TAr138 × Unit) (fun s13 => (bif (decide (s13.1 < ((a.d.words.length : Nat) : Int))) then (idx a.d.words s13.1).bind fun x14 => (if (IntKind.i64.wrap (32 * s13.1)) < 0 then none else some (.inl ((IntKind.i64.wrap (s13.1 + 1)), (TAr138.mk s13.2.1.e0 (bitsOf .or .u64 s13.2.1.e1 (IntKind.u64.wrap ((IntKind.u64.wrap x14) * 2 ^ min (Int.toNat (IntKind.i64.wrap (32 * s13.1))) IntKind.u64.bits)))), ()))) else some (.inr (s13.2.1, ())))) big (0, y11.1, ())).bind fun y17 => (bif (decide (y17.1.e1 > 1152921504606846976)) then some ((TFrac.mk 0 0), 5) else ((bif a.n.neg then some ((TFrac.mk (IntKind.i64.wrap (0 - (IntKind.i64.wrap y17.1.e0))) (IntKind.i64.wrap y17.1.e1)), ()) else some ((TFrac.mk (IntKind.i64.wrap y17.1.e0) (IntKind.i64.wrap y17.1.e1)), ())) : Option (TFrac × Unit)).bind fun y21 => some (y21.1, 0)))))
def an_beam_exact__fraction : An U := (.node none .nil (.node none .nil (.node none (.node none .nil (.node none (.node none (.node none .nil (.node none .nil (.node none (.node none (.node none .nil (.node none .nil (.node none (.node none .nil (.node none (.node (some ⟨[1, 2, 3, 4, 5, 14, 15, 25, 26], [2], ⟨[(27, .tv .int)], [(2, .bx .ar138 [])]⟩, [(.exit 2, ⟨[], [(2, .bx .ar138 [])]⟩)]⟩) .nil .nil) .nil)) .nil))) .nil) .nil))) .nil) .nil)) (.node none .nil (.node (some ⟨[2, 3, 9], [5], ⟨[], []⟩, [(.normal, ⟨[], [(5, .bx .Frac [])]⟩)]⟩) .nil .nil)))))
def fe_beam_exact__fraction : Fe G := ⟨[.v .exact], [.Frac, .Errno], fun x => F_beam_exact__fraction x.1⟩
def tb_beam_exact__fraction : List (FuncId × Fe G) := []
theorem ev_beam_exact__fraction (x : TyP G fe_beam_exact__fraction.ps) : evF G (lstK G tb_beam_exact__fraction) (bodyOf Try.f73) an_beam_exact__fraction 64 [.cell 2 39, .tmp 3] fe_beam_exact__fraction.rs (argT G fe_beam_exact__fraction.ps x) = fe_beam_exact__fraction.fn x := by kernel_rfl
theorem ok_beam_exact__fraction : FnOk G 73 fe_beam_exact__fraction := fnOk_of G_ok (lstK_ok G_ok (lnil)) Try.func73 (by kernel_rfl) (by kernel_rfl) (by kernel_rfl) (by kernel_rfl) (by kernel_rfl) ev_beam_exact__fraction

def F_ref02_Size (n : Int) : Option (Int) :=
  (bif (decide (n < 0)) then some (IntKind.u64.wrap (0 - (IntKind.u64.wrap n))) else some (IntKind.u64.wrap n))
def an_ref02_Size : An U := .nil
def fe_ref02_Size : Fe G := ⟨[.v .int1], [.u64], fun x => F_ref02_Size x.1⟩
def tb_ref02_Size : List (FuncId × Fe G) := []
theorem ev_ref02_Size (x : TyP G fe_ref02_Size.ps) : evF G (lstK G tb_ref02_Size) (bodyOf Try.f83) an_ref02_Size 10 [.tmp 2] fe_ref02_Size.rs (argT G fe_ref02_Size.ps x) = fe_ref02_Size.fn x := by kernel_rfl
theorem ok_ref02_Size : FnOk G 83 fe_ref02_Size := fnOk_of G_ok (lstK_ok G_ok (lnil)) Try.func83 (by kernel_rfl) (by kernel_rfl) (by kernel_rfl) (by kernel_rfl) (by kernel_rfl) ev_ref02_Size

def F_decimal_letter (c : Int) : Option (Bool) :=
  ((bif (decide (c ≥ 97)) then (bif (decide (c ≤ 122)) then some (true, ()) else (bif (decide (c ≥ 65)) then some ((decide (c ≤ 90)), ()) else some (false, ()))) else (bif (decide (c ≥ 65)) then some ((decide (c ≤ 90)), ()) else some (false, ()))) : Option (Bool × Unit)).bind fun y1 => some y1.1
def an_decimal_letter : An U := (.node none .nil (.node (some ⟨[], [], ⟨[], []⟩, [(.normal, ⟨[(2, .tv .bool)], []⟩)]⟩) .nil .nil))
def fe_decimal_letter : Fe G := ⟨[.v .u8], [.bool], fun x => F_decimal_letter x.1⟩
def tb_decimal_letter : List (FuncId × Fe G) := []
theorem ev_decimal_letter (x : TyP G fe_decimal_letter.ps) : evF G (lstK G tb_decimal_letter) (bodyOf Try.f88) an_decimal_letter 17 [.tmp 2] fe_decimal_letter.rs (argT G fe_decimal_letter.ps x) = fe_decimal_letter.fn x := by kernel_rfl
theorem ok_decimal_letter : FnOk G 88 fe_decimal_letter := fnOk_of G_ok (lstK_ok G_ok (lnil)) Try.func88 (by kernel_rfl) (by kernel_rfl) (by kernel_rfl) (by kernel_rfl) (by kernel_rfl) ev_decimal_letter

def F_slices_IndexFunc_api_Load (s : List TLoad) (f : TLoad → Option Bool) : Option (Int) :=
  (iterF (σ := Int × Unit) (ρ := (Int × Unit) ⊕ (Unit)) (fun s3 => (bif (decide (s3.1 < ((s.length : Nat) : Int))) then (idx s s3.1).bind fun x4 => (f x4).bind fun r5 => (bif r5 then some (.inr (.inl (s3.1, ()))) else some (.inl ((IntKind.i64.wrap (s3.1 + 1)), ()))) else some (.inr (.inr ((())))))) big (0, ())).bind fun y6 => (match y6 with | .inl y7 => some y7.1 | .inr y8 => some (-1))
def an_slices_IndexFunc_api_Load : An U := (.node none .nil (.node none (.node none .nil (.node none (.node (some ⟨[0, 1, 7], [], ⟨[(8, .tv .int)], []⟩, [(.ret, ⟨[(4, .tv .int)], []⟩), (.exit 0, ⟨[], []⟩)]⟩) .nil .nil) .nil)) .nil))
def fe_slices_IndexFunc_api_Load : Fe G := ⟨[.v .l_Load, .fn .Load .bool], [.int1], fun x => F_slices_IndexFunc_api_Load x.1 x.2.1⟩
def tb_slices_IndexFunc_api_Load : List (FuncId × Fe G) := []
theorem ev_slices_IndexFunc_api_Load (x : TyP G fe_slices_IndexFunc_api_Load.ps) : evF G (lstK G tb_slices_IndexFunc_api_Load) (bodyOf Try.f90) an_slices_IndexFunc_api_Load 19 [.tmp 4] fe_slices_IndexFunc_api_Load.rs (argT G fe_slices_IndexFunc_api_Load.ps x) = fe_slices_IndexFunc_api_Load.fn x := by kernel_rfl
theorem ok_slices_IndexFunc_api_Load : FnOk G 90 fe_slices_IndexFunc_api_Load := fnOk_of G_ok (lstK_ok G_ok (lnil)) Try.func90 (by kernel_rfl) (by kernel_rfl) (by kernel_rfl) (by kernel_rfl) (by kernel_rfl) ev_slices_IndexFunc_api_Load

def F_ref01_Letter (c : Int) : Option (Bool) :=
  ((bif (decide (c ≥ 97)) then (bif (decide (c ≤ 122)) then some (true, ()) else (bif (decide (c ≥ 65)) then some ((decide (c ≤ 90)), ()) else some (false, ()))) else (bif (decide (c ≥ 65)) then some ((decide (c ≤ 90)), ()) else some (false, ()))) : Option (Bool × Unit)).bind fun y1 => some y1.1
def an_ref01_Letter : An U := (.node none .nil (.node (some ⟨[], [], ⟨[], []⟩, [(.normal, ⟨[(2, .tv .bool)], []⟩)]⟩) .nil .nil))
def fe_ref01_Letter : Fe G := ⟨[.v .u8], [.bool], fun x => F_ref01_Letter x.1⟩
def tb_ref01_Letter : List (FuncId × Fe G) := []
theorem ev_ref01_Letter (x : TyP G fe_ref01_Letter.ps) : evF G (lstK G tb_ref01_Letter) (bodyOf Try.f91) an_ref01_Letter 17 [.tmp 2] fe_ref01_Letter.rs (argT G fe_ref01_Letter.ps x) = fe_ref01_Letter.fn x := by kernel_rfl
theorem ok_ref01_Letter : FnOk G 91 fe_ref01_Letter := fnOk_of G_ok (lstK_ok G_ok (lnil)) Try.func91 (by kernel_rfl) (by kernel_rfl) (by kernel_rfl) (by kernel_rfl) (by kernel_rfl) ev_ref01_Letter

def F_ref08_larger (a : List Int) (b : List Int) : Option (Bool) :=
  (bif (((a.length : Nat) : Int) != ((b.length : Nat) : Int)) then some (decide (((a.length : Nat) : Int) > ((b.length : Nat) : Int))) else (iterF (σ := Int × Unit) (ρ := (Bool × Unit) ⊕ (Unit)) (fun s5 => (bif (decide (s5.1 ≥ 0)) then (idx a s5.1).bind fun x6 => (idx b s5.1).bind fun x7 => (bif (x6 != x7) then (idx a s5.1).bind fun x8 => (idx b s5.1).bind fun x9 => some (.inr (.inl ((decide (x8 > x9)), ()))) else some (.inl ((IntKind.i64.wrap (s5.1 - 1)), ()))) else some (.inr (.inr ((())))))) big ((IntKind.i64.wrap (((a.length : Nat) : Int) - 1)), ())).bind fun y10 => (match y10 with | .inl y11 => some y11.1 | .inr y12 => some false))
def an_ref08_larger : An U := (.node none .nil (.node none .nil (.node none (.node none .nil (.node none (.node (some ⟨[0, 1], [], ⟨[(5, .tv .int)], []⟩, [(.ret, ⟨[(4, .tv .bool)], []⟩), (.exit 0, ⟨[], []⟩)]⟩) .nil .nil) .nil)) .nil)))
def fe_ref08_larger : Fe G := ⟨[.v .l_int1, .v .l_int1], [.bool], fun x => F_ref08_larger x.1 x.2.1⟩
def tb_ref08_larger : List (FuncId × Fe G) := []
theorem ev_ref08_larger (x : TyP G fe_ref08_larger.ps) : evF G (lstK G tb_ref08_larger) (bodyOf Try.f94) an_ref08_larger 41 [.tmp 4] fe_ref08_larger.rs (argT G fe_ref08_larger.ps x) = fe_ref08_larger.fn x := by kernel_rfl
theorem ok_ref08_larger : FnOk G 94 fe_ref08_larger := fnOk_of G_ok (lstK_ok G_ok (lnil)) Try.func94 (by kernel_rfl) (by kernel_rfl) (by kernel_rfl) (by kernel_rfl) (by kernel_rfl) ev_ref08_larger

def F_ref08_Neg (a : TBig) : Option (TBig) :=
  ((bif (!a.neg) then some ((TBig.mk (decide (((a.d.length : Nat) : Int) > 0)) a.d), ()) else some ((TBig.mk false a.d), ())) : Option (TBig × Unit)).bind fun y1 => some y1.1
def an_ref08_Neg : An U := (.node none .nil (.node (some ⟨[1, 2], [0], ⟨[], []⟩, [(.normal, ⟨[], [(0, .bx .Big [])]⟩)]⟩) .nil .nil))
def fe_ref08_Neg : Fe G := ⟨[.v .Big], [.Big], fun x => F_ref08_Neg x.1⟩
def tb_ref08_Neg : List (FuncId × Fe G) := []
theorem ev_ref08_Neg (x : TyP G fe_ref08_Neg.ps) : evZ G (lstK G tb_ref08_Neg) (bodyOf Try.f95) an_ref08_Neg 14 [.cell 2 55] fe_ref08_Neg.rs (argT G fe_ref08_Neg.ps x) = fe_ref08_Neg.fn x := by kernel_rfl
theorem ok_ref08_Neg : FnOk G 95 fe_ref08_Neg := fnOkz_of G_ok (fun _ => lstK_ok G_ok (lnil)) Try.func95 (by kernel_rfl) (by kernel_rfl) (by kernel_rfl) (by kernel_rfl) (by kernel_rfl) ev_ref08_Neg

def F_beam_number__opposite (a : Tnumber) : Option (Tnumber) :=
  some (Tnumber.mk (!a.neg) a.words)
def an_beam_number__opposite : An U := .nil
def fe_beam_number__opposite : Fe G := ⟨[.v .number], [.number], fun x => F_beam_number__opposite x.1⟩
def tb_beam_number__opposite : List (FuncId × Fe G) := []
theorem ev_beam_number__opposite (x : TyP G fe_beam_number__opposite.ps) : evZ G (lstK G tb_beam_number__opposite) (bodyOf Try.f105) an_beam_number__opposite 9 [.cell 2 88] fe_beam_number__opposite.rs (argT G fe_beam_number__opposite.ps x) = fe_beam_number__opposite.fn x := by kernel_rfl
theorem ok_beam_number__opposite : FnOk G 105 fe_beam_number__opposite := fnOkz_of G_ok (fun _ => lstK_ok G_ok (lnil)) Try.func105 (by kernel_rfl) (by kernel_rfl) (by kernel_rfl) (by kernel_rfl) (by kernel_rfl) ev_beam_number__opposite

def F_ref08_Sign (a : TExact) : Option (Int) :=
  (bif a.n.neg then some (-1) else (bif (((a.n.d.length : Nat) : Int) == 0) then some 0 else some 1))
def an_ref08_Sign : An U := .nil
def fe_ref08_Sign : Fe G := ⟨[.v .Exact], [.int1], fun x => F_ref08_Sign x.1⟩
def tb_ref08_Sign : List (FuncId × Fe G) := []
theorem ev_ref08_Sign (x : TyP G fe_ref08_Sign.ps) : evF G (lstK G tb_ref08_Sign) (bodyOf Try.f107) an_ref08_Sign 11 [.tmp 2] fe_ref08_Sign.rs (argT G fe_ref08_Sign.ps x) = fe_ref08_Sign.fn x := by kernel_rfl
theorem ok_ref08_Sign : FnOk G 107 fe_ref08_Sign := fnOk_of G_ok (lstK_ok G_ok (lnil)) Try.func107 (by kernel_rfl) (by kernel_rfl) (by kernel_rfl) (by kernel_rfl) (by kernel_rfl) ev_ref08_Sign

def F_decimal_digit (c : Int) : Option (Bool) :=
  ((bif (decide (c ≥ 48)) then some ((decide (c ≤ 57)), ()) else some (false, ())) : Option (Bool × Unit)).bind fun y1 => some y1.1
def an_decimal_digit : An U := (.node none .nil (.node (some ⟨[], [], ⟨[], []⟩, [(.normal, ⟨[(2, .tv .bool)], []⟩)]⟩) .nil .nil))
def fe_decimal_digit : Fe G := ⟨[.v .u8], [.bool], fun x => F_decimal_digit x.1⟩
def tb_decimal_digit : List (FuncId × Fe G) := []
theorem ev_decimal_digit (x : TyP G fe_decimal_digit.ps) : evF G (lstK G tb_decimal_digit) (bodyOf Try.f117) an_decimal_digit 9 [.tmp 2] fe_decimal_digit.rs (argT G fe_decimal_digit.ps x) = fe_decimal_digit.fn x := by kernel_rfl
theorem ok_decimal_digit : FnOk G 117 fe_decimal_digit := fnOk_of G_ok (lstK_ok G_ok (lnil)) Try.func117 (by kernel_rfl) (by kernel_rfl) (by kernel_rfl) (by kernel_rfl) (by kernel_rfl) ev_decimal_digit

def F_ref01_Digit (c : Int) : Option (Bool) :=
  ((bif (decide (c ≥ 48)) then some ((decide (c ≤ 57)), ()) else some (false, ())) : Option (Bool × Unit)).bind fun y1 => some y1.1
def an_ref01_Digit : An U := (.node none .nil (.node (some ⟨[], [], ⟨[], []⟩, [(.normal, ⟨[(2, .tv .bool)], []⟩)]⟩) .nil .nil))
def fe_ref01_Digit : Fe G := ⟨[.v .u8], [.bool], fun x => F_ref01_Digit x.1⟩
def tb_ref01_Digit : List (FuncId × Fe G) := []
theorem ev_ref01_Digit (x : TyP G fe_ref01_Digit.ps) : evF G (lstK G tb_ref01_Digit) (bodyOf Try.f118) an_ref01_Digit 9 [.tmp 2] fe_ref01_Digit.rs (argT G fe_ref01_Digit.ps x) = fe_ref01_Digit.fn x := by kernel_rfl
theorem ok_ref01_Digit : FnOk G 118 fe_ref01_Digit := fnOk_of G_ok (lstK_ok G_ok (lnil)) Try.func118 (by kernel_rfl) (by kernel_rfl) (by kernel_rfl) (by kernel_rfl) (by kernel_rfl) ev_ref01_Digit

def F_ref08_trim (b : TBig) : Option (TBig) :=
  (iterF (σ := Int × Unit) (ρ := Int × Unit) (fun s4 => ((bif (decide (s4.1 > 0)) then (idx b.d (IntKind.i64.wrap (s4.1 - 1))).bind fun x5 => some ((x5 == 0), ()) else some (false, ())) : Option (Bool × Unit)).bind fun y6 => (bif y6.1 then some (.inl ((IntKind.i64.wrap (s4.1 - 1)), ())) else some (.inr (s4.1, ())))) big (((b.d.length : Nat) : Int), ())).bind fun y7 => (if 0 ≤ (0 : Int) ∧ (0 : Int) ≤ y7.1 ∧ y7.1 ≤ ((b.d.length : Nat) : Int) then ((bif (y7.1 == 0) then some ((TBig.mk false ((b.d.take (Int.toNat y7.1)).drop (Int.toNat (0 : Int)))), ()) else some ((TBig.mk b.neg ((b.d.take (Int.toNat y7.1)).drop (Int.toNat (0 : Int)))), ())) : Option (TBig × Unit)).bind fun y8 => some y8.1 else none)
def an_ref08_trim : An U := (.node none .nil (.node none .nil (.node none (.node none (.node (some ⟨[1, 2], [], ⟨[(3, .tv .int)], []⟩, [(.exit 0, ⟨[(3, .tv .int)], []⟩)]⟩) (.node none (.node (some ⟨[3], [], ⟨[], []⟩, [(.normal, ⟨[(17, .tv .bool)], []⟩)]⟩) .nil .nil) .nil) .nil) .nil) (.node none .nil (.node (some ⟨[1, 2], [0], ⟨[], []⟩, [(.normal, ⟨[], [(0, .bx .Big [])]⟩)]⟩) .nil .nil)))))
def fe_ref08_trim : Fe G := ⟨[.v .Big], [.Big], fun x => F_ref08_trim x.1⟩
def tb_ref08_trim : List (FuncId × Fe G) := []
theorem ev_ref08_trim (x : TyP G fe_ref08_trim.ps) : evZ G (lstK G tb_ref08_trim) (bodyOf Try.f121) an_ref08_trim 29 [.cell 2 55] fe_ref08_trim.rs (argT G fe_ref08_trim.ps x) = fe_ref08_trim.fn x := by kernel_rfl
theorem ok_ref08_trim : FnOk G 121 fe_ref08_trim := fnOkz_of G_ok (fun _ => lstK_ok G_ok (lnil)) Try.func121 (by kernel_rfl) (by kernel_rfl) (by kernel_rfl) (by kernel_rfl) (by kernel_rfl) ev_ref08_trim

def F_ref08_digit (l : List Int) (i : Int) : Option (Int) :=
  (bif (decide (i < ((l.length : Nat) : Int))) then (idx l i).bind fun x1 => some x1 else some 0)
def an_ref08_digit : An U := .nil
def fe_ref08_digit : Fe G := ⟨[.v .l_int1, .v .int1], [.int1], fun x => F_ref08_digit x.1 x.2.1⟩
def tb_ref08_digit : List (FuncId × Fe G) := []
theorem ev_ref08_digit (x : TyP G fe_ref08_digit.ps) : evF G (lstK G tb_ref08_digit) (bodyOf Try.f124) an_ref08_digit 13 [.tmp 4] fe_ref08_digit.rs (argT G fe_ref08_digit.ps x) = fe_ref08_digit.fn x := by kernel_rfl
theorem ok_ref08_digit : FnOk G 124 fe_ref08_digit := fnOk_of G_ok (lstK_ok G_ok (lnil)) Try.func124 (by kernel_rfl) (by kernel_rfl) (by kernel_rfl) (by kernel_rfl) (by kernel_rfl) ev_ref08_digit

def F_beam_trimmed (w : List Int) : Option ((List Int)) :=
  (iterF (σ := (List Int) × Unit) (ρ := (List Int) × Unit) (fun s4 => ((bif (decide (((s4.1.length : Nat) : Int) > 0)) then (idx s4.1 (IntKind.i64.wrap (((s4.1.length : Nat) : Int) - 1))).bind fun x5 => some ((x5 == 0), ()) else some (false, ())) : Option (Bool × Unit)).bind fun y6 => (bif y6.1 then (if 0 ≤ (0 : Int) ∧ (0 : Int) ≤ (IntKind.i64.wrap (((s4.1.length : Nat) : Int) - 1)) ∧ (IntKind.i64.wrap (((s4.1.length : Nat) : Int) - 1)) ≤ ((s4.1.length : Nat) : Int) then some (.inl (((s4.1.take (Int.toNat (IntKind.i64.wrap (((s4.1.length : Nat) : Int) - 1)))).drop (Int.toNat (0 : Int))), ())) else none) else some (.inr (s4.1, ())))) big (w, ())).bind fun y7 => some y7.1
def an_beam_trimmed : An U := (.node none .nil (.node none (.node none (.node (some ⟨[2], [], ⟨[(0, .tv .l_u32)], []⟩, [(.exit 0, ⟨[(0, .tv .l_u32)], []⟩)]⟩) (.node none (.node (some ⟨[0], [], ⟨[], []⟩, [(.normal, ⟨[(14, .tv .bool)], []⟩)]⟩) .nil .nil) .nil) .nil) .nil) .nil))
def fe_beam_trimmed : Fe G := ⟨[.v .l_u32], [.l_u32], fun x => F_beam_trimmed x.1⟩
def tb_beam_trimmed : List (FuncId × Fe G) := []
theorem ev_beam_trimmed (x : TyP G fe_beam_trimmed.ps) : evZ G (lstK G tb_beam_trimmed) (bodyOf Try.f125) an_beam_trimmed 21 [.tmp 2] fe_beam_trimmed.rs (argT G fe_beam_trimmed.ps x) = fe_beam_trimmed.fn x := by kernel_rfl
theorem ok_beam_trimmed : FnOk G 125 fe_beam_trimmed := fnOkz_of G_ok (fun _ => lstK_ok G_ok (lnil)) Try.func125 (by kernel_rfl) (by kernel_rfl) (by kernel_rfl) (by kernel_rfl) (by kernel_rfl) ev_beam_trimmed

def F_beam_compared (a : List Int) (b : List Int) : Option (Int) :=
  (bif (((a.length : Nat) : Int) != ((b.length : Nat) : Int)) then some (IntKind.i64.wrap (((a.length : Nat) : Int) - ((b.length : Nat) : Int))) else (iterF (σ := Int × Unit) (ρ := (Int × Unit) ⊕ (Unit)) (fun s5 => (bif (decide (s5.1 ≥ 0)) then (idx a s5.1).bind fun x6 => (idx b s5.1).bind fun x7 => (bif (x6 != x7) then (idx a s5.1).bind fun x8 => (idx b s5.1).bind fun x9 => (bif (decide (x8 < x9)) then some (.inr (.inl ((-1), ()))) else some (.inr (.inl (1, ())))) else some (.inl ((IntKind.i64.wrap (s5.1 - 1)), ()))) else some (.inr (.inr ((())))))) big ((IntKind.i64.wrap (((a.length : Nat) : Int) - 1)), ())).bind fun y10 => (match y10 with | .inl y11 => some y11.1 | .inr y12 => some 0))
def an_beam_compared : An U := (.node none .nil (.node none .nil (.node none (.node none .nil (.node none (.node (some ⟨[0, 1], [], ⟨[(5, .tv .int)], []⟩, [(.ret, ⟨[(4, .tv .int)], []⟩), (.exit 0, ⟨[], []⟩)]⟩) .nil .nil) .nil)) .nil)))
def fe_beam_compared : Fe G := ⟨[.v .l_u32, .v .l_u32], [.int1], fun x => F_beam_compared x.1 x.2.1⟩
def tb_beam_compared : List (FuncId × Fe G) := []
theorem ev_beam_compared (x : TyP G fe_beam_compared.ps) : evF G (lstK G tb_beam_compared) (bodyOf Try.f129) an_beam_compared 41 [.tmp 4] fe_beam_compared.rs (argT G fe_beam_compared.ps x) = fe_beam_compared.fn x := by kernel_rfl
theorem ok_beam_compared : FnOk G 129 fe_beam_compared := fnOk_of G_ok (lstK_ok G_ok (lnil)) Try.func129 (by kernel_rfl) (by kernel_rfl) (by kernel_rfl) (by kernel_rfl) (by kernel_rfl) ev_beam_compared
end
end Go.Proofs.Ytbamoboldhabjaa

/- Functions, as plain data. Printed by mkev.py. -/
namespace Go.Proofs.Ytbamoboldhabjaa
open Go.RowKit
set_option linter.unusedVariables false
set_option linter.unusedSimpArgs false
noncomputable section

def F_beam_fractions (l : List Texact) : Option ((List TFrac) × Int) :=
  (iterF (σ := Int × List TFrac × Unit) (ρ := (List TFrac × Int × List TFrac × Unit) ⊕ (List TFrac × Unit)) (fun s5 => (bif (decide (s5.1 < ((l.length : Nat) : Int))) then (idx l s5.1).bind fun x6 => (F_beam_exact__fraction x6).bind fun r7 => (bif (r7.2 != 0) then some (.inr (.inl (([] : List TFrac), r7.2, s5.2.1, ()))) else (if s5.2.1.length + ([r7.1] : List TFrac).length ≤ 2147483648 then some (.inl ((IntKind.i64.wrap (s5.1 + 1)), (s5.2.1 ++ ([r7.1] : List TFrac)), ())) else none)) else some (.inr (.inr ((s5.2.1, ())))))) big (0, ([] : List TFrac), ())).bind fun y8 => (match y8 with | .inl y9 => some (y9.1, y9.2.1) | .inr y10 => some (y10.1, 0))
def an_beam_fractions : An U := (.node none .nil (.node none .nil (.node none (.node none .nil (.node none (.node (some ⟨[9, 10], [1], ⟨[(4, .os 1), (11, .tv .int)], [(1, .row .Frac)]⟩, [(.ret, ⟨[(2, .nr .Frac), (3, .tv .int)], [(1, .row .Frac)]⟩), (.exit 0, ⟨[(4, .os 1)], [(1, .row .Frac)]⟩)]⟩) .nil .nil) .nil)) .nil)))
def fe_beam_fractions : Fe G := ⟨[.v .l_exact], [.l_Frac, .Errno], fun x => F_beam_fractions x.1⟩
def tb_beam_fractions : List (FuncId × Fe G) := [(73, fe_beam_exact__fraction)]
theorem ev_beam_fractions (x : TyP G fe_beam_fractions.ps) : evF G (lstK G tb_beam_fractions) (bodyOf Try.f39) an_beam_fractions 29 [.tmp 2, .tmp 3] fe_beam_fractions.rs (argT G fe_beam_fractions.ps x) = fe_beam_fractions.fn x := by kernel_rfl
theorem ok_beam_fractions : FnOk G 39 fe_beam_fractions := fnOk_of G_ok (lstK_ok G_ok (lcons ok_beam_exact__fraction (lnil))) Try.func39 (by kernel_rfl) (by kernel_rfl) (by kernel_rfl) (by kernel_rfl) (by kernel_rfl) ev_beam_fractions

def F_slices_ContainsFunc_api_Load (s : List TLoad) (f : TLoad → Option Bool) : Option (Bool) :=
  (F_slices_IndexFunc_api_Load s f).bind fun r1 => some (decide (r1 ≥ 0))
def an_slices_ContainsFunc_api_Load : An U := .nil
def fe_slices_ContainsFunc_api_Load : Fe G := ⟨[.v .l_Load, .fn .Load .bool], [.bool], fun x => F_slices_ContainsFunc_api_Load x.1 x.2.1⟩
def tb_slices_ContainsFunc_api_Load : List (FuncId × Fe G) := [(90, fe_slices_IndexFunc_api_Load)]
theorem ev_slices_ContainsFunc_api_Load (x : TyP G fe_slices_ContainsFunc_api_Load.ps) : evF G (lstK G tb_slices_ContainsFunc_api_Load) (bodyOf Try.f42) an_slices_ContainsFunc_api_Load 9 [.tmp 4] fe_slices_ContainsFunc_api_Load.rs (argT G fe_slices_ContainsFunc_api_Load.ps x) = fe_slices_ContainsFunc_api_Load.fn x := by kernel_rfl
theorem ok_slices_ContainsFunc_api_Load : FnOk G 42 fe_slices_ContainsFunc_api_Load := fnOk_of G_ok (lstK_ok G_ok (lcons ok_slices_IndexFunc_api_Load (lnil))) Try.func42 (by kernel_rfl) (by kernel_rfl) (by kernel_rfl) (by kernel_rfl) (by kernel_rfl) ev_slices_ContainsFunc_api_Load

def F_decimal_word (s : ByteArray) : Option (Int) :=
  (iterF (σ := Int × Unit) (ρ := Int × Unit) (fun s12 => ((bif (decide (s12.1 < ((s.size : Nat) : Int))) then (idxB s s12.1).bind fun b13 => (F_decimal_letter ((b13.toNat : Nat) : Int)).bind fun r14 => (bif r14 then some (true, ()) else (idxB s s12.1).bind fun b15 => (F_decimal_digit ((b15.toNat : Nat) : Int)).bind fun r16 => (bif r16 then some (true, ()) else (idxB s s12.1).bind fun b17 => some ((((b17.toNat : Nat) : Int) == 95), ()))) else some (false, ())) : Option (Bool × Unit)).bind fun y18 => (bif y18.1 then some (.inl ((IntKind.i64.wrap (s12.1 + 1)), ())) else some (.inr (s12.1, ())))) big (0, ())).bind fun y19 => some y19.1
def an_decimal_word : An U := (.node none .nil (.node none .nil (.node none (.node none (.node (some ⟨[0, 2], [], ⟨[(3, .tv .int)], []⟩, [(.exit 0, ⟨[(3, .tv .int)], []⟩)]⟩) (.node none (.node (some ⟨[3], [], ⟨[], []⟩, [(.normal, ⟨[(25, .tv .bool)], []⟩)]⟩) .nil .nil) .nil) .nil) .nil) .nil)))
def fe_decimal_word : Fe G := ⟨[.v .str], [.int1], fun x => F_decimal_word x.1⟩
def tb_decimal_word : List (FuncId × Fe G) := [(88, fe_decimal_letter), (117, fe_decimal_digit)]
theorem ev_decimal_word (x : TyP G fe_decimal_word.ps) : evF G (lstK G tb_decimal_word) (bodyOf Try.f89) an_decimal_word 29 [.tmp 2] fe_decimal_word.rs (argT G fe_decimal_word.ps x) = fe_decimal_word.fn x := by kernel_rfl
theorem ok_decimal_word : FnOk G 89 fe_decimal_word := fnOk_of G_ok (lstK_ok G_ok (lcons ok_decimal_letter (lcons ok_decimal_digit (lnil)))) Try.func89 (by kernel_rfl) (by kernel_rfl) (by kernel_rfl) (by kernel_rfl) (by kernel_rfl) ev_decimal_word

def F_ref01_word (s : ByteArray) (i : Int) : Option (Int) :=
  (iterF (σ := Int × Unit) (ρ := Int × Unit) (fun s12 => ((bif (decide (s12.1 < ((s.size : Nat) : Int))) then (idxB s s12.1).bind fun b13 => (F_ref01_Letter ((b13.toNat : Nat) : Int)).bind fun r14 => (bif r14 then some (true, ()) else (idxB s s12.1).bind fun b15 => (F_ref01_Digit ((b15.toNat : Nat) : Int)).bind fun r16 => (bif r16 then some (true, ()) else (idxB s s12.1).bind fun b17 => some ((((b17.toNat : Nat) : Int) == 95), ()))) else some (false, ())) : Option (Bool × Unit)).bind fun y18 => (bif y18.1 then some (.inl ((IntKind.i64.wrap (s12.1 + 1)), ())) else some (.inr (s12.1, ())))) big (i, ())).bind fun y19 => some y19.1
def an_ref01_word : An U := (.node none .nil (.node none (.node none (.node (some ⟨[0, 4], [], ⟨[(1, .tv .int)], []⟩, [(.exit 0, ⟨[(1, .tv .int)], []⟩)]⟩) (.node none (.node (some ⟨[1], [], ⟨[], []⟩, [(.normal, ⟨[(26, .tv .bool)], []⟩)]⟩) .nil .nil) .nil) .nil) .nil) .nil))
def fe_ref01_word : Fe G := ⟨[.v .str, .v .int1], [.int1], fun x => F_ref01_word x.1 x.2.1⟩
def tb_ref01_word : List (FuncId × Fe G) := [(91, fe_ref01_Letter), (118, fe_ref01_Digit)]
theorem ev_ref01_word (x : TyP G fe_ref01_word.ps) : evF G (lstK G tb_ref01_word) (bodyOf Try.f92) an_ref01_word 30 [.tmp 4] fe_ref01_word.rs (argT G fe_ref01_word.ps x) = fe_ref01_word.fn x := by kernel_rfl
theorem ok_ref01_word : FnOk G 92 fe_ref01_word := fnOk_of G_ok (lstK_ok G_ok (lcons ok_ref01_Letter (lcons ok_ref01_Digit (lnil)))) Try.func92 (by kernel_rfl) (by kernel_rfl) (by kernel_rfl) (by kernel_rfl) (by kernel_rfl) ev_ref01_word

def F_ref08_Int (n : Int) : Option (TBig) :=
  (F_ref02_Size n).bind fun r1 => (iterF (σ := Int × TBig × Unit) (ρ := TBig × Unit) (fun s2 => (bif (decide (s2.1 > 0)) then (if s2.2.1.d.length + ([(IntKind.i64.wrap (s2.1.tmod 16777216))] : List Int).length ≤ 2147483648 then some (.inl ((IntKind.u64.wrap (s2.1.tdiv 16777216)), (TBig.mk s2.2.1.neg (s2.2.1.d ++ ([(IntKind.i64.wrap (s2.1.tmod 16777216))] : List Int))), ())) else none) else some (.inr (s2.2.1, ())))) big (r1, (TBig.mk (decide (n < 0)) ([] : List Int)), ())).bind fun y3 => some y3.1
def an_ref08_Int : An U := (.node none .nil (.node none .nil (.node none .nil (.node none .nil (.node none (.node none (.node (some ⟨[2, 3], [1], ⟨[(4, .tv .u64)], [(1, .bx .Big [1])]⟩, [(.exit 0, ⟨[], [(1, .bx .Big [1])]⟩)]⟩) .nil .nil) .nil) .nil)))))
def fe_ref08_Int : Fe G := ⟨[.v .int1], [.Big], fun x => F_ref08_Int x.1⟩
def tb_ref08_Int : List (FuncId × Fe G) := [(83, fe_ref02_Size)]
theorem ev_ref08_Int (x : TyP G fe_ref08_Int.ps) : evZ G (lstK G tb_ref08_Int) (bodyOf Try.f93) an_ref08_Int 23 [.cell 2 55] fe_ref08_Int.rs (argT G fe_ref08_Int.ps x) = fe_ref08_Int.fn x := by kernel_rfl
theorem ok_ref08_Int : FnOk G 93 fe_ref08_Int := fnOkz_of G_ok (fun _ => lstK_ok G_ok (lcons ok_ref02_Size (lnil))) Try.func93 (by kernel_rfl) (by kernel_rfl) (by kernel_rfl) (by kernel_rfl) (by kernel_rfl) ev_ref08_Int

def F_ref08_Product (a : TBig) (b : TBig) : Option (TBig) :=
  (if 0 ≤ (IntKind.i64.wrap ((IntKind.i64.wrap (((a.d.length : Nat) : Int) + ((b.d.length : Nat) : Int))) + 1)) ∧ (IntKind.i64.wrap ((IntKind.i64.wrap (((a.d.length : Nat) : Int) + ((b.d.length : Nat) : Int))) + 1)) ≤ 16777216 then (iterF (σ := Int × List Int × Unit) (ρ := List Int × Unit) (fun s29 => (bif (decide (s29.1 < ((a.d.length : Nat) : Int))) then (iterF (σ := Int × Int × List Int × Unit) (ρ := List Int × Unit) (fun s30 => ((bif (decide (s30.2.1 < ((b.d.length : Nat) : Int))) then some (true, ()) else some ((decide (s30.1 > 0)), ())) : Option (Bool × Unit)).bind fun y31 => (bif y31.1 then (idx s30.2.2.1 (IntKind.i64.wrap (s29.1 + s30.2.1))).bind fun _x32 => (s30.2.2.1[(Int.toNat (IntKind.i64.wrap (s29.1 + s30.2.1)))]?).bind fun x33 => (idx a.d s29.1).bind fun x34 => (F_ref08_digit b.d s30.2.1).bind fun r35 => (idx s30.2.2.1 (IntKind.i64.wrap (s29.1 + s30.2.1))).bind fun _x36 => (s30.2.2.1[(Int.toNat (IntKind.i64.wrap (s29.1 + s30.2.1)))]?).bind fun x37 => some (.inl ((IntKind.i64.wrap ((IntKind.i64.wrap ((IntKind.i64.wrap (x33 + (IntKind.i64.wrap (x34 * r35)))) + s30.1)).tdiv 16777216)), (IntKind.i64.wrap (s30.2.1 + 1)), (s30.2.2.1.set (Int.toNat (IntKind.i64.wrap (s29.1 + s30.2.1))) ((IntKind.i64.wrap ((IntKind.i64.wrap (x33 + (IntKind.i64.wrap (x34 * r35)))) + s30.1)).tmod 16777216)), ())) else some (.inr (s30.2.2.1, ())))) big (0, 0, s29.2.1, ())).bind fun y38 => some (.inl ((IntKind.i64.wrap (s29.1 + 1)), y38.1, ())) else some (.inr (s29.2.1, ())))) big (0, (List.replicate (Int.toNat (IntKind.i64.wrap ((IntKind.i64.wrap (((a.d.length : Nat) : Int) + ((b.d.length : Nat) : Int))) + 1))) (0 : Int)), ())).bind fun y39 => (F_ref08_trim (TBig.mk (!(a.neg == b.neg)) y39.1)).bind fun r40 => some r40 else none)
def an_ref08_Product : An U := (.node none .nil (.node none .nil (.node none (.node none .nil (.node none (.node (some ⟨[2, 3, 4, 5], [3], ⟨[(6, .tv .int)], [(3, .row .int1)]⟩, [(.exit 0, ⟨[], [(3, .row .int1)]⟩)]⟩) (.node none .nil (.node none (.node none (.node none .nil (.node none .nil (.node none (.node (some ⟨[6], [3], ⟨[(7, .tv .int), (8, .tv .int)], [(3, .row .int1)]⟩, [(.exit 2, ⟨[], [(3, .row .int1)]⟩)]⟩) (.node none (.node (some ⟨[7, 8], [], ⟨[], []⟩, [(.normal, ⟨[(34, .tv .bool)], []⟩)]⟩) .nil .nil) .nil) .nil) .nil))) .nil) .nil)) .nil) .nil)) .nil)))
def fe_ref08_Product : Fe G := ⟨[.v .Big, .v .Big], [.Big], fun x => F_ref08_Product x.1 x.2.1⟩
def tb_ref08_Product : List (FuncId × Fe G) := [(121, fe_ref08_trim), (124, fe_ref08_digit)]
theorem ev_ref08_Product (x : TyP G fe_ref08_Product.ps) : evZ G (lstK G tb_ref08_Product) (bodyOf Try.f99) an_ref08_Product 73 [.cell 4 55] fe_ref08_Product.rs (argT G fe_ref08_Product.ps x) = fe_ref08_Product.fn x := by kernel_rfl
theorem ok_ref08_Product : FnOk G 99 fe_ref08_Product := fnOkz_of G_ok (fun _ => lstK_ok G_ok (lcons ok_ref08_trim (lcons ok_ref08_digit (lnil)))) Try.func99 (by kernel_rfl) (by kernel_rfl) (by kernel_rfl) (by kernel_rfl) (by kernel_rfl) ev_ref08_Product

def F_beam_integer (n : Int) : Option (Tnumber) :=
  ((bif (decide (n < 0)) then some ((IntKind.u64.wrap (0 - (IntKind.u64.wrap n))), ()) else some ((IntKind.u64.wrap n), ())) : Option (Int × Unit)).bind fun y1 => (F_beam_trimmed ([(IntKind.u32.wrap y1.1), (IntKind.u32.wrap (y1.1.fdiv (2 ^ min (Int.toNat 32) IntKind.u64.bits)))] : List Int)).bind fun r2 => some (Tnumber.mk (decide (n < 0)) r2)
def an_beam_integer : An U := (.node none .nil (.node none .nil (.node (some ⟨[0, 2], [], ⟨[], []⟩, [(.normal, ⟨[(3, .tv .u64)], []⟩)]⟩) .nil .nil)))
def fe_beam_integer : Fe G := ⟨[.v .int1], [.number], fun x => F_beam_integer x.1⟩
def tb_beam_integer : List (FuncId × Fe G) := [(125, fe_beam_trimmed)]
theorem ev_beam_integer (x : TyP G fe_beam_integer.ps) : evZ G (lstK G tb_beam_integer) (bodyOf Try.f101) an_beam_integer 20 [.cell 2 88] fe_beam_integer.rs (argT G fe_beam_integer.ps x) = fe_beam_integer.fn x := by kernel_rfl
theorem ok_beam_integer : FnOk G 101 fe_beam_integer := fnOkz_of G_ok (fun _ => lstK_ok G_ok (lcons ok_beam_trimmed (lnil))) Try.func101 (by kernel_rfl) (by kernel_rfl) (by kernel_rfl) (by kernel_rfl) (by kernel_rfl) ev_beam_integer

def F_beam_number__times (a : Tnumber) (b : Tnumber) : Option (Tnumber) :=
  (if 0 ≤ (IntKind.i64.wrap (((a.words.length : Nat) : Int) + ((b.words.length : Nat) : Int))) ∧ (IntKind.i64.wrap (((a.words.length : Nat) : Int) + ((b.words.length : Nat) : Int))) ≤ 16777216 then (iterF (σ := Int × List Int × Unit) (ρ := List Int × Unit) (fun s25 => (bif (decide (s25.1 < ((a.words.length : Nat) : Int))) then (idx a.words s25.1).bind fun x26 => (iterF (σ := Int × Int × List Int × Unit) (ρ := Int × List Int × Unit) (fun s27 => (bif (decide (s27.2.1 < ((b.words.length : Nat) : Int))) then (idx b.words s27.2.1).bind fun x28 => (idx s27.2.2.1 (IntKind.i64.wrap (s25.1 + s27.2.1))).bind fun _x29 => (s27.2.2.1[(Int.toNat (IntKind.i64.wrap (s25.1 + s27.2.1)))]?).bind fun x30 => (idx s27.2.2.1 (IntKind.i64.wrap (s25.1 + s27.2.1))).bind fun _x31 => (s27.2.2.1[(Int.toNat (IntKind.i64.wrap (s25.1 + s27.2.1)))]?).bind fun x32 => some (.inl (((IntKind.u64.wrap (s27.1 + (IntKind.u64.wrap ((IntKind.u64.wrap ((IntKind.u64.wrap x26) * (IntKind.u64.wrap x28))) + (IntKind.u64.wrap x30))))).fdiv (2 ^ min (Int.toNat 32) IntKind.u64.bits)), (IntKind.i64.wrap (s27.2.1 + 1)), (s27.2.2.1.set (Int.toNat (IntKind.i64.wrap (s25.1 + s27.2.1))) (IntKind.u32.wrap (IntKind.u64.wrap (s27.1 + (IntKind.u64.wrap ((IntKind.u64.wrap ((IntKind.u64.wrap x26) * (IntKind.u64.wrap x28))) + (IntKind.u64.wrap x30))))))), ())) else some (.inr (s27.1, s27.2.2.1, ())))) big (0, 0, s25.2.1, ())).bind fun y33 => (idx y33.2.1 (IntKind.i64.wrap (s25.1 + ((b.words.length : Nat) : Int)))).bind fun _x34 => (y33.2.1[(Int.toNat (IntKind.i64.wrap (s25.1 + ((b.words.length : Nat) : Int))))]?).bind fun x35 => some (.inl ((IntKind.i64.wrap (s25.1 + 1)), (y33.2.1.set (Int.toNat (IntKind.i64.wrap (s25.1 + ((b.words.length : Nat) : Int)))) (IntKind.u32.wrap y33.1)), ())) else some (.inr (s25.2.1, ())))) big (0, (List.replicate (Int.toNat (IntKind.i64.wrap (((a.words.length : Nat) : Int) + ((b.words.length : Nat) : Int)))) (0 : Int)), ())).bind fun y36 => (F_beam_trimmed y36.1).bind fun r37 => some (Tnumber.mk (!(a.neg == b.neg)) r37) else none)
def an_beam_number__times : An U := (.node none .nil (.node none .nil (.node none (.node none .nil (.node none (.node (some ⟨[2, 3, 4, 5, 20, 21], [3], ⟨[(22, .tv .int)], [(3, .row .u32)]⟩, [(.exit 0, ⟨[], [(3, .row .u32)]⟩)]⟩) (.node none .nil (.node none .nil (.node none (.node none (.node none .nil (.node none .nil (.node none (.node none .nil (.node none (.node (some ⟨[6, 7, 22, 28, 29], [3], ⟨[(8, .tv .u64), (30, .tv .int)], [(3, .row .u32)]⟩, [(.exit 2, ⟨[(8, .tv .u64)], [(3, .row .u32)]⟩)]⟩) .nil .nil) .nil)) .nil))) .nil) .nil))) .nil) .nil)) .nil)))
def fe_beam_number__times : Fe G := ⟨[.v .number, .v .number], [.number], fun x => F_beam_number__times x.1 x.2.1⟩
def tb_beam_number__times : List (FuncId × Fe G) := [(125, fe_beam_trimmed)]
theorem ev_beam_number__times (x : TyP G fe_beam_number__times.ps) : evZ G (lstK G tb_beam_number__times) (bodyOf Try.f102) an_beam_number__times 78 [.cell 4 88] fe_beam_number__times.rs (argT G fe_beam_number__times.ps x) = fe_beam_number__times.fn x := by kernel_rfl
theorem ok_beam_number__times : FnOk G 102 fe_beam_number__times := fnOkz_of G_ok (fun _ => lstK_ok G_ok (lcons ok_beam_trimmed (lnil))) Try.func102 (by kernel_rfl) (by kernel_rfl) (by kernel_rfl) (by kernel_rfl) (by kernel_rfl) ev_beam_number__times

def F_ref08_minus (a : List Int) (b : List Int) : Option ((List Int)) :=
  (iterF (σ := Int × Int × List Int × Unit) (ρ := List Int × Unit) (fun s7 => (bif (decide (s7.2.1 < ((a.length : Nat) : Int))) then (idx a s7.2.1).bind fun x8 => (F_ref08_digit b s7.2.1).bind fun r9 => ((bif (decide ((IntKind.i64.wrap ((IntKind.i64.wrap (x8 - r9)) - s7.1)) < 0)) then some (1, (IntKind.i64.wrap ((IntKind.i64.wrap ((IntKind.i64.wrap (x8 - r9)) - s7.1)) + 16777216)), ()) else some (0, (IntKind.i64.wrap ((IntKind.i64.wrap (x8 - r9)) - s7.1)), ())) : Option (Int × Int × Unit)).bind fun y10 => (if s7.2.2.1.length + ([y10.2.1] : List Int).length ≤ 2147483648 then some (.inl (y10.1, (IntKind.i64.wrap (s7.2.1 + 1)), (s7.2.2.1 ++ ([y10.2.1] : List Int)), ())) else none) else some (.inr (s7.2.2.1, ())))) big (0, 0, ([] : List Int), ())).bind fun y11 => some y11.1
def an_ref08_minus : An U := (.node none .nil (.node none .nil (.node none .nil (.node none (.node none .nil (.node none (.node (some ⟨[0, 1, 4], [1], ⟨[(5, .os 1), (6, .tv .int), (7, .tv .int)], [(1, .row .int1)]⟩, [(.exit 0, ⟨[(5, .os 1)], [(1, .row .int1)]⟩)]⟩) (.node none .nil (.node none (.node none (.node none .nil (.node none .nil (.node (some ⟨[5, 7], [], ⟨[], []⟩, [(.normal, ⟨[(6, .tv .int), (8, .tv .int)], []⟩)]⟩) .nil .nil))) .nil) .nil)) .nil) .nil)) .nil))))
def fe_ref08_minus : Fe G := ⟨[.v .l_int1, .v .l_int1], [.l_int1], fun x => F_ref08_minus x.1 x.2.1⟩
def tb_ref08_minus : List (FuncId × Fe G) := [(124, fe_ref08_digit)]
theorem ev_ref08_minus (x : TyP G fe_ref08_minus.ps) : evZ G (lstK G tb_ref08_minus) (bodyOf Try.f122) an_ref08_minus 34 [.tmp 4] fe_ref08_minus.rs (argT G fe_ref08_minus.ps x) = fe_ref08_minus.fn x := by kernel_rfl
theorem ok_ref08_minus : FnOk G 122 fe_ref08_minus := fnOkz_of G_ok (fun _ => lstK_ok G_ok (lcons ok_ref08_digit (lnil))) Try.func122 (by kernel_rfl) (by kernel_rfl) (by kernel_rfl) (by kernel_rfl) (by kernel_rfl) ev_ref08_minus

def F_ref08_plus (a : List Int) (b : List Int) : Option ((List Int)) :=
  (iterF (σ := Int × Int × List Int × Unit) (ρ := List Int × Unit) (fun s7 => ((bif (decide (s7.2.1 < ((a.length : Nat) : Int))) then some (true, ()) else (bif (decide (s7.2.1 < ((b.length : Nat) : Int))) then some (true, ()) else some ((decide (s7.1 > 0)), ()))) : Option (Bool × Unit)).bind fun y8 => (bif y8.1 then (F_ref08_digit a s7.2.1).bind fun r9 => (F_ref08_digit b s7.2.1).bind fun r10 => (if s7.2.2.1.length + ([((IntKind.i64.wrap ((IntKind.i64.wrap (r9 + r10)) + s7.1)).tmod 16777216)] : List Int).length ≤ 2147483648 then some (.inl ((IntKind.i64.wrap ((IntKind.i64.wrap ((IntKind.i64.wrap (r9 + r10)) + s7.1)).tdiv 16777216)), (IntKind.i64.wrap (s7.2.1 + 1)), (s7.2.2.1 ++ ([((IntKind.i64.wrap ((IntKind.i64.wrap (r9 + r10)) + s7.1)).tmod 16777216)] : List Int)), ())) else none) else some (.inr (s7.2.2.1, ())))) big (0, 0, ([] : List Int), ())).bind fun y11 => some y11.1
def an_ref08_plus : An U := (.node none .nil (.node none .nil (.node none .nil (.node none (.node none .nil (.node none (.node (some ⟨[0, 1, 4], [1], ⟨[(5, .os 1), (6, .tv .int), (7, .tv .int)], [(1, .row .int1)]⟩, [(.exit 0, ⟨[(5, .os 1)], [(1, .row .int1)]⟩)]⟩) (.node none (.node (some ⟨[5, 6, 7], [], ⟨[], []⟩, [(.normal, ⟨[(22, .tv .bool)], []⟩)]⟩) .nil .nil) .nil) .nil) .nil)) .nil))))
def fe_ref08_plus : Fe G := ⟨[.v .l_int1, .v .l_int1], [.l_int1], fun x => F_ref08_plus x.1 x.2.1⟩
def tb_ref08_plus : List (FuncId × Fe G) := [(124, fe_ref08_digit)]
theorem ev_ref08_plus (x : TyP G fe_ref08_plus.ps) : evZ G (lstK G tb_ref08_plus) (bodyOf Try.f123) an_ref08_plus 42 [.tmp 4] fe_ref08_plus.rs (argT G fe_ref08_plus.ps x) = fe_ref08_plus.fn x := by kernel_rfl
theorem ok_ref08_plus : FnOk G 123 fe_ref08_plus := fnOkz_of G_ok (fun _ => lstK_ok G_ok (lcons ok_ref08_digit (lnil))) Try.func123 (by kernel_rfl) (by kernel_rfl) (by kernel_rfl) (by kernel_rfl) (by kernel_rfl) ev_ref08_plus

def F_beam_added (a : List Int) (b : List Int) : Option ((List Int)) :=
  ((bif (decide (((a.length : Nat) : Int) < ((b.length : Nat) : Int))) then some (b, a, ()) else some (a, b, ())) : Option ((List Int) × (List Int) × Unit)).bind fun y1 => (if 0 ≤ (IntKind.i64.wrap (((y1.1.length : Nat) : Int) + 1)) ∧ (IntKind.i64.wrap (((y1.1.length : Nat) : Int) + 1)) ≤ 16777216 then (iterF (σ := Int × Int × List Int × Unit) (ρ := List Int × Unit) (fun s17 => (bif (decide (s17.2.1 < (((List.replicate (Int.toNat (IntKind.i64.wrap (((y1.1.length : Nat) : Int) + 1))) (0 : Int)).length : Nat) : Int))) then ((bif (decide (s17.2.1 < ((y1.1.length : Nat) : Int))) then (idx y1.1 s17.2.1).bind fun x18 => some ((IntKind.u64.wrap (s17.1 + (IntKind.u64.wrap x18))), ()) else some (s17.1, ())) : Option (Int × Unit)).bind fun y19 => ((bif (decide (s17.2.1 < ((y1.2.1.length : Nat) : Int))) then (idx y1.2.1 s17.2.1).bind fun x20 => some ((IntKind.u64.wrap (y19.1 + (IntKind.u64.wrap x20))), ()) else some (y19.1, ())) : Option (Int × Unit)).bind fun y21 => (idx s17.2.2.1 s17.2.1).bind fun _x22 => (s17.2.2.1[(Int.toNat s17.2.1)]?).bind fun x23 => some (.inl ((y21.1.fdiv (2 ^ min (Int.toNat 32) IntKind.u64.bits)), (IntKind.i64.wrap (s17.2.1 + 1)), (s17.2.2.1.set (Int.toNat s17.2.1) (IntKind.u32.wrap y21.1)), ())) else some (.inr (s17.2.2.1, ())))) big (0, 0, (List.replicate (Int.toNat (IntKind.i64.wrap (((y1.1.length : Nat) : Int) + 1))) (0 : Int)), ())).bind fun y24 => (F_beam_trimmed y24.1).bind fun r25 => some r25 else none)
def an_beam_added : An U := (.node none .nil (.node (some ⟨[4], [], ⟨[], []⟩, [(.normal, ⟨[(0, .tv .l_u32), (1, .tv .l_u32)], []⟩)]⟩) .nil (.node none .nil (.node none .nil (.node none (.node none .nil (.node none (.node (some ⟨[0, 1, 4, 5, 20], [1], ⟨[(6, .tv .u64), (21, .tv .int)], [(1, .row .u32)]⟩, [(.exit 0, ⟨[], [(1, .row .u32)]⟩)]⟩) (.node none .nil (.node none .nil (.node none (.node none (.node none .nil (.node (some ⟨[7, 21], [], ⟨[], []⟩, [(.normal, ⟨[(6, .tv .u64)], []⟩)]⟩) .nil (.node (some ⟨[7, 21], [], ⟨[], []⟩, [(.normal, ⟨[(6, .tv .u64)], []⟩)]⟩) .nil .nil))) .nil) .nil))) .nil) .nil)) .nil)))))
def fe_beam_added : Fe G := ⟨[.v .l_u32, .v .l_u32], [.l_u32], fun x => F_beam_added x.1 x.2.1⟩
def tb_beam_added : List (FuncId × Fe G) := [(125, fe_beam_trimmed)]
theorem ev_beam_added (x : TyP G fe_beam_added.ps) : evZ G (lstK G tb_beam_added) (bodyOf Try.f128) an_beam_added 56 [.tmp 4] fe_beam_added.rs (argT G fe_beam_added.ps x) = fe_beam_added.fn x := by kernel_rfl
theorem ok_beam_added : FnOk G 128 fe_beam_added := fnOkz_of G_ok (fun _ => lstK_ok G_ok (lcons ok_beam_trimmed (lnil))) Try.func128 (by kernel_rfl) (by kernel_rfl) (by kernel_rfl) (by kernel_rfl) (by kernel_rfl) ev_beam_added
end
end Go.Proofs.Ytbamoboldhabjaa
