/- Joined by merge.py: Fn0. -/
import Derived.Test.YtbamoboldhabjaaM03
/- Functions, as plain data. Printed by mkev.py. -/
namespace Go.Proofs.Ytbamoboldhabjaa
open Go.RowKit
set_option linter.unusedVariables false
set_option linter.unusedSimpArgs false
noncomputable section

def F_law20_long (b : TBeam) : Option (Bool) :=
 ((bif (decide (((b.supports.length : Nat) : Int) > 5)) then (bif (decide (((b.supports.length : Nat) : Int) ≤ 10)) then some (true, ()) else (bif (decide (((b.supports.length : Nat) : Int) > 15)) then some (true, ()) else (bif (decide (((b.loads.length : Nat) : Int) > 8)) then (bif (decide (((b.loads.length : Nat) : Int) ≤ 40)) then some (true, ()) else (bif (decide (((b.loads.length : Nat) : Int) > 45)) then some (true, ()) else some ((decide (((b.name.size : Nat) : Int) > 60)), ()))) else (bif (decide (((b.loads.length : Nat) : Int) > 45)) then some (true, ()) else some ((decide (((b.name.size : Nat) : Int) > 60)), ()))))) else (bif (decide (((b.supports.length : Nat) : Int) > 15)) then some (true, ()) else (bif (decide (((b.loads.length : Nat) : Int) > 8)) then (bif (decide (((b.loads.length : Nat) : Int) ≤ 40)) then some (true, ()) else (bif (decide (((b.loads.length : Nat) : Int) > 45)) then some (true, ()) else some ((decide (((b.name.size : Nat) : Int) > 60)), ()))) else (bif (decide (((b.loads.length : Nat) : Int) > 45)) then some (true, ()) else some ((decide (((b.name.size : Nat) : Int) > 60)), ()))))) : Option (Bool × Unit)).bind fun y1 => some y1.1
def an_law20_long : An U := (.node none .nil (.node (some ⟨[], [], ⟨[], []⟩, [(.normal, ⟨[(2, .tv .bool)], []⟩)]⟩) .nil .nil))
def fe_law20_long : Fe G := ⟨[.v .Beam], [.bool], fun x => F_law20_long x.1⟩
def tb_law20_long : List (FuncId × Fe G) := []
theorem ev_law20_long (x : TyP G fe_law20_long.ps) : evF G (lstK G tb_law20_long) (bodyOf Try.f11) an_law20_long 43 [.tmp 2] fe_law20_long.rs (argT G fe_law20_long.ps x) = fe_law20_long.fn x := by kernel_rfl
theorem ok_law20_long : FnOk G 11 fe_law20_long := fnOk_of G_ok (lstK_ok G_ok (lnil)) Try.func11 (by kernel_rfl) (by kernel_rfl) (by kernel_rfl) (by kernel_rfl) (by kernel_rfl) ev_law20_long

def F_slices_Equal_api_Frac (s1_ : List TFrac) (s2_ : List TFrac) : Option (Bool) :=
 (bif (((s1_.length : Nat) : Int) != ((s2_.length : Nat) : Int)) then some false else (iterF (σ := Int × Unit) (ρ := (Bool × Unit) ⊕ (Unit)) (fun s3 => (bif (decide (s3.1 < ((s1_.length : Nat) : Int))) then (idx s1_ s3.1).bind fun x4 => (idx s2_ s3.1).bind fun x5 => (bif (!((x4.num == x5.num) && (x4.den == x5.den))) then some (.inr (.inl (false, ()))) else some (.inl ((IntKind.i64.wrap (s3.1 + 1)), ()))) else some (.inr (.inr ((())))))) big (0, ())).bind fun y6 => (match y6 with | .inl y7 => some y7.1 | .inr y8 => some true))
def an_slices_Equal_api_Frac : An U := (.node none .nil (.node none .nil (.node none (.node none .nil (.node none (.node (some ⟨[0, 1, 12], [], ⟨[(13, .tv .int)], []⟩, [(.ret, ⟨[(4, .tv .bool)], []⟩), (.exit 0, ⟨[], []⟩)]⟩) .nil .nil) .nil)) .nil)))
def fe_slices_Equal_api_Frac : Fe G := ⟨[.v .l_Frac, .v .l_Frac], [.bool], fun x => F_slices_Equal_api_Frac x.1 x.2.1⟩
def tb_slices_Equal_api_Frac : List (FuncId × Fe G) := []
theorem ev_slices_Equal_api_Frac (x : TyP G fe_slices_Equal_api_Frac.ps) : evF G (lstK G tb_slices_Equal_api_Frac) (bodyOf Try.f20) an_slices_Equal_api_Frac 26 [.tmp 4] fe_slices_Equal_api_Frac.rs (argT G fe_slices_Equal_api_Frac.ps x) = fe_slices_Equal_api_Frac.fn x := by kernel_rfl
theorem ok_slices_Equal_api_Frac : FnOk G 20 fe_slices_Equal_api_Frac := fnOk_of G_ok (lstK_ok G_ok (lnil)) Try.func20 (by kernel_rfl) (by kernel_rfl) (by kernel_rfl) (by kernel_rfl) (by kernel_rfl) ev_slices_Equal_api_Frac

def F_ref20_Turned (b : TBeam) : Option (TBeam) :=
 (iterF (σ := Int × TBeam × Unit) (ρ := TBeam × Unit) (fun s3 => (bif (decide (s3.1 ≥ 0)) then (idx b.supports s3.1).bind fun x4 => (if s3.2.1.supports.length + ([(IntKind.i64.wrap (b.length - x4))] : List Int).length ≤ 2147483648 then some (.inl ((IntKind.i64.wrap (s3.1 - 1)), (TBeam.mk s3.2.1.name s3.2.1.length (s3.2.1.supports ++ ([(IntKind.i64.wrap (b.length - x4))] : List Int)) s3.2.1.loads s3.2.1.even), ())) else none) else some (.inr (s3.2.1, ())))) big ((IntKind.i64.wrap (((b.supports.length : Nat) : Int) - 1)), (TBeam.mk b.name b.length ([] : List Int) ([] : List TLoad) b.even), ())).bind fun y5 => (iterF (σ := Int × TBeam × Unit) (ρ := TBeam × Unit) (fun s12 => (bif (decide (s12.1 < ((b.loads.length : Nat) : Int))) then (idx b.loads s12.1).bind fun x13 => (idx b.loads s12.1).bind fun x14 => (if s12.2.1.loads.length + ([(TLoad.mk (IntKind.i64.wrap (b.length - x13.at_)) x14.weight)] : List TLoad).length ≤ 2147483648 then some (.inl ((IntKind.i64.wrap (s12.1 + 1)), (TBeam.mk s12.2.1.name s12.2.1.length s12.2.1.supports (s12.2.1.loads ++ ([(TLoad.mk (IntKind.i64.wrap (b.length - x13.at_)) x14.weight)] : List TLoad)) s12.2.1.even), ())) else none) else some (.inr (s12.2.1, ())))) big (0, y5.1, ())).bind fun y15 => some y15.1
def an_ref20_Turned : An U := (.node none .nil (.node none .nil (.node none .nil (.node none .nil (.node none (.node none .nil (.node none (.node (some ⟨[1, 2, 3], [2], ⟨[(4, .tv .int)], [(2, .bx .Beam [2, 3])]⟩, [(.exit 0, ⟨[], [(2, .bx .Beam [2, 3])]⟩)]⟩) .nil .nil) .nil)) (.node none (.node none .nil (.node none (.node (some ⟨[1, 2, 3], [2, 3, 4], ⟨[(5, .tv .int)], [(2, .bx .Beam [2, 3]), (3, .gone), (4, .gone)]⟩, [(.exit 2, ⟨[], [(2, .bx .Beam [2, 3])]⟩)]⟩) .nil .nil) .nil)) .nil))))))
def fe_ref20_Turned : Fe G := ⟨[.v .Beam], [.Beam], fun x => F_ref20_Turned x.1⟩
def tb_ref20_Turned : List (FuncId × Fe G) := []
theorem ev_ref20_Turned (x : TyP G fe_ref20_Turned.ps) : evF G (lstK G tb_ref20_Turned) (bodyOf Try.f25) an_ref20_Turned 59 [.cell 2 25] fe_ref20_Turned.rs (argT G fe_ref20_Turned.ps x) = fe_ref20_Turned.fn x := by kernel_rfl
theorem ok_ref20_Turned : FnOk G 25 fe_ref20_Turned := fnOk_of G_ok (lstK_ok G_ok (lnil)) Try.func25 (by kernel_rfl) (by kernel_rfl) (by kernel_rfl) (by kernel_rfl) (by kernel_rfl) ev_ref20_Turned

def F_slices_Clone_api_Load (s : List TLoad) : Option ((List TLoad)) :=
 (if ([] : List TLoad).length + s.length ≤ 2147483648 then some (([] : List TLoad) ++ s) else none)
def fe_slices_Clone_api_Load : Fe G := ⟨[.v .l_Load], [.l_Load], fun x => F_slices_Clone_api_Load x.1⟩
theorem ok_slices_Clone_api_Load : FnOk G 33 fe_slices_Clone_api_Load := clone_ok G_ok (lstK_ok G_ok lnil) Try.func33 (by kernel_rfl) (by kernel_rfl) (k := 8) (by kernel_rfl) (by decide) (res := [.tmp 2]) (by kernel_rfl) (by kernel_rfl) (t := 23) (by kernel_rfl) (u := .Load) (lu := .l_Load) (by kernel_rfl) (cast := fun x => x) (fun _ => by kernel_rfl) (F := F_slices_Clone_api_Load) (fun _ => by kernel_rfl) (fun x y hx h => by obtain rfl : x = ([] : List TLoad) := hx; rw [← h]; kernel_rfl)

def F_law20_of (n : Int) : Option (TFrac) :=
 some (TFrac.mk n 1)
def an_law20_of : An U := .nil
def fe_law20_of : Fe G := ⟨[.v .int1], [.Frac], fun x => F_law20_of x.1⟩
def tb_law20_of : List (FuncId × Fe G) := []
theorem ev_law20_of (x : TyP G fe_law20_of.ps) : evF G (lstK G tb_law20_of) (bodyOf Try.f35) an_law20_of 5 [.cell 2 39] fe_law20_of.rs (argT G fe_law20_of.ps x) = fe_law20_of.fn x := by kernel_rfl
theorem ok_law20_of : FnOk G 35 fe_law20_of := fnOk_of G_ok (lstK_ok G_ok (lnil)) Try.func35 (by kernel_rfl) (by kernel_rfl) (by kernel_rfl) (by kernel_rfl) (by kernel_rfl) ev_law20_of

def F_beam_Valid_1 (x : TLoad) (a1 : TBeam) : Option (Bool) :=
 ((bif (decide (x.at_ < 0)) then some (true, ()) else (bif (decide (x.at_ > a1.length)) then some (true, ()) else (bif (decide (x.weight < 0)) then some (true, ()) else some ((decide (x.weight > 67108864)), ())))) : Option (Bool × Unit)).bind fun y1 => some y1.1
def an_beam_Valid_1 : An U := (.node none .nil (.node (some ⟨[], [], ⟨[], []⟩, [(.normal, ⟨[(3, .tv .bool)], []⟩)]⟩) .nil .nil))
def fe_beam_Valid_1 : Fe G := ⟨[.v .Load, .rp .Beam], [.bool], fun x => F_beam_Valid_1 x.1 x.2.1⟩
def tb_beam_Valid_1 : List (FuncId × Fe G) := []
theorem ev_beam_Valid_1 (x : TyP G fe_beam_Valid_1.ps) : evF G (lstK G tb_beam_Valid_1) (bodyOf Try.f43) an_beam_Valid_1 24 [.tmp 3] fe_beam_Valid_1.rs (argT G fe_beam_Valid_1.ps x) = fe_beam_Valid_1.fn x := by kernel_rfl
theorem ok_beam_Valid_1 : FnOk G 43 fe_beam_Valid_1 := fnOk_of G_ok (lstK_ok G_ok (lnil)) Try.func43 (by kernel_rfl) (by kernel_rfl) (by kernel_rfl) (by kernel_rfl) (by kernel_rfl) ev_beam_Valid_1

def F_beam_number__sign (a : Tnumber) : Option (Int) :=
 (bif (((a.words.length : Nat) : Int) == 0) then some 0 else (bif a.neg then some (-1) else some 1))
def an_beam_number__sign : An U := .nil
def fe_beam_number__sign : Fe G := ⟨[.v .number], [.int1], fun x => F_beam_number__sign x.1⟩
def tb_beam_number__sign : List (FuncId × Fe G) := []
theorem ev_beam_number__sign (x : TyP G fe_beam_number__sign.ps) : evF G (lstK G tb_beam_number__sign) (bodyOf Try.f66) an_beam_number__sign 11 [.tmp 2] fe_beam_number__sign.rs (argT G fe_beam_number__sign.ps x) = fe_beam_number__sign.fn x := by kernel_rfl
theorem ok_beam_number__sign : FnOk G 66 fe_beam_number__sign := fnOk_of G_ok (lstK_ok G_ok (lnil)) Try.func66 (by kernel_rfl) (by kernel_rfl) (by kernel_rfl) (by kernel_rfl) (by kernel_rfl) ev_beam_number__sign

def F_beam_exact__fraction (a : Texact) : Option (TFrac × Int) :=
 (bif (decide (((a.n.words.length : Nat) : Int) > 2)) then some ((TFrac.mk 0 0), 5) else (iterF (σ := Int × TAr138 × Unit) (ρ := TAr138 × Unit) (fun s7 => (bif (decide (s7.1 < ((a.n.words.length : Nat) : Int))) then (idx a.n.words s7.1).bind fun x8 => (if (IntKind.i64.wrap (32 * s7.1)) < 0 then none else some (.inl ((IntKind.i64.wrap (s7.1 + 1)), (TAr138.mk (bitsOf .or .u64 s7.2.1.e0 (IntKind.u64.wrap ((IntKind.u64.wrap x8) * 2 ^ min (Int.toNat (IntKind.i64.wrap (32 * s7.1))) IntKind.u64.bits))) s7.2.1.e1), ()))) else some (.inr (s7.2.1, ())))) big (0, (TAr138.mk 0 0), ())).bind fun y11 => (bif (decide (y11.1.e0 > 1152921504606846976)) then some ((TFrac.mk 0 0), 5) else (bif (decide (((a.d.words.length : Nat) : Int) > 2)) then some ((TFrac.mk 0 0), 5) else (iterF (σ := Int × TAr138 × Unit) (ρ := TAr138 × Unit) (fun s13 => (bif (decide (s13.1 < ((a.d.words.length : Nat) : Int))) then (idx a.d.words s13.1).bind fun x14 => (if (IntKind.i64.wrap (32 * s13.1)) < 0 then none else some (.inl ((IntKind.i64.wrap (s13.1 + 1)), (TAr138.mk s13.2.1.e0 (bitsOf .or .u64 s13.2.1.e1 (IntKind.u64.wrap ((IntKind.u64.wrap x14) * 2 ^ min (Int.toNat (IntKind.i64.wrap (32 * s13.1))) IntKind.u64.bits)))), ()))) else some (.inr (s13.2.1, ())))) big (0, y11.1, ())).bind fun y17 => (bif (decide (y17.1.e1 > 1152921504606846976)) then some ((TFrac.mk 0 0), 5) else ((bif a.n.neg then some ((TFrac.mk (IntKind.i64.wrap (0 - (IntKind.i64.wrap y17.1.e0))) (IntKind.i64.wrap y17.1.e1)), ()) else some ((TFrac.mk (IntKind.i64.wrap y17.1.e0) (IntKind.i64.wrap y17.1.e1)), ())) : Option (TFrac × Unit)).bind fun y21 => some (y21.1, 0)))))
def an_beam_exact__fraction : An U := (.node none .nil (.node none .nil (.node none (.node none .nil (.node none (.node none (.node none .nil (.node none .nil (.node none (.node none (.node none .nil (.node none .nil (.node none (.node none .nil (.node none (.node (some ⟨[1, 2, 3, 4, 5, 14, 15, 25, 26], [2], ⟨[(27, .tv .int)], [(2, .bx .ar138 [])]⟩, [(.exit 2, ⟨[], [(2, .bx .ar138 [])]⟩)]⟩) .nil .nil) .nil)) .nil))) .nil) .nil))) .nil) .nil)) (.node none .nil (.node (some ⟨[2, 3, 9], [5], ⟨[], []⟩, [(.normal, ⟨[], [(5, .bx .Frac [])]⟩)]⟩) .nil .nil)))))
def fe_beam_exact__fraction : Fe G := ⟨[.v .exact], [.Frac, .Errno], fun x => F_beam_exact__fraction x.1⟩
def tb_beam_exact__fraction : List (FuncId × Fe G) := []
theorem ev_beam_exact__fraction (x : TyP G fe_beam_exact__fraction.ps) : evF G (lstK G tb_beam_exact__fraction) (bodyOf Try.f73) an_beam_exact__fraction 64 [.cell 2 39, .tmp 3] fe_beam_exact__fraction.rs (argT G fe_beam_exact__fraction.ps x) = fe_beam_exact__fraction.fn x := by kernel_rfl
theorem ok_beam_exact__fraction : FnOk G 73 fe_beam_exact__fraction := fnOk_of G_ok (lstK_ok G_ok (lnil)) Try.func73 (by kernel_rfl) (by kernel_rfl) (by kernel_rfl) (by kernel_rfl) (by kernel_rfl) ev_beam_exact__fraction

def F_ratio_gcd (a : Int) (b : Int) : Option (Int) :=
 (iterF (σ := Int × Int × Unit) (ρ := Int × Unit) (fun s1 => (bif (s1.2.1 != 0) then (if s1.2.1 = 0 then none else some (.inl (s1.2.1, (s1.1.tmod s1.2.1), ()))) else some (.inr (s1.1, ())))) big (a, b, ())).bind fun y2 => some y2.1
def an_ratio_gcd : An U := (.node none .nil (.node none (.node none (.node (some ⟨[4], [], ⟨[(0, .tv .u64), (1, .tv .u64)], []⟩, [(.exit 0, ⟨[(0, .tv .u64)], []⟩)]⟩) .nil .nil) .nil) .nil))
def fe_ratio_gcd : Fe G := ⟨[.v .u64, .v .u64], [.u64], fun x => F_ratio_gcd x.1 x.2.1⟩
def tb_ratio_gcd : List (FuncId × Fe G) := []
theorem ev_ratio_gcd (x : TyP G fe_ratio_gcd.ps) : evF G (lstK G tb_ratio_gcd) (bodyOf Try.f74) an_ratio_gcd 12 [.tmp 4] fe_ratio_gcd.rs (argT G fe_ratio_gcd.ps x) = fe_ratio_gcd.fn x := by kernel_rfl
theorem ok_ratio_gcd : FnOk G 74 fe_ratio_gcd := fnOk_of G_ok (lstK_ok G_ok (lnil)) Try.func74 (by kernel_rfl) (by kernel_rfl) (by kernel_rfl) (by kernel_rfl) (by kernel_rfl) ev_ratio_gcd

def F_ratio_size (n : Int) : Option (Int) :=
 (bif (decide (n < 0)) then some (IntKind.u64.wrap (0 - (IntKind.u64.wrap n))) else some (IntKind.u64.wrap n))
def an_ratio_size : An U := .nil
def fe_ratio_size : Fe G := ⟨[.v .int1], [.u64], fun x => F_ratio_size x.1⟩
def tb_ratio_size : List (FuncId × Fe G) := []
theorem ev_ratio_size (x : TyP G fe_ratio_size.ps) : evF G (lstK G tb_ratio_size) (bodyOf Try.f76) an_ratio_size 10 [.tmp 2] fe_ratio_size.rs (argT G fe_ratio_size.ps x) = fe_ratio_size.fn x := by kernel_rfl
theorem ok_ratio_size : FnOk G 76 fe_ratio_size := fnOk_of G_ok (lstK_ok G_ok (lnil)) Try.func76 (by kernel_rfl) (by kernel_rfl) (by kernel_rfl) (by kernel_rfl) (by kernel_rfl) ev_ratio_size

def F_ratio_plus (a : Twide) (b : Twide) : Option (Twide) :=
 (if 0 ≤ a.lo ∧ 0 ≤ b.lo ∧ b.lo < u64M ∧ 0 ≤ (0 : Int) ∧ (0 : Int) ≤ 1 then (if 0 ≤ a.hi ∧ 0 ≤ b.hi ∧ b.hi < u64M ∧ 0 ≤ ((a.lo + b.lo + 0) / u64M) ∧ ((a.lo + b.lo + 0) / u64M) ≤ 1 then some (Twide.mk ((a.hi + b.hi + ((a.lo + b.lo + 0) / u64M)) % u64M) ((a.lo + b.lo + 0) % u64M)) else none) else none)
def an_ratio_plus : An U := .nil
def fe_ratio_plus : Fe G := ⟨[.v .wide, .v .wide], [.wide], fun x => F_ratio_plus x.1 x.2.1⟩
def tb_ratio_plus : List (FuncId × Fe G) := []
theorem ev_ratio_plus (x : TyP G fe_ratio_plus.ps) : evF G (lstK G tb_ratio_plus) (bodyOf Try.f77) an_ratio_plus 29 [.cell 4 105] fe_ratio_plus.rs (argT G fe_ratio_plus.ps x) = fe_ratio_plus.fn x := by kernel_rfl
theorem ok_ratio_plus : FnOk G 77 fe_ratio_plus := fnOk_of G_ok (lstK_ok G_ok (lnil)) Try.func77 (by kernel_rfl) (by kernel_rfl) (by kernel_rfl) (by kernel_rfl) (by kernel_rfl) ev_ratio_plus

def F_ratio_less (a : Twide) (b : Twide) : Option (Bool) :=
 ((bif (decide (a.hi < b.hi)) then some (true, ()) else (bif (a.hi == b.hi) then some ((decide (a.lo < b.lo)), ()) else some (false, ()))) : Option (Bool × Unit)).bind fun y1 => some y1.1
def an_ratio_less : An U := (.node none .nil (.node (some ⟨[], [], ⟨[], []⟩, [(.normal, ⟨[(4, .tv .bool)], []⟩)]⟩) .nil .nil))
def fe_ratio_less : Fe G := ⟨[.v .wide, .v .wide], [.bool], fun x => F_ratio_less x.1 x.2.1⟩
def tb_ratio_less : List (FuncId × Fe G) := []
theorem ev_ratio_less (x : TyP G fe_ratio_less.ps) : evF G (lstK G tb_ratio_less) (bodyOf Try.f78) an_ratio_less 24 [.tmp 4] fe_ratio_less.rs (argT G fe_ratio_less.ps x) = fe_ratio_less.fn x := by kernel_rfl
theorem ok_ratio_less : FnOk G 78 fe_ratio_less := fnOk_of G_ok (lstK_ok G_ok (lnil)) Try.func78 (by kernel_rfl) (by kernel_rfl) (by kernel_rfl) (by kernel_rfl) (by kernel_rfl) ev_ratio_less

def F_ratio_minus (a : Twide) (b : Twide) : Option (Twide) :=
 (if 0 ≤ a.lo ∧ 0 ≤ b.lo ∧ b.lo < u64M ∧ 0 ≤ (0 : Int) ∧ (0 : Int) ≤ 1 then (if 0 ≤ a.hi ∧ 0 ≤ b.hi ∧ b.hi < u64M ∧ 0 ≤ (if a.lo < b.lo + 0 then (1 : Int) else 0) ∧ (if a.lo < b.lo + 0 then (1 : Int) else 0) ≤ 1 then some (Twide.mk ((a.hi + u64M - b.hi - (if a.lo < b.lo + 0 then (1 : Int) else 0)) % u64M) ((a.lo + u64M - b.lo - 0) % u64M)) else none) else none)
def an_ratio_minus : An U := .nil
def fe_ratio_minus : Fe G := ⟨[.v .wide, .v .wide], [.wide], fun x => F_ratio_minus x.1 x.2.1⟩
def tb_ratio_minus : List (FuncId × Fe G) := []
theorem ev_ratio_minus (x : TyP G fe_ratio_minus.ps) : evF G (lstK G tb_ratio_minus) (bodyOf Try.f79) an_ratio_minus 29 [.cell 4 105] fe_ratio_minus.rs (argT G fe_ratio_minus.ps x) = fe_ratio_minus.fn x := by kernel_rfl
theorem ok_ratio_minus : FnOk G 79 fe_ratio_minus := fnOk_of G_ok (lstK_ok G_ok (lnil)) Try.func79 (by kernel_rfl) (by kernel_rfl) (by kernel_rfl) (by kernel_rfl) (by kernel_rfl) ev_ratio_minus

def F_ratio_signed (negative : Bool) (num : Int) (den : Int) : Option (TFrac × Int) :=
 ((bif (decide (num > 1152921504606846976)) then some (true, ()) else some ((decide (den > 1152921504606846976)), ())) : Option (Bool × Unit)).bind fun y1 => (bif y1.1 then some ((TFrac.mk 0 0), 5) else ((bif negative then some ((IntKind.i64.wrap (0 - (IntKind.i64.wrap num))), ()) else some ((IntKind.i64.wrap num), ())) : Option (Int × Unit)).bind fun y2 => some ((TFrac.mk y2.1 (IntKind.i64.wrap den)), 0))
def an_ratio_signed : An U := (.node none .nil (.node none (.node (some ⟨[0, 1, 2, 6, 7], [], ⟨[], []⟩, [(.normal, ⟨[(14, .tv .bool)], []⟩)]⟩) .nil .nil) (.node none .nil (.node (some ⟨[2, 6, 7], [], ⟨[], []⟩, [(.normal, ⟨[(8, .tv .int)], []⟩)]⟩) .nil .nil))))
def fe_ratio_signed : Fe G := ⟨[.v .bool, .v .u64, .v .u64], [.Frac, .Errno], fun x => F_ratio_signed x.1 x.2.1 x.2.2.1⟩
def tb_ratio_signed : List (FuncId × Fe G) := []
theorem ev_ratio_signed (x : TyP G fe_ratio_signed.ps) : evF G (lstK G tb_ratio_signed) (bodyOf Try.f81) an_ratio_signed 25 [.cell 6 39, .tmp 7] fe_ratio_signed.rs (argT G fe_ratio_signed.ps x) = fe_ratio_signed.fn x := by kernel_rfl
theorem ok_ratio_signed : FnOk G 81 fe_ratio_signed := fnOk_of G_ok (lstK_ok G_ok (lnil)) Try.func81 (by kernel_rfl) (by kernel_rfl) (by kernel_rfl) (by kernel_rfl) (by kernel_rfl) ev_ratio_signed

def F_ref02_Size (n : Int) : Option (Int) :=
 (bif (decide (n < 0)) then some (IntKind.u64.wrap (0 - (IntKind.u64.wrap n))) else some (IntKind.u64.wrap n))
def an_ref02_Size : An U := .nil
def fe_ref02_Size : Fe G := ⟨[.v .int1], [.u64], fun x => F_ref02_Size x.1⟩
def tb_ref02_Size : List (FuncId × Fe G) := []
theorem ev_ref02_Size (x : TyP G fe_ref02_Size.ps) : evF G (lstK G tb_ref02_Size) (bodyOf Try.f83) an_ref02_Size 10 [.tmp 2] fe_ref02_Size.rs (argT G fe_ref02_Size.ps x) = fe_ref02_Size.fn x := by kernel_rfl
theorem ok_ref02_Size : FnOk G 83 fe_ref02_Size := fnOk_of G_ok (lstK_ok G_ok (lnil)) Try.func83 (by kernel_rfl) (by kernel_rfl) (by kernel_rfl) (by kernel_rfl) (by kernel_rfl) ev_ref02_Size

def F_decimal_letter (c : Int) : Option (Bool) :=
 ((bif (decide (c ≥ 97)) then (bif (decide (c ≤ 122)) then some (true, ()) else (bif (decide (c ≥ 65)) then some ((decide (c ≤ 90)), ()) else some (false, ()))) else (bif (decide (c ≥ 65)) then some ((decide (c ≤ 90)), ()) else some (false, ()))) : Option (Bool × Unit)).bind fun y1 => some y1.1
def an_decimal_letter : An U := (.node none .nil (.node (some ⟨[], [], ⟨[], []⟩, [(.normal, ⟨[(2, .tv .bool)], []⟩)]⟩) .nil .nil))
def fe_decimal_letter : Fe G := ⟨[.v .u8], [.bool], fun x => F_decimal_letter x.1⟩
def tb_decimal_letter : List (FuncId × Fe G) := []
theorem ev_decimal_letter (x : TyP G fe_decimal_letter.ps) : evF G (lstK G tb_decimal_letter) (bodyOf Try.f88) an_decimal_letter 17 [.tmp 2] fe_decimal_letter.rs (argT G fe_decimal_letter.ps x) = fe_decimal_letter.fn x := by kernel_rfl
theorem ok_decimal_letter : FnOk G 88 fe_decimal_letter := fnOk_of G_ok (lstK_ok G_ok (lnil)) Try.func88 (by kernel_rfl) (by kernel_rfl) (by kernel_rfl) (by kernel_rfl) (by kernel_rfl) ev_decimal_letter

def F_slices_IndexFunc_api_Load (s : List TLoad) (f : TLoad → Option Bool) : Option (Int) :=
 (iterF (σ := Int × Unit) (ρ := (Int × Unit) ⊕ (Unit)) (fun s3 => (bif (decide (s3.1 < ((s.length : Nat) : Int))) then (idx s s3.1).bind fun x4 => (f x4).bind fun r5 => (bif r5 then some (.inr (.inl (s3.1, ()))) else some (.inl ((IntKind.i64.wrap (s3.1 + 1)), ()))) else some (.inr (.inr ((())))))) big (0, ())).bind fun y6 => (match y6 with | .inl y7 => some y7.1 | .inr y8 => some (-1))
def an_slices_IndexFunc_api_Load : An U := (.node none .nil (.node none (.node none .nil (.node none (.node (some ⟨[0, 1, 7], [], ⟨[(8, .tv .int)], []⟩, [(.ret, ⟨[(4, .tv .int)], []⟩), (.exit 0, ⟨[], []⟩)]⟩) .nil .nil) .nil)) .nil))
def fe_slices_IndexFunc_api_Load : Fe G := ⟨[.v .l_Load, .fn .Load .bool], [.int1], fun x => F_slices_IndexFunc_api_Load x.1 x.2.1⟩
def tb_slices_IndexFunc_api_Load : List (FuncId × Fe G) := []
theorem ev_slices_IndexFunc_api_Load (x : TyP G fe_slices_IndexFunc_api_Load.ps) : evF G (lstK G tb_slices_IndexFunc_api_Load) (bodyOf Try.f90) an_slices_IndexFunc_api_Load 19 [.tmp 4] fe_slices_IndexFunc_api_Load.rs (argT G fe_slices_IndexFunc_api_Load.ps x) = fe_slices_IndexFunc_api_Load.fn x := by kernel_rfl
theorem ok_slices_IndexFunc_api_Load : FnOk G 90 fe_slices_IndexFunc_api_Load := fnOk_of G_ok (lstK_ok G_ok (lnil)) Try.func90 (by kernel_rfl) (by kernel_rfl) (by kernel_rfl) (by kernel_rfl) (by kernel_rfl) ev_slices_IndexFunc_api_Load

def F_ref01_Letter (c : Int) : Option (Bool) :=
 ((bif (decide (c ≥ 97)) then (bif (decide (c ≤ 122)) then some (true, ()) else (bif (decide (c ≥ 65)) then some ((decide (c ≤ 90)), ()) else some (false, ()))) else (bif (decide (c ≥ 65)) then some ((decide (c ≤ 90)), ()) else some (false, ()))) : Option (Bool × Unit)).bind fun y1 => some y1.1
def an_ref01_Letter : An U := (.node none .nil (.node (some ⟨[], [], ⟨[], []⟩, [(.normal, ⟨[(2, .tv .bool)], []⟩)]⟩) .nil .nil))
def fe_ref01_Letter : Fe G := ⟨[.v .u8], [.bool], fun x => F_ref01_Letter x.1⟩
def tb_ref01_Letter : List (FuncId × Fe G) := []
theorem ev_ref01_Letter (x : TyP G fe_ref01_Letter.ps) : evF G (lstK G tb_ref01_Letter) (bodyOf Try.f91) an_ref01_Letter 17 [.tmp 2] fe_ref01_Letter.rs (argT G fe_ref01_Letter.ps x) = fe_ref01_Letter.fn x := by kernel_rfl
theorem ok_ref01_Letter : FnOk G 91 fe_ref01_Letter := fnOk_of G_ok (lstK_ok G_ok (lnil)) Try.func91 (by kernel_rfl) (by kernel_rfl) (by kernel_rfl) (by kernel_rfl) (by kernel_rfl) ev_ref01_Letter

def F_ref08_larger (a : List Int) (b : List Int) : Option (Bool) :=
 (bif (((a.length : Nat) : Int) != ((b.length : Nat) : Int)) then some (decide (((a.length : Nat) : Int) > ((b.length : Nat) : Int))) else (iterF (σ := Int × Unit) (ρ := (Bool × Unit) ⊕ (Unit)) (fun s5 => (bif (decide (s5.1 ≥ 0)) then (idx a s5.1).bind fun x6 => (idx b s5.1).bind fun x7 => (bif (x6 != x7) then (idx a s5.1).bind fun x8 => (idx b s5.1).bind fun x9 => some (.inr (.inl ((decide (x8 > x9)), ()))) else some (.inl ((IntKind.i64.wrap (s5.1 - 1)), ()))) else some (.inr (.inr ((())))))) big ((IntKind.i64.wrap (((a.length : Nat) : Int) - 1)), ())).bind fun y10 => (match y10 with | .inl y11 => some y11.1 | .inr y12 => some false))
def an_ref08_larger : An U := (.node none .nil (.node none .nil (.node none (.node none .nil (.node none (.node (some ⟨[0, 1], [], ⟨[(5, .tv .int)], []⟩, [(.ret, ⟨[(4, .tv .bool)], []⟩), (.exit 0, ⟨[], []⟩)]⟩) .nil .nil) .nil)) .nil)))
def fe_ref08_larger : Fe G := ⟨[.v .l_int1, .v .l_int1], [.bool], fun x => F_ref08_larger x.1 x.2.1⟩
def tb_ref08_larger : List (FuncId × Fe G) := []
theorem ev_ref08_larger (x : TyP G fe_ref08_larger.ps) : evF G (lstK G tb_ref08_larger) (bodyOf Try.f94) an_ref08_larger 41 [.tmp 4] fe_ref08_larger.rs (argT G fe_ref08_larger.ps x) = fe_ref08_larger.fn x := by kernel_rfl
theorem ok_ref08_larger : FnOk G 94 fe_ref08_larger := fnOk_of G_ok (lstK_ok G_ok (lnil)) Try.func94 (by kernel_rfl) (by kernel_rfl) (by kernel_rfl) (by kernel_rfl) (by kernel_rfl) ev_ref08_larger

def F_ref08_Neg (a : TBig) : Option (TBig) :=
 ((bif (!a.neg) then some ((TBig.mk (decide (((a.d.length : Nat) : Int) > 0)) a.d), ()) else some ((TBig.mk false a.d), ())) : Option (TBig × Unit)).bind fun y1 => some y1.1
def an_ref08_Neg : An U := (.node none .nil (.node (some ⟨[1, 2], [0], ⟨[], []⟩, [(.normal, ⟨[], [(0, .bx .Big [])]⟩)]⟩) .nil .nil))
def fe_ref08_Neg : Fe G := ⟨[.v .Big], [.Big], fun x => F_ref08_Neg x.1⟩
def tb_ref08_Neg : List (FuncId × Fe G) := []
theorem ev_ref08_Neg (x : TyP G fe_ref08_Neg.ps) : evZ G (lstK G tb_ref08_Neg) (bodyOf Try.f95) an_ref08_Neg 14 [.cell 2 55] fe_ref08_Neg.rs (argT G fe_ref08_Neg.ps x) = fe_ref08_Neg.fn x := by kernel_rfl
theorem ok_ref08_Neg : FnOk G 95 fe_ref08_Neg := fnOkz_of G_ok (fun _ => lstK_ok G_ok (lnil)) Try.func95 (by kernel_rfl) (by kernel_rfl) (by kernel_rfl) (by kernel_rfl) (by kernel_rfl) ev_ref08_Neg

def F_beam_number__opposite (a : Tnumber) : Option (Tnumber) :=
 some (Tnumber.mk (!a.neg) a.words)
def an_beam_number__opposite : An U := .nil
def fe_beam_number__opposite : Fe G := ⟨[.v .number], [.number], fun x => F_beam_number__opposite x.1⟩
def tb_beam_number__opposite : List (FuncId × Fe G) := []
theorem ev_beam_number__opposite (x : TyP G fe_beam_number__opposite.ps) : evZ G (lstK G tb_beam_number__opposite) (bodyOf Try.f105) an_beam_number__opposite 9 [.cell 2 88] fe_beam_number__opposite.rs (argT G fe_beam_number__opposite.ps x) = fe_beam_number__opposite.fn x := by kernel_rfl
theorem ok_beam_number__opposite : FnOk G 105 fe_beam_number__opposite := fnOkz_of G_ok (fun _ => lstK_ok G_ok (lnil)) Try.func105 (by kernel_rfl) (by kernel_rfl) (by kernel_rfl) (by kernel_rfl) (by kernel_rfl) ev_beam_number__opposite

def F_ref08_Sign (a : TExact) : Option (Int) :=
 (bif a.n.neg then some (-1) else (bif (((a.n.d.length : Nat) : Int) == 0) then some 0 else some 1))
def an_ref08_Sign : An U := .nil
def fe_ref08_Sign : Fe G := ⟨[.v .Exact], [.int1], fun x => F_ref08_Sign x.1⟩
def tb_ref08_Sign : List (FuncId × Fe G) := []
theorem ev_ref08_Sign (x : TyP G fe_ref08_Sign.ps) : evF G (lstK G tb_ref08_Sign) (bodyOf Try.f107) an_ref08_Sign 11 [.tmp 2] fe_ref08_Sign.rs (argT G fe_ref08_Sign.ps x) = fe_ref08_Sign.fn x := by kernel_rfl
theorem ok_ref08_Sign : FnOk G 107 fe_ref08_Sign := fnOk_of G_ok (lstK_ok G_ok (lnil)) Try.func107 (by kernel_rfl) (by kernel_rfl) (by kernel_rfl) (by kernel_rfl) (by kernel_rfl) ev_ref08_Sign

def F_math_bits_Mul64 (x : Int) (y : Int) : Option (Int × Int) :=
 some ((IntKind.u64.wrap ((IntKind.u64.wrap ((IntKind.u64.wrap ((x.fdiv (2 ^ min (Int.toNat 32) IntKind.u64.bits)) * (y.fdiv (2 ^ min (Int.toNat 32) IntKind.u64.bits)))) + ((IntKind.u64.wrap ((IntKind.u64.wrap ((x.fdiv (2 ^ min (Int.toNat 32) IntKind.u64.bits)) * (bitsOf .and .u64 y 4294967295))) + ((IntKind.u64.wrap ((bitsOf .and .u64 x 4294967295) * (bitsOf .and .u64 y 4294967295))).fdiv (2 ^ min (Int.toNat 32) IntKind.u64.bits)))).fdiv (2 ^ min (Int.toNat 32) IntKind.u64.bits)))) + ((IntKind.u64.wrap ((bitsOf .and .u64 (IntKind.u64.wrap ((IntKind.u64.wrap ((x.fdiv (2 ^ min (Int.toNat 32) IntKind.u64.bits)) * (bitsOf .and .u64 y 4294967295))) + ((IntKind.u64.wrap ((bitsOf .and .u64 x 4294967295) * (bitsOf .and .u64 y 4294967295))).fdiv (2 ^ min (Int.toNat 32) IntKind.u64.bits)))) 4294967295) + (IntKind.u64.wrap ((bitsOf .and .u64 x 4294967295) * (y.fdiv (2 ^ min (Int.toNat 32) IntKind.u64.bits)))))).fdiv (2 ^ min (Int.toNat 32) IntKind.u64.bits)))), (IntKind.u64.wrap (x * y)))
def an_math_bits_Mul64 : An U := .nil
def fe_math_bits_Mul64 : Fe G := ⟨[.v .u64, .v .u64], [.u64, .u64], fun x => F_math_bits_Mul64 x.1 x.2.1⟩
def tb_math_bits_Mul64 : List (FuncId × Fe G) := []
theorem ev_math_bits_Mul64 (x : TyP G fe_math_bits_Mul64.ps) : evF G (lstK G tb_math_bits_Mul64) (bodyOf Try.f109) an_math_bits_Mul64 51 [.tmp 4, .tmp 5] fe_math_bits_Mul64.rs (argT G fe_math_bits_Mul64.ps x) = fe_math_bits_Mul64.fn x := by kernel_rfl
theorem ok_math_bits_Mul64 : FnOk G 109 fe_math_bits_Mul64 := fnOk_of G_ok (lstK_ok G_ok (lnil)) Try.func109 (by kernel_rfl) (by kernel_rfl) (by kernel_rfl) (by kernel_rfl) (by kernel_rfl) ev_math_bits_Mul64

def F_decimal_digit (c : Int) : Option (Bool) :=
 ((bif (decide (c ≥ 48)) then some ((decide (c ≤ 57)), ()) else some (false, ())) : Option (Bool × Unit)).bind fun y1 => some y1.1
def an_decimal_digit : An U := (.node none .nil (.node (some ⟨[], [], ⟨[], []⟩, [(.normal, ⟨[(2, .tv .bool)], []⟩)]⟩) .nil .nil))
def fe_decimal_digit : Fe G := ⟨[.v .u8], [.bool], fun x => F_decimal_digit x.1⟩
def tb_decimal_digit : List (FuncId × Fe G) := []
theorem ev_decimal_digit (x : TyP G fe_decimal_digit.ps) : evF G (lstK G tb_decimal_digit) (bodyOf Try.f117) an_decimal_digit 9 [.tmp 2] fe_decimal_digit.rs (argT G fe_decimal_digit.ps x) = fe_decimal_digit.fn x := by kernel_rfl
theorem ok_decimal_digit : FnOk G 117 fe_decimal_digit := fnOk_of G_ok (lstK_ok G_ok (lnil)) Try.func117 (by kernel_rfl) (by kernel_rfl) (by kernel_rfl) (by kernel_rfl) (by kernel_rfl) ev_decimal_digit

def F_ref01_Digit (c : Int) : Option (Bool) :=
 ((bif (decide (c ≥ 48)) then some ((decide (c ≤ 57)), ()) else some (false, ())) : Option (Bool × Unit)).bind fun y1 => some y1.1
def an_ref01_Digit : An U := (.node none .nil (.node (some ⟨[], [], ⟨[], []⟩, [(.normal, ⟨[(2, .tv .bool)], []⟩)]⟩) .nil .nil))
def fe_ref01_Digit : Fe G := ⟨[.v .u8], [.bool], fun x => F_ref01_Digit x.1⟩
def tb_ref01_Digit : List (FuncId × Fe G) := []
theorem ev_ref01_Digit (x : TyP G fe_ref01_Digit.ps) : evF G (lstK G tb_ref01_Digit) (bodyOf Try.f118) an_ref01_Digit 9 [.tmp 2] fe_ref01_Digit.rs (argT G fe_ref01_Digit.ps x) = fe_ref01_Digit.fn x := by kernel_rfl
theorem ok_ref01_Digit : FnOk G 118 fe_ref01_Digit := fnOk_of G_ok (lstK_ok G_ok (lnil)) Try.func118 (by kernel_rfl) (by kernel_rfl) (by kernel_rfl) (by kernel_rfl) (by kernel_rfl) ev_ref01_Digit

def F_ref08_trim (b : TBig) : Option (TBig) :=
 (iterF (σ := Int × Unit) (ρ := Int × Unit) (fun s4 => ((bif (decide (s4.1 > 0)) then (idx b.d (IntKind.i64.wrap (s4.1 - 1))).bind fun x5 => some ((x5 == 0), ()) else some (false, ())) : Option (Bool × Unit)).bind fun y6 => (bif y6.1 then some (.inl ((IntKind.i64.wrap (s4.1 - 1)), ())) else some (.inr (s4.1, ())))) big (((b.d.length : Nat) : Int), ())).bind fun y7 => (if 0 ≤ (0 : Int) ∧ (0 : Int) ≤ y7.1 ∧ y7.1 ≤ ((b.d.length : Nat) : Int) then ((bif (y7.1 == 0) then some ((TBig.mk false ((b.d.take (Int.toNat y7.1)).drop (Int.toNat (0 : Int)))), ()) else some ((TBig.mk b.neg ((b.d.take (Int.toNat y7.1)).drop (Int.toNat (0 : Int)))), ())) : Option (TBig × Unit)).bind fun y8 => some y8.1 else none)
def an_ref08_trim : An U := (.node none .nil (.node none .nil (.node none (.node none (.node (some ⟨[1, 2], [], ⟨[(3, .tv .int)], []⟩, [(.exit 0, ⟨[(3, .tv .int)], []⟩)]⟩) (.node none (.node (some ⟨[3], [], ⟨[], []⟩, [(.normal, ⟨[(17, .tv .bool)], []⟩)]⟩) .nil .nil) .nil) .nil) .nil) (.node none .nil (.node (some ⟨[1, 2], [0], ⟨[], []⟩, [(.normal, ⟨[], [(0, .bx .Big [])]⟩)]⟩) .nil .nil)))))
def fe_ref08_trim : Fe G := ⟨[.v .Big], [.Big], fun x => F_ref08_trim x.1⟩
def tb_ref08_trim : List (FuncId × Fe G) := []
theorem ev_ref08_trim (x : TyP G fe_ref08_trim.ps) : evZ G (lstK G tb_ref08_trim) (bodyOf Try.f121) an_ref08_trim 29 [.cell 2 55] fe_ref08_trim.rs (argT G fe_ref08_trim.ps x) = fe_ref08_trim.fn x := by kernel_rfl
theorem ok_ref08_trim : FnOk G 121 fe_ref08_trim := fnOkz_of G_ok (fun _ => lstK_ok G_ok (lnil)) Try.func121 (by kernel_rfl) (by kernel_rfl) (by kernel_rfl) (by kernel_rfl) (by kernel_rfl) ev_ref08_trim

def F_ref08_digit (l : List Int) (i : Int) : Option (Int) :=
 (bif (decide (i < ((l.length : Nat) : Int))) then (idx l i).bind fun x1 => some x1 else some 0)
def an_ref08_digit : An U := .nil
def fe_ref08_digit : Fe G := ⟨[.v .l_int1, .v .int1], [.int1], fun x => F_ref08_digit x.1 x.2.1⟩
def tb_ref08_digit : List (FuncId × Fe G) := []
theorem ev_ref08_digit (x : TyP G fe_ref08_digit.ps) : evF G (lstK G tb_ref08_digit) (bodyOf Try.f124) an_ref08_digit 13 [.tmp 4] fe_ref08_digit.rs (argT G fe_ref08_digit.ps x) = fe_ref08_digit.fn x := by kernel_rfl
theorem ok_ref08_digit : FnOk G 124 fe_ref08_digit := fnOk_of G_ok (lstK_ok G_ok (lnil)) Try.func124 (by kernel_rfl) (by kernel_rfl) (by kernel_rfl) (by kernel_rfl) (by kernel_rfl) ev_ref08_digit

def F_beam_trimmed (w : List Int) : Option ((List Int)) :=
 (iterF (σ := (List Int) × Unit) (ρ := (List Int) × Unit) (fun s4 => ((bif (decide (((s4.1.length : Nat) : Int) > 0)) then (idx s4.1 (IntKind.i64.wrap (((s4.1.length : Nat) : Int) - 1))).bind fun x5 => some ((x5 == 0), ()) else some (false, ())) : Option (Bool × Unit)).bind fun y6 => (bif y6.1 then (if 0 ≤ (0 : Int) ∧ (0 : Int) ≤ (IntKind.i64.wrap (((s4.1.length : Nat) : Int) - 1)) ∧ (IntKind.i64.wrap (((s4.1.length : Nat) : Int) - 1)) ≤ ((s4.1.length : Nat) : Int) then some (.inl (((s4.1.take (Int.toNat (IntKind.i64.wrap (((s4.1.length : Nat) : Int) - 1)))).drop (Int.toNat (0 : Int))), ())) else none) else some (.inr (s4.1, ())))) big (w, ())).bind fun y7 => some y7.1
def an_beam_trimmed : An U := (.node none .nil (.node none (.node none (.node (some ⟨[2], [], ⟨[(0, .tv .l_u32)], []⟩, [(.exit 0, ⟨[(0, .tv .l_u32)], []⟩)]⟩) (.node none (.node (some ⟨[0], [], ⟨[], []⟩, [(.normal, ⟨[(14, .tv .bool)], []⟩)]⟩) .nil .nil) .nil) .nil) .nil) .nil))
def fe_beam_trimmed : Fe G := ⟨[.v .l_u32], [.l_u32], fun x => F_beam_trimmed x.1⟩
def tb_beam_trimmed : List (FuncId × Fe G) := []
theorem ev_beam_trimmed (x : TyP G fe_beam_trimmed.ps) : evZ G (lstK G tb_beam_trimmed) (bodyOf Try.f125) an_beam_trimmed 21 [.tmp 2] fe_beam_trimmed.rs (argT G fe_beam_trimmed.ps x) = fe_beam_trimmed.fn x := by kernel_rfl
theorem ok_beam_trimmed : FnOk G 125 fe_beam_trimmed := fnOkz_of G_ok (fun _ => lstK_ok G_ok (lnil)) Try.func125 (by kernel_rfl) (by kernel_rfl) (by kernel_rfl) (by kernel_rfl) (by kernel_rfl) ev_beam_trimmed

def F_beam_compared (a : List Int) (b : List Int) : Option (Int) :=
 (bif (((a.length : Nat) : Int) != ((b.length : Nat) : Int)) then some (IntKind.i64.wrap (((a.length : Nat) : Int) - ((b.length : Nat) : Int))) else (iterF (σ := Int × Unit) (ρ := (Int × Unit) ⊕ (Unit)) (fun s5 => (bif (decide (s5.1 ≥ 0)) then (idx a s5.1).bind fun x6 => (idx b s5.1).bind fun x7 => (bif (x6 != x7) then (idx a s5.1).bind fun x8 => (idx b s5.1).bind fun x9 => (bif (decide (x8 < x9)) then some (.inr (.inl ((-1), ()))) else some (.inr (.inl (1, ())))) else some (.inl ((IntKind.i64.wrap (s5.1 - 1)), ()))) else some (.inr (.inr ((())))))) big ((IntKind.i64.wrap (((a.length : Nat) : Int) - 1)), ())).bind fun y10 => (match y10 with | .inl y11 => some y11.1 | .inr y12 => some 0))
def an_beam_compared : An U := (.node none .nil (.node none .nil (.node none (.node none .nil (.node none (.node (some ⟨[0, 1], [], ⟨[(5, .tv .int)], []⟩, [(.ret, ⟨[(4, .tv .int)], []⟩), (.exit 0, ⟨[], []⟩)]⟩) .nil .nil) .nil)) .nil)))
def fe_beam_compared : Fe G := ⟨[.v .l_u32, .v .l_u32], [.int1], fun x => F_beam_compared x.1 x.2.1⟩
def tb_beam_compared : List (FuncId × Fe G) := []
theorem ev_beam_compared (x : TyP G fe_beam_compared.ps) : evF G (lstK G tb_beam_compared) (bodyOf Try.f129) an_beam_compared 41 [.tmp 4] fe_beam_compared.rs (argT G fe_beam_compared.ps x) = fe_beam_compared.fn x := by kernel_rfl
theorem ok_beam_compared : FnOk G 129 fe_beam_compared := fnOk_of G_ok (lstK_ok G_ok (lnil)) Try.func129 (by kernel_rfl) (by kernel_rfl) (by kernel_rfl) (by kernel_rfl) (by kernel_rfl) ev_beam_compared
end
end Go.Proofs.Ytbamoboldhabjaa
