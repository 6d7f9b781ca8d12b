/- Joined by merge.py: Fn0. -/
import Derived.Test.YtkphcdficpfcnaaM03
/- Functions, as plain data. Printed by mkev.py. -/
namespace Go.Proofs.Ytkphcdficpfcnaa
open Go.RowKit
set_option linter.unusedVariables false

def F_ref17_Gaps (l : List TSpring) (gaps : List Int) : Option (Int) :=
  (bif (((gaps.length : Nat) : Int) != ((l.length : Nat) : Int)) then some 3 else (iterF (σ := Int × Unit) (ρ := (Int × Unit) ⊕ (Unit)) (fun s6 => (bif (decide (s6.1 < ((gaps.length : Nat) : Int))) then ((idx gaps s6.1).bind fun x7 => (bif (decide (x7 < 0)) then some (true, ()) else (idx gaps s6.1).bind fun x8 => some ((decide (x8 > 1048576)), ())) : Option (Bool × Unit)).bind fun y9 => (bif y9.1 then some (.inr (.inl (2, ()))) else some (.inl ((IntKind.i64.wrap (s6.1 + 1)), ()))) else some (.inr (.inr ((())))))) big (0, ())).bind fun y10 => (match y10 with | .inl y11 => some y11.1 | .inr y12 => some 0))
def an_ref17_Gaps : An U := (.node none .nil (.node none .nil (.node none (.node none .nil (.node none (.node (some ⟨[1], [], ⟨[(5, .tv .int)], []⟩, [(.ret, ⟨[(4, .tv .int)], []⟩), (.exit 0, ⟨[], []⟩)]⟩) (.node none .nil (.node none (.node none (.node (some ⟨[5], [], ⟨[], []⟩, [(.normal, ⟨[(28, .tv .bool)], []⟩)]⟩) .nil .nil) .nil) .nil)) .nil) .nil)) .nil)))
def fe_ref17_Gaps : Fe G := ⟨[.v .l_Spring, .v .l_int1], [.int1], fun x => F_ref17_Gaps x.1 x.2.1⟩
def tb_ref17_Gaps : List (FuncId × Fe G) := []
theorem ev_ref17_Gaps (x : TyP G fe_ref17_Gaps.ps) : evF G (lstK G tb_ref17_Gaps) (bodyOf Try.f17) an_ref17_Gaps 29 [.tmp 4] fe_ref17_Gaps.rs (argT G fe_ref17_Gaps.ps x) = fe_ref17_Gaps.fn x := by kernel_rfl
theorem ok_ref17_Gaps : FnOk G 17 fe_ref17_Gaps := fnOk_of G_ok (lstK_ok G_ok (lnil)) Try.func17 (by kernel_rfl) (by kernel_rfl) (by kernel_rfl) (by kernel_rfl) ev_ref17_Gaps

def F_slices_Equal_api_Frac (s1_ : List TFrac) (s2_ : List TFrac) : Option (Bool) :=
  (bif (((s1_.length : Nat) : Int) != ((s2_.length : Nat) : Int)) then some false else (iterF (σ := Int × Unit) (ρ := (Bool × Unit) ⊕ (Unit)) (fun s3 => (bif (decide (s3.1 < ((s1_.length : Nat) : Int))) then (idx s1_ s3.1).bind fun x4 => (idx s2_ s3.1).bind fun x5 => (bif (!((x4.num == x5.num) && (x4.den == x5.den))) then some (.inr (.inl (false, ()))) else some (.inl ((IntKind.i64.wrap (s3.1 + 1)), ()))) else some (.inr (.inr ((())))))) big (0, ())).bind fun y6 => (match y6 with | .inl y7 => some y7.1 | .inr y8 => some true))
def an_slices_Equal_api_Frac : An U := (.node none .nil (.node none .nil (.node none (.node none .nil (.node none (.node (some ⟨[0, 1, 12], [], ⟨[(13, .tv .int)], []⟩, [(.ret, ⟨[(4, .tv .bool)], []⟩), (.exit 0, ⟨[], []⟩)]⟩) .nil .nil) .nil)) .nil)))
def fe_slices_Equal_api_Frac : Fe G := ⟨[.v .l_Frac, .v .l_Frac], [.bool], fun x => F_slices_Equal_api_Frac x.1 x.2.1⟩
def tb_slices_Equal_api_Frac : List (FuncId × Fe G) := []
theorem ev_slices_Equal_api_Frac (x : TyP G fe_slices_Equal_api_Frac.ps) : evF G (lstK G tb_slices_Equal_api_Frac) (bodyOf Try.f18) an_slices_Equal_api_Frac 26 [.tmp 4] fe_slices_Equal_api_Frac.rs (argT G fe_slices_Equal_api_Frac.ps x) = fe_slices_Equal_api_Frac.fn x := by kernel_rfl
theorem ok_slices_Equal_api_Frac : FnOk G 18 fe_slices_Equal_api_Frac := fnOk_of G_ok (lstK_ok G_ok (lnil)) Try.func18 (by kernel_rfl) (by kernel_rfl) (by kernel_rfl) (by kernel_rfl) ev_slices_Equal_api_Frac

def F_law17_f (n : Int) : Option (TFrac) :=
  some (TFrac.mk n 1)
def an_law17_f : An U := .nil
def fe_law17_f : Fe G := ⟨[.v .int1], [.Frac], fun x => F_law17_f x.1⟩
def tb_law17_f : List (FuncId × Fe G) := []
theorem ev_law17_f (x : TyP G fe_law17_f.ps) : evF G (lstK G tb_law17_f) (bodyOf Try.f27) an_law17_f 5 [.cell 2 27] fe_law17_f.rs (argT G fe_law17_f.ps x) = fe_law17_f.fn x := by kernel_rfl
theorem ok_law17_f : FnOk G 27 fe_law17_f := fnOk_of G_ok (lstK_ok G_ok (lnil)) Try.func27 (by kernel_rfl) (by kernel_rfl) (by kernel_rfl) (by kernel_rfl) ev_law17_f

def F_slices_Clone_api_Frac (s : List TFrac) : Option ((List TFrac)) :=
  (if ([] : List TFrac).length + s.length ≤ 2147483648 then some (([] : List TFrac) ++ s) else none)
def an_slices_Clone_api_Frac : An U := .nil
def fe_slices_Clone_api_Frac : Fe G := ⟨[.v .l_Frac], [.l_Frac], fun x => F_slices_Clone_api_Frac x.1⟩
def tb_slices_Clone_api_Frac : List (FuncId × Fe G) := []
theorem ok_slices_Clone_api_Frac : FnOk G 31 fe_slices_Clone_api_Frac := clone_ok G_ok (lstK_ok G_ok lnil) Try.func31 (by kernel_rfl) (by kernel_rfl) (k := 8) (by kernel_rfl) (by decide) (res := [.tmp 2]) (by kernel_rfl) (t := 31) (by kernel_rfl) (u := .Frac) (lu := .l_Frac) (by kernel_rfl) (cast := fun x => x) (fun _ => by kernel_rfl) (F := F_slices_Clone_api_Frac) (fun _ => by kernel_rfl) (fun x y hx h => by obtain rfl : x = ([] : List TFrac) := hx; rw [← h]; kernel_rfl)

def F_slices_Clone_api_Spring (s : List TSpring) : Option ((List TSpring)) :=
  (if ([] : List TSpring).length + s.length ≤ 2147483648 then some (([] : List TSpring) ++ s) else none)
def an_slices_Clone_api_Spring : An U := .nil
def fe_slices_Clone_api_Spring : Fe G := ⟨[.v .l_Spring], [.l_Spring], fun x => F_slices_Clone_api_Spring x.1⟩
def tb_slices_Clone_api_Spring : List (FuncId × Fe G) := []
theorem ok_slices_Clone_api_Spring : FnOk G 39 fe_slices_Clone_api_Spring := clone_ok G_ok (lstK_ok G_ok lnil) Try.func39 (by kernel_rfl) (by kernel_rfl) (k := 8) (by kernel_rfl) (by decide) (res := [.tmp 2]) (by kernel_rfl) (t := 22) (by kernel_rfl) (u := .Spring) (lu := .l_Spring) (by kernel_rfl) (cast := fun x => x) (fun _ => by kernel_rfl) (F := F_slices_Clone_api_Spring) (fun _ => by kernel_rfl) (fun x y hx h => by obtain rfl : x = ([] : List TSpring) := hx; rw [← h]; kernel_rfl)

def F_slices_Clone_int (s : List Int) : Option ((List Int)) :=
  (if ([] : List Int).length + s.length ≤ 2147483648 then some (([] : List Int) ++ s) else none)
def an_slices_Clone_int : An U := .nil
def fe_slices_Clone_int : Fe G := ⟨[.v .l_int1], [.l_int1], fun x => F_slices_Clone_int x.1⟩
def tb_slices_Clone_int : List (FuncId × Fe G) := []
theorem ok_slices_Clone_int : FnOk G 40 fe_slices_Clone_int := clone_ok G_ok (lstK_ok G_ok lnil) Try.func40 (by kernel_rfl) (by kernel_rfl) (k := 8) (by kernel_rfl) (by decide) (res := [.tmp 2]) (by kernel_rfl) (t := 23) (by kernel_rfl) (u := .int1) (lu := .l_int1) (by kernel_rfl) (cast := fun x => x) (fun _ => by kernel_rfl) (F := F_slices_Clone_int) (fun _ => by kernel_rfl) (fun x y hx h => by obtain rfl : x = ([] : List Int) := hx; rw [← h]; kernel_rfl)

def F_law17_example : Option ((List TSpring)) :=
  some ([(TSpring.mk (⟨#[97]⟩ : ByteArray) 2), (TSpring.mk (⟨#[98]⟩ : ByteArray) 3)] : List TSpring)
def an_law17_example : An U := .nil
def fe_law17_example : Fe G := ⟨[], [.l_Spring], fun x => F_law17_example⟩
def tb_law17_example : List (FuncId × Fe G) := []
theorem ev_law17_example (x : TyP G fe_law17_example.ps) : evF G (lstK G tb_law17_example) (bodyOf Try.f44) an_law17_example 4 [.tmp 0] fe_law17_example.rs (argT G fe_law17_example.ps x) = fe_law17_example.fn x := by kernel_rfl
theorem ok_law17_example : FnOk G 44 fe_law17_example := fnOk_of G_ok (lstK_ok G_ok (lnil)) Try.func44 (by kernel_rfl) (by kernel_rfl) (by kernel_rfl) (by kernel_rfl) ev_law17_example

def F_law17_large_1 (x : TSpring) : Option (Bool) :=
  some (decide (((x.name.size : Nat) : Int) > 60))
def an_law17_large_1 : An U := .nil
def fe_law17_large_1 : Fe G := ⟨[.v .Spring], [.bool], fun x => F_law17_large_1 x.1⟩
def tb_law17_large_1 : List (FuncId × Fe G) := []
theorem ev_law17_large_1 (x : TyP G fe_law17_large_1.ps) : evF G (lstK G tb_law17_large_1) (bodyOf Try.f46) an_law17_large_1 7 [.tmp 2] fe_law17_large_1.rs (argT G fe_law17_large_1.ps x) = fe_law17_large_1.fn x := by kernel_rfl
theorem ok_law17_large_1 : FnOk G 46 fe_law17_large_1 := fnOk_of G_ok (lstK_ok G_ok (lnil)) Try.func46 (by kernel_rfl) (by kernel_rfl) (by kernel_rfl) (by kernel_rfl) ev_law17_large_1

def F_elastic_Slack_1 (g : Int) : Option (Bool) :=
  ((bif (decide (g < 0)) then some (true, ()) else some ((decide (g > 1048576)), ())) : Option (Bool × Unit)).bind fun y1 => some y1.1
def an_elastic_Slack_1 : An U := (.node none .nil (.node (some ⟨[], [], ⟨[], []⟩, [(.normal, ⟨[(2, .tv .bool)], []⟩)]⟩) .nil .nil))
def fe_elastic_Slack_1 : Fe G := ⟨[.v .int1], [.bool], fun x => F_elastic_Slack_1 x.1⟩
def tb_elastic_Slack_1 : List (FuncId × Fe G) := []
theorem ev_elastic_Slack_1 (x : TyP G fe_elastic_Slack_1.ps) : evF G (lstK G tb_elastic_Slack_1) (bodyOf Try.f50) an_elastic_Slack_1 9 [.tmp 2] fe_elastic_Slack_1.rs (argT G fe_elastic_Slack_1.ps x) = fe_elastic_Slack_1.fn x := by kernel_rfl
theorem ok_elastic_Slack_1 : FnOk G 50 fe_elastic_Slack_1 := fnOk_of G_ok (lstK_ok G_ok (lnil)) Try.func50 (by kernel_rfl) (by kernel_rfl) (by kernel_rfl) (by kernel_rfl) ev_elastic_Slack_1

def F_elastic_Slack_2 (a : Int) (b : Int) (a2 : List Int) : Option (Int) :=
  (idx a2 a).bind fun x1 => (idx a2 b).bind fun x2 => some (IntKind.i64.wrap (x1 - x2))
def an_elastic_Slack_2 : An U := .nil
def fe_elastic_Slack_2 : Fe G := ⟨[.v .int1, .v .int1, .rp .l_int1], [.int1], fun x => F_elastic_Slack_2 x.1 x.2.1 x.2.2.1⟩
def tb_elastic_Slack_2 : List (FuncId × Fe G) := []
theorem ev_elastic_Slack_2 (x : TyP G fe_elastic_Slack_2.ps) : evF G (lstK G tb_elastic_Slack_2) (bodyOf Try.f52) an_elastic_Slack_2 15 [.tmp 5] fe_elastic_Slack_2.rs (argT G fe_elastic_Slack_2.ps x) = fe_elastic_Slack_2.fn x := by kernel_rfl
theorem ok_elastic_Slack_2 : FnOk G 52 fe_elastic_Slack_2 := fnOk_of G_ok (lstK_ok G_ok (lnil)) Try.func52 (by kernel_rfl) (by kernel_rfl) (by kernel_rfl) (by kernel_rfl) ev_elastic_Slack_2

def F_ref02_Of (n : Int) : Option (TFrac) :=
  some (TFrac.mk n 1)
def an_ref02_Of : An U := .nil
def fe_ref02_Of : Fe G := ⟨[.v .int1], [.Frac], fun x => F_ref02_Of x.1⟩
def tb_ref02_Of : List (FuncId × Fe G) := []
theorem ev_ref02_Of (x : TyP G fe_ref02_Of.ps) : evF G (lstK G tb_ref02_Of) (bodyOf Try.f55) an_ref02_Of 5 [.cell 2 27] fe_ref02_Of.rs (argT G fe_ref02_Of.ps x) = fe_ref02_Of.fn x := by kernel_rfl
theorem ok_ref02_Of : FnOk G 55 fe_ref02_Of := fnOk_of G_ok (lstK_ok G_ok (lnil)) Try.func55 (by kernel_rfl) (by kernel_rfl) (by kernel_rfl) (by kernel_rfl) ev_ref02_Of

def F_ref17_IsWeight (n : Int) : Option (Bool) :=
  ((bif (decide (n ≥ 0)) then some ((decide (n ≤ 67108864)), ()) else some (false, ())) : Option (Bool × Unit)).bind fun y1 => some y1.1
def an_ref17_IsWeight : An U := (.node none .nil (.node (some ⟨[], [], ⟨[], []⟩, [(.normal, ⟨[(2, .tv .bool)], []⟩)]⟩) .nil .nil))
def fe_ref17_IsWeight : Fe G := ⟨[.v .int1], [.bool], fun x => F_ref17_IsWeight x.1⟩
def tb_ref17_IsWeight : List (FuncId × Fe G) := []
theorem ev_ref17_IsWeight (x : TyP G fe_ref17_IsWeight.ps) : evF G (lstK G tb_ref17_IsWeight) (bodyOf Try.f57) an_ref17_IsWeight 9 [.tmp 2] fe_ref17_IsWeight.rs (argT G fe_ref17_IsWeight.ps x) = fe_ref17_IsWeight.fn x := by kernel_rfl
theorem ok_ref17_IsWeight : FnOk G 57 fe_ref17_IsWeight := fnOk_of G_ok (lstK_ok G_ok (lnil)) Try.func57 (by kernel_rfl) (by kernel_rfl) (by kernel_rfl) (by kernel_rfl) ev_ref17_IsWeight

def F_ref17_pull (l : List TSpring) (gaps : List Int) (depth : Int) : Option (Int) :=
  (iterF (σ := Int × Int × Unit) (ρ := Int × Unit) (fun s8 => (bif (decide (s8.2.1 < ((l.length : Nat) : Int))) then ((idx gaps s8.2.1).bind fun x9 => (bif (decide (depth > x9)) then (idx l s8.2.1).bind fun x10 => (idx gaps s8.2.1).bind fun x11 => some ((IntKind.i64.wrap (s8.1 + (IntKind.i64.wrap (x10.stiff * (IntKind.i64.wrap (depth - x11)))))), ()) else some (s8.1, ())) : Option (Int × Unit)).bind fun y12 => some (.inl (y12.1, (IntKind.i64.wrap (s8.2.1 + 1)), ())) else some (.inr (s8.1, ())))) big (0, 0, ())).bind fun y13 => some y13.1
def an_ref17_pull : An U := (.node none .nil (.node none .nil (.node none (.node none .nil (.node none (.node (some ⟨[0, 1, 2, 6], [], ⟨[(7, .tv .int), (8, .tv .int)], []⟩, [(.exit 0, ⟨[(7, .tv .int)], []⟩)]⟩) (.node none .nil (.node (some ⟨[8], [], ⟨[], []⟩, [(.normal, ⟨[(7, .tv .int)], []⟩)]⟩) .nil .nil)) .nil) .nil)) .nil)))
def fe_ref17_pull : Fe G := ⟨[.v .l_Spring, .v .l_int1, .v .int1], [.int1], fun x => F_ref17_pull x.1 x.2.1 x.2.2.1⟩
def tb_ref17_pull : List (FuncId × Fe G) := []
theorem ev_ref17_pull (x : TyP G fe_ref17_pull.ps) : evF G (lstK G tb_ref17_pull) (bodyOf Try.f58) an_ref17_pull 36 [.tmp 6] fe_ref17_pull.rs (argT G fe_ref17_pull.ps x) = fe_ref17_pull.fn x := by kernel_rfl
theorem ok_ref17_pull : FnOk G 58 fe_ref17_pull := fnOk_of G_ok (lstK_ok G_ok (lnil)) Try.func58 (by kernel_rfl) (by kernel_rfl) (by kernel_rfl) (by kernel_rfl) ev_ref17_pull

def F_elastic_stiff (l : List TSpring) : Option (Int) :=
  (iterF (σ := Int × Int × Unit) (ρ := Int × Unit) (fun s2 => (bif (decide (s2.2.1 < ((l.length : Nat) : Int))) then (idx l s2.2.1).bind fun x3 => some (.inl ((IntKind.i64.wrap (s2.1 + x3.stiff)), (IntKind.i64.wrap (s2.2.1 + 1)), ())) else some (.inr (s2.1, ())))) big (0, 0, ())).bind fun y4 => some y4.1
def an_elastic_stiff : An U := (.node none .nil (.node none .nil (.node none (.node none .nil (.node none (.node (some ⟨[2, 6, 7], [], ⟨[(3, .tv .int), (8, .tv .int)], []⟩, [(.exit 0, ⟨[(3, .tv .int)], []⟩)]⟩) .nil .nil) .nil)) .nil)))
def fe_elastic_stiff : Fe G := ⟨[.v .l_Spring], [.int1], fun x => F_elastic_stiff x.1⟩
def tb_elastic_stiff : List (FuncId × Fe G) := []
theorem ev_elastic_stiff (x : TyP G fe_elastic_stiff.ps) : evF G (lstK G tb_elastic_stiff) (bodyOf Try.f59) an_elastic_stiff 18 [.tmp 2] fe_elastic_stiff.rs (argT G fe_elastic_stiff.ps x) = fe_elastic_stiff.fn x := by kernel_rfl
theorem ok_elastic_stiff : FnOk G 59 fe_elastic_stiff := fnOk_of G_ok (lstK_ok G_ok (lnil)) Try.func59 (by kernel_rfl) (by kernel_rfl) (by kernel_rfl) (by kernel_rfl) ev_elastic_stiff

def F_ref17_all (l : List TSpring) : Option (Int) :=
  (iterF (σ := Int × Int × Unit) (ρ := Int × Unit) (fun s2 => (bif (decide (s2.2.1 < ((l.length : Nat) : Int))) then (idx l s2.2.1).bind fun x3 => some (.inl ((IntKind.i64.wrap (s2.1 + x3.stiff)), (IntKind.i64.wrap (s2.2.1 + 1)), ())) else some (.inr (s2.1, ())))) big (0, 0, ())).bind fun y4 => some y4.1
def an_ref17_all : An U := (.node none .nil (.node none .nil (.node none (.node none .nil (.node none (.node (some ⟨[0, 2], [], ⟨[(3, .tv .int), (4, .tv .int)], []⟩, [(.exit 0, ⟨[(3, .tv .int)], []⟩)]⟩) .nil .nil) .nil)) .nil)))
def fe_ref17_all : Fe G := ⟨[.v .l_Spring], [.int1], fun x => F_ref17_all x.1⟩
def tb_ref17_all : List (FuncId × Fe G) := []
theorem ev_ref17_all (x : TyP G fe_ref17_all.ps) : evF G (lstK G tb_ref17_all) (bodyOf Try.f60) an_ref17_all 19 [.tmp 2] fe_ref17_all.rs (argT G fe_ref17_all.ps x) = fe_ref17_all.fn x := by kernel_rfl
theorem ok_ref17_all : FnOk G 60 fe_ref17_all := fnOk_of G_ok (lstK_ok G_ok (lnil)) Try.func60 (by kernel_rfl) (by kernel_rfl) (by kernel_rfl) (by kernel_rfl) ev_ref17_all

def F_ref02_Mul (a : Int) (b : Int) : Option (TU) :=
  some (TU.mk (IntKind.u64.wrap ((IntKind.u64.wrap ((IntKind.u64.wrap ((a.fdiv (2 ^ min (Int.toNat 32) IntKind.u64.bits)) * (b.fdiv (2 ^ min (Int.toNat 32) IntKind.u64.bits)))) + ((IntKind.u64.wrap ((IntKind.u64.wrap ((a.fdiv (2 ^ min (Int.toNat 32) IntKind.u64.bits)) * (bitsOf .and .u64 b 4294967295))) + ((IntKind.u64.wrap ((bitsOf .and .u64 a 4294967295) * (bitsOf .and .u64 b 4294967295))).fdiv (2 ^ min (Int.toNat 32) IntKind.u64.bits)))).fdiv (2 ^ min (Int.toNat 32) IntKind.u64.bits)))) + ((IntKind.u64.wrap ((IntKind.u64.wrap ((bitsOf .and .u64 a 4294967295) * (b.fdiv (2 ^ min (Int.toNat 32) IntKind.u64.bits)))) + (bitsOf .and .u64 (IntKind.u64.wrap ((IntKind.u64.wrap ((a.fdiv (2 ^ min (Int.toNat 32) IntKind.u64.bits)) * (bitsOf .and .u64 b 4294967295))) + ((IntKind.u64.wrap ((bitsOf .and .u64 a 4294967295) * (bitsOf .and .u64 b 4294967295))).fdiv (2 ^ min (Int.toNat 32) IntKind.u64.bits)))) 4294967295))).fdiv (2 ^ min (Int.toNat 32) IntKind.u64.bits)))) (IntKind.u64.wrap ((IntKind.u64.wrap ((IntKind.u64.wrap ((IntKind.u64.wrap ((bitsOf .and .u64 a 4294967295) * (b.fdiv (2 ^ min (Int.toNat 32) IntKind.u64.bits)))) + (bitsOf .and .u64 (IntKind.u64.wrap ((IntKind.u64.wrap ((a.fdiv (2 ^ min (Int.toNat 32) IntKind.u64.bits)) * (bitsOf .and .u64 b 4294967295))) + ((IntKind.u64.wrap ((bitsOf .and .u64 a 4294967295) * (bitsOf .and .u64 b 4294967295))).fdiv (2 ^ min (Int.toNat 32) IntKind.u64.bits)))) 4294967295))) * 2 ^ min (Int.toNat 32) IntKind.u64.bits)) + (bitsOf .and .u64 (IntKind.u64.wrap ((bitsOf .and .u64 a 4294967295) * (bitsOf .and .u64 b 4294967295))) 4294967295))))
def an_ref02_Mul : An U := .nil
def fe_ref02_Mul : Fe G := ⟨[.v .u64, .v .u64], [.U], fun x => F_ref02_Mul x.1 x.2.1⟩
def tb_ref02_Mul : List (FuncId × Fe G) := []
theorem ev_ref02_Mul (x : TyP G fe_ref02_Mul.ps) : evF G (lstK G tb_ref02_Mul) (bodyOf Try.f62) an_ref02_Mul 50 [.cell 4 84] fe_ref02_Mul.rs (argT G fe_ref02_Mul.ps x) = fe_ref02_Mul.fn x := by kernel_rfl
theorem ok_ref02_Mul : FnOk G 62 fe_ref02_Mul := fnOk_of G_ok (lstK_ok G_ok (lnil)) Try.func62 (by kernel_rfl) (by kernel_rfl) (by kernel_rfl) (by kernel_rfl) ev_ref02_Mul

def F_ref02_Size (n : Int) : Option (Int) :=
  (bif (decide (n < 0)) then some (IntKind.u64.wrap (0 - (IntKind.u64.wrap n))) else some (IntKind.u64.wrap n))
def an_ref02_Size : An U := .nil
def fe_ref02_Size : Fe G := ⟨[.v .int1], [.u64], fun x => F_ref02_Size x.1⟩
def tb_ref02_Size : List (FuncId × Fe G) := []
theorem ev_ref02_Size (x : TyP G fe_ref02_Size.ps) : evF G (lstK G tb_ref02_Size) (bodyOf Try.f63) an_ref02_Size 10 [.tmp 2] fe_ref02_Size.rs (argT G fe_ref02_Size.ps x) = fe_ref02_Size.fn x := by kernel_rfl
theorem ok_ref02_Size : FnOk G 63 fe_ref02_Size := fnOk_of G_ok (lstK_ok G_ok (lnil)) Try.func63 (by kernel_rfl) (by kernel_rfl) (by kernel_rfl) (by kernel_rfl) ev_ref02_Size

def F_ref02_Plus (a : TU) (b : TU) : Option (TU) :=
  ((bif (decide ((IntKind.u64.wrap (a.l + b.l)) < a.l)) then some ((IntKind.u64.wrap ((IntKind.u64.wrap (a.h + b.h)) + 1)), ()) else some ((IntKind.u64.wrap (a.h + b.h)), ())) : Option (Int × Unit)).bind fun y1 => some (TU.mk y1.1 (IntKind.u64.wrap (a.l + b.l)))
def an_ref02_Plus : An U := (.node none .nil (.node none .nil (.node none .nil (.node (some ⟨[4, 5], [], ⟨[], []⟩, [(.normal, ⟨[(6, .tv .u64)], []⟩)]⟩) .nil .nil))))
def fe_ref02_Plus : Fe G := ⟨[.v .U, .v .U], [.U], fun x => F_ref02_Plus x.1 x.2.1⟩
def tb_ref02_Plus : List (FuncId × Fe G) := []
theorem ev_ref02_Plus (x : TyP G fe_ref02_Plus.ps) : evF G (lstK G tb_ref02_Plus) (bodyOf Try.f64) an_ref02_Plus 26 [.cell 4 84] fe_ref02_Plus.rs (argT G fe_ref02_Plus.ps x) = fe_ref02_Plus.fn x := by kernel_rfl
theorem ok_ref02_Plus : FnOk G 64 fe_ref02_Plus := fnOk_of G_ok (lstK_ok G_ok (lnil)) Try.func64 (by kernel_rfl) (by kernel_rfl) (by kernel_rfl) (by kernel_rfl) ev_ref02_Plus

def F_ref02_Less (a : TU) (b : TU) : Option (Bool) :=
  ((bif (decide (a.h < b.h)) then some (true, ()) else (bif (a.h == b.h) then some ((decide (a.l < b.l)), ()) else some (false, ()))) : Option (Bool × Unit)).bind fun y1 => some y1.1
def an_ref02_Less : An U := (.node none .nil (.node (some ⟨[], [], ⟨[], []⟩, [(.normal, ⟨[(4, .tv .bool)], []⟩)]⟩) .nil .nil))
def fe_ref02_Less : Fe G := ⟨[.v .U, .v .U], [.bool], fun x => F_ref02_Less x.1 x.2.1⟩
def tb_ref02_Less : List (FuncId × Fe G) := []
theorem ev_ref02_Less (x : TyP G fe_ref02_Less.ps) : evF G (lstK G tb_ref02_Less) (bodyOf Try.f65) an_ref02_Less 24 [.tmp 4] fe_ref02_Less.rs (argT G fe_ref02_Less.ps x) = fe_ref02_Less.fn x := by kernel_rfl
theorem ok_ref02_Less : FnOk G 65 fe_ref02_Less := fnOk_of G_ok (lstK_ok G_ok (lnil)) Try.func65 (by kernel_rfl) (by kernel_rfl) (by kernel_rfl) (by kernel_rfl) ev_ref02_Less

def F_ref02_Minus (a : TU) (b : TU) : Option (TU) :=
  ((bif (decide (a.l < b.l)) then some ((IntKind.u64.wrap ((IntKind.u64.wrap (a.h - b.h)) - 1)), ()) else some ((IntKind.u64.wrap (a.h - b.h)), ())) : Option (Int × Unit)).bind fun y1 => some (TU.mk y1.1 (IntKind.u64.wrap (a.l - b.l)))
def an_ref02_Minus : An U := (.node none .nil (.node none .nil (.node (some ⟨[2, 3, 4], [], ⟨[], []⟩, [(.normal, ⟨[(5, .tv .u64)], []⟩)]⟩) .nil .nil)))
def fe_ref02_Minus : Fe G := ⟨[.v .U, .v .U], [.U], fun x => F_ref02_Minus x.1 x.2.1⟩
def tb_ref02_Minus : List (FuncId × Fe G) := []
theorem ev_ref02_Minus (x : TyP G fe_ref02_Minus.ps) : evF G (lstK G tb_ref02_Minus) (bodyOf Try.f66) an_ref02_Minus 25 [.cell 4 84] fe_ref02_Minus.rs (argT G fe_ref02_Minus.ps x) = fe_ref02_Minus.fn x := by kernel_rfl
theorem ok_ref02_Minus : FnOk G 66 fe_ref02_Minus := fnOk_of G_ok (lstK_ok G_ok (lnil)) Try.func66 (by kernel_rfl) (by kernel_rfl) (by kernel_rfl) (by kernel_rfl) ev_ref02_Minus

def F_ref02_Neg (a : TFrac) : Option (TFrac) :=
  some (TFrac.mk (IntKind.i64.wrap (0 - a.num)) a.den)
def an_ref02_Neg : An U := .nil
def fe_ref02_Neg : Fe G := ⟨[.v .Frac], [.Frac], fun x => F_ref02_Neg x.1⟩
def tb_ref02_Neg : List (FuncId × Fe G) := []
theorem ev_ref02_Neg (x : TyP G fe_ref02_Neg.ps) : evF G (lstK G tb_ref02_Neg) (bodyOf Try.f67) an_ref02_Neg 9 [.cell 2 27] fe_ref02_Neg.rs (argT G fe_ref02_Neg.ps x) = fe_ref02_Neg.fn x := by kernel_rfl
theorem ok_ref02_Neg : FnOk G 67 fe_ref02_Neg := fnOk_of G_ok (lstK_ok G_ok (lnil)) Try.func67 (by kernel_rfl) (by kernel_rfl) (by kernel_rfl) (by kernel_rfl) ev_ref02_Neg

def F_ratio_gcd (a : Int) (b : Int) : Option (Int) :=
  (iterF (σ := Int × Int × Unit) (ρ := Int × Unit) (fun s1 => (bif (s1.2.1 != 0) then (if s1.2.1 = 0 then none else some (.inl (s1.2.1, (s1.1.tmod s1.2.1), ()))) else some (.inr (s1.1, ())))) big (a, b, ())).bind fun y2 => some y2.1
def an_ratio_gcd : An U := (.node none .nil (.node none (.node none (.node (some ⟨[4], [], ⟨[(0, .tv .u64), (1, .tv .u64)], []⟩, [(.exit 0, ⟨[(0, .tv .u64)], []⟩)]⟩) .nil .nil) .nil) .nil))
def fe_ratio_gcd : Fe G := ⟨[.v .u64, .v .u64], [.u64], fun x => F_ratio_gcd x.1 x.2.1⟩
def tb_ratio_gcd : List (FuncId × Fe G) := []
theorem ev_ratio_gcd (x : TyP G fe_ratio_gcd.ps) : evF G (lstK G tb_ratio_gcd) (bodyOf Try.f70) an_ratio_gcd 12 [.tmp 4] fe_ratio_gcd.rs (argT G fe_ratio_gcd.ps x) = fe_ratio_gcd.fn x := by kernel_rfl
theorem ok_ratio_gcd : FnOk G 70 fe_ratio_gcd := fnOk_of G_ok (lstK_ok G_ok (lnil)) Try.func70 (by kernel_rfl) (by kernel_rfl) (by kernel_rfl) (by kernel_rfl) ev_ratio_gcd

def F_ratio_size (n : Int) : Option (Int) :=
  (bif (decide (n < 0)) then some (IntKind.u64.wrap (0 - (IntKind.u64.wrap n))) else some (IntKind.u64.wrap n))
def an_ratio_size : An U := .nil
def fe_ratio_size : Fe G := ⟨[.v .int1], [.u64], fun x => F_ratio_size x.1⟩
def tb_ratio_size : List (FuncId × Fe G) := []
theorem ev_ratio_size (x : TyP G fe_ratio_size.ps) : evF G (lstK G tb_ratio_size) (bodyOf Try.f71) an_ratio_size 10 [.tmp 2] fe_ratio_size.rs (argT G fe_ratio_size.ps x) = fe_ratio_size.fn x := by kernel_rfl
theorem ok_ratio_size : FnOk G 71 fe_ratio_size := fnOk_of G_ok (lstK_ok G_ok (lnil)) Try.func71 (by kernel_rfl) (by kernel_rfl) (by kernel_rfl) (by kernel_rfl) ev_ratio_size

def F_ratio_signed (negative : Bool) (num : Int) (den : Int) : Option (TFrac × Int) :=
  ((bif (decide (num > 1152921504606846976)) then some (true, ()) else some ((decide (den > 1152921504606846976)), ())) : Option (Bool × Unit)).bind fun y1 => (bif y1.1 then some ((TFrac.mk 0 0), 5) else ((bif negative then some ((IntKind.i64.wrap (0 - (IntKind.i64.wrap num))), ()) else some ((IntKind.i64.wrap num), ())) : Option (Int × Unit)).bind fun y2 => some ((TFrac.mk y2.1 (IntKind.i64.wrap den)), 0))
def an_ratio_signed : An U := (.node none .nil (.node none (.node (some ⟨[0, 1, 2, 6, 7], [], ⟨[], []⟩, [(.normal, ⟨[(14, .tv .bool)], []⟩)]⟩) .nil .nil) (.node none .nil (.node (some ⟨[2, 6, 7], [], ⟨[], []⟩, [(.normal, ⟨[(8, .tv .int)], []⟩)]⟩) .nil .nil))))
def fe_ratio_signed : Fe G := ⟨[.v .bool, .v .u64, .v .u64], [.Frac, .Errno], fun x => F_ratio_signed x.1 x.2.1 x.2.2.1⟩
def tb_ratio_signed : List (FuncId × Fe G) := []
theorem ev_ratio_signed (x : TyP G fe_ratio_signed.ps) : evF G (lstK G tb_ratio_signed) (bodyOf Try.f73) an_ratio_signed 25 [.cell 6 27, .tmp 7] fe_ratio_signed.rs (argT G fe_ratio_signed.ps x) = fe_ratio_signed.fn x := by kernel_rfl
theorem ok_ratio_signed : FnOk G 73 fe_ratio_signed := fnOk_of G_ok (lstK_ok G_ok (lnil)) Try.func73 (by kernel_rfl) (by kernel_rfl) (by kernel_rfl) (by kernel_rfl) ev_ratio_signed

def F_ratio_plus (a : Twide) (b : Twide) : Option (Twide) :=
  (if 0 ≤ a.lo ∧ 0 ≤ b.lo ∧ b.lo < u64M ∧ 0 ≤ (0 : Int) ∧ (0 : Int) ≤ 1 then (if 0 ≤ a.hi ∧ 0 ≤ b.hi ∧ b.hi < u64M ∧ 0 ≤ ((a.lo + b.lo + 0) / u64M) ∧ ((a.lo + b.lo + 0) / u64M) ≤ 1 then some (Twide.mk ((a.hi + b.hi + ((a.lo + b.lo + 0) / u64M)) % u64M) ((a.lo + b.lo + 0) % u64M)) else none) else none)
def an_ratio_plus : An U := .nil
def fe_ratio_plus : Fe G := ⟨[.v .wide, .v .wide], [.wide], fun x => F_ratio_plus x.1 x.2.1⟩
def tb_ratio_plus : List (FuncId × Fe G) := []
theorem ev_ratio_plus (x : TyP G fe_ratio_plus.ps) : evF G (lstK G tb_ratio_plus) (bodyOf Try.f74) an_ratio_plus 29 [.cell 4 94] fe_ratio_plus.rs (argT G fe_ratio_plus.ps x) = fe_ratio_plus.fn x := by kernel_rfl
theorem ok_ratio_plus : FnOk G 74 fe_ratio_plus := fnOk_of G_ok (lstK_ok G_ok (lnil)) Try.func74 (by kernel_rfl) (by kernel_rfl) (by kernel_rfl) (by kernel_rfl) ev_ratio_plus

def F_ratio_less (a : Twide) (b : Twide) : Option (Bool) :=
  ((bif (decide (a.hi < b.hi)) then some (true, ()) else (bif (a.hi == b.hi) then some ((decide (a.lo < b.lo)), ()) else some (false, ()))) : Option (Bool × Unit)).bind fun y1 => some y1.1
def an_ratio_less : An U := (.node none .nil (.node (some ⟨[], [], ⟨[], []⟩, [(.normal, ⟨[(4, .tv .bool)], []⟩)]⟩) .nil .nil))
def fe_ratio_less : Fe G := ⟨[.v .wide, .v .wide], [.bool], fun x => F_ratio_less x.1 x.2.1⟩
def tb_ratio_less : List (FuncId × Fe G) := []
theorem ev_ratio_less (x : TyP G fe_ratio_less.ps) : evF G (lstK G tb_ratio_less) (bodyOf Try.f75) an_ratio_less 24 [.tmp 4] fe_ratio_less.rs (argT G fe_ratio_less.ps x) = fe_ratio_less.fn x := by kernel_rfl
theorem ok_ratio_less : FnOk G 75 fe_ratio_less := fnOk_of G_ok (lstK_ok G_ok (lnil)) Try.func75 (by kernel_rfl) (by kernel_rfl) (by kernel_rfl) (by kernel_rfl) ev_ratio_less

def F_ratio_minus (a : Twide) (b : Twide) : Option (Twide) :=
  (if 0 ≤ a.lo ∧ 0 ≤ b.lo ∧ b.lo < u64M ∧ 0 ≤ (0 : Int) ∧ (0 : Int) ≤ 1 then (if 0 ≤ a.hi ∧ 0 ≤ b.hi ∧ b.hi < u64M ∧ 0 ≤ (if a.lo < b.lo + 0 then (1 : Int) else 0) ∧ (if a.lo < b.lo + 0 then (1 : Int) else 0) ≤ 1 then some (Twide.mk ((a.hi + u64M - b.hi - (if a.lo < b.lo + 0 then (1 : Int) else 0)) % u64M) ((a.lo + u64M - b.lo - 0) % u64M)) else none) else none)
def an_ratio_minus : An U := .nil
def fe_ratio_minus : Fe G := ⟨[.v .wide, .v .wide], [.wide], fun x => F_ratio_minus x.1 x.2.1⟩
def tb_ratio_minus : List (FuncId × Fe G) := []
theorem ev_ratio_minus (x : TyP G fe_ratio_minus.ps) : evF G (lstK G tb_ratio_minus) (bodyOf Try.f76) an_ratio_minus 29 [.cell 4 94] fe_ratio_minus.rs (argT G fe_ratio_minus.ps x) = fe_ratio_minus.fn x := by kernel_rfl
theorem ok_ratio_minus : FnOk G 76 fe_ratio_minus := fnOk_of G_ok (lstK_ok G_ok (lnil)) Try.func76 (by kernel_rfl) (by kernel_rfl) (by kernel_rfl) (by kernel_rfl) ev_ratio_minus

def F_slices_IndexFunc_api_Spring (s : List TSpring) (f : TSpring → Option Bool) : Option (Int) :=
  (iterF (σ := Int × Unit) (ρ := (Int × Unit) ⊕ (Unit)) (fun s3 => (bif (decide (s3.1 < ((s.length : Nat) : Int))) then (idx s s3.1).bind fun x4 => (f x4).bind fun r5 => (bif r5 then some (.inr (.inl (s3.1, ()))) else some (.inl ((IntKind.i64.wrap (s3.1 + 1)), ()))) else some (.inr (.inr ((())))))) big (0, ())).bind fun y6 => (match y6 with | .inl y7 => some y7.1 | .inr y8 => some (-1))
def an_slices_IndexFunc_api_Spring : An U := (.node none .nil (.node none (.node none .nil (.node none (.node (some ⟨[0, 1, 7], [], ⟨[(8, .tv .int)], []⟩, [(.ret, ⟨[(4, .tv .int)], []⟩), (.exit 0, ⟨[], []⟩)]⟩) .nil .nil) .nil)) .nil))
def fe_slices_IndexFunc_api_Spring : Fe G := ⟨[.v .l_Spring, .fn .Spring .bool], [.int1], fun x => F_slices_IndexFunc_api_Spring x.1 x.2.1⟩
def tb_slices_IndexFunc_api_Spring : List (FuncId × Fe G) := []
theorem ev_slices_IndexFunc_api_Spring (x : TyP G fe_slices_IndexFunc_api_Spring.ps) : evF G (lstK G tb_slices_IndexFunc_api_Spring) (bodyOf Try.f79) an_slices_IndexFunc_api_Spring 19 [.tmp 4] fe_slices_IndexFunc_api_Spring.rs (argT G fe_slices_IndexFunc_api_Spring.ps x) = fe_slices_IndexFunc_api_Spring.fn x := by kernel_rfl
theorem ok_slices_IndexFunc_api_Spring : FnOk G 79 fe_slices_IndexFunc_api_Spring := fnOk_of G_ok (lstK_ok G_ok (lnil)) Try.func79 (by kernel_rfl) (by kernel_rfl) (by kernel_rfl) (by kernel_rfl) ev_slices_IndexFunc_api_Spring

def F_elastic_valid_1 (t : TSpring) (a1 : TSpring) : Option (Bool) :=
  some (t.name.toList == a1.name.toList)
def an_elastic_valid_1 : An U := .nil
def fe_elastic_valid_1 : Fe G := ⟨[.v .Spring, .rp .Spring], [.bool], fun x => F_elastic_valid_1 x.1 x.2.1⟩
def tb_elastic_valid_1 : List (FuncId × Fe G) := []
theorem ev_elastic_valid_1 (x : TyP G fe_elastic_valid_1.ps) : evF G (lstK G tb_elastic_valid_1) (bodyOf Try.f81) an_elastic_valid_1 9 [.tmp 3] fe_elastic_valid_1.rs (argT G fe_elastic_valid_1.ps x) = fe_elastic_valid_1.fn x := by kernel_rfl
theorem ok_elastic_valid_1 : FnOk G 81 fe_elastic_valid_1 := fnOk_of G_ok (lstK_ok G_ok (lnil)) Try.func81 (by kernel_rfl) (by kernel_rfl) (by kernel_rfl) (by kernel_rfl) ev_elastic_valid_1

def F_slices_IndexFunc_int (s : List Int) (f : Int → Option Bool) : Option (Int) :=
  (iterF (σ := Int × Unit) (ρ := (Int × Unit) ⊕ (Unit)) (fun s3 => (bif (decide (s3.1 < ((s.length : Nat) : Int))) then (idx s s3.1).bind fun x4 => (f x4).bind fun r5 => (bif r5 then some (.inr (.inl (s3.1, ()))) else some (.inl ((IntKind.i64.wrap (s3.1 + 1)), ()))) else some (.inr (.inr ((())))))) big (0, ())).bind fun y6 => (match y6 with | .inl y7 => some y7.1 | .inr y8 => some (-1))
def an_slices_IndexFunc_int : An U := (.node none .nil (.node none (.node none .nil (.node none (.node (some ⟨[0, 1, 7], [], ⟨[(8, .tv .int)], []⟩, [(.ret, ⟨[(4, .tv .int)], []⟩), (.exit 0, ⟨[], []⟩)]⟩) .nil .nil) .nil)) .nil))
def fe_slices_IndexFunc_int : Fe G := ⟨[.v .l_int1, .fn .int1 .bool], [.int1], fun x => F_slices_IndexFunc_int x.1 x.2.1⟩
def tb_slices_IndexFunc_int : List (FuncId × Fe G) := []
theorem ev_slices_IndexFunc_int (x : TyP G fe_slices_IndexFunc_int.ps) : evF G (lstK G tb_slices_IndexFunc_int) (bodyOf Try.f82) an_slices_IndexFunc_int 19 [.tmp 4] fe_slices_IndexFunc_int.rs (argT G fe_slices_IndexFunc_int.ps x) = fe_slices_IndexFunc_int.fn x := by kernel_rfl
theorem ok_slices_IndexFunc_int : FnOk G 82 fe_slices_IndexFunc_int := fnOk_of G_ok (lstK_ok G_ok (lnil)) Try.func82 (by kernel_rfl) (by kernel_rfl) (by kernel_rfl) (by kernel_rfl) ev_slices_IndexFunc_int

def F_ref01_Letter (c : Int) : Option (Bool) :=
  ((bif (decide (c ≥ 97)) then (bif (decide (c ≤ 122)) then some (true, ()) else (bif (decide (c ≥ 65)) then some ((decide (c ≤ 90)), ()) else some (false, ()))) else (bif (decide (c ≥ 65)) then some ((decide (c ≤ 90)), ()) else some (false, ()))) : Option (Bool × Unit)).bind fun y1 => some y1.1
def an_ref01_Letter : An U := (.node none .nil (.node (some ⟨[], [], ⟨[], []⟩, [(.normal, ⟨[(2, .tv .bool)], []⟩)]⟩) .nil .nil))
def fe_ref01_Letter : Fe G := ⟨[.v .u8], [.bool], fun x => F_ref01_Letter x.1⟩
def tb_ref01_Letter : List (FuncId × Fe G) := []
theorem ev_ref01_Letter (x : TyP G fe_ref01_Letter.ps) : evF G (lstK G tb_ref01_Letter) (bodyOf Try.f85) an_ref01_Letter 17 [.tmp 2] fe_ref01_Letter.rs (argT G fe_ref01_Letter.ps x) = fe_ref01_Letter.fn x := by kernel_rfl
theorem ok_ref01_Letter : FnOk G 85 fe_ref01_Letter := fnOk_of G_ok (lstK_ok G_ok (lnil)) Try.func85 (by kernel_rfl) (by kernel_rfl) (by kernel_rfl) (by kernel_rfl) ev_ref01_Letter

def F_math_bits_Mul64 (x : Int) (y : Int) : Option (Int × Int) :=
  some ((IntKind.u64.wrap ((IntKind.u64.wrap ((IntKind.u64.wrap ((x.fdiv (2 ^ min (Int.toNat 32) IntKind.u64.bits)) * (y.fdiv (2 ^ min (Int.toNat 32) IntKind.u64.bits)))) + ((IntKind.u64.wrap ((IntKind.u64.wrap ((x.fdiv (2 ^ min (Int.toNat 32) IntKind.u64.bits)) * (bitsOf .and .u64 y 4294967295))) + ((IntKind.u64.wrap ((bitsOf .and .u64 x 4294967295) * (bitsOf .and .u64 y 4294967295))).fdiv (2 ^ min (Int.toNat 32) IntKind.u64.bits)))).fdiv (2 ^ min (Int.toNat 32) IntKind.u64.bits)))) + ((IntKind.u64.wrap ((bitsOf .and .u64 (IntKind.u64.wrap ((IntKind.u64.wrap ((x.fdiv (2 ^ min (Int.toNat 32) IntKind.u64.bits)) * (bitsOf .and .u64 y 4294967295))) + ((IntKind.u64.wrap ((bitsOf .and .u64 x 4294967295) * (bitsOf .and .u64 y 4294967295))).fdiv (2 ^ min (Int.toNat 32) IntKind.u64.bits)))) 4294967295) + (IntKind.u64.wrap ((bitsOf .and .u64 x 4294967295) * (y.fdiv (2 ^ min (Int.toNat 32) IntKind.u64.bits)))))).fdiv (2 ^ min (Int.toNat 32) IntKind.u64.bits)))), (IntKind.u64.wrap (x * y)))
def an_math_bits_Mul64 : An U := .nil
def fe_math_bits_Mul64 : Fe G := ⟨[.v .u64, .v .u64], [.u64, .u64], fun x => F_math_bits_Mul64 x.1 x.2.1⟩
def tb_math_bits_Mul64 : List (FuncId × Fe G) := []
theorem ev_math_bits_Mul64 (x : TyP G fe_math_bits_Mul64.ps) : evF G (lstK G tb_math_bits_Mul64) (bodyOf Try.f91) an_math_bits_Mul64 51 [.tmp 4, .tmp 5] fe_math_bits_Mul64.rs (argT G fe_math_bits_Mul64.ps x) = fe_math_bits_Mul64.fn x := by kernel_rfl
theorem ok_math_bits_Mul64 : FnOk G 91 fe_math_bits_Mul64 := fnOk_of G_ok (lstK_ok G_ok (lnil)) Try.func91 (by kernel_rfl) (by kernel_rfl) (by kernel_rfl) (by kernel_rfl) ev_math_bits_Mul64

def F_math_bits_Mul32 (x : Int) (y : Int) : Option (Int × Int) :=
  some ((IntKind.u32.wrap ((IntKind.u64.wrap ((IntKind.u64.wrap x) * (IntKind.u64.wrap y))).fdiv (2 ^ min (Int.toNat 32) IntKind.u64.bits))), (IntKind.u32.wrap (IntKind.u64.wrap ((IntKind.u64.wrap x) * (IntKind.u64.wrap y)))))
def an_math_bits_Mul32 : An U := .nil
def fe_math_bits_Mul32 : Fe G := ⟨[.v .u32, .v .u32], [.u32, .u32], fun x => F_math_bits_Mul32 x.1 x.2.1⟩
def tb_math_bits_Mul32 : List (FuncId × Fe G) := []
theorem ev_math_bits_Mul32 (x : TyP G fe_math_bits_Mul32.ps) : evF G (lstK G tb_math_bits_Mul32) (bodyOf Try.f95) an_math_bits_Mul32 17 [.tmp 4, .tmp 5] fe_math_bits_Mul32.rs (argT G fe_math_bits_Mul32.ps x) = fe_math_bits_Mul32.fn x := by kernel_rfl
theorem ok_math_bits_Mul32 : FnOk G 95 fe_math_bits_Mul32 := fnOk_of G_ok (lstK_ok G_ok (lnil)) Try.func95 (by kernel_rfl) (by kernel_rfl) (by kernel_rfl) (by kernel_rfl) ev_math_bits_Mul32

def F_decimal_letter (c : Int) : Option (Bool) :=
  ((bif (decide (c ≥ 97)) then (bif (decide (c ≤ 122)) then some (true, ()) else (bif (decide (c ≥ 65)) then some ((decide (c ≤ 90)), ()) else some (false, ()))) else (bif (decide (c ≥ 65)) then some ((decide (c ≤ 90)), ()) else some (false, ()))) : Option (Bool × Unit)).bind fun y1 => some y1.1
def an_decimal_letter : An U := (.node none .nil (.node (some ⟨[], [], ⟨[], []⟩, [(.normal, ⟨[(2, .tv .bool)], []⟩)]⟩) .nil .nil))
def fe_decimal_letter : Fe G := ⟨[.v .u8], [.bool], fun x => F_decimal_letter x.1⟩
def tb_decimal_letter : List (FuncId × Fe G) := []
theorem ev_decimal_letter (x : TyP G fe_decimal_letter.ps) : evF G (lstK G tb_decimal_letter) (bodyOf Try.f96) an_decimal_letter 17 [.tmp 2] fe_decimal_letter.rs (argT G fe_decimal_letter.ps x) = fe_decimal_letter.fn x := by kernel_rfl
theorem ok_decimal_letter : FnOk G 96 fe_decimal_letter := fnOk_of G_ok (lstK_ok G_ok (lnil)) Try.func96 (by kernel_rfl) (by kernel_rfl) (by kernel_rfl) (by kernel_rfl) ev_decimal_letter

def F_math_bits_Len32 (x : Int) : Option (Int) :=
  ((bif (decide (x ≥ 65536)) then some ((x.fdiv (2 ^ min (Int.toNat 16) IntKind.u32.bits)), 16, ()) else some (x, 0, ())) : Option (Int × Int × Unit)).bind fun y1 => ((bif (decide (y1.1 ≥ 256)) then some ((y1.1.fdiv (2 ^ min (Int.toNat 8) IntKind.u32.bits)), (IntKind.i64.wrap (y1.2.1 + 8)), ()) else some (y1.1, y1.2.1, ())) : Option (Int × Int × Unit)).bind fun y2 => (idxB (⟨#[0, 1, 2, 2, 3, 3, 3, 3, 4, 4, 4, 4, 4, 4, 4, 4, 5, 5, 5, 5, 5, 5, 5, 5, 5, 5, 5, 5, 5, 5, 5, 5, 6, 6, 6, 6, 6, 6, 6, 6, 6, 6, 6, 6, 6, 6, 6, 6, 6, 6, 6, 6, 6, 6, 6, 6, 6, 6, 6, 6, 6, 6, 6, 6, 7, 7, 7, 7, 7, 7, 7, 7, 7, 7, 7, 7, 7, 7, 7, 7, 7, 7, 7, 7, 7, 7, 7, 7, 7, 7, 7, 7, 7, 7, 7, 7, 7, 7, 7, 7, 7, 7, 7, 7, 7, 7, 7, 7, 7, 7, 7, 7, 7, 7, 7, 7, 7, 7, 7, 7, 7, 7, 7, 7, 7, 7, 7, 7, 8, 8, 8, 8, 8, 8, 8, 8, 8, 8, 8, 8, 8, 8, 8, 8, 8, 8, 8, 8, 8, 8, 8, 8, 8, 8, 8, 8, 8, 8, 8, 8, 8, 8, 8, 8, 8, 8, 8, 8, 8, 8, 8, 8, 8, 8, 8, 8, 8, 8, 8, 8, 8, 8, 8, 8, 8, 8, 8, 8, 8, 8, 8, 8, 8, 8, 8, 8, 8, 8, 8, 8, 8, 8, 8, 8, 8, 8, 8, 8, 8, 8, 8, 8, 8, 8, 8, 8, 8, 8, 8, 8, 8, 8, 8, 8, 8, 8, 8, 8, 8, 8, 8, 8, 8, 8, 8, 8, 8, 8, 8, 8, 8, 8, 8, 8, 8, 8, 8, 8, 8, 8, 8, 8, 8, 8, 8, 8]⟩ : ByteArray) (IntKind.u8.wrap y2.1)).bind fun b3 => some (IntKind.i64.wrap (y2.2.1 + (IntKind.i64.wrap ((b3.toNat : Nat) : Int))))
def an_math_bits_Len32 : An U := (.node none .nil (.node (some ⟨[], [], ⟨[], []⟩, [(.normal, ⟨[(0, .tv .u32), (2, .tv .int)], []⟩)]⟩) .nil (.node (some ⟨[], [], ⟨[], []⟩, [(.normal, ⟨[(0, .tv .u32), (2, .tv .int)], []⟩)]⟩) .nil .nil)))
def fe_math_bits_Len32 : Fe G := ⟨[.v .u32], [.int1], fun x => F_math_bits_Len32 x.1⟩
def tb_math_bits_Len32 : List (FuncId × Fe G) := []
theorem ev_math_bits_Len32 (x : TyP G fe_math_bits_Len32.ps) : evF G (lstK G tb_math_bits_Len32) (bodyOf Try.f106) an_math_bits_Len32 19 [.tmp 2] fe_math_bits_Len32.rs (argT G fe_math_bits_Len32.ps x) = fe_math_bits_Len32.fn x := by kernel_rfl
theorem ok_math_bits_Len32 : FnOk G 106 fe_math_bits_Len32 := fnOk_of G_ok (lstK_ok G_ok (lnil)) Try.func106 (by kernel_rfl) (by kernel_rfl) (by kernel_rfl) (by kernel_rfl) ev_math_bits_Len32

def F_math_bits_Len64 (x : Int) : Option (Int) :=
  ((bif (decide (x ≥ 4294967296)) then some ((x.fdiv (2 ^ min (Int.toNat 32) IntKind.u64.bits)), 32, ()) else some (x, 0, ())) : Option (Int × Int × Unit)).bind fun y1 => ((bif (decide (y1.1 ≥ 65536)) then some ((y1.1.fdiv (2 ^ min (Int.toNat 16) IntKind.u64.bits)), (IntKind.i64.wrap (y1.2.1 + 16)), ()) else some (y1.1, y1.2.1, ())) : Option (Int × Int × Unit)).bind fun y2 => ((bif (decide (y2.1 ≥ 256)) then some ((y2.1.fdiv (2 ^ min (Int.toNat 8) IntKind.u64.bits)), (IntKind.i64.wrap (y2.2.1 + 8)), ()) else some (y2.1, y2.2.1, ())) : Option (Int × Int × Unit)).bind fun y3 => (idxB (⟨#[0, 1, 2, 2, 3, 3, 3, 3, 4, 4, 4, 4, 4, 4, 4, 4, 5, 5, 5, 5, 5, 5, 5, 5, 5, 5, 5, 5, 5, 5, 5, 5, 6, 6, 6, 6, 6, 6, 6, 6, 6, 6, 6, 6, 6, 6, 6, 6, 6, 6, 6, 6, 6, 6, 6, 6, 6, 6, 6, 6, 6, 6, 6, 6, 7, 7, 7, 7, 7, 7, 7, 7, 7, 7, 7, 7, 7, 7, 7, 7, 7, 7, 7, 7, 7, 7, 7, 7, 7, 7, 7, 7, 7, 7, 7, 7, 7, 7, 7, 7, 7, 7, 7, 7, 7, 7, 7, 7, 7, 7, 7, 7, 7, 7, 7, 7, 7, 7, 7, 7, 7, 7, 7, 7, 7, 7, 7, 7, 8, 8, 8, 8, 8, 8, 8, 8, 8, 8, 8, 8, 8, 8, 8, 8, 8, 8, 8, 8, 8, 8, 8, 8, 8, 8, 8, 8, 8, 8, 8, 8, 8, 8, 8, 8, 8, 8, 8, 8, 8, 8, 8, 8, 8, 8, 8, 8, 8, 8, 8, 8, 8, 8, 8, 8, 8, 8, 8, 8, 8, 8, 8, 8, 8, 8, 8, 8, 8, 8, 8, 8, 8, 8, 8, 8, 8, 8, 8, 8, 8, 8, 8, 8, 8, 8, 8, 8, 8, 8, 8, 8, 8, 8, 8, 8, 8, 8, 8, 8, 8, 8, 8, 8, 8, 8, 8, 8, 8, 8, 8, 8, 8, 8, 8, 8, 8, 8, 8, 8, 8, 8, 8, 8, 8, 8, 8, 8]⟩ : ByteArray) (IntKind.u8.wrap y3.1)).bind fun b4 => some (IntKind.i64.wrap (y3.2.1 + (IntKind.i64.wrap ((b4.toNat : Nat) : Int))))
def an_math_bits_Len64 : An U := (.node none .nil (.node (some ⟨[], [], ⟨[], []⟩, [(.normal, ⟨[(0, .tv .u64), (2, .tv .int)], []⟩)]⟩) .nil (.node (some ⟨[], [], ⟨[], []⟩, [(.normal, ⟨[(0, .tv .u64), (2, .tv .int)], []⟩)]⟩) .nil (.node (some ⟨[], [], ⟨[], []⟩, [(.normal, ⟨[(0, .tv .u64), (2, .tv .int)], []⟩)]⟩) .nil .nil))))
def fe_math_bits_Len64 : Fe G := ⟨[.v .u64], [.int1], fun x => F_math_bits_Len64 x.1⟩
def tb_math_bits_Len64 : List (FuncId × Fe G) := []
theorem ev_math_bits_Len64 (x : TyP G fe_math_bits_Len64.ps) : evF G (lstK G tb_math_bits_Len64) (bodyOf Try.f107) an_math_bits_Len64 25 [.tmp 2] fe_math_bits_Len64.rs (argT G fe_math_bits_Len64.ps x) = fe_math_bits_Len64.fn x := by kernel_rfl
theorem ok_math_bits_Len64 : FnOk G 107 fe_math_bits_Len64 := fnOk_of G_ok (lstK_ok G_ok (lnil)) Try.func107 (by kernel_rfl) (by kernel_rfl) (by kernel_rfl) (by kernel_rfl) ev_math_bits_Len64

def F_ref01_Digit (c : Int) : Option (Bool) :=
  ((bif (decide (c ≥ 48)) then some ((decide (c ≤ 57)), ()) else some (false, ())) : Option (Bool × Unit)).bind fun y1 => some y1.1
def an_ref01_Digit : An U := (.node none .nil (.node (some ⟨[], [], ⟨[], []⟩, [(.normal, ⟨[(2, .tv .bool)], []⟩)]⟩) .nil .nil))
def fe_ref01_Digit : Fe G := ⟨[.v .u8], [.bool], fun x => F_ref01_Digit x.1⟩
def tb_ref01_Digit : List (FuncId × Fe G) := []
theorem ev_ref01_Digit (x : TyP G fe_ref01_Digit.ps) : evF G (lstK G tb_ref01_Digit) (bodyOf Try.f108) an_ref01_Digit 9 [.tmp 2] fe_ref01_Digit.rs (argT G fe_ref01_Digit.ps x) = fe_ref01_Digit.fn x := by kernel_rfl
theorem ok_ref01_Digit : FnOk G 108 fe_ref01_Digit := fnOk_of G_ok (lstK_ok G_ok (lnil)) Try.func108 (by kernel_rfl) (by kernel_rfl) (by kernel_rfl) (by kernel_rfl) ev_ref01_Digit
end Go.Proofs.Ytkphcdficpfcnaa
