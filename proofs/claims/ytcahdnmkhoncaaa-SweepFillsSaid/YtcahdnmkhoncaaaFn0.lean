/- Functions, as plain data. Printed by mkev.py. -/
import Derived.Test.YtcahdnmkhoncaaaSg
namespace Go.Proofs.Ytcahdnmkhoncaaa
open Go.RowKit
set_option linter.unusedVariables false

def F_ref39_Trim (s : TSet) (z : Int) : Option (Bool) :=
  ((bif (decide (z ≥ s.low)) then some ((decide (z ≤ s.high)), ()) else some (false, ())) : Option (Bool × Unit)).bind fun y1 => some y1.1
def an_ref39_Trim : An U := (.node none .nil (.node (some ⟨[], [], ⟨[], []⟩, [(.normal, ⟨[(4, .tv .bool)], []⟩)]⟩) .nil .nil))
def fe_ref39_Trim : Fe G := ⟨[.v .Set, .v .int1], [.bool], fun x => F_ref39_Trim x.1 x.2.1⟩
def tb_ref39_Trim : List (FuncId × Fe G) := []
theorem ev_ref39_Trim (x : TyP G fe_ref39_Trim.ps) : evF G (lstK G tb_ref39_Trim) (bodyOf Try.f22) an_ref39_Trim 15 [.tmp 4] fe_ref39_Trim.rs (argT G fe_ref39_Trim.ps x) = fe_ref39_Trim.fn x := by kernel_rfl
theorem ok_ref39_Trim : FnOk G 22 fe_ref39_Trim := fnOk_of G_ok (lstK_ok G_ok (lnil)) Try.func22 (by kernel_rfl) (by kernel_rfl) (by kernel_rfl) (by kernel_rfl) ev_ref39_Trim

def F_law39_example : Option (TSet) :=
  some (TSet.mk (⟨#[115]⟩ : ByteArray) 1000 0 9000 1000 ([0, 1000] : List Int) 0 0 1 1 0 ([(TItem.mk (⟨#[105]⟩ : ByteArray) 100 200 0 500 40 60)] : List TItem) ([] : List TBrick))
def an_law39_example : An U := .nil
def fe_law39_example : Fe G := ⟨[], [.Set], fun x => F_law39_example⟩
def tb_law39_example : List (FuncId × Fe G) := []
theorem ev_law39_example (x : TyP G fe_law39_example.ps) : evF G (lstK G tb_law39_example) (bodyOf Try.f24) an_law39_example 5 [.cell 0 26] fe_law39_example.rs (argT G fe_law39_example.ps x) = fe_law39_example.fn x := by kernel_rfl
theorem ok_law39_example : FnOk G 24 fe_law39_example := fnOk_of G_ok (lstK_ok G_ok (lnil)) Try.func24 (by kernel_rfl) (by kernel_rfl) (by kernel_rfl) (by kernel_rfl) ev_law39_example

def F_slices_Equal_int (s1_ : List Int) (s2_ : List Int) : Option (Bool) :=
  (bif (((s1_.length : Nat) : Int) != ((s2_.length : Nat) : Int)) then some false else (iterF (σ := Int × Unit) (ρ := (Bool × Unit) ⊕ (Unit)) (fun s3 => (bif (decide (s3.1 < ((s1_.length : Nat) : Int))) then (idx s1_ s3.1).bind fun x4 => (idx s2_ s3.1).bind fun x5 => (bif (x4 != x5) then some (.inr (.inl (false, ()))) else some (.inl ((IntKind.i64.wrap (s3.1 + 1)), ()))) else some (.inr (.inr ((())))))) big (0, ())).bind fun y6 => (match y6 with | .inl y7 => some y7.1 | .inr y8 => some true))
def an_slices_Equal_int : An U := (.node none .nil (.node none .nil (.node none (.node none .nil (.node none (.node (some ⟨[0, 1, 12], [], ⟨[(13, .tv .int)], []⟩, [(.ret, ⟨[(4, .tv .bool)], []⟩), (.exit 0, ⟨[], []⟩)]⟩) .nil .nil) .nil)) .nil)))
def fe_slices_Equal_int : Fe G := ⟨[.v .l_int1, .v .l_int1], [.bool], fun x => F_slices_Equal_int x.1 x.2.1⟩
def tb_slices_Equal_int : List (FuncId × Fe G) := []
theorem ev_slices_Equal_int (x : TyP G fe_slices_Equal_int.ps) : evF G (lstK G tb_slices_Equal_int) (bodyOf Try.f25) an_slices_Equal_int 26 [.tmp 4] fe_slices_Equal_int.rs (argT G fe_slices_Equal_int.ps x) = fe_slices_Equal_int.fn x := by kernel_rfl
theorem ok_slices_Equal_int : FnOk G 25 fe_slices_Equal_int := fnOk_of G_ok (lstK_ok G_ok (lnil)) Try.func25 (by kernel_rfl) (by kernel_rfl) (by kernel_rfl) (by kernel_rfl) ev_slices_Equal_int

def F_ref21_Small (s : TSet) (most : Int) : Option (Bool) :=
  ((bif (decide (((s.name.size : Nat) : Int) > 60)) then some (true, ()) else (bif (decide (((s.lines.length : Nat) : Int) > 12)) then some (true, ()) else (bif (decide (((s.items.length : Nat) : Int) > most)) then (bif (decide (((s.items.length : Nat) : Int) ≤ 40)) then some (true, ()) else (bif (decide (((s.items.length : Nat) : Int) > 45)) then some (true, ()) else some ((decide (((s.bricks.length : Nat) : Int) > 10)), ()))) else (bif (decide (((s.items.length : Nat) : Int) > 45)) then some (true, ()) else some ((decide (((s.bricks.length : Nat) : Int) > 10)), ()))))) : Option (Bool × Unit)).bind fun y1 => (bif y1.1 then some false else (iterF (σ := Int × Unit) (ρ := (Bool × Unit) ⊕ (Unit)) (fun s3 => (bif (decide (s3.1 < ((s.items.length : Nat) : Int))) then (idx s.items s3.1).bind fun x4 => (bif (decide (((x4.name.size : Nat) : Int) > 60)) then some (.inr (.inl (false, ()))) else some (.inl ((IntKind.i64.wrap (s3.1 + 1)), ()))) else some (.inr (.inr ((())))))) big (0, ())).bind fun y5 => (match y5 with | .inl y6 => some y6.1 | .inr y7 => (iterF (σ := Int × Unit) (ρ := (Bool × Unit) ⊕ (Unit)) (fun s9 => (bif (decide (s9.1 < ((s.bricks.length : Nat) : Int))) then (idx s.bricks s9.1).bind fun x10 => (bif (decide (((x10.name.size : Nat) : Int) > 60)) then some (.inr (.inl (false, ()))) else some (.inl ((IntKind.i64.wrap (s9.1 + 1)), ()))) else some (.inr (.inr ((())))))) big (0, ())).bind fun y11 => (match y11 with | .inl y12 => some y12.1 | .inr y13 => some true)))
def an_ref21_Small : An U := (.node none .nil (.node none (.node (some ⟨[2, 4], [], ⟨[], []⟩, [(.normal, ⟨[(41, .tv .bool)], []⟩)]⟩) .nil .nil) (.node none (.node none .nil (.node none (.node (some ⟨[2], [], ⟨[(5, .tv .int)], []⟩, [(.ret, ⟨[(4, .tv .bool)], []⟩), (.exit 0, ⟨[], []⟩)]⟩) .nil .nil) .nil)) (.node none (.node none .nil (.node none (.node (some ⟨[2], [], ⟨[(6, .tv .int)], []⟩, [(.ret, ⟨[(4, .tv .bool)], []⟩), (.exit 2, ⟨[], []⟩)]⟩) .nil .nil) .nil)) .nil))))
def fe_ref21_Small : Fe G := ⟨[.v .Set, .v .int1], [.bool], fun x => F_ref21_Small x.1 x.2.1⟩
def tb_ref21_Small : List (FuncId × Fe G) := []
theorem ev_ref21_Small (x : TyP G fe_ref21_Small.ps) : evF G (lstK G tb_ref21_Small) (bodyOf Try.f28) an_ref21_Small 72 [.tmp 4] fe_ref21_Small.rs (argT G fe_ref21_Small.ps x) = fe_ref21_Small.fn x := by kernel_rfl
theorem ok_ref21_Small : FnOk G 28 fe_ref21_Small := fnOk_of G_ok (lstK_ok G_ok (lnil)) Try.func28 (by kernel_rfl) (by kernel_rfl) (by kernel_rfl) (by kernel_rfl) ev_ref21_Small

def F_sweep_of (s : TSet) : Option (Treach) :=
  (bif (((s.items.length : Nat) : Int) == 0) then some (Treach.mk 0 s.length 0 0 0) else (iterF (σ := Int × Treach × Unit) (ρ := Treach × Unit) (fun s3 => (bif (decide (s3.1 < ((s.items.length : Nat) : Int))) then (idx s.items s3.1).bind fun x4 => some (.inl ((IntKind.i64.wrap (s3.1 + 1)), (Treach.mk (minZ s3.2.1.left x4.at_) (maxZ s3.2.1.right (IntKind.i64.wrap (x4.at_ + x4.width))) (maxZ s3.2.1.hang x4.hang) (maxZ s3.2.1.front x4.front) (maxZ s3.2.1.back x4.back)), ())) else some (.inr (s3.2.1, ())))) big (0, (Treach.mk s.length 0 0 0 0), ())).bind fun y5 => some y5.1)
def an_sweep_of : An U := (.node none .nil (.node none .nil (.node none .nil (.node none (.node none .nil (.node none (.node (some ⟨[2, 3, 17, 18], [2], ⟨[(19, .tv .int)], [(2, .box .reach)]⟩, [(.exit 0, ⟨[], [(2, .box .reach)]⟩)]⟩) .nil .nil) .nil)) .nil))))
def fe_sweep_of : Fe G := ⟨[.v .Set], [.reach], fun x => F_sweep_of x.1⟩
def tb_sweep_of : List (FuncId × Fe G) := []
theorem ev_sweep_of (x : TyP G fe_sweep_of.ps) : evF G (lstK G tb_sweep_of) (bodyOf Try.f30) an_sweep_of 58 [.cell 2 65] fe_sweep_of.rs (argT G fe_sweep_of.ps x) = fe_sweep_of.fn x := by kernel_rfl
theorem ok_sweep_of : FnOk G 30 fe_sweep_of := fnOk_of G_ok (lstK_ok G_ok (lnil)) Try.func30 (by kernel_rfl) (by kernel_rfl) (by kernel_rfl) (by kernel_rfl) ev_sweep_of

def F_ref39_Of (s : TSet) : Option (TReach) :=
  (bif (((s.items.length : Nat) : Int) == 0) then some (TReach.mk 0 s.length 0 0 0) else (iterF (σ := Int × TReach × Unit) (ρ := TReach × Unit) (fun s3 => (bif (decide (s3.1 < ((s.items.length : Nat) : Int))) then (idx s.items s3.1).bind fun x4 => some (.inl ((IntKind.i64.wrap (s3.1 + 1)), (TReach.mk (minZ s3.2.1.left x4.at_) (maxZ s3.2.1.right (IntKind.i64.wrap (x4.at_ + x4.width))) (maxZ s3.2.1.hang x4.hang) (maxZ s3.2.1.front x4.front) (maxZ s3.2.1.back x4.back)), ())) else some (.inr (s3.2.1, ())))) big (0, (TReach.mk s.length 0 0 0 0), ())).bind fun y5 => some y5.1)
def an_ref39_Of : An U := (.node none .nil (.node none .nil (.node none .nil (.node none (.node none .nil (.node none (.node (some ⟨[1, 2, 3], [2], ⟨[(4, .tv .int)], [(2, .box .Reach)]⟩, [(.exit 0, ⟨[], [(2, .box .Reach)]⟩)]⟩) .nil .nil) .nil)) .nil))))
def fe_ref39_Of : Fe G := ⟨[.v .Set], [.Reach], fun x => F_ref39_Of x.1⟩
def tb_ref39_Of : List (FuncId × Fe G) := []
theorem ev_ref39_Of (x : TyP G fe_ref39_Of.ps) : evF G (lstK G tb_ref39_Of) (bodyOf Try.f31) an_ref39_Of 62 [.cell 2 68] fe_ref39_Of.rs (argT G fe_ref39_Of.ps x) = fe_ref39_Of.fn x := by kernel_rfl
theorem ok_ref39_Of : FnOk G 31 fe_ref39_Of := fnOk_of G_ok (lstK_ok G_ok (lnil)) Try.func31 (by kernel_rfl) (by kernel_rfl) (by kernel_rfl) (by kernel_rfl) ev_ref39_Of

def F_sweep_floor (n : Int) (by_ : Int) : Option (Int) :=
  (if by_ = 0 then none else ((if by_ = 0 then none else (bif (decide ((n.tmod by_) < 0)) then some ((IntKind.i64.wrap ((IntKind.i64.wrap (n.tdiv by_)) - 1)), ()) else some ((IntKind.i64.wrap (n.tdiv by_)), ()))) : Option (Int × Unit)).bind fun y1 => some y1.1)
def an_sweep_floor : An U := (.node none .nil (.node none .nil (.node (some ⟨[4], [], ⟨[], []⟩, [(.normal, ⟨[(5, .tv .int)], []⟩)]⟩) .nil .nil)))
def fe_sweep_floor : Fe G := ⟨[.v .int1, .v .int1], [.int1], fun x => F_sweep_floor x.1 x.2.1⟩
def tb_sweep_floor : List (FuncId × Fe G) := []
theorem ev_sweep_floor (x : TyP G fe_sweep_floor.ps) : evF G (lstK G tb_sweep_floor) (bodyOf Try.f32) an_sweep_floor 16 [.tmp 4] fe_sweep_floor.rs (argT G fe_sweep_floor.ps x) = fe_sweep_floor.fn x := by kernel_rfl
theorem ok_sweep_floor : FnOk G 32 fe_sweep_floor := fnOk_of G_ok (lstK_ok G_ok (lnil)) Try.func32 (by kernel_rfl) (by kernel_rfl) (by kernel_rfl) (by kernel_rfl) ev_sweep_floor

def F_ref39_floor (n : Int) (d : Int) : Option (Int) :=
  (if d = 0 then none else ((if d = 0 then none else (bif (decide ((n.tmod d) < 0)) then some ((IntKind.i64.wrap ((IntKind.i64.wrap (n.tdiv d)) - 1)), ()) else some ((IntKind.i64.wrap (n.tdiv d)), ()))) : Option (Int × Unit)).bind fun y1 => some y1.1)
def an_ref39_floor : An U := (.node none .nil (.node none .nil (.node (some ⟨[4], [], ⟨[], []⟩, [(.normal, ⟨[(5, .tv .int)], []⟩)]⟩) .nil .nil)))
def fe_ref39_floor : Fe G := ⟨[.v .int1, .v .int1], [.int1], fun x => F_ref39_floor x.1 x.2.1⟩
def tb_ref39_floor : List (FuncId × Fe G) := []
theorem ev_ref39_floor (x : TyP G fe_ref39_floor.ps) : evF G (lstK G tb_ref39_floor) (bodyOf Try.f33) an_ref39_floor 16 [.tmp 4] fe_ref39_floor.rs (argT G fe_ref39_floor.ps x) = fe_ref39_floor.fn x := by kernel_rfl
theorem ok_ref39_floor : FnOk G 33 fe_ref39_floor := fnOk_of G_ok (lstK_ok G_ok (lnil)) Try.func33 (by kernel_rfl) (by kernel_rfl) (by kernel_rfl) (by kernel_rfl) ev_ref39_floor

def F_ref21_between (n : Int) (low : Int) (high : Int) : Option (Bool) :=
  ((bif (decide (n ≥ low)) then some ((decide (n ≤ high)), ()) else some (false, ())) : Option (Bool × Unit)).bind fun y1 => some y1.1
def an_ref21_between : An U := (.node none .nil (.node (some ⟨[], [], ⟨[], []⟩, [(.normal, ⟨[(6, .tv .bool)], []⟩)]⟩) .nil .nil))
def fe_ref21_between : Fe G := ⟨[.v .int1, .v .int1, .v .int1], [.bool], fun x => F_ref21_between x.1 x.2.1 x.2.2.1⟩
def tb_ref21_between : List (FuncId × Fe G) := []
theorem ev_ref21_between (x : TyP G fe_ref21_between.ps) : evF G (lstK G tb_ref21_between) (bodyOf Try.f36) an_ref21_between 15 [.tmp 6] fe_ref21_between.rs (argT G fe_ref21_between.ps x) = fe_ref21_between.fn x := by kernel_rfl
theorem ok_ref21_between : FnOk G 36 fe_ref21_between := fnOk_of G_ok (lstK_ok G_ok (lnil)) Try.func36 (by kernel_rfl) (by kernel_rfl) (by kernel_rfl) (by kernel_rfl) ev_ref21_between

def F_slices_IndexFunc_api_Set (s : List TSet) (f : TSet → Option Bool) : Option (Int) :=
  (iterF (σ := Int × Unit) (ρ := (Int × Unit) ⊕ (Unit)) (fun s3 => (bif (decide (s3.1 < ((s.length : Nat) : Int))) then (idx s s3.1).bind fun x4 => (f x4).bind fun r5 => (bif r5 then some (.inr (.inl (s3.1, ()))) else some (.inl ((IntKind.i64.wrap (s3.1 + 1)), ()))) else some (.inr (.inr ((())))))) big (0, ())).bind fun y6 => (match y6 with | .inl y7 => some y7.1 | .inr y8 => some (-1))
def an_slices_IndexFunc_api_Set : An U := (.node none .nil (.node none (.node none .nil (.node none (.node (some ⟨[0, 1, 7], [], ⟨[(8, .tv .int)], []⟩, [(.ret, ⟨[(4, .tv .int)], []⟩), (.exit 0, ⟨[], []⟩)]⟩) .nil .nil) .nil)) .nil))
def fe_slices_IndexFunc_api_Set : Fe G := ⟨[.v .l_Set, .fn .Set .bool], [.int1], fun x => F_slices_IndexFunc_api_Set x.1 x.2.1⟩
def tb_slices_IndexFunc_api_Set : List (FuncId × Fe G) := []
theorem ev_slices_IndexFunc_api_Set (x : TyP G fe_slices_IndexFunc_api_Set.ps) : evF G (lstK G tb_slices_IndexFunc_api_Set) (bodyOf Try.f39) an_slices_IndexFunc_api_Set 19 [.tmp 4] fe_slices_IndexFunc_api_Set.rs (argT G fe_slices_IndexFunc_api_Set.ps x) = fe_slices_IndexFunc_api_Set.fn x := by kernel_rfl
theorem ok_slices_IndexFunc_api_Set : FnOk G 39 fe_slices_IndexFunc_api_Set := fnOk_of G_ok (lstK_ok G_ok (lnil)) Try.func39 (by kernel_rfl) (by kernel_rfl) (by kernel_rfl) (by kernel_rfl) ev_slices_IndexFunc_api_Set

def F_batten_between (n : Int) (low : Int) (high : Int) : Option (Bool) :=
  ((bif (decide (n ≥ low)) then some ((decide (n ≤ high)), ()) else some (false, ())) : Option (Bool × Unit)).bind fun y1 => some y1.1
def an_batten_between : An U := (.node none .nil (.node (some ⟨[], [], ⟨[], []⟩, [(.normal, ⟨[(6, .tv .bool)], []⟩)]⟩) .nil .nil))
def fe_batten_between : Fe G := ⟨[.v .int1, .v .int1, .v .int1], [.bool], fun x => F_batten_between x.1 x.2.1 x.2.2.1⟩
def tb_batten_between : List (FuncId × Fe G) := []
theorem ev_batten_between (x : TyP G fe_batten_between.ps) : evF G (lstK G tb_batten_between) (bodyOf Try.f41) an_batten_between 15 [.tmp 6] fe_batten_between.rs (argT G fe_batten_between.ps x) = fe_batten_between.fn x := by kernel_rfl
theorem ok_batten_between : FnOk G 41 fe_batten_between := fnOk_of G_ok (lstK_ok G_ok (lnil)) Try.func41 (by kernel_rfl) (by kernel_rfl) (by kernel_rfl) (by kernel_rfl) ev_batten_between

def F_ref01_Letter (c : Int) : Option (Bool) :=
  ((bif (decide (c ≥ 97)) then (bif (decide (c ≤ 122)) then some (true, ()) else (bif (decide (c ≥ 65)) then some ((decide (c ≤ 90)), ()) else some (false, ()))) else (bif (decide (c ≥ 65)) then some ((decide (c ≤ 90)), ()) else some (false, ()))) : Option (Bool × Unit)).bind fun y1 => some y1.1
def an_ref01_Letter : An U := (.node none .nil (.node (some ⟨[], [], ⟨[], []⟩, [(.normal, ⟨[(2, .tv .bool)], []⟩)]⟩) .nil .nil))
def fe_ref01_Letter : Fe G := ⟨[.v .u8], [.bool], fun x => F_ref01_Letter x.1⟩
def tb_ref01_Letter : List (FuncId × Fe G) := []
theorem ev_ref01_Letter (x : TyP G fe_ref01_Letter.ps) : evF G (lstK G tb_ref01_Letter) (bodyOf Try.f45) an_ref01_Letter 17 [.tmp 2] fe_ref01_Letter.rs (argT G fe_ref01_Letter.ps x) = fe_ref01_Letter.fn x := by kernel_rfl
theorem ok_ref01_Letter : FnOk G 45 fe_ref01_Letter := fnOk_of G_ok (lstK_ok G_ok (lnil)) Try.func45 (by kernel_rfl) (by kernel_rfl) (by kernel_rfl) (by kernel_rfl) ev_ref01_Letter

def F_ref21_Apart (x : TItem) (y : TItem) : Option (Bool) :=
  ((bif (decide ((IntKind.i64.wrap (x.at_ + x.width)) ≤ y.at_)) then some (true, ()) else some ((decide ((IntKind.i64.wrap (y.at_ + y.width)) ≤ x.at_)), ())) : Option (Bool × Unit)).bind fun y1 => some y1.1
def an_ref21_Apart : An U := (.node none .nil (.node (some ⟨[], [], ⟨[], []⟩, [(.normal, ⟨[(4, .tv .bool)], []⟩)]⟩) .nil .nil))
def fe_ref21_Apart : Fe G := ⟨[.v .Item, .v .Item], [.bool], fun x => F_ref21_Apart x.1 x.2.1⟩
def tb_ref21_Apart : List (FuncId × Fe G) := []
theorem ev_ref21_Apart (x : TyP G fe_ref21_Apart.ps) : evF G (lstK G tb_ref21_Apart) (bodyOf Try.f48) an_ref21_Apart 23 [.tmp 4] fe_ref21_Apart.rs (argT G fe_ref21_Apart.ps x) = fe_ref21_Apart.fn x := by kernel_rfl
theorem ok_ref21_Apart : FnOk G 48 fe_ref21_Apart := fnOk_of G_ok (lstK_ok G_ok (lnil)) Try.func48 (by kernel_rfl) (by kernel_rfl) (by kernel_rfl) (by kernel_rfl) ev_ref21_Apart

def F_decimal_letter (c : Int) : Option (Bool) :=
  ((bif (decide (c ≥ 97)) then (bif (decide (c ≤ 122)) then some (true, ()) else (bif (decide (c ≥ 65)) then some ((decide (c ≤ 90)), ()) else some (false, ()))) else (bif (decide (c ≥ 65)) then some ((decide (c ≤ 90)), ()) else some (false, ()))) : Option (Bool × Unit)).bind fun y1 => some y1.1
def an_decimal_letter : An U := (.node none .nil (.node (some ⟨[], [], ⟨[], []⟩, [(.normal, ⟨[(2, .tv .bool)], []⟩)]⟩) .nil .nil))
def fe_decimal_letter : Fe G := ⟨[.v .u8], [.bool], fun x => F_decimal_letter x.1⟩
def tb_decimal_letter : List (FuncId × Fe G) := []
theorem ev_decimal_letter (x : TyP G fe_decimal_letter.ps) : evF G (lstK G tb_decimal_letter) (bodyOf Try.f49) an_decimal_letter 17 [.tmp 2] fe_decimal_letter.rs (argT G fe_decimal_letter.ps x) = fe_decimal_letter.fn x := by kernel_rfl
theorem ok_decimal_letter : FnOk G 49 fe_decimal_letter := fnOk_of G_ok (lstK_ok G_ok (lnil)) Try.func49 (by kernel_rfl) (by kernel_rfl) (by kernel_rfl) (by kernel_rfl) ev_decimal_letter

def F_batten_twice_api_Item (l : List TItem) (name : TItem → Option ByteArray) : Option (Bool) :=
  (iterF (σ := Int × List (ByteArray × Bool) × Unit) (ρ := List (ByteArray × Bool) × Unit) (fun s5 => (bif (decide (s5.1 < ((l.length : Nat) : Int))) then (idx l s5.1).bind fun x6 => (name x6).bind fun r7 => (if r7.size ≤ 2147483648 ∧ s5.2.1.length ≤ 2147483648 then some (.inl ((IntKind.i64.wrap (s5.1 + 1)), (setM r7 true s5.2.1), ())) else none) else some (.inr (s5.2.1, ())))) big (0, ([] : List (ByteArray × Bool)), ())).bind fun y8 => some (decide (((y8.1.length : Nat) : Int) < ((l.length : Nat) : Int)))
def an_batten_twice_api_Item : An U := (.node none .nil (.node none .nil (.node none (.node none .nil (.node none (.node (some ⟨[0, 1, 4, 5, 9, 10], [0], ⟨[(11, .tv .int)], [(0, .map 92 false)]⟩, [(.exit 0, ⟨[], [(0, .map 92 false)]⟩)]⟩) .nil .nil) .nil)) .nil)))
def fe_batten_twice_api_Item : Fe G := ⟨[.v .l_Item, .fn .Item .str], [.bool], fun x => F_batten_twice_api_Item x.1 x.2.1⟩
def tb_batten_twice_api_Item : List (FuncId × Fe G) := []
theorem ev_batten_twice_api_Item (x : TyP G fe_batten_twice_api_Item.ps) : evF G (lstK G tb_batten_twice_api_Item) (bodyOf Try.f51) an_batten_twice_api_Item 26 [.tmp 4] fe_batten_twice_api_Item.rs (argT G fe_batten_twice_api_Item.ps x) = fe_batten_twice_api_Item.fn x := by kernel_rfl
theorem ok_batten_twice_api_Item : FnOk G 51 fe_batten_twice_api_Item := fnOk_of G_ok (lstK_ok G_ok (lnil)) Try.func51 (by kernel_rfl) (by kernel_rfl) (by kernel_rfl) (by kernel_rfl) ev_batten_twice_api_Item

def F_batten_items_1 (x : TItem) : Option (ByteArray) :=
  some x.name
def an_batten_items_1 : An U := .nil
def fe_batten_items_1 : Fe G := ⟨[.v .Item], [.str], fun x => F_batten_items_1 x.1⟩
def tb_batten_items_1 : List (FuncId × Fe G) := []
theorem ev_batten_items_1 (x : TyP G fe_batten_items_1.ps) : evF G (lstK G tb_batten_items_1) (bodyOf Try.f52) an_batten_items_1 5 [.tmp 2] fe_batten_items_1.rs (argT G fe_batten_items_1.ps x) = fe_batten_items_1.fn x := by kernel_rfl
theorem ok_batten_items_1 : FnOk G 52 fe_batten_items_1 := fnOk_of G_ok (lstK_ok G_ok (lnil)) Try.func52 (by kernel_rfl) (by kernel_rfl) (by kernel_rfl) (by kernel_rfl) ev_batten_items_1

def F_batten_apart (a : TItem) (b : TItem) : Option (Bool) :=
  ((bif (decide ((IntKind.i64.wrap (a.at_ + a.width)) ≤ b.at_)) then some (true, ()) else some ((decide ((IntKind.i64.wrap (b.at_ + b.width)) ≤ a.at_)), ())) : Option (Bool × Unit)).bind fun y1 => some y1.1
def an_batten_apart : An U := (.node none .nil (.node (some ⟨[], [], ⟨[], []⟩, [(.normal, ⟨[(4, .tv .bool)], []⟩)]⟩) .nil .nil))
def fe_batten_apart : Fe G := ⟨[.v .Item, .v .Item], [.bool], fun x => F_batten_apart x.1 x.2.1⟩
def tb_batten_apart : List (FuncId × Fe G) := []
theorem ev_batten_apart (x : TyP G fe_batten_apart.ps) : evF G (lstK G tb_batten_apart) (bodyOf Try.f57) an_batten_apart 23 [.tmp 4] fe_batten_apart.rs (argT G fe_batten_apart.ps x) = fe_batten_apart.fn x := by kernel_rfl
theorem ok_batten_apart : FnOk G 57 fe_batten_apart := fnOk_of G_ok (lstK_ok G_ok (lnil)) Try.func57 (by kernel_rfl) (by kernel_rfl) (by kernel_rfl) (by kernel_rfl) ev_batten_apart

def F_batten_twice_api_Brick (l : List TBrick) (name : TBrick → Option ByteArray) : Option (Bool) :=
  (iterF (σ := Int × List (ByteArray × Bool) × Unit) (ρ := List (ByteArray × Bool) × Unit) (fun s5 => (bif (decide (s5.1 < ((l.length : Nat) : Int))) then (idx l s5.1).bind fun x6 => (name x6).bind fun r7 => (if r7.size ≤ 2147483648 ∧ s5.2.1.length ≤ 2147483648 then some (.inl ((IntKind.i64.wrap (s5.1 + 1)), (setM r7 true s5.2.1), ())) else none) else some (.inr (s5.2.1, ())))) big (0, ([] : List (ByteArray × Bool)), ())).bind fun y8 => some (decide (((y8.1.length : Nat) : Int) < ((l.length : Nat) : Int)))
def an_batten_twice_api_Brick : An U := (.node none .nil (.node none .nil (.node none (.node none .nil (.node none (.node (some ⟨[0, 1, 4, 5, 9, 10], [0], ⟨[(11, .tv .int)], [(0, .map 92 false)]⟩, [(.exit 0, ⟨[], [(0, .map 92 false)]⟩)]⟩) .nil .nil) .nil)) .nil)))
def fe_batten_twice_api_Brick : Fe G := ⟨[.v .l_Brick, .fn .Brick .str], [.bool], fun x => F_batten_twice_api_Brick x.1 x.2.1⟩
def tb_batten_twice_api_Brick : List (FuncId × Fe G) := []
theorem ev_batten_twice_api_Brick (x : TyP G fe_batten_twice_api_Brick.ps) : evF G (lstK G tb_batten_twice_api_Brick) (bodyOf Try.f58) an_batten_twice_api_Brick 26 [.tmp 4] fe_batten_twice_api_Brick.rs (argT G fe_batten_twice_api_Brick.ps x) = fe_batten_twice_api_Brick.fn x := by kernel_rfl
theorem ok_batten_twice_api_Brick : FnOk G 58 fe_batten_twice_api_Brick := fnOk_of G_ok (lstK_ok G_ok (lnil)) Try.func58 (by kernel_rfl) (by kernel_rfl) (by kernel_rfl) (by kernel_rfl) ev_batten_twice_api_Brick

def F_batten_bricks_1 (b : TBrick) : Option (ByteArray) :=
  some b.name
def an_batten_bricks_1 : An U := .nil
def fe_batten_bricks_1 : Fe G := ⟨[.v .Brick], [.str], fun x => F_batten_bricks_1 x.1⟩
def tb_batten_bricks_1 : List (FuncId × Fe G) := []
theorem ev_batten_bricks_1 (x : TyP G fe_batten_bricks_1.ps) : evF G (lstK G tb_batten_bricks_1) (bodyOf Try.f59) an_batten_bricks_1 5 [.tmp 2] fe_batten_bricks_1.rs (argT G fe_batten_bricks_1.ps x) = fe_batten_bricks_1.fn x := by kernel_rfl
theorem ok_batten_bricks_1 : FnOk G 59 fe_batten_bricks_1 := fnOk_of G_ok (lstK_ok G_ok (lnil)) Try.func59 (by kernel_rfl) (by kernel_rfl) (by kernel_rfl) (by kernel_rfl) ev_batten_bricks_1

def F_ref01_Digit (c : Int) : Option (Bool) :=
  ((bif (decide (c ≥ 48)) then some ((decide (c ≤ 57)), ()) else some (false, ())) : Option (Bool × Unit)).bind fun y1 => some y1.1
def an_ref01_Digit : An U := (.node none .nil (.node (some ⟨[], [], ⟨[], []⟩, [(.normal, ⟨[(2, .tv .bool)], []⟩)]⟩) .nil .nil))
def fe_ref01_Digit : Fe G := ⟨[.v .u8], [.bool], fun x => F_ref01_Digit x.1⟩
def tb_ref01_Digit : List (FuncId × Fe G) := []
theorem ev_ref01_Digit (x : TyP G fe_ref01_Digit.ps) : evF G (lstK G tb_ref01_Digit) (bodyOf Try.f60) an_ref01_Digit 9 [.tmp 2] fe_ref01_Digit.rs (argT G fe_ref01_Digit.ps x) = fe_ref01_Digit.fn x := by kernel_rfl
theorem ok_ref01_Digit : FnOk G 60 fe_ref01_Digit := fnOk_of G_ok (lstK_ok G_ok (lnil)) Try.func60 (by kernel_rfl) (by kernel_rfl) (by kernel_rfl) (by kernel_rfl) ev_ref01_Digit

def F_decimal_digit (c : Int) : Option (Bool) :=
  ((bif (decide (c ≥ 48)) then some ((decide (c ≤ 57)), ()) else some (false, ())) : Option (Bool × Unit)).bind fun y1 => some y1.1
def an_decimal_digit : An U := (.node none .nil (.node (some ⟨[], [], ⟨[], []⟩, [(.normal, ⟨[(2, .tv .bool)], []⟩)]⟩) .nil .nil))
def fe_decimal_digit : Fe G := ⟨[.v .u8], [.bool], fun x => F_decimal_digit x.1⟩
def tb_decimal_digit : List (FuncId × Fe G) := []
theorem ev_decimal_digit (x : TyP G fe_decimal_digit.ps) : evF G (lstK G tb_decimal_digit) (bodyOf Try.f61) an_decimal_digit 9 [.tmp 2] fe_decimal_digit.rs (argT G fe_decimal_digit.ps x) = fe_decimal_digit.fn x := by kernel_rfl
theorem ok_decimal_digit : FnOk G 61 fe_decimal_digit := fnOk_of G_ok (lstK_ok G_ok (lnil)) Try.func61 (by kernel_rfl) (by kernel_rfl) (by kernel_rfl) (by kernel_rfl) ev_decimal_digit

def F_slices_IndexFunc_api_Item (s : List TItem) (f : TItem → Option Bool) : Option (Int) :=
  (iterF (σ := Int × Unit) (ρ := (Int × Unit) ⊕ (Unit)) (fun s3 => (bif (decide (s3.1 < ((s.length : Nat) : Int))) then (idx s s3.1).bind fun x4 => (f x4).bind fun r5 => (bif r5 then some (.inr (.inl (s3.1, ()))) else some (.inl ((IntKind.i64.wrap (s3.1 + 1)), ()))) else some (.inr (.inr ((())))))) big (0, ())).bind fun y6 => (match y6 with | .inl y7 => some y7.1 | .inr y8 => some (-1))
def an_slices_IndexFunc_api_Item : An U := (.node none .nil (.node none (.node none .nil (.node none (.node (some ⟨[0, 1, 7], [], ⟨[(8, .tv .int)], []⟩, [(.ret, ⟨[(4, .tv .int)], []⟩), (.exit 0, ⟨[], []⟩)]⟩) .nil .nil) .nil)) .nil))
def fe_slices_IndexFunc_api_Item : Fe G := ⟨[.v .l_Item, .fn .Item .bool], [.int1], fun x => F_slices_IndexFunc_api_Item x.1 x.2.1⟩
def tb_slices_IndexFunc_api_Item : List (FuncId × Fe G) := []
theorem ev_slices_IndexFunc_api_Item (x : TyP G fe_slices_IndexFunc_api_Item.ps) : evF G (lstK G tb_slices_IndexFunc_api_Item) (bodyOf Try.f62) an_slices_IndexFunc_api_Item 19 [.tmp 4] fe_slices_IndexFunc_api_Item.rs (argT G fe_slices_IndexFunc_api_Item.ps x) = fe_slices_IndexFunc_api_Item.fn x := by kernel_rfl
theorem ok_slices_IndexFunc_api_Item : FnOk G 62 fe_slices_IndexFunc_api_Item := fnOk_of G_ok (lstK_ok G_ok (lnil)) Try.func62 (by kernel_rfl) (by kernel_rfl) (by kernel_rfl) (by kernel_rfl) ev_slices_IndexFunc_api_Item

def F_ref39_Box (s : TSet) (trim : Int) : Option (TPoint × TPoint) :=
  (F_ref39_Of s).bind fun r1 => some ((TPoint.mk r1.left (IntKind.i64.wrap (s.depth - r1.back)) (IntKind.i64.wrap (trim - r1.hang))), (TPoint.mk r1.right (IntKind.i64.wrap (s.depth + r1.front)) trim))
def an_ref39_Box : An U := .nil
def fe_ref39_Box : Fe G := ⟨[.v .Set, .v .int1], [.Point, .Point], fun x => F_ref39_Box x.1 x.2.1⟩
def tb_ref39_Box : List (FuncId × Fe G) := [(31, fe_ref39_Of)]
theorem ev_ref39_Box (x : TyP G fe_ref39_Box.ps) : evF G (lstK G tb_ref39_Box) (bodyOf Try.f14) an_ref39_Box 30 [.cell 4 30, .cell 5 30] fe_ref39_Box.rs (argT G fe_ref39_Box.ps x) = fe_ref39_Box.fn x := by kernel_rfl
theorem ok_ref39_Box : FnOk G 14 fe_ref39_Box := fnOk_of G_ok (lstK_ok G_ok (lcons ok_ref39_Of (lnil))) Try.func14 (by kernel_rfl) (by kernel_rfl) (by kernel_rfl) (by kernel_rfl) ev_ref39_Box

def F_ref39_Range (s : TSet) (from_ : Int) (to : Int) : Option (TSpan) :=
  (F_ref39_Of s).bind fun r1 => some (TSpan.mk (IntKind.i64.wrap ((minZ from_ to) - r1.hang)) (maxZ from_ to))
def an_ref39_Range : An U := .nil
def fe_ref39_Range : Fe G := ⟨[.v .Set, .v .int1, .v .int1], [.Span], fun x => F_ref39_Range x.1 x.2.1 x.2.2.1⟩
def tb_ref39_Range : List (FuncId × Fe G) := [(31, fe_ref39_Of)]
theorem ev_ref39_Range (x : TyP G fe_ref39_Range.ps) : evF G (lstK G tb_ref39_Range) (bodyOf Try.f15) an_ref39_Range 18 [.cell 6 35] fe_ref39_Range.rs (argT G fe_ref39_Range.ps x) = fe_ref39_Range.fn x := by kernel_rfl
theorem ok_ref39_Range : FnOk G 15 fe_ref39_Range := fnOk_of G_ok (lstK_ok G_ok (lcons ok_ref39_Of (lnil))) Try.func15 (by kernel_rfl) (by kernel_rfl) (by kernel_rfl) (by kernel_rfl) ev_ref39_Range

def F_ref39_Cells (x : TSpan) (size : Int) : Option (Int × Int) :=
  (bif (x.lo == x.hi) then (F_ref39_floor x.lo size).bind fun r1 => (F_ref39_floor x.lo size).bind fun r2 => some (r1, r2) else (F_ref39_floor x.lo size).bind fun r3 => (F_ref39_floor (IntKind.i64.wrap (x.hi - 1)) size).bind fun r4 => some (r3, r4))
def an_ref39_Cells : An U := .nil
def fe_ref39_Cells : Fe G := ⟨[.v .Span, .v .int1], [.int1, .int1], fun x => F_ref39_Cells x.1 x.2.1⟩
def tb_ref39_Cells : List (FuncId × Fe G) := [(33, fe_ref39_floor)]
theorem ev_ref39_Cells (x : TyP G fe_ref39_Cells.ps) : evF G (lstK G tb_ref39_Cells) (bodyOf Try.f17) an_ref39_Cells 28 [.tmp 4, .tmp 5] fe_ref39_Cells.rs (argT G fe_ref39_Cells.ps x) = fe_ref39_Cells.fn x := by kernel_rfl
theorem ok_ref39_Cells : FnOk G 17 fe_ref39_Cells := fnOk_of G_ok (lstK_ok G_ok (lcons ok_ref39_floor (lnil))) Try.func17 (by kernel_rfl) (by kernel_rfl) (by kernel_rfl) (by kernel_rfl) ev_ref39_Cells

def F_ref39_Near (a : TSet) (b : TSet) : Option (Bool) :=
  (F_ref39_Of a).bind fun r1 => (F_ref39_Of b).bind fun r2 => ((bif (decide (r1.left < r2.right)) then (bif (decide (r2.left < r1.right)) then (bif (decide ((IntKind.i64.wrap (a.depth - r1.back)) < (IntKind.i64.wrap (b.depth + r2.front)))) then some ((decide ((IntKind.i64.wrap (b.depth - r2.back)) < (IntKind.i64.wrap (a.depth + r1.front)))), ()) else some (false, ())) else some (false, ())) else some (false, ())) : Option (Bool × Unit)).bind fun y3 => some y3.1
def an_ref39_Near : An U := (.node none .nil (.node none .nil (.node (some ⟨[], [], ⟨[], []⟩, [(.normal, ⟨[(4, .tv .bool)], []⟩)]⟩) .nil .nil)))
def fe_ref39_Near : Fe G := ⟨[.v .Set, .v .Set], [.bool], fun x => F_ref39_Near x.1 x.2.1⟩
def tb_ref39_Near : List (FuncId × Fe G) := [(31, fe_ref39_Of)]
theorem ev_ref39_Near (x : TyP G fe_ref39_Near.ps) : evF G (lstK G tb_ref39_Near) (bodyOf Try.f21) an_ref39_Near 49 [.tmp 4] fe_ref39_Near.rs (argT G fe_ref39_Near.ps x) = fe_ref39_Near.fn x := by kernel_rfl
theorem ok_ref39_Near : FnOk G 21 fe_ref39_Near := fnOk_of G_ok (lstK_ok G_ok (lcons ok_ref39_Of (lnil))) Try.func21 (by kernel_rfl) (by kernel_rfl) (by kernel_rfl) (by kernel_rfl) ev_ref39_Near

def F_ref39_Gap (a : TSet) (b : TSet) (x : Int) (y : Int) : Option (Int) :=
  (F_ref39_Of a).bind fun r1 => (F_ref39_Of b).bind fun r2 => some (maxZ (IntKind.i64.wrap ((IntKind.i64.wrap (x - r1.hang)) - y)) (IntKind.i64.wrap ((IntKind.i64.wrap (y - r2.hang)) - x)))
def an_ref39_Gap : An U := .nil
def fe_ref39_Gap : Fe G := ⟨[.v .Set, .v .Set, .v .int1, .v .int1], [.int1], fun x => F_ref39_Gap x.1 x.2.1 x.2.2.1 x.2.2.2.1⟩
def tb_ref39_Gap : List (FuncId × Fe G) := [(31, fe_ref39_Of)]
theorem ev_ref39_Gap (x : TyP G fe_ref39_Gap.ps) : evF G (lstK G tb_ref39_Gap) (bodyOf Try.f23) an_ref39_Gap 24 [.tmp 8] fe_ref39_Gap.rs (argT G fe_ref39_Gap.ps x) = fe_ref39_Gap.fn x := by kernel_rfl
theorem ok_ref39_Gap : FnOk G 23 fe_ref39_Gap := fnOk_of G_ok (lstK_ok G_ok (lcons ok_ref39_Of (lnil))) Try.func23 (by kernel_rfl) (by kernel_rfl) (by kernel_rfl) (by kernel_rfl) ev_ref39_Gap

def F_slices_ContainsFunc_api_Set (s : List TSet) (f : TSet → Option Bool) : Option (Bool) :=
  (F_slices_IndexFunc_api_Set s f).bind fun r1 => some (decide (r1 ≥ 0))
def an_slices_ContainsFunc_api_Set : An U := .nil
def fe_slices_ContainsFunc_api_Set : Fe G := ⟨[.v .l_Set, .fn .Set .bool], [.bool], fun x => F_slices_ContainsFunc_api_Set x.1 x.2.1⟩
def tb_slices_ContainsFunc_api_Set : List (FuncId × Fe G) := [(39, fe_slices_IndexFunc_api_Set)]
theorem ev_slices_ContainsFunc_api_Set (x : TyP G fe_slices_ContainsFunc_api_Set.ps) : evF G (lstK G tb_slices_ContainsFunc_api_Set) (bodyOf Try.f26) an_slices_ContainsFunc_api_Set 9 [.tmp 4] fe_slices_ContainsFunc_api_Set.rs (argT G fe_slices_ContainsFunc_api_Set.ps x) = fe_slices_ContainsFunc_api_Set.fn x := by kernel_rfl
theorem ok_slices_ContainsFunc_api_Set : FnOk G 26 fe_slices_ContainsFunc_api_Set := fnOk_of G_ok (lstK_ok G_ok (lcons ok_slices_IndexFunc_api_Set (lnil))) Try.func26 (by kernel_rfl) (by kernel_rfl) (by kernel_rfl) (by kernel_rfl) ev_slices_ContainsFunc_api_Set

def F_law39_few_1 (s : TSet) : Option (Bool) :=
  (F_ref21_Small s 12).bind fun r1 => some (!r1)
def an_law39_few_1 : An U := .nil
def fe_law39_few_1 : Fe G := ⟨[.v .Set], [.bool], fun x => F_law39_few_1 x.1⟩
def tb_law39_few_1 : List (FuncId × Fe G) := [(28, fe_ref21_Small)]
theorem ev_law39_few_1 (x : TyP G fe_law39_few_1.ps) : evF G (lstK G tb_law39_few_1) (bodyOf Try.f27) an_law39_few_1 6 [.tmp 2] fe_law39_few_1.rs (argT G fe_law39_few_1.ps x) = fe_law39_few_1.fn x := by kernel_rfl
theorem ok_law39_few_1 : FnOk G 27 fe_law39_few_1 := fnOk_of G_ok (lstK_ok G_ok (lcons ok_ref21_Small (lnil))) Try.func27 (by kernel_rfl) (by kernel_rfl) (by kernel_rfl) (by kernel_rfl) ev_law39_few_1

def F_batten_lines (l : List Int) (length : Int) : Option (Bool) :=
  ((F_batten_between ((l.length : Nat) : Int) 2 10).bind fun r4 => (bif (!r4) then some (true, ()) else (idx l 0).bind fun x5 => (bif (decide (x5 < 0)) then some (true, ()) else (idx l (IntKind.i64.wrap (((l.length : Nat) : Int) - 1))).bind fun x6 => some ((decide (x6 > length)), ()))) : Option (Bool × Unit)).bind fun y7 => (bif y7.1 then some false else (iterF (σ := Int × Unit) (ρ := (Bool × Unit) ⊕ (Unit)) (fun s10 => (bif (decide (s10.1 < ((l.length : Nat) : Int))) then (idx l s10.1).bind fun x11 => (idx l (IntKind.i64.wrap (s10.1 - 1))).bind fun x12 => (bif (decide (x11 ≤ x12)) then some (.inr (.inl (false, ()))) else some (.inl ((IntKind.i64.wrap (s10.1 + 1)), ()))) else some (.inr (.inr ((())))))) big (1, ())).bind fun y13 => (match y13 with | .inl y14 => some y14.1 | .inr y15 => some true))
def an_batten_lines : An U := (.node none .nil (.node none (.node (some ⟨[0, 4], [], ⟨[], []⟩, [(.normal, ⟨[(25, .tv .bool)], []⟩)]⟩) .nil .nil) (.node none (.node none .nil (.node none (.node (some ⟨[0], [], ⟨[(5, .tv .int)], []⟩, [(.ret, ⟨[(4, .tv .bool)], []⟩), (.exit 0, ⟨[], []⟩)]⟩) .nil .nil) .nil)) .nil)))
def fe_batten_lines : Fe G := ⟨[.v .l_int1, .v .int1], [.bool], fun x => F_batten_lines x.1 x.2.1⟩
def tb_batten_lines : List (FuncId × Fe G) := [(41, fe_batten_between)]
theorem ev_batten_lines (x : TyP G fe_batten_lines.ps) : evF G (lstK G tb_batten_lines) (bodyOf Try.f42) an_batten_lines 42 [.tmp 4] fe_batten_lines.rs (argT G fe_batten_lines.ps x) = fe_batten_lines.fn x := by kernel_rfl
theorem ok_batten_lines : FnOk G 42 fe_batten_lines := fnOk_of G_ok (lstK_ok G_ok (lcons ok_batten_between (lnil))) Try.func42 (by kernel_rfl) (by kernel_rfl) (by kernel_rfl) (by kernel_rfl) ev_batten_lines

def F_ref01_word (s : ByteArray) (i : Int) : Option (Int) :=
  (iterF (σ := Int × Unit) (ρ := Int × Unit) (fun s11 => (bif (decide (s11.1 < ((s.size : Nat) : Int))) then (idxB s s11.1).bind fun b12 => (F_ref01_Letter ((b12.toNat : Nat) : Int)).bind fun r13 => (bif r13 then some (.inl ((IntKind.i64.wrap (s11.1 + 1)), ())) else (idxB s s11.1).bind fun b14 => (F_ref01_Digit ((b14.toNat : Nat) : Int)).bind fun r15 => (bif r15 then some (.inl ((IntKind.i64.wrap (s11.1 + 1)), ())) else (idxB s s11.1).bind fun b16 => (bif (((b16.toNat : Nat) : Int) == 95) then some (.inl ((IntKind.i64.wrap (s11.1 + 1)), ())) else some (.inr (s11.1, ()))))) else some (.inr (s11.1, ())))) big (i, ())).bind fun y17 => some y17.1
def an_ref01_word : An U := (.node none .nil (.node none (.node none (.node (some ⟨[0, 4], [], ⟨[(1, .tv .int)], []⟩, [(.exit 0, ⟨[(1, .tv .int)], []⟩)]⟩) .nil .nil) .nil) .nil))
def fe_ref01_word : Fe G := ⟨[.v .str, .v .int1], [.int1], fun x => F_ref01_word x.1 x.2.1⟩
def tb_ref01_word : List (FuncId × Fe G) := [(45, fe_ref01_Letter), (60, fe_ref01_Digit)]
theorem ev_ref01_word (x : TyP G fe_ref01_word.ps) : evF G (lstK G tb_ref01_word) (bodyOf Try.f46) an_ref01_word 30 [.tmp 4] fe_ref01_word.rs (argT G fe_ref01_word.ps x) = fe_ref01_word.fn x := by kernel_rfl
theorem ok_ref01_word : FnOk G 46 fe_ref01_word := fnOk_of G_ok (lstK_ok G_ok (lcons ok_ref01_Letter (lcons ok_ref01_Digit (lnil)))) Try.func46 (by kernel_rfl) (by kernel_rfl) (by kernel_rfl) (by kernel_rfl) ev_ref01_word

def F_decimal_word (s : ByteArray) : Option (Int) :=
  (iterF (σ := Int × Unit) (ρ := Int × Unit) (fun s11 => (bif (decide (s11.1 < ((s.size : Nat) : Int))) then (idxB s s11.1).bind fun b12 => (F_decimal_letter ((b12.toNat : Nat) : Int)).bind fun r13 => (bif r13 then some (.inl ((IntKind.i64.wrap (s11.1 + 1)), ())) else (idxB s s11.1).bind fun b14 => (F_decimal_digit ((b14.toNat : Nat) : Int)).bind fun r15 => (bif r15 then some (.inl ((IntKind.i64.wrap (s11.1 + 1)), ())) else (idxB s s11.1).bind fun b16 => (bif (((b16.toNat : Nat) : Int) == 95) then some (.inl ((IntKind.i64.wrap (s11.1 + 1)), ())) else some (.inr (s11.1, ()))))) else some (.inr (s11.1, ())))) big (0, ())).bind fun y17 => some y17.1
def an_decimal_word : An U := (.node none .nil (.node none .nil (.node none (.node none (.node (some ⟨[0, 2], [], ⟨[(3, .tv .int)], []⟩, [(.exit 0, ⟨[(3, .tv .int)], []⟩)]⟩) .nil .nil) .nil) .nil)))
def fe_decimal_word : Fe G := ⟨[.v .str], [.int1], fun x => F_decimal_word x.1⟩
def tb_decimal_word : List (FuncId × Fe G) := [(49, fe_decimal_letter), (61, fe_decimal_digit)]
theorem ev_decimal_word (x : TyP G fe_decimal_word.ps) : evF G (lstK G tb_decimal_word) (bodyOf Try.f50) an_decimal_word 29 [.tmp 2] fe_decimal_word.rs (argT G fe_decimal_word.ps x) = fe_decimal_word.fn x := by kernel_rfl
theorem ok_decimal_word : FnOk G 50 fe_decimal_word := fnOk_of G_ok (lstK_ok G_ok (lcons ok_decimal_letter (lcons ok_decimal_digit (lnil)))) Try.func50 (by kernel_rfl) (by kernel_rfl) (by kernel_rfl) (by kernel_rfl) ev_decimal_word

def F_batten_inside (x : TItem) (length : Int) : Option (Bool) :=
  ((bif (decide (x.at_ ≥ 0)) then (F_batten_between x.width 1 1048576).bind fun r2 => (bif r2 then some ((decide (x.at_ ≤ (IntKind.i64.wrap (length - x.width)))), ()) else some (false, ())) else some (false, ())) : Option (Bool × Unit)).bind fun y3 => some y3.1
def an_batten_inside : An U := (.node none .nil (.node (some ⟨[], [], ⟨[], []⟩, [(.normal, ⟨[(4, .tv .bool)], []⟩)]⟩) .nil .nil))
def fe_batten_inside : Fe G := ⟨[.v .Item, .v .int1], [.bool], fun x => F_batten_inside x.1 x.2.1⟩
def tb_batten_inside : List (FuncId × Fe G) := [(41, fe_batten_between)]
theorem ev_batten_inside (x : TyP G fe_batten_inside.ps) : evF G (lstK G tb_batten_inside) (bodyOf Try.f54) an_batten_inside 22 [.tmp 4] fe_batten_inside.rs (argT G fe_batten_inside.ps x) = fe_batten_inside.fn x := by kernel_rfl
theorem ok_batten_inside : FnOk G 54 fe_batten_inside := fnOk_of G_ok (lstK_ok G_ok (lcons ok_batten_between (lnil))) Try.func54 (by kernel_rfl) (by kernel_rfl) (by kernel_rfl) (by kernel_rfl) ev_batten_inside

def F_slices_ContainsFunc_api_Item (s : List TItem) (f : TItem → Option Bool) : Option (Bool) :=
  (F_slices_IndexFunc_api_Item s f).bind fun r1 => some (decide (r1 ≥ 0))
def an_slices_ContainsFunc_api_Item : An U := .nil
def fe_slices_ContainsFunc_api_Item : Fe G := ⟨[.v .l_Item, .fn .Item .bool], [.bool], fun x => F_slices_ContainsFunc_api_Item x.1 x.2.1⟩
def tb_slices_ContainsFunc_api_Item : List (FuncId × Fe G) := [(62, fe_slices_IndexFunc_api_Item)]
theorem ev_slices_ContainsFunc_api_Item (x : TyP G fe_slices_ContainsFunc_api_Item.ps) : evF G (lstK G tb_slices_ContainsFunc_api_Item) (bodyOf Try.f55) an_slices_ContainsFunc_api_Item 9 [.tmp 4] fe_slices_ContainsFunc_api_Item.rs (argT G fe_slices_ContainsFunc_api_Item.ps x) = fe_slices_ContainsFunc_api_Item.fn x := by kernel_rfl
theorem ok_slices_ContainsFunc_api_Item : FnOk G 55 fe_slices_ContainsFunc_api_Item := fnOk_of G_ok (lstK_ok G_ok (lcons ok_slices_IndexFunc_api_Item (lnil))) Try.func55 (by kernel_rfl) (by kernel_rfl) (by kernel_rfl) (by kernel_rfl) ev_slices_ContainsFunc_api_Item

def F_batten_items_2 (y : TItem) (a1 : TItem) : Option (Bool) :=
  (F_batten_apart a1 y).bind fun r1 => some (!r1)
def an_batten_items_2 : An U := .nil
def fe_batten_items_2 : Fe G := ⟨[.v .Item, .rp .Item], [.bool], fun x => F_batten_items_2 x.1 x.2.1⟩
def tb_batten_items_2 : List (FuncId × Fe G) := [(57, fe_batten_apart)]
theorem ev_batten_items_2 (x : TyP G fe_batten_items_2.ps) : evF G (lstK G tb_batten_items_2) (bodyOf Try.f56) an_batten_items_2 8 [.tmp 3] fe_batten_items_2.rs (argT G fe_batten_items_2.ps x) = fe_batten_items_2.fn x := by kernel_rfl
theorem ok_batten_items_2 : FnOk G 56 fe_batten_items_2 := fnOk_of G_ok (lstK_ok G_ok (lcons ok_batten_apart (lnil))) Try.func56 (by kernel_rfl) (by kernel_rfl) (by kernel_rfl) (by kernel_rfl) ev_batten_items_2

def F_law39_few (l : List TSet) : Option (Bool) :=
  (F_slices_ContainsFunc_api_Set l (fun z1 => F_law39_few_1 z1)).bind fun r2 => some (!r2)
def an_law39_few : An U := .nil
def fe_law39_few : Fe G := ⟨[.v .l_Set], [.bool], fun x => F_law39_few x.1⟩
def tb_law39_few : List (FuncId × Fe G) := [(26, fe_slices_ContainsFunc_api_Set), (27, fe_law39_few_1)]
theorem ev_law39_few (x : TyP G fe_law39_few.ps) : evF G (lstK G tb_law39_few) (bodyOf Try.f10) an_law39_few 6 [.tmp 2] fe_law39_few.rs (argT G fe_law39_few.ps x) = fe_law39_few.fn x := by kernel_rfl
theorem ok_law39_few : FnOk G 10 fe_law39_few := fnOk_of G_ok (lstK_ok G_ok (lcons ok_slices_ContainsFunc_api_Set (lcons ok_law39_few_1 (lnil)))) Try.func10 (by kernel_rfl) (by kernel_rfl) (by kernel_rfl) (by kernel_rfl) ev_law39_few
end Go.Proofs.Ytcahdnmkhoncaaa
