/- Joined by merge.py: Fn0. -/
import Derived.Test.YtmdghocpelkcoaaM03
/- Functions, as plain data. Printed by mkev.py. -/
namespace Go.Proofs.Ytmdghocpelkcoaa
open Go.RowKit
set_option linter.unusedVariables false

def F_slices_Equal_int (s1_ : List Int) (s2_ : List Int) : Option (Bool) :=
  (bif (((s1_.length : Nat) : Int) != ((s2_.length : Nat) : Int)) then some false else (iterF (σ := Int × Unit) (ρ := (Bool × Unit) ⊕ (Unit)) (fun s3 => (bif (decide (s3.1 < ((s1_.length : Nat) : Int))) then (idx s1_ s3.1).bind fun x4 => (idx s2_ s3.1).bind fun x5 => (bif (x4 != x5) then some (.inr (.inl (false, ()))) else some (.inl ((IntKind.i64.wrap (s3.1 + 1)), ()))) else some (.inr (.inr ((())))))) big (0, ())).bind fun y6 => (match y6 with | .inl y7 => some y7.1 | .inr y8 => some true))
def an_slices_Equal_int : An U := (.node none .nil (.node none .nil (.node none (.node none .nil (.node none (.node (some ⟨[0, 1, 12], [], ⟨[(13, .tv .int)], []⟩, [(.ret, ⟨[(4, .tv .bool)], []⟩), (.exit 0, ⟨[], []⟩)]⟩) .nil .nil) .nil)) .nil)))
def fe_slices_Equal_int : Fe G := ⟨[.v .l_int1, .v .l_int1], [.bool], fun x => F_slices_Equal_int x.1 x.2.1⟩
def tb_slices_Equal_int : List (FuncId × Fe G) := []
theorem ev_slices_Equal_int (x : TyP G fe_slices_Equal_int.ps) : evF G (lstK G tb_slices_Equal_int) (bodyOf Try.f25) an_slices_Equal_int 26 [.tmp 4] fe_slices_Equal_int.rs (argT G fe_slices_Equal_int.ps x) = fe_slices_Equal_int.fn x := by kernel_rfl
theorem ok_slices_Equal_int : FnOk G 25 fe_slices_Equal_int := fnOk_of G_ok (lstK_ok G_ok (lnil)) Try.func25 (by kernel_rfl) (by kernel_rfl) (by kernel_rfl) (by kernel_rfl) ev_slices_Equal_int

def F_ref27_Widest (path : List Int) : Option (Int) :=
  (iterF (σ := Int × Int × Unit) (ρ := Int × Unit) (fun s3 => (bif (decide (s3.2.1 < ((path.length : Nat) : Int))) then (idx path s3.2.1).bind fun x4 => (idx path s3.2.1).bind fun x5 => some (.inl ((maxZ (maxZ s3.1 x4) (IntKind.i64.wrap (0 - x5))), (IntKind.i64.wrap (s3.2.1 + 1)), ())) else some (.inr (s3.1, ())))) big (0, 0, ())).bind fun y6 => some y6.1
def an_ref27_Widest : An U := (.node none .nil (.node none .nil (.node none (.node none .nil (.node none (.node (some ⟨[0, 2], [], ⟨[(3, .tv .int), (4, .tv .int)], []⟩, [(.exit 0, ⟨[(3, .tv .int)], []⟩)]⟩) .nil .nil) .nil)) .nil)))
def fe_ref27_Widest : Fe G := ⟨[.v .l_int1], [.int1], fun x => F_ref27_Widest x.1⟩
def tb_ref27_Widest : List (FuncId × Fe G) := []
theorem ev_ref27_Widest (x : TyP G fe_ref27_Widest.ps) : evF G (lstK G tb_ref27_Widest) (bodyOf Try.f26) an_ref27_Widest 23 [.tmp 2] fe_ref27_Widest.rs (argT G fe_ref27_Widest.ps x) = fe_ref27_Widest.fn x := by kernel_rfl
theorem ok_ref27_Widest : FnOk G 26 fe_ref27_Widest := fnOk_of G_ok (lstK_ok G_ok (lnil)) Try.func26 (by kernel_rfl) (by kernel_rfl) (by kernel_rfl) (by kernel_rfl) ev_ref27_Widest

def F_ref27_Change (s : TSet) (x : TJob) : Option (Int) :=
  (bif x.pipe then some (IntKind.i64.wrap (s.purchase * x.weight)) else some (IntKind.i64.wrap (0 - x.weight)))
def an_ref27_Change : An U := .nil
def fe_ref27_Change : Fe G := ⟨[.v .Set, .v .Job], [.int1], fun x => F_ref27_Change x.1 x.2.1⟩
def tb_ref27_Change : List (FuncId × Fe G) := []
theorem ev_ref27_Change (x : TyP G fe_ref27_Change.ps) : evF G (lstK G tb_ref27_Change) (bodyOf Try.f29) an_ref27_Change 15 [.tmp 4] fe_ref27_Change.rs (argT G fe_ref27_Change.ps x) = fe_ref27_Change.fn x := by kernel_rfl
theorem ok_ref27_Change : FnOk G 29 fe_ref27_Change := fnOk_of G_ok (lstK_ok G_ok (lnil)) Try.func29 (by kernel_rfl) (by kernel_rfl) (by kernel_rfl) (by kernel_rfl) ev_ref27_Change

def F_slices_Clone_api_Job (s : List TJob) : Option ((List TJob)) :=
  (if ([] : List TJob).length + s.length ≤ 2147483648 then some (([] : List TJob) ++ s) else none)
def an_slices_Clone_api_Job : An U := .nil
def fe_slices_Clone_api_Job : Fe G := ⟨[.v .l_Job], [.l_Job], fun x => F_slices_Clone_api_Job x.1⟩
def tb_slices_Clone_api_Job : List (FuncId × Fe G) := []
theorem ok_slices_Clone_api_Job : FnOk G 35 fe_slices_Clone_api_Job := clone_ok G_ok (lstK_ok G_ok lnil) Try.func35 (by kernel_rfl) (by kernel_rfl) (k := 8) (by kernel_rfl) (by decide) (res := [.tmp 2]) (by kernel_rfl) (t := 27) (by kernel_rfl) (u := .Job) (lu := .l_Job) (by kernel_rfl) (cast := fun x => x) (fun _ => by kernel_rfl) (F := F_slices_Clone_api_Job) (fun _ => by kernel_rfl) (fun x y hx h => by obtain rfl : x = ([] : List TJob) := hx; rw [← h]; kernel_rfl)

def F_ref21_Copy (s : TSet) : Option (TSet) :=
  (if ([] : List Int).length + s.lines.length ≤ 2147483648 then (if ([] : List TItem).length + s.items.length ≤ 2147483648 then (if ([] : List TBrick).length + s.bricks.length ≤ 2147483648 then some (TSet.mk s.name s.depth s.low s.high s.length (([] : List Int) ++ s.lines) s.pipe s.arbor s.purchase s.most s.brake (([] : List TItem) ++ s.items) (([] : List TBrick) ++ s.bricks)) else none) else none) else none)
def an_ref21_Copy : An U := .nil
def fe_ref21_Copy : Fe G := ⟨[.v .Set], [.Set], fun x => F_ref21_Copy x.1⟩
def tb_ref21_Copy : List (FuncId × Fe G) := []
theorem ev_ref21_Copy (x : TyP G fe_ref21_Copy.ps) : evF G (lstK G tb_ref21_Copy) (bodyOf Try.f41) an_ref21_Copy 19 [.cell 2 26] fe_ref21_Copy.rs (argT G fe_ref21_Copy.ps x) = fe_ref21_Copy.fn x := by kernel_rfl
theorem ok_ref21_Copy : FnOk G 41 fe_ref21_Copy := fnOk_of G_ok (lstK_ok G_ok (lnil)) Try.func41 (by kernel_rfl) (by kernel_rfl) (by kernel_rfl) (by kernel_rfl) ev_ref21_Copy

def F_law27_example : Option (TSet × (List TJob)) :=
  some ((TSet.mk (⟨#[115]⟩ : ByteArray) 0 0 1000 1000 ([0, 1000] : List Int) 10 10 2 1 50 ([] : List TItem) ([] : List TBrick)), ([(TJob.mk (⟨#[97]⟩ : ByteArray) true 20), (TJob.mk (⟨#[98]⟩ : ByteArray) false 61)] : List TJob))
def an_law27_example : An U := .nil
def fe_law27_example : Fe G := ⟨[], [.Set, .l_Job], fun x => F_law27_example⟩
def tb_law27_example : List (FuncId × Fe G) := []
theorem ev_law27_example (x : TyP G fe_law27_example.ps) : evF G (lstK G tb_law27_example) (bodyOf Try.f58) an_law27_example 9 [.cell 0 26, .tmp 1] fe_law27_example.rs (argT G fe_law27_example.ps x) = fe_law27_example.fn x := by kernel_rfl
theorem ok_law27_example : FnOk G 58 fe_law27_example := fnOk_of G_ok (lstK_ok G_ok (lnil)) Try.func58 (by kernel_rfl) (by kernel_rfl) (by kernel_rfl) (by kernel_rfl) ev_law27_example

def F_ref21_Small (s : TSet) (most : Int) : Option (Bool) :=
  ((bif (decide (((s.name.size : Nat) : Int) > 60)) then some (true, ()) else (bif (decide (((s.lines.length : Nat) : Int) > 12)) then some (true, ()) else (bif (decide (((s.items.length : Nat) : Int) > most)) then (bif (decide (((s.items.length : Nat) : Int) ≤ 40)) then some (true, ()) else (bif (decide (((s.items.length : Nat) : Int) > 45)) then some (true, ()) else some ((decide (((s.bricks.length : Nat) : Int) > 10)), ()))) else (bif (decide (((s.items.length : Nat) : Int) > 45)) then some (true, ()) else some ((decide (((s.bricks.length : Nat) : Int) > 10)), ()))))) : Option (Bool × Unit)).bind fun y1 => (bif y1.1 then some false else (iterF (σ := Int × Unit) (ρ := (Bool × Unit) ⊕ (Unit)) (fun s3 => (bif (decide (s3.1 < ((s.items.length : Nat) : Int))) then (idx s.items s3.1).bind fun x4 => (bif (decide (((x4.name.size : Nat) : Int) > 60)) then some (.inr (.inl (false, ()))) else some (.inl ((IntKind.i64.wrap (s3.1 + 1)), ()))) else some (.inr (.inr ((())))))) big (0, ())).bind fun y5 => (match y5 with | .inl y6 => some y6.1 | .inr y7 => (iterF (σ := Int × Unit) (ρ := (Bool × Unit) ⊕ (Unit)) (fun s9 => (bif (decide (s9.1 < ((s.bricks.length : Nat) : Int))) then (idx s.bricks s9.1).bind fun x10 => (bif (decide (((x10.name.size : Nat) : Int) > 60)) then some (.inr (.inl (false, ()))) else some (.inl ((IntKind.i64.wrap (s9.1 + 1)), ()))) else some (.inr (.inr ((())))))) big (0, ())).bind fun y11 => (match y11 with | .inl y12 => some y12.1 | .inr y13 => some true)))
def an_ref21_Small : An U := (.node none .nil (.node none (.node (some ⟨[2, 4], [], ⟨[], []⟩, [(.normal, ⟨[(41, .tv .bool)], []⟩)]⟩) .nil .nil) (.node none (.node none .nil (.node none (.node (some ⟨[2], [], ⟨[(5, .tv .int)], []⟩, [(.ret, ⟨[(4, .tv .bool)], []⟩), (.exit 0, ⟨[], []⟩)]⟩) .nil .nil) .nil)) (.node none (.node none .nil (.node none (.node (some ⟨[2], [], ⟨[(6, .tv .int)], []⟩, [(.ret, ⟨[(4, .tv .bool)], []⟩), (.exit 2, ⟨[], []⟩)]⟩) .nil .nil) .nil)) .nil))))
def fe_ref21_Small : Fe G := ⟨[.v .Set, .v .int1], [.bool], fun x => F_ref21_Small x.1 x.2.1⟩
def tb_ref21_Small : List (FuncId × Fe G) := []
theorem ev_ref21_Small (x : TyP G fe_ref21_Small.ps) : evF G (lstK G tb_ref21_Small) (bodyOf Try.f59) an_ref21_Small 72 [.tmp 4] fe_ref21_Small.rs (argT G fe_ref21_Small.ps x) = fe_ref21_Small.fn x := by kernel_rfl
theorem ok_ref21_Small : FnOk G 59 fe_ref21_Small := fnOk_of G_ok (lstK_ok G_ok (lnil)) Try.func59 (by kernel_rfl) (by kernel_rfl) (by kernel_rfl) (by kernel_rfl) ev_ref21_Small

def F_ref27_Short (l : List TJob) (most : Int) : Option (Bool) :=
  (bif (decide (((l.length : Nat) : Int) > most)) then some false else (iterF (σ := Int × Unit) (ρ := (Bool × Unit) ⊕ (Unit)) (fun s2 => (bif (decide (s2.1 < ((l.length : Nat) : Int))) then (idx l s2.1).bind fun x3 => (bif (decide (((x3.name.size : Nat) : Int) > 60)) then some (.inr (.inl (false, ()))) else some (.inl ((IntKind.i64.wrap (s2.1 + 1)), ()))) else some (.inr (.inr ((())))))) big (0, ())).bind fun y4 => (match y4 with | .inl y5 => some y5.1 | .inr y6 => some true))
def an_ref27_Short : An U := (.node none .nil (.node none .nil (.node none (.node none .nil (.node none (.node (some ⟨[0], [], ⟨[(5, .tv .int)], []⟩, [(.ret, ⟨[(4, .tv .bool)], []⟩), (.exit 0, ⟨[], []⟩)]⟩) .nil .nil) .nil)) .nil)))
def fe_ref27_Short : Fe G := ⟨[.v .l_Job, .v .int1], [.bool], fun x => F_ref27_Short x.1 x.2.1⟩
def tb_ref27_Short : List (FuncId × Fe G) := []
theorem ev_ref27_Short (x : TyP G fe_ref27_Short.ps) : evF G (lstK G tb_ref27_Short) (bodyOf Try.f60) an_ref27_Short 23 [.tmp 4] fe_ref27_Short.rs (argT G fe_ref27_Short.ps x) = fe_ref27_Short.fn x := by kernel_rfl
theorem ok_ref27_Short : FnOk G 60 fe_ref27_Short := fnOk_of G_ok (lstK_ok G_ok (lnil)) Try.func60 (by kernel_rfl) (by kernel_rfl) (by kernel_rfl) (by kernel_rfl) ev_ref27_Short

def F_ref27_between (n : Int) (lo : Int) (hi : Int) : Option (Bool) :=
  ((bif (decide (n ≥ lo)) then some ((decide (n ≤ hi)), ()) else some (false, ())) : Option (Bool × Unit)).bind fun y1 => some y1.1
def an_ref27_between : An U := (.node none .nil (.node (some ⟨[], [], ⟨[], []⟩, [(.normal, ⟨[(6, .tv .bool)], []⟩)]⟩) .nil .nil))
def fe_ref27_between : Fe G := ⟨[.v .int1, .v .int1, .v .int1], [.bool], fun x => F_ref27_between x.1 x.2.1 x.2.2.1⟩
def tb_ref27_between : List (FuncId × Fe G) := []
theorem ev_ref27_between (x : TyP G fe_ref27_between.ps) : evF G (lstK G tb_ref27_between) (bodyOf Try.f62) an_ref27_between 15 [.tmp 6] fe_ref27_between.rs (argT G fe_ref27_between.ps x) = fe_ref27_between.fn x := by kernel_rfl
theorem ok_ref27_between : FnOk G 62 fe_ref27_between := fnOk_of G_ok (lstK_ok G_ok (lnil)) Try.func62 (by kernel_rfl) (by kernel_rfl) (by kernel_rfl) (by kernel_rfl) ev_ref27_between

def F_brake_change (s : TSet) (x : TJob) : Option (Int) :=
  (bif x.pipe then some (IntKind.i64.wrap (s.purchase * x.weight)) else some (IntKind.i64.wrap (0 - x.weight)))
def an_brake_change : An U := .nil
def fe_brake_change : Fe G := ⟨[.v .Set, .v .Job], [.int1], fun x => F_brake_change x.1 x.2.1⟩
def tb_brake_change : List (FuncId × Fe G) := []
theorem ev_brake_change (x : TyP G fe_brake_change.ps) : evF G (lstK G tb_brake_change) (bodyOf Try.f63) an_brake_change 15 [.tmp 4] fe_brake_change.rs (argT G fe_brake_change.ps x) = fe_brake_change.fn x := by kernel_rfl
theorem ok_brake_change : FnOk G 63 fe_brake_change := fnOk_of G_ok (lstK_ok G_ok (lnil)) Try.func63 (by kernel_rfl) (by kernel_rfl) (by kernel_rfl) (by kernel_rfl) ev_brake_change

def F_slices_IndexFunc_int (s : List Int) (f : Int → Option Bool) : Option (Int) :=
  (iterF (σ := Int × Unit) (ρ := (Int × Unit) ⊕ (Unit)) (fun s3 => (bif (decide (s3.1 < ((s.length : Nat) : Int))) then (idx s s3.1).bind fun x4 => (f x4).bind fun r5 => (bif r5 then some (.inr (.inl (s3.1, ()))) else some (.inl ((IntKind.i64.wrap (s3.1 + 1)), ()))) else some (.inr (.inr ((())))))) big (0, ())).bind fun y6 => (match y6 with | .inl y7 => some y7.1 | .inr y8 => some (-1))
def an_slices_IndexFunc_int : An U := (.node none .nil (.node none (.node none .nil (.node none (.node (some ⟨[0, 1, 7], [], ⟨[(8, .tv .int)], []⟩, [(.ret, ⟨[(4, .tv .int)], []⟩), (.exit 0, ⟨[], []⟩)]⟩) .nil .nil) .nil)) .nil))
def fe_slices_IndexFunc_int : Fe G := ⟨[.v .l_int1, .fn .int1 .bool], [.int1], fun x => F_slices_IndexFunc_int x.1 x.2.1⟩
def tb_slices_IndexFunc_int : List (FuncId × Fe G) := []
theorem ev_slices_IndexFunc_int (x : TyP G fe_slices_IndexFunc_int.ps) : evF G (lstK G tb_slices_IndexFunc_int) (bodyOf Try.f64) an_slices_IndexFunc_int 19 [.tmp 4] fe_slices_IndexFunc_int.rs (argT G fe_slices_IndexFunc_int.ps x) = fe_slices_IndexFunc_int.fn x := by kernel_rfl
theorem ok_slices_IndexFunc_int : FnOk G 64 fe_slices_IndexFunc_int := fnOk_of G_ok (lstK_ok G_ok (lnil)) Try.func64 (by kernel_rfl) (by kernel_rfl) (by kernel_rfl) (by kernel_rfl) ev_slices_IndexFunc_int

def F_brake_held (s : TSet) (n : Int) : Option (Bool) :=
  ((bif (decide (n ≥ (IntKind.i64.wrap (0 - s.brake)))) then some ((decide (n ≤ s.brake)), ()) else some (false, ())) : Option (Bool × Unit)).bind fun y1 => some y1.1
def an_brake_held : An U := (.node none .nil (.node (some ⟨[], [], ⟨[], []⟩, [(.normal, ⟨[(4, .tv .bool)], []⟩)]⟩) .nil .nil))
def fe_brake_held : Fe G := ⟨[.v .Set, .v .int1], [.bool], fun x => F_brake_held x.1 x.2.1⟩
def tb_brake_held : List (FuncId × Fe G) := []
theorem ev_brake_held (x : TyP G fe_brake_held.ps) : evF G (lstK G tb_brake_held) (bodyOf Try.f66) an_brake_held 16 [.tmp 4] fe_brake_held.rs (argT G fe_brake_held.ps x) = fe_brake_held.fn x := by kernel_rfl
theorem ok_brake_held : FnOk G 66 fe_brake_held := fnOk_of G_ok (lstK_ok G_ok (lnil)) Try.func66 (by kernel_rfl) (by kernel_rfl) (by kernel_rfl) (by kernel_rfl) ev_brake_held

def F_slices_Max_int (x : List Int) : Option (Int) :=
  ((bif (decide (((x.length : Nat) : Int) < 1)) then none else some (())) : Option (Unit)).bind fun y1 => (idx x 0).bind fun x2 => (iterF (σ := Int × Int × Unit) (ρ := Int × Unit) (fun s4 => (bif (decide (s4.2.1 < ((x.length : Nat) : Int))) then (idx x s4.2.1).bind fun x5 => some (.inl ((maxZ s4.1 x5), (IntKind.i64.wrap (s4.2.1 + 1)), ())) else some (.inr (s4.1, ())))) big (x2, 1, ())).bind fun y6 => some y6.1
def an_slices_Max_int : An U := (.node none .nil (.node (some ⟨[0, 2], [], ⟨[], []⟩, [(.normal, ⟨[], []⟩)]⟩) .nil (.node none .nil (.node none (.node none .nil (.node none (.node (some ⟨[0, 2], [], ⟨[(3, .tv .int), (4, .tv .int)], []⟩, [(.exit 0, ⟨[(3, .tv .int)], []⟩)]⟩) .nil .nil) .nil)) .nil))))
def fe_slices_Max_int : Fe G := ⟨[.v .l_int1], [.int1], fun x => F_slices_Max_int x.1⟩
def tb_slices_Max_int : List (FuncId × Fe G) := []
theorem ev_slices_Max_int (x : TyP G fe_slices_Max_int.ps) : evF G (lstK G tb_slices_Max_int) (bodyOf Try.f67) an_slices_Max_int 25 [.tmp 2] fe_slices_Max_int.rs (argT G fe_slices_Max_int.ps x) = fe_slices_Max_int.fn x := by kernel_rfl
theorem ok_slices_Max_int : FnOk G 67 fe_slices_Max_int := fnOk_of G_ok (lstK_ok G_ok (lnil)) Try.func67 (by kernel_rfl) (by kernel_rfl) (by kernel_rfl) (by kernel_rfl) ev_slices_Max_int

def F_slices_Min_int (x : List Int) : Option (Int) :=
  ((bif (decide (((x.length : Nat) : Int) < 1)) then none else some (())) : Option (Unit)).bind fun y1 => (idx x 0).bind fun x2 => (iterF (σ := Int × Int × Unit) (ρ := Int × Unit) (fun s4 => (bif (decide (s4.2.1 < ((x.length : Nat) : Int))) then (idx x s4.2.1).bind fun x5 => some (.inl ((minZ s4.1 x5), (IntKind.i64.wrap (s4.2.1 + 1)), ())) else some (.inr (s4.1, ())))) big (x2, 1, ())).bind fun y6 => some y6.1
def an_slices_Min_int : An U := (.node none .nil (.node (some ⟨[0, 2], [], ⟨[], []⟩, [(.normal, ⟨[], []⟩)]⟩) .nil (.node none .nil (.node none (.node none .nil (.node none (.node (some ⟨[0, 2], [], ⟨[(3, .tv .int), (4, .tv .int)], []⟩, [(.exit 0, ⟨[(3, .tv .int)], []⟩)]⟩) .nil .nil) .nil)) .nil))))
def fe_slices_Min_int : Fe G := ⟨[.v .l_int1], [.int1], fun x => F_slices_Min_int x.1⟩
def tb_slices_Min_int : List (FuncId × Fe G) := []
theorem ev_slices_Min_int (x : TyP G fe_slices_Min_int.ps) : evF G (lstK G tb_slices_Min_int) (bodyOf Try.f68) an_slices_Min_int 25 [.tmp 2] fe_slices_Min_int.rs (argT G fe_slices_Min_int.ps x) = fe_slices_Min_int.fn x := by kernel_rfl
theorem ok_slices_Min_int : FnOk G 68 fe_slices_Min_int := fnOk_of G_ok (lstK_ok G_ok (lnil)) Try.func68 (by kernel_rfl) (by kernel_rfl) (by kernel_rfl) (by kernel_rfl) ev_slices_Min_int

def F_ref21_between (n : Int) (low : Int) (high : Int) : Option (Bool) :=
  ((bif (decide (n ≥ low)) then some ((decide (n ≤ high)), ()) else some (false, ())) : Option (Bool × Unit)).bind fun y1 => some y1.1
def an_ref21_between : An U := (.node none .nil (.node (some ⟨[], [], ⟨[], []⟩, [(.normal, ⟨[(6, .tv .bool)], []⟩)]⟩) .nil .nil))
def fe_ref21_between : Fe G := ⟨[.v .int1, .v .int1, .v .int1], [.bool], fun x => F_ref21_between x.1 x.2.1 x.2.2.1⟩
def tb_ref21_between : List (FuncId × Fe G) := []
theorem ev_ref21_between (x : TyP G fe_ref21_between.ps) : evF G (lstK G tb_ref21_between) (bodyOf Try.f70) an_ref21_between 15 [.tmp 6] fe_ref21_between.rs (argT G fe_ref21_between.ps x) = fe_ref21_between.fn x := by kernel_rfl
theorem ok_ref21_between : FnOk G 70 fe_ref21_between := fnOk_of G_ok (lstK_ok G_ok (lnil)) Try.func70 (by kernel_rfl) (by kernel_rfl) (by kernel_rfl) (by kernel_rfl) ev_ref21_between

def F_brake_State_1 (w : Int) : Option (Bool) :=
  ((bif (decide (w < (-1073741824))) then some (true, ()) else some ((decide (w > 1073741824)), ())) : Option (Bool × Unit)).bind fun y1 => some y1.1
def an_brake_State_1 : An U := (.node none .nil (.node (some ⟨[], [], ⟨[], []⟩, [(.normal, ⟨[(2, .tv .bool)], []⟩)]⟩) .nil .nil))
def fe_brake_State_1 : Fe G := ⟨[.v .int1], [.bool], fun x => F_brake_State_1 x.1⟩
def tb_brake_State_1 : List (FuncId × Fe G) := []
theorem ev_brake_State_1 (x : TyP G fe_brake_State_1.ps) : evF G (lstK G tb_brake_State_1) (bodyOf Try.f75) an_brake_State_1 9 [.tmp 2] fe_brake_State_1.rs (argT G fe_brake_State_1.ps x) = fe_brake_State_1.fn x := by kernel_rfl
theorem ok_brake_State_1 : FnOk G 75 fe_brake_State_1 := fnOk_of G_ok (lstK_ok G_ok (lnil)) Try.func75 (by kernel_rfl) (by kernel_rfl) (by kernel_rfl) (by kernel_rfl) ev_brake_State_1

def F_ref25_Sum (l : List TBrick) (counts : List Int) : Option (Int) :=
  (iterF (σ := Int × Int × Unit) (ρ := Int × Unit) (fun s3 => (bif (decide (s3.2.1 < ((l.length : Nat) : Int))) then (idx l s3.2.1).bind fun x4 => (idx counts s3.2.1).bind fun x5 => some (.inl ((IntKind.i64.wrap (s3.1 + (IntKind.i64.wrap (x4.weight * x5)))), (IntKind.i64.wrap (s3.2.1 + 1)), ())) else some (.inr (s3.1, ())))) big (0, 0, ())).bind fun y6 => some y6.1
def an_ref25_Sum : An U := (.node none .nil (.node none .nil (.node none (.node none .nil (.node none (.node (some ⟨[0, 1, 4], [], ⟨[(5, .tv .int), (6, .tv .int)], []⟩, [(.exit 0, ⟨[(5, .tv .int)], []⟩)]⟩) .nil .nil) .nil)) .nil)))
def fe_ref25_Sum : Fe G := ⟨[.v .l_Brick, .v .l_int1], [.int1], fun x => F_ref25_Sum x.1 x.2.1⟩
def tb_ref25_Sum : List (FuncId × Fe G) := []
theorem ev_ref25_Sum (x : TyP G fe_ref25_Sum.ps) : evF G (lstK G tb_ref25_Sum) (bodyOf Try.f77) an_ref25_Sum 26 [.tmp 4] fe_ref25_Sum.rs (argT G fe_ref25_Sum.ps x) = fe_ref25_Sum.fn x := by kernel_rfl
theorem ok_ref25_Sum : FnOk G 77 fe_ref25_Sum := fnOk_of G_ok (lstK_ok G_ok (lnil)) Try.func77 (by kernel_rfl) (by kernel_rfl) (by kernel_rfl) (by kernel_rfl) ev_ref25_Sum

def F_ref25_Counts (l : List TBrick) : Option ((List Int)) :=
  (iterF (σ := Int × List Int × Unit) (ρ := List Int × Unit) (fun s3 => (bif (decide (s3.1 < ((l.length : Nat) : Int))) then (idx l s3.1).bind fun x4 => (if s3.2.1.length + ([x4.count] : List Int).length ≤ 2147483648 then some (.inl ((IntKind.i64.wrap (s3.1 + 1)), (s3.2.1 ++ ([x4.count] : List Int)), ())) else none) else some (.inr (s3.2.1, ())))) big (0, ([] : List Int), ())).bind fun y5 => some y5.1
def an_ref25_Counts : An U := (.node none .nil (.node none .nil (.node none (.node none .nil (.node none (.node (some ⟨[0, 2], [1], ⟨[(3, .os 1), (4, .tv .int)], [(1, .row .int1)]⟩, [(.exit 0, ⟨[(3, .os 1)], [(1, .row .int1)]⟩)]⟩) .nil .nil) .nil)) .nil)))
def fe_ref25_Counts : Fe G := ⟨[.v .l_Brick], [.l_int1], fun x => F_ref25_Counts x.1⟩
def tb_ref25_Counts : List (FuncId × Fe G) := []
theorem ev_ref25_Counts (x : TyP G fe_ref25_Counts.ps) : evF G (lstK G tb_ref25_Counts) (bodyOf Try.f78) an_ref25_Counts 20 [.tmp 2] fe_ref25_Counts.rs (argT G fe_ref25_Counts.ps x) = fe_ref25_Counts.fn x := by kernel_rfl
theorem ok_ref25_Counts : FnOk G 78 fe_ref25_Counts := fnOk_of G_ok (lstK_ok G_ok (lnil)) Try.func78 (by kernel_rfl) (by kernel_rfl) (by kernel_rfl) (by kernel_rfl) ev_ref25_Counts

def F_arbor_there (s : TSet) : Option (Int × Int) :=
  (iterF (σ := Int × Int × Int × Unit) (ρ := Int × Int × Unit) (fun s2 => (bif (decide (s2.2.2.1 < ((s.bricks.length : Nat) : Int))) then (idx s.bricks s2.2.2.1).bind fun x3 => some (.inl ((IntKind.i64.wrap (s2.1 + (IntKind.i64.wrap (x3.weight * x3.count)))), (IntKind.i64.wrap (s2.2.1 + x3.count)), (IntKind.i64.wrap (s2.2.2.1 + 1)), ())) else some (.inr (s2.1, s2.2.1, ())))) big (0, 0, 0, ())).bind fun y4 => some (y4.1, y4.2.1)
def an_arbor_there : An U := (.node none .nil (.node none (.node none .nil (.node none (.node (some ⟨[7, 8], [], ⟨[(2, .tv .int), (3, .tv .int), (9, .tv .int)], []⟩, [(.exit 0, ⟨[(2, .tv .int), (3, .tv .int)], []⟩)]⟩) .nil .nil) .nil)) .nil))
def fe_arbor_there : Fe G := ⟨[.v .Set], [.int1, .int1], fun x => F_arbor_there x.1⟩
def tb_arbor_there : List (FuncId × Fe G) := []
theorem ev_arbor_there (x : TyP G fe_arbor_there.ps) : evF G (lstK G tb_arbor_there) (bodyOf Try.f80) an_arbor_there 25 [.tmp 2, .tmp 3] fe_arbor_there.rs (argT G fe_arbor_there.ps x) = fe_arbor_there.fn x := by kernel_rfl
theorem ok_arbor_there : FnOk G 80 fe_arbor_there := fnOk_of G_ok (lstK_ok G_ok (lnil)) Try.func80 (by kernel_rfl) (by kernel_rfl) (by kernel_rfl) (by kernel_rfl) ev_arbor_there

def F_law28_example : Option (TSet × (List TJob)) :=
  some ((TSet.mk (⟨#[115]⟩ : ByteArray) 0 0 5000 2000 ([0, 2000] : List Int) 0 0 1 500 100 ([] : List TItem) ([] : List TBrick)), ([(TJob.mk (⟨#[97]⟩ : ByteArray) true 150), (TJob.mk (⟨#[98]⟩ : ByteArray) false 100), (TJob.mk (⟨#[99]⟩ : ByteArray) false 50)] : List TJob))
def an_law28_example : An U := .nil
def fe_law28_example : Fe G := ⟨[], [.Set, .l_Job], fun x => F_law28_example⟩
def tb_law28_example : List (FuncId × Fe G) := []
theorem ev_law28_example (x : TyP G fe_law28_example.ps) : evF G (lstK G tb_law28_example) (bodyOf Try.f81) an_law28_example 10 [.cell 0 26, .tmp 1] fe_law28_example.rs (argT G fe_law28_example.ps x) = fe_law28_example.fn x := by kernel_rfl
theorem ok_law28_example : FnOk G 81 fe_law28_example := fnOk_of G_ok (lstK_ok G_ok (lnil)) Try.func81 (by kernel_rfl) (by kernel_rfl) (by kernel_rfl) (by kernel_rfl) ev_law28_example

def F_loadin_lattice__whole (l : Tlattice) : Option (Int) :=
  (if l.n < 0 then none else some (IntKind.i64.wrap ((IntKind.i64.wrap (1 * 2 ^ min (Int.toNat l.n) IntKind.i64.bits)) - 1)))
def an_loadin_lattice__whole : An U := .nil
def fe_loadin_lattice__whole : Fe G := ⟨[.rp .lattice], [.int1], fun x => F_loadin_lattice__whole x.1⟩
def tb_loadin_lattice__whole : List (FuncId × Fe G) := []
theorem ev_loadin_lattice__whole (x : TyP G fe_loadin_lattice__whole.ps) : evF G (lstK G tb_loadin_lattice__whole) (bodyOf Try.f83) an_loadin_lattice__whole 9 [.tmp 2] fe_loadin_lattice__whole.rs (argT G fe_loadin_lattice__whole.ps x) = fe_loadin_lattice__whole.fn x := by kernel_rfl
theorem ok_loadin_lattice__whole : FnOk G 83 fe_loadin_lattice__whole := fnOk_of G_ok (lstK_ok G_ok (lnil)) Try.func83 (by kernel_rfl) (by kernel_rfl) (by kernel_rfl) (by kernel_rfl) ev_loadin_lattice__whole

def F_law28_long_1 (x : TJob) : Option (Bool) :=
  some (decide (((x.name.size : Nat) : Int) > 60))
def an_law28_long_1 : An U := .nil
def fe_law28_long_1 : Fe G := ⟨[.v .Job], [.bool], fun x => F_law28_long_1 x.1⟩
def tb_law28_long_1 : List (FuncId × Fe G) := []
theorem ev_law28_long_1 (x : TyP G fe_law28_long_1.ps) : evF G (lstK G tb_law28_long_1) (bodyOf Try.f85) an_law28_long_1 7 [.tmp 2] fe_law28_long_1.rs (argT G fe_law28_long_1.ps x) = fe_law28_long_1.fn x := by kernel_rfl
theorem ok_law28_long_1 : FnOk G 85 fe_law28_long_1 := fnOk_of G_ok (lstK_ok G_ok (lnil)) Try.func85 (by kernel_rfl) (by kernel_rfl) (by kernel_rfl) (by kernel_rfl) ev_law28_long_1

def F_ref28_has (state : Int) (i : Int) : Option (Bool) :=
  (if i < 0 then none else some ((bitsOf .and .i64 (state.fdiv (2 ^ min (Int.toNat i) IntKind.i64.bits)) 1) == 1))
def an_ref28_has : An U := .nil
def fe_ref28_has : Fe G := ⟨[.v .int1, .v .int1], [.bool], fun x => F_ref28_has x.1 x.2.1⟩
def tb_ref28_has : List (FuncId × Fe G) := []
theorem ev_ref28_has (x : TyP G fe_ref28_has.ps) : evF G (lstK G tb_ref28_has) (bodyOf Try.f88) an_ref28_has 10 [.tmp 4] fe_ref28_has.rs (argT G fe_ref28_has.ps x) = fe_ref28_has.fn x := by kernel_rfl
theorem ok_ref28_has : FnOk G 88 fe_ref28_has := fnOk_of G_ok (lstK_ok G_ok (lnil)) Try.func88 (by kernel_rfl) (by kernel_rfl) (by kernel_rfl) (by kernel_rfl) ev_ref28_has

def F_loadin_lattice__any (l : Tlattice) (state : Int) (holds : Int → Option Bool) : Option (Bool) :=
  (iterF (σ := Int × Unit) (ρ := (Bool × Unit) ⊕ (Unit)) (fun s2 => (bif (decide (s2.1 < l.n)) then (holds s2.1).bind fun r3 => (bif r3 then some (.inr (.inl (true, ()))) else some (.inl ((IntKind.i64.wrap (s2.1 + 1)), ()))) else some (.inr (.inr ((())))))) big (0, ())).bind fun y4 => (match y4 with | .inl y5 => some y5.1 | .inr y6 => some false)
def an_loadin_lattice__any : An U := (.node none .nil (.node none (.node none .nil (.node none (.node (some ⟨[2, 11], [], ⟨[(12, .tv .int)], []⟩, [(.ret, ⟨[(6, .tv .bool)], []⟩), (.exit 0, ⟨[], []⟩)]⟩) .nil .nil) .nil)) .nil))
def fe_loadin_lattice__any : Fe G := ⟨[.rp .lattice, .v .int1, .fn .int1 .bool], [.bool], fun x => F_loadin_lattice__any x.1 x.2.1 x.2.2.1⟩
def tb_loadin_lattice__any : List (FuncId × Fe G) := []
theorem ev_loadin_lattice__any (x : TyP G fe_loadin_lattice__any.ps) : evF G (lstK G tb_loadin_lattice__any) (bodyOf Try.f89) an_loadin_lattice__any 19 [.tmp 6] fe_loadin_lattice__any.rs (argT G fe_loadin_lattice__any.ps x) = fe_loadin_lattice__any.fn x := by kernel_rfl
theorem ok_loadin_lattice__any : FnOk G 89 fe_loadin_lattice__any := fnOk_of G_ok (lstK_ok G_ok (lnil)) Try.func89 (by kernel_rfl) (by kernel_rfl) (by kernel_rfl) (by kernel_rfl) ev_loadin_lattice__any

def F_ref01_Letter (c : Int) : Option (Bool) :=
  ((bif (decide (c ≥ 97)) then (bif (decide (c ≤ 122)) then some (true, ()) else (bif (decide (c ≥ 65)) then some ((decide (c ≤ 90)), ()) else some (false, ()))) else (bif (decide (c ≥ 65)) then some ((decide (c ≤ 90)), ()) else some (false, ()))) : Option (Bool × Unit)).bind fun y1 => some y1.1
def an_ref01_Letter : An U := (.node none .nil (.node (some ⟨[], [], ⟨[], []⟩, [(.normal, ⟨[(2, .tv .bool)], []⟩)]⟩) .nil .nil))
def fe_ref01_Letter : Fe G := ⟨[.v .u8], [.bool], fun x => F_ref01_Letter x.1⟩
def tb_ref01_Letter : List (FuncId × Fe G) := []
theorem ev_ref01_Letter (x : TyP G fe_ref01_Letter.ps) : evF G (lstK G tb_ref01_Letter) (bodyOf Try.f96) an_ref01_Letter 17 [.tmp 2] fe_ref01_Letter.rs (argT G fe_ref01_Letter.ps x) = fe_ref01_Letter.fn x := by kernel_rfl
theorem ok_ref01_Letter : FnOk G 96 fe_ref01_Letter := fnOk_of G_ok (lstK_ok G_ok (lnil)) Try.func96 (by kernel_rfl) (by kernel_rfl) (by kernel_rfl) (by kernel_rfl) ev_ref01_Letter

def F_decimal_letter (c : Int) : Option (Bool) :=
  ((bif (decide (c ≥ 97)) then (bif (decide (c ≤ 122)) then some (true, ()) else (bif (decide (c ≥ 65)) then some ((decide (c ≤ 90)), ()) else some (false, ()))) else (bif (decide (c ≥ 65)) then some ((decide (c ≤ 90)), ()) else some (false, ()))) : Option (Bool × Unit)).bind fun y1 => some y1.1
def an_decimal_letter : An U := (.node none .nil (.node (some ⟨[], [], ⟨[], []⟩, [(.normal, ⟨[(2, .tv .bool)], []⟩)]⟩) .nil .nil))
def fe_decimal_letter : Fe G := ⟨[.v .u8], [.bool], fun x => F_decimal_letter x.1⟩
def tb_decimal_letter : List (FuncId × Fe G) := []
theorem ev_decimal_letter (x : TyP G fe_decimal_letter.ps) : evF G (lstK G tb_decimal_letter) (bodyOf Try.f98) an_decimal_letter 17 [.tmp 2] fe_decimal_letter.rs (argT G fe_decimal_letter.ps x) = fe_decimal_letter.fn x := by kernel_rfl
theorem ok_decimal_letter : FnOk G 98 fe_decimal_letter := fnOk_of G_ok (lstK_ok G_ok (lnil)) Try.func98 (by kernel_rfl) (by kernel_rfl) (by kernel_rfl) (by kernel_rfl) ev_decimal_letter

def F_ref21_Apart (x : TItem) (y : TItem) : Option (Bool) :=
  ((bif (decide ((IntKind.i64.wrap (x.at_ + x.width)) ≤ y.at_)) then some (true, ()) else some ((decide ((IntKind.i64.wrap (y.at_ + y.width)) ≤ x.at_)), ())) : Option (Bool × Unit)).bind fun y1 => some y1.1
def an_ref21_Apart : An U := (.node none .nil (.node (some ⟨[], [], ⟨[], []⟩, [(.normal, ⟨[(4, .tv .bool)], []⟩)]⟩) .nil .nil))
def fe_ref21_Apart : Fe G := ⟨[.v .Item, .v .Item], [.bool], fun x => F_ref21_Apart x.1 x.2.1⟩
def tb_ref21_Apart : List (FuncId × Fe G) := []
theorem ev_ref21_Apart (x : TyP G fe_ref21_Apart.ps) : evF G (lstK G tb_ref21_Apart) (bodyOf Try.f101) an_ref21_Apart 23 [.tmp 4] fe_ref21_Apart.rs (argT G fe_ref21_Apart.ps x) = fe_ref21_Apart.fn x := by kernel_rfl
theorem ok_ref21_Apart : FnOk G 101 fe_ref21_Apart := fnOk_of G_ok (lstK_ok G_ok (lnil)) Try.func101 (by kernel_rfl) (by kernel_rfl) (by kernel_rfl) (by kernel_rfl) ev_ref21_Apart

def F_batten_between (n : Int) (low : Int) (high : Int) : Option (Bool) :=
  ((bif (decide (n ≥ low)) then some ((decide (n ≤ high)), ()) else some (false, ())) : Option (Bool × Unit)).bind fun y1 => some y1.1
def an_batten_between : An U := (.node none .nil (.node (some ⟨[], [], ⟨[], []⟩, [(.normal, ⟨[(6, .tv .bool)], []⟩)]⟩) .nil .nil))
def fe_batten_between : Fe G := ⟨[.v .int1, .v .int1, .v .int1], [.bool], fun x => F_batten_between x.1 x.2.1 x.2.2.1⟩
def tb_batten_between : List (FuncId × Fe G) := []
theorem ev_batten_between (x : TyP G fe_batten_between.ps) : evF G (lstK G tb_batten_between) (bodyOf Try.f102) an_batten_between 15 [.tmp 6] fe_batten_between.rs (argT G fe_batten_between.ps x) = fe_batten_between.fn x := by kernel_rfl
theorem ok_batten_between : FnOk G 102 fe_batten_between := fnOk_of G_ok (lstK_ok G_ok (lnil)) Try.func102 (by kernel_rfl) (by kernel_rfl) (by kernel_rfl) (by kernel_rfl) ev_batten_between

def F_slices_IndexFunc_api_Job (s : List TJob) (f : TJob → Option Bool) : Option (Int) :=
  (iterF (σ := Int × Unit) (ρ := (Int × Unit) ⊕ (Unit)) (fun s3 => (bif (decide (s3.1 < ((s.length : Nat) : Int))) then (idx s s3.1).bind fun x4 => (f x4).bind fun r5 => (bif r5 then some (.inr (.inl (s3.1, ()))) else some (.inl ((IntKind.i64.wrap (s3.1 + 1)), ()))) else some (.inr (.inr ((())))))) big (0, ())).bind fun y6 => (match y6 with | .inl y7 => some y7.1 | .inr y8 => some (-1))
def an_slices_IndexFunc_api_Job : An U := (.node none .nil (.node none (.node none .nil (.node none (.node (some ⟨[0, 1, 7], [], ⟨[(8, .tv .int)], []⟩, [(.ret, ⟨[(4, .tv .int)], []⟩), (.exit 0, ⟨[], []⟩)]⟩) .nil .nil) .nil)) .nil))
def fe_slices_IndexFunc_api_Job : Fe G := ⟨[.v .l_Job, .fn .Job .bool], [.int1], fun x => F_slices_IndexFunc_api_Job x.1 x.2.1⟩
def tb_slices_IndexFunc_api_Job : List (FuncId × Fe G) := []
theorem ev_slices_IndexFunc_api_Job (x : TyP G fe_slices_IndexFunc_api_Job.ps) : evF G (lstK G tb_slices_IndexFunc_api_Job) (bodyOf Try.f110) an_slices_IndexFunc_api_Job 19 [.tmp 4] fe_slices_IndexFunc_api_Job.rs (argT G fe_slices_IndexFunc_api_Job.ps x) = fe_slices_IndexFunc_api_Job.fn x := by kernel_rfl
theorem ok_slices_IndexFunc_api_Job : FnOk G 110 fe_slices_IndexFunc_api_Job := fnOk_of G_ok (lstK_ok G_ok (lnil)) Try.func110 (by kernel_rfl) (by kernel_rfl) (by kernel_rfl) (by kernel_rfl) ev_slices_IndexFunc_api_Job

def F_cmp_isNaN_int (x : Int) : Option (Bool) :=
  some (x != x)
def an_cmp_isNaN_int : An U := .nil
def fe_cmp_isNaN_int : Fe G := ⟨[.v .int1], [.bool], fun x => F_cmp_isNaN_int x.1⟩
def tb_cmp_isNaN_int : List (FuncId × Fe G) := []
theorem ev_cmp_isNaN_int (x : TyP G fe_cmp_isNaN_int.ps) : evF G (lstK G tb_cmp_isNaN_int) (bodyOf Try.f111) an_cmp_isNaN_int 6 [.tmp 2] fe_cmp_isNaN_int.rs (argT G fe_cmp_isNaN_int.ps x) = fe_cmp_isNaN_int.fn x := by kernel_rfl
theorem ok_cmp_isNaN_int : FnOk G 111 fe_cmp_isNaN_int := fnOk_of G_ok (lstK_ok G_ok (lnil)) Try.func111 (by kernel_rfl) (by kernel_rfl) (by kernel_rfl) (by kernel_rfl) ev_cmp_isNaN_int

def F_ref01_Digit (c : Int) : Option (Bool) :=
  ((bif (decide (c ≥ 48)) then some ((decide (c ≤ 57)), ()) else some (false, ())) : Option (Bool × Unit)).bind fun y1 => some y1.1
def an_ref01_Digit : An U := (.node none .nil (.node (some ⟨[], [], ⟨[], []⟩, [(.normal, ⟨[(2, .tv .bool)], []⟩)]⟩) .nil .nil))
def fe_ref01_Digit : Fe G := ⟨[.v .u8], [.bool], fun x => F_ref01_Digit x.1⟩
def tb_ref01_Digit : List (FuncId × Fe G) := []
theorem ev_ref01_Digit (x : TyP G fe_ref01_Digit.ps) : evF G (lstK G tb_ref01_Digit) (bodyOf Try.f112) an_ref01_Digit 9 [.tmp 2] fe_ref01_Digit.rs (argT G fe_ref01_Digit.ps x) = fe_ref01_Digit.fn x := by kernel_rfl
theorem ok_ref01_Digit : FnOk G 112 fe_ref01_Digit := fnOk_of G_ok (lstK_ok G_ok (lnil)) Try.func112 (by kernel_rfl) (by kernel_rfl) (by kernel_rfl) (by kernel_rfl) ev_ref01_Digit

def F_decimal_digit (c : Int) : Option (Bool) :=
  ((bif (decide (c ≥ 48)) then some ((decide (c ≤ 57)), ()) else some (false, ())) : Option (Bool × Unit)).bind fun y1 => some y1.1
def an_decimal_digit : An U := (.node none .nil (.node (some ⟨[], [], ⟨[], []⟩, [(.normal, ⟨[(2, .tv .bool)], []⟩)]⟩) .nil .nil))
def fe_decimal_digit : Fe G := ⟨[.v .u8], [.bool], fun x => F_decimal_digit x.1⟩
def tb_decimal_digit : List (FuncId × Fe G) := []
theorem ev_decimal_digit (x : TyP G fe_decimal_digit.ps) : evF G (lstK G tb_decimal_digit) (bodyOf Try.f113) an_decimal_digit 9 [.tmp 2] fe_decimal_digit.rs (argT G fe_decimal_digit.ps x) = fe_decimal_digit.fn x := by kernel_rfl
theorem ok_decimal_digit : FnOk G 113 fe_decimal_digit := fnOk_of G_ok (lstK_ok G_ok (lnil)) Try.func113 (by kernel_rfl) (by kernel_rfl) (by kernel_rfl) (by kernel_rfl) ev_decimal_digit

def F_batten_twice_api_Item (l : List TItem) (name : TItem → Option ByteArray) : Option (Bool) :=
  (iterF (σ := Int × List (ByteArray × Bool) × Unit) (ρ := List (ByteArray × Bool) × Unit) (fun s5 => (bif (decide (s5.1 < ((l.length : Nat) : Int))) then (idx l s5.1).bind fun x6 => (name x6).bind fun r7 => (if r7.size ≤ 2147483648 ∧ s5.2.1.length ≤ 2147483648 then some (.inl ((IntKind.i64.wrap (s5.1 + 1)), (setM r7 true s5.2.1), ())) else none) else some (.inr (s5.2.1, ())))) big (0, ([] : List (ByteArray × Bool)), ())).bind fun y8 => some (decide (((y8.1.length : Nat) : Int) < ((l.length : Nat) : Int)))
def an_batten_twice_api_Item : An U := (.node none .nil (.node none .nil (.node none (.node none .nil (.node none (.node (some ⟨[0, 1, 4, 5, 9, 10], [0], ⟨[(11, .tv .int)], [(0, .map 118 false)]⟩, [(.exit 0, ⟨[], [(0, .map 118 false)]⟩)]⟩) .nil .nil) .nil)) .nil)))
def fe_batten_twice_api_Item : Fe G := ⟨[.v .l_Item, .fn .Item .str], [.bool], fun x => F_batten_twice_api_Item x.1 x.2.1⟩
def tb_batten_twice_api_Item : List (FuncId × Fe G) := []
theorem ev_batten_twice_api_Item (x : TyP G fe_batten_twice_api_Item.ps) : evF G (lstK G tb_batten_twice_api_Item) (bodyOf Try.f114) an_batten_twice_api_Item 26 [.tmp 4] fe_batten_twice_api_Item.rs (argT G fe_batten_twice_api_Item.ps x) = fe_batten_twice_api_Item.fn x := by kernel_rfl
theorem ok_batten_twice_api_Item : FnOk G 114 fe_batten_twice_api_Item := fnOk_of G_ok (lstK_ok G_ok (lnil)) Try.func114 (by kernel_rfl) (by kernel_rfl) (by kernel_rfl) (by kernel_rfl) ev_batten_twice_api_Item

def F_batten_items_1 (x : TItem) : Option (ByteArray) :=
  some x.name
def an_batten_items_1 : An U := .nil
def fe_batten_items_1 : Fe G := ⟨[.v .Item], [.str], fun x => F_batten_items_1 x.1⟩
def tb_batten_items_1 : List (FuncId × Fe G) := []
theorem ev_batten_items_1 (x : TyP G fe_batten_items_1.ps) : evF G (lstK G tb_batten_items_1) (bodyOf Try.f115) an_batten_items_1 5 [.tmp 2] fe_batten_items_1.rs (argT G fe_batten_items_1.ps x) = fe_batten_items_1.fn x := by kernel_rfl
theorem ok_batten_items_1 : FnOk G 115 fe_batten_items_1 := fnOk_of G_ok (lstK_ok G_ok (lnil)) Try.func115 (by kernel_rfl) (by kernel_rfl) (by kernel_rfl) (by kernel_rfl) ev_batten_items_1

def F_batten_apart (a : TItem) (b : TItem) : Option (Bool) :=
  ((bif (decide ((IntKind.i64.wrap (a.at_ + a.width)) ≤ b.at_)) then some (true, ()) else some ((decide ((IntKind.i64.wrap (b.at_ + b.width)) ≤ a.at_)), ())) : Option (Bool × Unit)).bind fun y1 => some y1.1
def an_batten_apart : An U := (.node none .nil (.node (some ⟨[], [], ⟨[], []⟩, [(.normal, ⟨[(4, .tv .bool)], []⟩)]⟩) .nil .nil))
def fe_batten_apart : Fe G := ⟨[.v .Item, .v .Item], [.bool], fun x => F_batten_apart x.1 x.2.1⟩
def tb_batten_apart : List (FuncId × Fe G) := []
theorem ev_batten_apart (x : TyP G fe_batten_apart.ps) : evF G (lstK G tb_batten_apart) (bodyOf Try.f120) an_batten_apart 23 [.tmp 4] fe_batten_apart.rs (argT G fe_batten_apart.ps x) = fe_batten_apart.fn x := by kernel_rfl
theorem ok_batten_apart : FnOk G 120 fe_batten_apart := fnOk_of G_ok (lstK_ok G_ok (lnil)) Try.func120 (by kernel_rfl) (by kernel_rfl) (by kernel_rfl) (by kernel_rfl) ev_batten_apart

def F_batten_twice_api_Brick (l : List TBrick) (name : TBrick → Option ByteArray) : Option (Bool) :=
  (iterF (σ := Int × List (ByteArray × Bool) × Unit) (ρ := List (ByteArray × Bool) × Unit) (fun s5 => (bif (decide (s5.1 < ((l.length : Nat) : Int))) then (idx l s5.1).bind fun x6 => (name x6).bind fun r7 => (if r7.size ≤ 2147483648 ∧ s5.2.1.length ≤ 2147483648 then some (.inl ((IntKind.i64.wrap (s5.1 + 1)), (setM r7 true s5.2.1), ())) else none) else some (.inr (s5.2.1, ())))) big (0, ([] : List (ByteArray × Bool)), ())).bind fun y8 => some (decide (((y8.1.length : Nat) : Int) < ((l.length : Nat) : Int)))
def an_batten_twice_api_Brick : An U := (.node none .nil (.node none .nil (.node none (.node none .nil (.node none (.node (some ⟨[0, 1, 4, 5, 9, 10], [0], ⟨[(11, .tv .int)], [(0, .map 118 false)]⟩, [(.exit 0, ⟨[], [(0, .map 118 false)]⟩)]⟩) .nil .nil) .nil)) .nil)))
def fe_batten_twice_api_Brick : Fe G := ⟨[.v .l_Brick, .fn .Brick .str], [.bool], fun x => F_batten_twice_api_Brick x.1 x.2.1⟩
def tb_batten_twice_api_Brick : List (FuncId × Fe G) := []
theorem ev_batten_twice_api_Brick (x : TyP G fe_batten_twice_api_Brick.ps) : evF G (lstK G tb_batten_twice_api_Brick) (bodyOf Try.f121) an_batten_twice_api_Brick 26 [.tmp 4] fe_batten_twice_api_Brick.rs (argT G fe_batten_twice_api_Brick.ps x) = fe_batten_twice_api_Brick.fn x := by kernel_rfl
theorem ok_batten_twice_api_Brick : FnOk G 121 fe_batten_twice_api_Brick := fnOk_of G_ok (lstK_ok G_ok (lnil)) Try.func121 (by kernel_rfl) (by kernel_rfl) (by kernel_rfl) (by kernel_rfl) ev_batten_twice_api_Brick

def F_batten_bricks_1 (b : TBrick) : Option (ByteArray) :=
  some b.name
def an_batten_bricks_1 : An U := .nil
def fe_batten_bricks_1 : Fe G := ⟨[.v .Brick], [.str], fun x => F_batten_bricks_1 x.1⟩
def tb_batten_bricks_1 : List (FuncId × Fe G) := []
theorem ev_batten_bricks_1 (x : TyP G fe_batten_bricks_1.ps) : evF G (lstK G tb_batten_bricks_1) (bodyOf Try.f122) an_batten_bricks_1 5 [.tmp 2] fe_batten_bricks_1.rs (argT G fe_batten_bricks_1.ps x) = fe_batten_bricks_1.fn x := by kernel_rfl
theorem ok_batten_bricks_1 : FnOk G 122 fe_batten_bricks_1 := fnOk_of G_ok (lstK_ok G_ok (lnil)) Try.func122 (by kernel_rfl) (by kernel_rfl) (by kernel_rfl) (by kernel_rfl) ev_batten_bricks_1

def F_ref21_Pipe (s : TSet) : Option (Int) :=
  some (IntKind.i64.wrap (s.pipe * (IntKind.i64.wrap (s.length.tdiv 1000))))
def an_ref21_Pipe : An U := .nil
def fe_ref21_Pipe : Fe G := ⟨[.v .Set], [.int1], fun x => F_ref21_Pipe x.1⟩
def tb_ref21_Pipe : List (FuncId × Fe G) := []
theorem ev_ref21_Pipe (x : TyP G fe_ref21_Pipe.ps) : evF G (lstK G tb_ref21_Pipe) (bodyOf Try.f123) an_ref21_Pipe 9 [.tmp 2] fe_ref21_Pipe.rs (argT G fe_ref21_Pipe.ps x) = fe_ref21_Pipe.fn x := by kernel_rfl
theorem ok_ref21_Pipe : FnOk G 123 fe_ref21_Pipe := fnOk_of G_ok (lstK_ok G_ok (lnil)) Try.func123 (by kernel_rfl) (by kernel_rfl) (by kernel_rfl) (by kernel_rfl) ev_ref21_Pipe
end Go.Proofs.Ytmdghocpelkcoaa
