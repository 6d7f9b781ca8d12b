/- Joined by merge.py: Fn0. -/
import Derived.Test.YtkagmdfhodbfmaaGreatM03
/- Functions, as plain data. Printed by mkev.py. -/
namespace Go.Proofs.YtkagmdfhodbfmaaGreat
open Go.RowKit
set_option linter.unusedVariables false
set_option linter.unusedSimpArgs false
noncomputable section

def F_slices_Equal_api_Frac (s1_ : List TFrac) (s2_ : List TFrac) : Option (Bool) :=
  (bif (((s1_.length : Nat) : Int) != ((s2_.length : Nat) : Int)) then some false else (iterF (σ := Int × Unit) (ρ := (Bool × Unit) ⊕ (Unit)) (fun s3 => (bif (decide (s3.1 < ((s1_.length : Nat) : Int))) then (idx s1_ s3.1).bind fun x4 => (idx s2_ s3.1).bind fun x5 => (bif (!((x4.num == x5.num) && (x4.den == x5.den))) then some (.inr (.inl (false, ()))) else some (.inl ((IntKind.i64.wrap (s3.1 + 1)), ()))) else some (.inr (.inr ((())))))) big (0, ())).bind fun y6 => (match y6 with | .inl y7 => some y7.1 | .inr y8 => some true))
def an_slices_Equal_api_Frac : An U := (.node none .nil (.node none .nil (.node none (.node none .nil (.node none (.node (some ⟨[0, 1, 12], [], ⟨[(13, .tv .int)], []⟩, [(.ret, ⟨[(4, .tv .bool)], []⟩), (.exit 0, ⟨[], []⟩)]⟩) .nil .nil) .nil)) .nil)))
def fe_slices_Equal_api_Frac : Fe G := ⟨[.v .l_Frac, .v .l_Frac], [.bool], fun x => F_slices_Equal_api_Frac x.1 x.2.1⟩
def tb_slices_Equal_api_Frac : List (FuncId × Fe G) := []
theorem ev_slices_Equal_api_Frac (x : TyP G fe_slices_Equal_api_Frac.ps) : evF G (lstK G tb_slices_Equal_api_Frac) (bodyOf Tryz.f15) an_slices_Equal_api_Frac 26 [.tmp 4] fe_slices_Equal_api_Frac.rs (argT G fe_slices_Equal_api_Frac.ps x) = fe_slices_Equal_api_Frac.fn x := by kernel_rfl
theorem ok_slices_Equal_api_Frac : FnOk G 15 fe_slices_Equal_api_Frac := fnOk_of G_ok (lstK_ok G_ok (lnil)) Tryz.func15 (by kernel_rfl) (by kernel_rfl) (by kernel_rfl) (by kernel_rfl) (by kernel_rfl) ev_slices_Equal_api_Frac

def F_slices_Equal_api_Span (s1_ : List TSpan) (s2_ : List TSpan) : Option (Bool) :=
  (bif (((s1_.length : Nat) : Int) != ((s2_.length : Nat) : Int)) then some false else (iterF (σ := Int × Unit) (ρ := (Bool × Unit) ⊕ (Unit)) (fun s3 => (bif (decide (s3.1 < ((s1_.length : Nat) : Int))) then (idx s1_ s3.1).bind fun x4 => (idx s2_ s3.1).bind fun x5 => (bif (!((x4.lo == x5.lo) && (x4.hi == x5.hi))) then some (.inr (.inl (false, ()))) else some (.inl ((IntKind.i64.wrap (s3.1 + 1)), ()))) else some (.inr (.inr ((())))))) big (0, ())).bind fun y6 => (match y6 with | .inl y7 => some y7.1 | .inr y8 => some true))
def an_slices_Equal_api_Span : An U := (.node none .nil (.node none .nil (.node none (.node none .nil (.node none (.node (some ⟨[0, 1, 12], [], ⟨[(13, .tv .int)], []⟩, [(.ret, ⟨[(4, .tv .bool)], []⟩), (.exit 0, ⟨[], []⟩)]⟩) .nil .nil) .nil)) .nil)))
def fe_slices_Equal_api_Span : Fe G := ⟨[.v .l_Span, .v .l_Span], [.bool], fun x => F_slices_Equal_api_Span x.1 x.2.1⟩
def tb_slices_Equal_api_Span : List (FuncId × Fe G) := []
theorem ev_slices_Equal_api_Span (x : TyP G fe_slices_Equal_api_Span.ps) : evF G (lstK G tb_slices_Equal_api_Span) (bodyOf Tryz.f24) an_slices_Equal_api_Span 26 [.tmp 4] fe_slices_Equal_api_Span.rs (argT G fe_slices_Equal_api_Span.ps x) = fe_slices_Equal_api_Span.fn x := by kernel_rfl
theorem ok_slices_Equal_api_Span : FnOk G 24 fe_slices_Equal_api_Span := fnOk_of G_ok (lstK_ok G_ok (lnil)) Tryz.func24 (by kernel_rfl) (by kernel_rfl) (by kernel_rfl) (by kernel_rfl) (by kernel_rfl) ev_slices_Equal_api_Span

def F_ref21_SameBeam (a : TBeam) (b : TBeam) : Option (Bool) :=
  ((bif (!(a.name.toList == b.name.toList)) then some (true, ()) else (bif (a.length != b.length) then some (true, ()) else (bif (a.even != b.even) then some (true, ()) else (bif (((a.supports.length : Nat) : Int) != ((b.supports.length : Nat) : Int)) then some (true, ()) else some ((((a.loads.length : Nat) : Int) != ((b.loads.length : Nat) : Int)), ()))))) : Option (Bool × Unit)).bind fun y1 => (bif y1.1 then some false else (iterF (σ := Int × Unit) (ρ := (Bool × Unit) ⊕ (Unit)) (fun s4 => (bif (decide (s4.1 < ((a.supports.length : Nat) : Int))) then (idx a.supports s4.1).bind fun x5 => (idx b.supports s4.1).bind fun x6 => (bif (x5 != x6) then some (.inr (.inl (false, ()))) else some (.inl ((IntKind.i64.wrap (s4.1 + 1)), ()))) else some (.inr (.inr ((())))))) big (0, ())).bind fun y7 => (match y7 with | .inl y8 => some y8.1 | .inr y9 => (iterF (σ := Int × Unit) (ρ := (Bool × Unit) ⊕ (Unit)) (fun s12 => (bif (decide (s12.1 < ((a.loads.length : Nat) : Int))) then (idx a.loads s12.1).bind fun x13 => (idx b.loads s12.1).bind fun x14 => (bif (!((x13.at_ == x14.at_) && (x13.weight == x14.weight))) then some (.inr (.inl (false, ()))) else some (.inl ((IntKind.i64.wrap (s12.1 + 1)), ()))) else some (.inr (.inr ((())))))) big (0, ())).bind fun y15 => (match y15 with | .inl y16 => some y16.1 | .inr y17 => some true)))
def an_ref21_SameBeam : An U := (.node none .nil (.node none (.node (some ⟨[2, 3, 4], [], ⟨[], []⟩, [(.normal, ⟨[(43, .tv .bool)], []⟩)]⟩) .nil .nil) (.node none (.node none .nil (.node none (.node (some ⟨[2, 3], [], ⟨[(5, .tv .int)], []⟩, [(.ret, ⟨[(4, .tv .bool)], []⟩), (.exit 0, ⟨[], []⟩)]⟩) .nil .nil) .nil)) (.node none (.node none .nil (.node none (.node (some ⟨[2, 3], [], ⟨[(6, .tv .int)], []⟩, [(.ret, ⟨[(4, .tv .bool)], []⟩), (.exit 2, ⟨[], []⟩)]⟩) .nil .nil) .nil)) .nil))))
def fe_ref21_SameBeam : Fe G := ⟨[.v .Beam, .v .Beam], [.bool], fun x => F_ref21_SameBeam x.1 x.2.1⟩
def tb_ref21_SameBeam : List (FuncId × Fe G) := []
theorem ev_ref21_SameBeam (x : TyP G fe_ref21_SameBeam.ps) : evF G (lstK G tb_ref21_SameBeam) (bodyOf Tryz.f28) an_ref21_SameBeam 80 [.tmp 4] fe_ref21_SameBeam.rs (argT G fe_ref21_SameBeam.ps x) = fe_ref21_SameBeam.fn x := by kernel_rfl
theorem ok_ref21_SameBeam : FnOk G 28 fe_ref21_SameBeam := fnOk_of G_ok (lstK_ok G_ok (lnil)) Tryz.func28 (by kernel_rfl) (by kernel_rfl) (by kernel_rfl) (by kernel_rfl) (by kernel_rfl) ev_ref21_SameBeam

def F_law21_f (n : Int) : Option (TFrac) :=
  some (TFrac.mk n 1)
def an_law21_f : An U := .nil
def fe_law21_f : Fe G := ⟨[.v .int1], [.Frac], fun x => F_law21_f x.1⟩
def tb_law21_f : List (FuncId × Fe G) := []
theorem ev_law21_f (x : TyP G fe_law21_f.ps) : evF G (lstK G tb_law21_f) (bodyOf Tryz.f38) an_law21_f 5 [.cell 2 37] fe_law21_f.rs (argT G fe_law21_f.ps x) = fe_law21_f.fn x := by kernel_rfl
theorem ok_law21_f : FnOk G 38 fe_law21_f := fnOk_of G_ok (lstK_ok G_ok (lnil)) Tryz.func38 (by kernel_rfl) (by kernel_rfl) (by kernel_rfl) (by kernel_rfl) (by kernel_rfl) ev_law21_f

def F_law21_example : Option (TSet) :=
  some (TSet.mk (⟨#[97]⟩ : ByteArray) 0 0 9000 4000 ([0, 4000] : List Int) 500 0 1 1 0 ([(TItem.mk (⟨#[120]⟩ : ByteArray) 900 201 600 0 0 0)] : List TItem) ([] : List TBrick))
def an_law21_example : An U := .nil
def fe_law21_example : Fe G := ⟨[], [.Set], fun x => F_law21_example⟩
def tb_law21_example : List (FuncId × Fe G) := []
theorem ev_law21_example (x : TyP G fe_law21_example.ps) : evF G (lstK G tb_law21_example) (bodyOf Tryz.f41) an_law21_example 5 [.cell 0 26] fe_law21_example.rs (argT G fe_law21_example.ps x) = fe_law21_example.fn x := by kernel_rfl
theorem ok_law21_example : FnOk G 41 fe_law21_example := fnOk_of G_ok (lstK_ok G_ok (lnil)) Tryz.func41 (by kernel_rfl) (by kernel_rfl) (by kernel_rfl) (by kernel_rfl) (by kernel_rfl) ev_law21_example

def F_ref21_Small (s : TSet) (most : Int) : Option (Bool) :=
  ((bif (decide (((s.name.size : Nat) : Int) > 60)) then some (true, ()) else (bif (decide (((s.lines.length : Nat) : Int) > 12)) then some (true, ()) else (bif (decide (((s.items.length : Nat) : Int) > most)) then (bif (decide (((s.items.length : Nat) : Int) ≤ 40)) then some (true, ()) else (bif (decide (((s.items.length : Nat) : Int) > 45)) then some (true, ()) else some ((decide (((s.bricks.length : Nat) : Int) > 10)), ()))) else (bif (decide (((s.items.length : Nat) : Int) > 45)) then some (true, ()) else some ((decide (((s.bricks.length : Nat) : Int) > 10)), ()))))) : Option (Bool × Unit)).bind fun y1 => (bif y1.1 then some false else (iterF (σ := Int × Unit) (ρ := (Bool × Unit) ⊕ (Unit)) (fun s3 => (bif (decide (s3.1 < ((s.items.length : Nat) : Int))) then (idx s.items s3.1).bind fun x4 => (bif (decide (((x4.name.size : Nat) : Int) > 60)) then some (.inr (.inl (false, ()))) else some (.inl ((IntKind.i64.wrap (s3.1 + 1)), ()))) else some (.inr (.inr ((())))))) big (0, ())).bind fun y5 => (match y5 with | .inl y6 => some y6.1 | .inr y7 => (iterF (σ := Int × Unit) (ρ := (Bool × Unit) ⊕ (Unit)) (fun s9 => (bif (decide (s9.1 < ((s.bricks.length : Nat) : Int))) then (idx s.bricks s9.1).bind fun x10 => (bif (decide (((x10.name.size : Nat) : Int) > 60)) then some (.inr (.inl (false, ()))) else some (.inl ((IntKind.i64.wrap (s9.1 + 1)), ()))) else some (.inr (.inr ((())))))) big (0, ())).bind fun y11 => (match y11 with | .inl y12 => some y12.1 | .inr y13 => some true)))
def an_ref21_Small : An U := (.node none .nil (.node none (.node (some ⟨[2, 4], [], ⟨[], []⟩, [(.normal, ⟨[(41, .tv .bool)], []⟩)]⟩) .nil .nil) (.node none (.node none .nil (.node none (.node (some ⟨[2], [], ⟨[(5, .tv .int)], []⟩, [(.ret, ⟨[(4, .tv .bool)], []⟩), (.exit 0, ⟨[], []⟩)]⟩) .nil .nil) .nil)) (.node none (.node none .nil (.node none (.node (some ⟨[2], [], ⟨[(6, .tv .int)], []⟩, [(.ret, ⟨[(4, .tv .bool)], []⟩), (.exit 2, ⟨[], []⟩)]⟩) .nil .nil) .nil)) .nil))))
def fe_ref21_Small : Fe G := ⟨[.v .Set, .v .int1], [.bool], fun x => F_ref21_Small x.1 x.2.1⟩
def tb_ref21_Small : List (FuncId × Fe G) := []
theorem ev_ref21_Small (x : TyP G fe_ref21_Small.ps) : evF G (lstK G tb_ref21_Small) (bodyOf Tryz.f42) an_ref21_Small 72 [.tmp 4] fe_ref21_Small.rs (argT G fe_ref21_Small.ps x) = fe_ref21_Small.fn x := by kernel_rfl
theorem ok_ref21_Small : FnOk G 42 fe_ref21_Small := fnOk_of G_ok (lstK_ok G_ok (lnil)) Tryz.func42 (by kernel_rfl) (by kernel_rfl) (by kernel_rfl) (by kernel_rfl) (by kernel_rfl) ev_ref21_Small

def F_ref21_between (n : Int) (low : Int) (high : Int) : Option (Bool) :=
  ((bif (decide (n ≥ low)) then some ((decide (n ≤ high)), ()) else some (false, ())) : Option (Bool × Unit)).bind fun y1 => some y1.1
def an_ref21_between : An U := (.node none .nil (.node (some ⟨[], [], ⟨[], []⟩, [(.normal, ⟨[(6, .tv .bool)], []⟩)]⟩) .nil .nil))
def fe_ref21_between : Fe G := ⟨[.v .int1, .v .int1, .v .int1], [.bool], fun x => F_ref21_between x.1 x.2.1 x.2.2.1⟩
def tb_ref21_between : List (FuncId × Fe G) := []
theorem ev_ref21_between (x : TyP G fe_ref21_between.ps) : evF G (lstK G tb_ref21_between) (bodyOf Tryz.f46) an_ref21_between 15 [.tmp 6] fe_ref21_between.rs (argT G fe_ref21_between.ps x) = fe_ref21_between.fn x := by kernel_rfl
theorem ok_ref21_between : FnOk G 46 fe_ref21_between := fnOk_of G_ok (lstK_ok G_ok (lnil)) Tryz.func46 (by kernel_rfl) (by kernel_rfl) (by kernel_rfl) (by kernel_rfl) (by kernel_rfl) ev_ref21_between

def F_batten_between (n : Int) (low : Int) (high : Int) : Option (Bool) :=
  ((bif (decide (n ≥ low)) then some ((decide (n ≤ high)), ()) else some (false, ())) : Option (Bool × Unit)).bind fun y1 => some y1.1
def an_batten_between : An U := (.node none .nil (.node (some ⟨[], [], ⟨[], []⟩, [(.normal, ⟨[(6, .tv .bool)], []⟩)]⟩) .nil .nil))
def fe_batten_between : Fe G := ⟨[.v .int1, .v .int1, .v .int1], [.bool], fun x => F_batten_between x.1 x.2.1 x.2.2.1⟩
def tb_batten_between : List (FuncId × Fe G) := []
theorem ev_batten_between (x : TyP G fe_batten_between.ps) : evF G (lstK G tb_batten_between) (bodyOf Tryz.f57) an_batten_between 15 [.tmp 6] fe_batten_between.rs (argT G fe_batten_between.ps x) = fe_batten_between.fn x := by kernel_rfl
theorem ok_batten_between : FnOk G 57 fe_batten_between := fnOk_of G_ok (lstK_ok G_ok (lnil)) Tryz.func57 (by kernel_rfl) (by kernel_rfl) (by kernel_rfl) (by kernel_rfl) (by kernel_rfl) ev_batten_between

def F_slices_IndexFunc_api_Item (s : List TItem) (f : TItem → Option Bool) : Option (Int) :=
  (iterF (σ := Int × Unit) (ρ := (Int × Unit) ⊕ (Unit)) (fun s3 => (bif (decide (s3.1 < ((s.length : Nat) : Int))) then (idx s s3.1).bind fun x4 => (f x4).bind fun r5 => (bif r5 then some (.inr (.inl (s3.1, ()))) else some (.inl ((IntKind.i64.wrap (s3.1 + 1)), ()))) else some (.inr (.inr ((())))))) big (0, ())).bind fun y6 => (match y6 with | .inl y7 => some y7.1 | .inr y8 => some (-1))
def an_slices_IndexFunc_api_Item : An U := (.node none .nil (.node none (.node none .nil (.node none (.node (some ⟨[0, 1, 7], [], ⟨[(8, .tv .int)], []⟩, [(.ret, ⟨[(4, .tv .int)], []⟩), (.exit 0, ⟨[], []⟩)]⟩) .nil .nil) .nil)) .nil))
def fe_slices_IndexFunc_api_Item : Fe G := ⟨[.v .l_Item, .fn .Item .bool], [.int1], fun x => F_slices_IndexFunc_api_Item x.1 x.2.1⟩
def tb_slices_IndexFunc_api_Item : List (FuncId × Fe G) := []
theorem ev_slices_IndexFunc_api_Item (x : TyP G fe_slices_IndexFunc_api_Item.ps) : evF G (lstK G tb_slices_IndexFunc_api_Item) (bodyOf Tryz.f61) an_slices_IndexFunc_api_Item 19 [.tmp 4] fe_slices_IndexFunc_api_Item.rs (argT G fe_slices_IndexFunc_api_Item.ps x) = fe_slices_IndexFunc_api_Item.fn x := by kernel_rfl
theorem ok_slices_IndexFunc_api_Item : FnOk G 61 fe_slices_IndexFunc_api_Item := fnOk_of G_ok (lstK_ok G_ok (lnil)) Tryz.func61 (by kernel_rfl) (by kernel_rfl) (by kernel_rfl) (by kernel_rfl) (by kernel_rfl) ev_slices_IndexFunc_api_Item

def F_ref02_Size (n : Int) : Option (Int) :=
  (bif (decide (n < 0)) then some (IntKind.u64.wrap (0 - (IntKind.u64.wrap n))) else some (IntKind.u64.wrap n))
def an_ref02_Size : An U := .nil
def fe_ref02_Size : Fe G := ⟨[.v .int1], [.u64], fun x => F_ref02_Size x.1⟩
def tb_ref02_Size : List (FuncId × Fe G) := []
theorem ev_ref02_Size (x : TyP G fe_ref02_Size.ps) : evF G (lstK G tb_ref02_Size) (bodyOf Tryz.f64) an_ref02_Size 10 [.tmp 2] fe_ref02_Size.rs (argT G fe_ref02_Size.ps x) = fe_ref02_Size.fn x := by kernel_rfl
theorem ok_ref02_Size : FnOk G 64 fe_ref02_Size := fnOk_of G_ok (lstK_ok G_ok (lnil)) Tryz.func64 (by kernel_rfl) (by kernel_rfl) (by kernel_rfl) (by kernel_rfl) (by kernel_rfl) ev_ref02_Size

def F_ref02_Plus (a : TU) (b : TU) : Option (TU) :=
  ((bif (decide ((IntKind.u64.wrap (a.l + b.l)) < a.l)) then some ((IntKind.u64.wrap ((IntKind.u64.wrap (a.h + b.h)) + 1)), ()) else some ((IntKind.u64.wrap (a.h + b.h)), ())) : Option (Int × Unit)).bind fun y1 => some (TU.mk y1.1 (IntKind.u64.wrap (a.l + b.l)))
def an_ref02_Plus : An U := (.node none .nil (.node none .nil (.node none .nil (.node (some ⟨[4, 5], [], ⟨[], []⟩, [(.normal, ⟨[(6, .tv .u64)], []⟩)]⟩) .nil .nil))))
def fe_ref02_Plus : Fe G := ⟨[.v .U, .v .U], [.U], fun x => F_ref02_Plus x.1 x.2.1⟩
def tb_ref02_Plus : List (FuncId × Fe G) := []
theorem ev_ref02_Plus (x : TyP G fe_ref02_Plus.ps) : evF G (lstK G tb_ref02_Plus) (bodyOf Tryz.f66) an_ref02_Plus 26 [.cell 4 101] fe_ref02_Plus.rs (argT G fe_ref02_Plus.ps x) = fe_ref02_Plus.fn x := by kernel_rfl
theorem ok_ref02_Plus : FnOk G 66 fe_ref02_Plus := fnOk_of G_ok (lstK_ok G_ok (lnil)) Tryz.func66 (by kernel_rfl) (by kernel_rfl) (by kernel_rfl) (by kernel_rfl) (by kernel_rfl) ev_ref02_Plus

def F_ref02_Less (a : TU) (b : TU) : Option (Bool) :=
  ((bif (decide (a.h < b.h)) then some (true, ()) else (bif (a.h == b.h) then some ((decide (a.l < b.l)), ()) else some (false, ()))) : Option (Bool × Unit)).bind fun y1 => some y1.1
def an_ref02_Less : An U := (.node none .nil (.node (some ⟨[], [], ⟨[], []⟩, [(.normal, ⟨[(4, .tv .bool)], []⟩)]⟩) .nil .nil))
def fe_ref02_Less : Fe G := ⟨[.v .U, .v .U], [.bool], fun x => F_ref02_Less x.1 x.2.1⟩
def tb_ref02_Less : List (FuncId × Fe G) := []
theorem ev_ref02_Less (x : TyP G fe_ref02_Less.ps) : evF G (lstK G tb_ref02_Less) (bodyOf Tryz.f67) an_ref02_Less 24 [.tmp 4] fe_ref02_Less.rs (argT G fe_ref02_Less.ps x) = fe_ref02_Less.fn x := by kernel_rfl
theorem ok_ref02_Less : FnOk G 67 fe_ref02_Less := fnOk_of G_ok (lstK_ok G_ok (lnil)) Tryz.func67 (by kernel_rfl) (by kernel_rfl) (by kernel_rfl) (by kernel_rfl) (by kernel_rfl) ev_ref02_Less

def F_ref02_Minus (a : TU) (b : TU) : Option (TU) :=
  ((bif (decide (a.l < b.l)) then some ((IntKind.u64.wrap ((IntKind.u64.wrap (a.h - b.h)) - 1)), ()) else some ((IntKind.u64.wrap (a.h - b.h)), ())) : Option (Int × Unit)).bind fun y1 => some (TU.mk y1.1 (IntKind.u64.wrap (a.l - b.l)))
def an_ref02_Minus : An U := (.node none .nil (.node none .nil (.node (some ⟨[2, 3, 4], [], ⟨[], []⟩, [(.normal, ⟨[(5, .tv .u64)], []⟩)]⟩) .nil .nil)))
def fe_ref02_Minus : Fe G := ⟨[.v .U, .v .U], [.U], fun x => F_ref02_Minus x.1 x.2.1⟩
def tb_ref02_Minus : List (FuncId × Fe G) := []
theorem ev_ref02_Minus (x : TyP G fe_ref02_Minus.ps) : evF G (lstK G tb_ref02_Minus) (bodyOf Tryz.f68) an_ref02_Minus 25 [.cell 4 101] fe_ref02_Minus.rs (argT G fe_ref02_Minus.ps x) = fe_ref02_Minus.fn x := by kernel_rfl
theorem ok_ref02_Minus : FnOk G 68 fe_ref02_Minus := fnOk_of G_ok (lstK_ok G_ok (lnil)) Tryz.func68 (by kernel_rfl) (by kernel_rfl) (by kernel_rfl) (by kernel_rfl) (by kernel_rfl) ev_ref02_Minus

def F_batten_pipe (s : TSet) : Option (Int) :=
  some (IntKind.i64.wrap (s.pipe * (IntKind.i64.wrap (s.length.tdiv 1000))))
def an_batten_pipe : An U := .nil
def fe_batten_pipe : Fe G := ⟨[.v .Set], [.int1], fun x => F_batten_pipe x.1⟩
def tb_batten_pipe : List (FuncId × Fe G) := []
theorem ev_batten_pipe (x : TyP G fe_batten_pipe.ps) : evF G (lstK G tb_batten_pipe) (bodyOf Tryz.f69) an_batten_pipe 9 [.tmp 2] fe_batten_pipe.rs (argT G fe_batten_pipe.ps x) = fe_batten_pipe.fn x := by kernel_rfl
theorem ok_batten_pipe : FnOk G 69 fe_batten_pipe := fnOk_of G_ok (lstK_ok G_ok (lnil)) Tryz.func69 (by kernel_rfl) (by kernel_rfl) (by kernel_rfl) (by kernel_rfl) (by kernel_rfl) ev_batten_pipe

def F_batten_middle (x : TItem) : Option (Int) :=
  some (IntKind.i64.wrap (x.at_ + (IntKind.i64.wrap (x.width.tdiv 2))))
def an_batten_middle : An U := .nil
def fe_batten_middle : Fe G := ⟨[.v .Item], [.int1], fun x => F_batten_middle x.1⟩
def tb_batten_middle : List (FuncId × Fe G) := []
theorem ev_batten_middle (x : TyP G fe_batten_middle.ps) : evF G (lstK G tb_batten_middle) (bodyOf Tryz.f70) an_batten_middle 9 [.tmp 2] fe_batten_middle.rs (argT G fe_batten_middle.ps x) = fe_batten_middle.fn x := by kernel_rfl
theorem ok_batten_middle : FnOk G 70 fe_batten_middle := fnOk_of G_ok (lstK_ok G_ok (lnil)) Tryz.func70 (by kernel_rfl) (by kernel_rfl) (by kernel_rfl) (by kernel_rfl) (by kernel_rfl) ev_batten_middle

def F_ref21_Pipe (s : TSet) : Option (Int) :=
  some (IntKind.i64.wrap (s.pipe * (IntKind.i64.wrap (s.length.tdiv 1000))))
def an_ref21_Pipe : An U := .nil
def fe_ref21_Pipe : Fe G := ⟨[.v .Set], [.int1], fun x => F_ref21_Pipe x.1⟩
def tb_ref21_Pipe : List (FuncId × Fe G) := []
theorem ev_ref21_Pipe (x : TyP G fe_ref21_Pipe.ps) : evF G (lstK G tb_ref21_Pipe) (bodyOf Tryz.f72) an_ref21_Pipe 9 [.tmp 2] fe_ref21_Pipe.rs (argT G fe_ref21_Pipe.ps x) = fe_ref21_Pipe.fn x := by kernel_rfl
theorem ok_ref21_Pipe : FnOk G 72 fe_ref21_Pipe := fnOk_of G_ok (lstK_ok G_ok (lnil)) Tryz.func72 (by kernel_rfl) (by kernel_rfl) (by kernel_rfl) (by kernel_rfl) (by kernel_rfl) ev_ref21_Pipe

def F_ref21_Middle (x : TItem) : Option (Int) :=
  some (IntKind.i64.wrap (x.at_ + (IntKind.i64.wrap (x.width.tdiv 2))))
def an_ref21_Middle : An U := .nil
def fe_ref21_Middle : Fe G := ⟨[.v .Item], [.int1], fun x => F_ref21_Middle x.1⟩
def tb_ref21_Middle : List (FuncId × Fe G) := []
theorem ev_ref21_Middle (x : TyP G fe_ref21_Middle.ps) : evF G (lstK G tb_ref21_Middle) (bodyOf Tryz.f73) an_ref21_Middle 9 [.tmp 2] fe_ref21_Middle.rs (argT G fe_ref21_Middle.ps x) = fe_ref21_Middle.fn x := by kernel_rfl
theorem ok_ref21_Middle : FnOk G 73 fe_ref21_Middle := fnOk_of G_ok (lstK_ok G_ok (lnil)) Tryz.func73 (by kernel_rfl) (by kernel_rfl) (by kernel_rfl) (by kernel_rfl) (by kernel_rfl) ev_ref21_Middle

def F_batten_apart (a : TItem) (b : TItem) : Option (Bool) :=
  ((bif (decide ((IntKind.i64.wrap (a.at_ + a.width)) ≤ b.at_)) then some (true, ()) else some ((decide ((IntKind.i64.wrap (b.at_ + b.width)) ≤ a.at_)), ())) : Option (Bool × Unit)).bind fun y1 => some y1.1
def an_batten_apart : An U := (.node none .nil (.node (some ⟨[], [], ⟨[], []⟩, [(.normal, ⟨[(4, .tv .bool)], []⟩)]⟩) .nil .nil))
def fe_batten_apart : Fe G := ⟨[.v .Item, .v .Item], [.bool], fun x => F_batten_apart x.1 x.2.1⟩
def tb_batten_apart : List (FuncId × Fe G) := []
theorem ev_batten_apart (x : TyP G fe_batten_apart.ps) : evF G (lstK G tb_batten_apart) (bodyOf Tryz.f79) an_batten_apart 23 [.tmp 4] fe_batten_apart.rs (argT G fe_batten_apart.ps x) = fe_batten_apart.fn x := by kernel_rfl
theorem ok_batten_apart : FnOk G 79 fe_batten_apart := fnOk_of G_ok (lstK_ok G_ok (lnil)) Tryz.func79 (by kernel_rfl) (by kernel_rfl) (by kernel_rfl) (by kernel_rfl) (by kernel_rfl) ev_batten_apart

def F_ref21_Apart (x : TItem) (y : TItem) : Option (Bool) :=
  ((bif (decide ((IntKind.i64.wrap (x.at_ + x.width)) ≤ y.at_)) then some (true, ()) else some ((decide ((IntKind.i64.wrap (y.at_ + y.width)) ≤ x.at_)), ())) : Option (Bool × Unit)).bind fun y1 => some y1.1
def an_ref21_Apart : An U := (.node none .nil (.node (some ⟨[], [], ⟨[], []⟩, [(.normal, ⟨[(4, .tv .bool)], []⟩)]⟩) .nil .nil))
def fe_ref21_Apart : Fe G := ⟨[.v .Item, .v .Item], [.bool], fun x => F_ref21_Apart x.1 x.2.1⟩
def tb_ref21_Apart : List (FuncId × Fe G) := []
theorem ev_ref21_Apart (x : TyP G fe_ref21_Apart.ps) : evF G (lstK G tb_ref21_Apart) (bodyOf Tryz.f82) an_ref21_Apart 23 [.tmp 4] fe_ref21_Apart.rs (argT G fe_ref21_Apart.ps x) = fe_ref21_Apart.fn x := by kernel_rfl
theorem ok_ref21_Apart : FnOk G 82 fe_ref21_Apart := fnOk_of G_ok (lstK_ok G_ok (lnil)) Tryz.func82 (by kernel_rfl) (by kernel_rfl) (by kernel_rfl) (by kernel_rfl) (by kernel_rfl) ev_ref21_Apart

def F_ratio_gcd (a : Int) (b : Int) : Option (Int) :=
  (iterF (σ := Int × Int × Unit) (ρ := Int × Unit) (fun s1 => (bif (s1.2.1 != 0) then (if s1.2.1 = 0 then none else some (.inl (s1.2.1, (s1.1.tmod s1.2.1), ()))) else some (.inr (s1.1, ())))) big (a, b, ())).bind fun y2 => some y2.1
def an_ratio_gcd : An U := (.node none .nil (.node none (.node none (.node (some ⟨[4], [], ⟨[(0, .tv .u64), (1, .tv .u64)], []⟩, [(.exit 0, ⟨[(0, .tv .u64)], []⟩)]⟩) .nil .nil) .nil) .nil))
def fe_ratio_gcd : Fe G := ⟨[.v .u64, .v .u64], [.u64], fun x => F_ratio_gcd x.1 x.2.1⟩
def tb_ratio_gcd : List (FuncId × Fe G) := []
theorem ev_ratio_gcd (x : TyP G fe_ratio_gcd.ps) : evF G (lstK G tb_ratio_gcd) (bodyOf Tryz.f86) an_ratio_gcd 12 [.tmp 4] fe_ratio_gcd.rs (argT G fe_ratio_gcd.ps x) = fe_ratio_gcd.fn x := by kernel_rfl
theorem ok_ratio_gcd : FnOk G 86 fe_ratio_gcd := fnOk_of G_ok (lstK_ok G_ok (lnil)) Tryz.func86 (by kernel_rfl) (by kernel_rfl) (by kernel_rfl) (by kernel_rfl) (by kernel_rfl) ev_ratio_gcd

def F_ratio_size (n : Int) : Option (Int) :=
  (bif (decide (n < 0)) then some (IntKind.u64.wrap (0 - (IntKind.u64.wrap n))) else some (IntKind.u64.wrap n))
def an_ratio_size : An U := .nil
def fe_ratio_size : Fe G := ⟨[.v .int1], [.u64], fun x => F_ratio_size x.1⟩
def tb_ratio_size : List (FuncId × Fe G) := []
theorem ev_ratio_size (x : TyP G fe_ratio_size.ps) : evF G (lstK G tb_ratio_size) (bodyOf Tryz.f87) an_ratio_size 10 [.tmp 2] fe_ratio_size.rs (argT G fe_ratio_size.ps x) = fe_ratio_size.fn x := by kernel_rfl
theorem ok_ratio_size : FnOk G 87 fe_ratio_size := fnOk_of G_ok (lstK_ok G_ok (lnil)) Tryz.func87 (by kernel_rfl) (by kernel_rfl) (by kernel_rfl) (by kernel_rfl) (by kernel_rfl) ev_ratio_size

def F_ratio_signed (negative : Bool) (num : Int) (den : Int) : Option (TFrac × Int) :=
  ((bif (decide (num > 1152921504606846976)) then some (true, ()) else some ((decide (den > 1152921504606846976)), ())) : Option (Bool × Unit)).bind fun y1 => (bif y1.1 then some ((TFrac.mk 0 0), 5) else ((bif negative then some ((IntKind.i64.wrap (0 - (IntKind.i64.wrap num))), ()) else some ((IntKind.i64.wrap num), ())) : Option (Int × Unit)).bind fun y2 => some ((TFrac.mk y2.1 (IntKind.i64.wrap den)), 0))
def an_ratio_signed : An U := (.node none .nil (.node none (.node (some ⟨[0, 1, 2, 6, 7], [], ⟨[], []⟩, [(.normal, ⟨[(14, .tv .bool)], []⟩)]⟩) .nil .nil) (.node none .nil (.node (some ⟨[2, 6, 7], [], ⟨[], []⟩, [(.normal, ⟨[(8, .tv .int)], []⟩)]⟩) .nil .nil))))
def fe_ratio_signed : Fe G := ⟨[.v .bool, .v .u64, .v .u64], [.Frac, .Errno], fun x => F_ratio_signed x.1 x.2.1 x.2.2.1⟩
def tb_ratio_signed : List (FuncId × Fe G) := []
theorem ev_ratio_signed (x : TyP G fe_ratio_signed.ps) : evF G (lstK G tb_ratio_signed) (bodyOf Tryz.f89) an_ratio_signed 25 [.cell 6 37, .tmp 7] fe_ratio_signed.rs (argT G fe_ratio_signed.ps x) = fe_ratio_signed.fn x := by kernel_rfl
theorem ok_ratio_signed : FnOk G 89 fe_ratio_signed := fnOk_of G_ok (lstK_ok G_ok (lnil)) Tryz.func89 (by kernel_rfl) (by kernel_rfl) (by kernel_rfl) (by kernel_rfl) (by kernel_rfl) ev_ratio_signed

def F_slices_Clone_int (s : List Int) : Option ((List Int)) :=
  (if ([] : List Int).length + s.length ≤ 2147483648 then some (([] : List Int) ++ s) else none)
def fe_slices_Clone_int : Fe G := ⟨[.v .l_int1], [.l_int1], fun x => F_slices_Clone_int x.1⟩
theorem ok_slices_Clone_int : FnOk G 93 fe_slices_Clone_int := clone_ok G_ok (lstK_ok G_ok lnil) Tryz.func93 (by kernel_rfl) (by kernel_rfl) (k := 8) (by kernel_rfl) (by decide) (res := [.tmp 2]) (by kernel_rfl) (by kernel_rfl) (t := 22) (by kernel_rfl) (u := .int1) (lu := .l_int1) (by kernel_rfl) (cast := fun x => x) (fun _ => by kernel_rfl) (F := F_slices_Clone_int) (fun _ => by kernel_rfl) (fun x y hx h => by obtain rfl : x = ([] : List Int) := hx; rw [← h]; kernel_rfl)

def F_ref01_Letter (c : Int) : Option (Bool) :=
  ((bif (decide (c ≥ 97)) then (bif (decide (c ≤ 122)) then some (true, ()) else (bif (decide (c ≥ 65)) then some ((decide (c ≤ 90)), ()) else some (false, ()))) else (bif (decide (c ≥ 65)) then some ((decide (c ≤ 90)), ()) else some (false, ()))) : Option (Bool × Unit)).bind fun y1 => some y1.1
def an_ref01_Letter : An U := (.node none .nil (.node (some ⟨[], [], ⟨[], []⟩, [(.normal, ⟨[(2, .tv .bool)], []⟩)]⟩) .nil .nil))
def fe_ref01_Letter : Fe G := ⟨[.v .u8], [.bool], fun x => F_ref01_Letter x.1⟩
def tb_ref01_Letter : List (FuncId × Fe G) := []
theorem ev_ref01_Letter (x : TyP G fe_ref01_Letter.ps) : evF G (lstK G tb_ref01_Letter) (bodyOf Tryz.f94) an_ref01_Letter 17 [.tmp 2] fe_ref01_Letter.rs (argT G fe_ref01_Letter.ps x) = fe_ref01_Letter.fn x := by kernel_rfl
theorem ok_ref01_Letter : FnOk G 94 fe_ref01_Letter := fnOk_of G_ok (lstK_ok G_ok (lnil)) Tryz.func94 (by kernel_rfl) (by kernel_rfl) (by kernel_rfl) (by kernel_rfl) (by kernel_rfl) ev_ref01_Letter

def F_slices_Values___api_Item_api_Item__1 (yield : TItem → Option Bool) (a1 : List TItem) : Option (Unit) :=
  (iterF (σ := Int × Unit) (ρ := (Unit) ⊕ (Unit)) (fun s3 => (bif (decide (s3.1 < ((a1.length : Nat) : Int))) then (idx a1 s3.1).bind fun x4 => (yield x4).bind fun r5 => (bif (!r5) then some (.inr (.inl (()))) else some (.inl ((IntKind.i64.wrap (s3.1 + 1)), ()))) else some (.inr (.inr ((())))))) big (0, ())).bind fun y6 => (match y6 with | .inl y7 => some () | .inr y8 => some ())
def an_slices_Values___api_Item_api_Item__1 : An U := (.node none .nil (.node none (.node (some ⟨[0, 5, 6], [], ⟨[(7, .tv .int)], []⟩, [(.ret, ⟨[], []⟩), (.exit 0, ⟨[], []⟩)]⟩) .nil .nil) .nil))
def fe_slices_Values___api_Item_api_Item__1 : Fe G := ⟨[.fn .Item .bool, .rp .l_Item], [], fun x => F_slices_Values___api_Item_api_Item__1 x.1 x.2.1⟩
def tb_slices_Values___api_Item_api_Item__1 : List (FuncId × Fe G) := []
theorem ev_slices_Values___api_Item_api_Item__1 (x : TyP G fe_slices_Values___api_Item_api_Item__1.ps) : evF G (lstK G tb_slices_Values___api_Item_api_Item__1) (bodyOf Tryz.f108) an_slices_Values___api_Item_api_Item__1 16 [] fe_slices_Values___api_Item_api_Item__1.rs (argT G fe_slices_Values___api_Item_api_Item__1.ps x) = fe_slices_Values___api_Item_api_Item__1.fn x := by kernel_rfl
theorem ok_slices_Values___api_Item_api_Item__1 : FnOk G 108 fe_slices_Values___api_Item_api_Item__1 := fnOk_of G_ok (lstK_ok G_ok (lnil)) Tryz.func108 (by kernel_rfl) (by kernel_rfl) (by kernel_rfl) (by kernel_rfl) (by kernel_rfl) ev_slices_Values___api_Item_api_Item__1
end
end Go.Proofs.YtkagmdfhodbfmaaGreat
