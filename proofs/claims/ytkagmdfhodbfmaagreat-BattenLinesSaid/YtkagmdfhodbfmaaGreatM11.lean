/- Joined by merge.py: Fn7. -/
import Derived.Test.YtkagmdfhodbfmaaGreatM10
/- Functions, as plain data. Printed by mkev.py. -/
namespace Go.Proofs.YtkagmdfhodbfmaaGreat
open Go.RowKit
set_option linter.unusedVariables false
set_option linter.unusedSimpArgs false
noncomputable section

def F_ref21_Lines (s : TSet) : Option ((List TFrac) × Int) :=
  (F_ref21_Beam s).bind fun r1 => (F_ref20_Given r1).bind fun r2 => (bif (r2 != 0) then some (([] : List TFrac), r2) else (F_ref20_Reactions r1).bind fun r3 => (F_ref20_Told r3).bind fun r4 => some (r4.1, r4.2))
def an_ref21_Lines : An U := .nil
def fe_ref21_Lines : Fe G := ⟨[.v .Set], [.l_Frac, .int1], fun x => F_ref21_Lines x.1⟩
def tb_ref21_Lines : List (FuncId × Fe G) := [(30, fe_ref21_Beam), (49, fe_ref20_Given), (50, fe_ref20_Told), (51, fe_ref20_Reactions)]
theorem ev_ref21_Lines (x : TyP G fe_ref21_Lines.ps) : evF G (lstK G tb_ref21_Lines) (bodyOf Tryz.f14) an_ref21_Lines 18 [.tmp 2, .tmp 3] fe_ref21_Lines.rs (argT G fe_ref21_Lines.ps x) = fe_ref21_Lines.fn x := by kernel_rfl
theorem ok_ref21_Lines : FnOk G 14 fe_ref21_Lines := fnOk_of G_ok (lstK_ok G_ok (lcons ok_ref21_Beam (lcons ok_ref20_Given (lcons ok_ref20_Told (lcons ok_ref20_Reactions (lnil)))))) Tryz.func14 (by kernel_rfl) (by kernel_rfl) (by kernel_rfl) (by kernel_rfl) (by kernel_rfl) ev_ref21_Lines

def F_beam_given (b : TBeam) : Option ((List Texact) × Int) :=
  (F_beam_Valid b).bind fun r1 => (bif (!r1) then some (([] : List Texact), 1) else (F_beam_moments b).bind fun r2 => (bif (!r2.2) then some (([] : List Texact), 22) else some (r2.1, 0)))
def an_beam_given : An U := .nil
def fe_beam_given : Fe G := ⟨[.v .Beam], [.l_exact, .Errno], fun x => F_beam_given x.1⟩
def tb_beam_given : List (FuncId × Fe G) := [(122, fe_beam_Valid), (123, fe_beam_moments)]
theorem ev_beam_given (x : TyP G fe_beam_given.ps) : evZ G (lstK G tb_beam_given) (bodyOf Tryz.f90) an_beam_given 17 [.tmp 2, .tmp 3] fe_beam_given.rs (argT G fe_beam_given.ps x) = fe_beam_given.fn x := by kernel_rfl
theorem ok_beam_given : FnOk G 90 fe_beam_given := fnOkz_of G_ok (fun _ => lstK_ok G_ok (lcons ok_beam_Valid (lcons ok_beam_moments (lnil)))) Tryz.func90 (by kernel_rfl) (by kernel_rfl) (by kernel_rfl) (by kernel_rfl) (by kernel_rfl) ev_beam_given

def F_beam_Reactions (b : TBeam) : Option ((List TFrac) × Int) :=
  (F_beam_given b).bind fun r1 => (bif (r1.2 != 0) then some (([] : List TFrac), r1.2) else (F_beam_reactions b r1.1).bind fun r2 => (F_beam_fractions r2).bind fun r3 => some (r3.1, r3.2))
def an_beam_Reactions : An U := .nil
def fe_beam_Reactions : Fe G := ⟨[.v .Beam], [.l_Frac, .Errno], fun x => F_beam_Reactions x.1⟩
def tb_beam_Reactions : List (FuncId × Fe G) := [(90, fe_beam_given), (91, fe_beam_fractions), (92, fe_beam_reactions)]
theorem ev_beam_Reactions (x : TyP G fe_beam_Reactions.ps) : evF G (lstK G tb_beam_Reactions) (bodyOf Tryz.f43) an_beam_Reactions 20 [.tmp 2, .tmp 3] fe_beam_Reactions.rs (argT G fe_beam_Reactions.ps x) = fe_beam_Reactions.fn x := by kernel_rfl
theorem ok_beam_Reactions : FnOk G 43 fe_beam_Reactions := fnOk_of G_ok (lstK_ok G_ok (lcons ok_beam_given (lcons ok_beam_fractions (lcons ok_beam_reactions (lnil))))) Tryz.func43 (by kernel_rfl) (by kernel_rfl) (by kernel_rfl) (by kernel_rfl) (by kernel_rfl) ev_beam_Reactions

def F_batten_Lines (s : TSet) : Option ((List TFrac) × Int) :=
  (F_batten_Valid s).bind fun r1 => (bif (!r1) then some (([] : List TFrac), 1) else (F_batten_beamOf s).bind fun r2 => (F_beam_Reactions r2).bind fun r3 => some (r3.1, r3.2))
def an_batten_Lines : An U := .nil
def fe_batten_Lines : Fe G := ⟨[.v .Set], [.l_Frac, .Errno], fun x => F_batten_Lines x.1⟩
def tb_batten_Lines : List (FuncId × Fe G) := [(17, fe_batten_Valid), (43, fe_beam_Reactions), (44, fe_batten_beamOf)]
theorem ev_batten_Lines (x : TyP G fe_batten_Lines.ps) : evF G (lstK G tb_batten_Lines) (bodyOf Tryz.f12) an_batten_Lines 12 [.tmp 2, .tmp 3] fe_batten_Lines.rs (argT G fe_batten_Lines.ps x) = fe_batten_Lines.fn x := by kernel_rfl
theorem ok_batten_Lines : FnOk G 12 fe_batten_Lines := fnOk_of G_ok (lstK_ok G_ok (lcons ok_batten_Valid (lcons ok_beam_Reactions (lcons ok_batten_beamOf (lnil))))) Tryz.func12 (by kernel_rfl) (by kernel_rfl) (by kernel_rfl) (by kernel_rfl) (by kernel_rfl) ev_batten_Lines

def F_law21_awake : Option (Bool) :=
  (F_law21_example).bind fun r1 => (F_batten_Weight r1).bind fun r2 => (F_law21_example).bind fun r3 => (F_batten_Lines r3).bind fun r4 => (F_law21_example).bind fun r5 => (F_batten_Centre r5).bind fun r6 => (F_law21_example).bind fun r7 => (F_batten_Room r7).bind fun r8 => ((bif (r2.2 == 0) then (bif (r2.1 == 2600) then (bif (r4.2 == 0) then (F_law21_f 1450).bind fun r13 => (F_law21_f 1150).bind fun r14 => (F_slices_Equal_api_Frac r4.1 ([r13, r14] : List TFrac)).bind fun r15 => (bif r15 then (bif (r6.2 == 0) then (bif ((r6.1.num == 23000) && (r6.1.den == 13)) then (bif (r8.2 == 0) then (F_slices_Equal_api_Span r8.1 ([(TSpan.mk 0 900), (TSpan.mk 1101 4000)] : List TSpan)).bind fun r16 => some (r16, ()) else some (false, ())) else some (false, ())) else some (false, ())) else some (false, ())) else some (false, ())) else some (false, ())) else some (false, ())) : Option (Bool × Unit)).bind fun y17 => some y17.1
def an_law21_awake : An U := (.node none .nil (.node none .nil (.node none .nil (.node none .nil (.node none .nil (.node (some ⟨[], [], ⟨[], []⟩, [(.normal, ⟨[(0, .tv .bool)], []⟩)]⟩) .nil .nil))))))
def fe_law21_awake : Fe G := ⟨[], [.bool], fun x => F_law21_awake⟩
def tb_law21_awake : List (FuncId × Fe G) := [(12, fe_batten_Lines), (15, fe_slices_Equal_api_Frac), (16, fe_batten_Room), (23, fe_batten_Weight), (24, fe_slices_Equal_api_Span), (26, fe_batten_Centre), (38, fe_law21_f), (41, fe_law21_example)]
theorem ev0_law21_awake (F_batten_Lines : (TSet) → Option ((List TFrac) × Int)) (F_slices_Equal_api_Frac : (List TFrac) → (List TFrac) → Option (Bool)) (F_batten_Room : (TSet) → Option ((List TSpan) × Int)) (F_batten_Weight : (TSet) → Option (Int × Int)) (F_slices_Equal_api_Span : (List TSpan) → (List TSpan) → Option (Bool)) (F_batten_Centre : (TSet) → Option (TFrac × Int)) (F_law21_f : (Int) → Option (TFrac)) (F_law21_example : Option (TSet)) : evF G (lstK G [(12, ⟨[.v .Set], [.l_Frac, .Errno], fun x => F_batten_Lines x.1⟩), (15, ⟨[.v .l_Frac, .v .l_Frac], [.bool], fun x => F_slices_Equal_api_Frac x.1 x.2.1⟩), (16, ⟨[.v .Set], [.l_Span, .Errno], fun x => F_batten_Room x.1⟩), (23, ⟨[.v .Set], [.int1, .Errno], fun x => F_batten_Weight x.1⟩), (24, ⟨[.v .l_Span, .v .l_Span], [.bool], fun x => F_slices_Equal_api_Span x.1 x.2.1⟩), (26, ⟨[.v .Set], [.Frac, .Errno], fun x => F_batten_Centre x.1⟩), (38, ⟨[.v .int1], [.Frac], fun x => F_law21_f x.1⟩), (41, ⟨[], [.Set], fun x => F_law21_example⟩)]) (bodyOf Tryz.f10) an_law21_awake 66 [.tmp 0] [.bool] [] = ((F_law21_example).bind fun r1 => (F_batten_Weight r1).bind fun r2 => (F_law21_example).bind fun r3 => (F_batten_Lines r3).bind fun r4 => (F_law21_example).bind fun r5 => (F_batten_Centre r5).bind fun r6 => (F_law21_example).bind fun r7 => (F_batten_Room r7).bind fun r8 => ((bif (r2.2 == 0) then (bif (r2.1 == 2600) then (bif (r4.2 == 0) then (F_law21_f 1450).bind fun r13 => (F_law21_f 1150).bind fun r14 => (F_slices_Equal_api_Frac r4.1 ([r13, r14] : List TFrac)).bind fun r15 => (bif r15 then (bif (r6.2 == 0) then (bif ((r6.1.num == 23000) && (r6.1.den == 13)) then (bif (r8.2 == 0) then (F_slices_Equal_api_Span r8.1 ([(TSpan.mk 0 900), (TSpan.mk 1101 4000)] : List TSpan)).bind fun r16 => some (r16, ()) else some (false, ())) else some (false, ())) else some (false, ())) else some (false, ())) else some (false, ())) else some (false, ())) else some (false, ())) : Option (Bool × Unit)).bind fun y17 => some y17.1 : Option (Bool)) := by kernel_rfl
theorem ev_law21_awake (x : TyP G fe_law21_awake.ps) : evF G (lstK G tb_law21_awake) (bodyOf Tryz.f10) an_law21_awake 66 [.tmp 0] fe_law21_awake.rs (argT G fe_law21_awake.ps x) = fe_law21_awake.fn x := ev0_law21_awake F_batten_Lines F_slices_Equal_api_Frac F_batten_Room F_batten_Weight F_slices_Equal_api_Span F_batten_Centre F_law21_f F_law21_example
theorem ok_law21_awake : FnOk G 10 fe_law21_awake := fnOk_of G_ok (lstK_ok G_ok (lcons ok_batten_Lines (lcons ok_slices_Equal_api_Frac (lcons ok_batten_Room (lcons ok_batten_Weight (lcons ok_slices_Equal_api_Span (lcons ok_batten_Centre (lcons ok_law21_f (lcons ok_law21_example (lnil)))))))))) Tryz.func10 (by kernel_rfl) (by kernel_rfl) (by kernel_rfl) (by kernel_rfl) (by kernel_rfl) ev_law21_awake

def F_law21_BattenLines (s : TSet) : Option (Bool) :=
  (F_law21_awake).bind fun r1 => (bif (!r1) then some false else (F_law21_large s).bind fun r2 => (bif r2 then some true else (F_batten_Lines s).bind fun r3 => (F_ref21_Valid s).bind fun r4 => (bif (!r4) then ((bif (((r3.1.length : Nat) : Int) == 0) then some ((r3.2 == 1), ()) else some (false, ())) : Option (Bool × Unit)).bind fun y5 => some y5.1 else (F_ref21_Lines s).bind fun r6 => ((bif (r3.2 == r6.2) then (F_slices_Equal_api_Frac r3.1 r6.1).bind fun r8 => some (r8, ()) else some (false, ())) : Option (Bool × Unit)).bind fun y9 => some y9.1)))
def an_law21_BattenLines : An U := (.node none .nil (.node none .nil (.node none .nil (.node none .nil (.node none (.node none .nil (.node none (.node (some ⟨[], [], ⟨[], []⟩, [(.normal, ⟨[(2, .tv .bool)], []⟩)]⟩) .nil .nil) .nil)) (.node none .nil (.node (some ⟨[], [], ⟨[], []⟩, [(.normal, ⟨[(2, .tv .bool)], []⟩)]⟩) .nil .nil)))))))
def fe_law21_BattenLines : Fe G := ⟨[.v .Set], [.bool], fun x => F_law21_BattenLines x.1⟩
def tb_law21_BattenLines : List (FuncId × Fe G) := [(10, fe_law21_awake), (11, fe_law21_large), (12, fe_batten_Lines), (13, fe_ref21_Valid), (14, fe_ref21_Lines), (15, fe_slices_Equal_api_Frac)]
theorem ev_law21_BattenLines (x : TyP G fe_law21_BattenLines.ps) : evF G (lstK G tb_law21_BattenLines) (bodyOf Tryz.f3) an_law21_BattenLines 39 [.tmp 2] fe_law21_BattenLines.rs (argT G fe_law21_BattenLines.ps x) = fe_law21_BattenLines.fn x := by kernel_rfl
theorem ok_law21_BattenLines : FnOk G 3 fe_law21_BattenLines := fnOk_of G_ok (lstK_ok G_ok (lcons ok_law21_awake (lcons ok_law21_large (lcons ok_batten_Lines (lcons ok_ref21_Valid (lcons ok_ref21_Lines (lcons ok_slices_Equal_api_Frac (lnil)))))))) Tryz.func3 (by kernel_rfl) (by kernel_rfl) (by kernel_rfl) (by kernel_rfl) (by kernel_rfl) ev_law21_BattenLines

end
end Go.Proofs.YtkagmdfhodbfmaaGreat
