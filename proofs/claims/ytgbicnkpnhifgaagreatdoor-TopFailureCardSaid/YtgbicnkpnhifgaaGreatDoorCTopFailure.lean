/- TopFailure: the last step: its plain reading is true of every input, so the given sentence holds. -/
import Derived.Test.YtgbicnkpnhifgaaGreatDoorM11
import Derived.Test.YtgbicnkpnhifgaaGreatDoorTie
import Derived.Test.YtgbicnkpnhifgaaGreatDoorCards
import Derived.LaidMore
import Derived.SevenTiedAt
namespace Go.Proofs.YtgbicnkpnhifgaaGreatDoor
open Go.ChangeShapes Go.WideShapes Go.ChangeAt Go.RowKit

theorem topFailure_door (os : Os) (args : Array Value) : laidMetH Tryz.prog Rows.topFailureRow.laid ((World.doorLaid Tryz.prog 400 os).forCall (fun _ _ => 0) ⟨#[], args, []⟩).memory :=
  laidMetH_of_parts3 (fuel := 8) (laidMet_of_run' 8 (by kernel_rfl) (by kernel_rfl)) (by kernel_rfl) (by kernel_rfl)
set_option maxRecDepth 100000 in
theorem topFailure_lifted (os : Os) (started : os.Started) (H : Type) (enc : TypeId × Value → H) :
    ReturnsInHanded {} Tryz.checked os 3 .any (fun w args => (Rows.topFailureSpec.pre enc Tryz.prog Tryz.f3 [] false w args ∧ laidMetH Tryz.prog Rows.topFailureRow.laid w) ∧ sizedMet enc Tryz.prog Tryz.f3 (OpenSpec.ofChange Rows.topFailureSpec) false w args) (Rows.topFailureSpec.post enc Tryz.prog Tryz.f3 false true false false) := by
  refine returnsInHanded_of_change_and (C := Tryz.checked) (X := fun w _ => laidMetH Tryz.prog Rows.topFailureRow.laid w) (fun _ _ _ hh h => h.of_heap hh) Tryz.own started (by kernel_rfl) Tryz.func3
    (ChangeSpec.witness_shaped (enc := enc) (C := Tryz.checked) (os := os) (X := fun w _ => laidMetH Tryz.prog Rows.topFailureRow.laid w) false (World.doorLaid Tryz.prog 400 os) #[(.agg #[(.string ⟨#[]⟩), (.int .i64 0), (.int .i64 0), (.int .i64 0), (.int .i64 0), (.slice none 0 0), (.int .i64 0), (.int .i64 0), (.int .i64 0), (.int .i64 0), (.int .i64 0), (.slice none 0 0), (.slice none 0 0)])] 8 rfl (World.shaped_of_RefB (by kernel_rfl) (by kernel_rfl)) (by kernel_rfl) (by kernel_rfl) (by kernel_rfl) (topFailure_door os _)) ?_
  intro W base args ds gs before hval0 hW _ _ _ _
  have hval : ∀ (j : Nat) t v, Tryz.f3.params[j]? = some t → args[j]? = some v → Value.okWide Tryz.prog W .any base t v := hval0
  have hW' := hW
  obtain ⟨p, q, hA0, hV, rfl, hfz, hnd⟩ := hW
  have hA : DataW.TrodAll enc Tryz.prog W 0 (fun _ => true) true Tryz.f3.params.toList args.toList ds p := hA0
  rw [Tryz.params3] at hA hval
  obtain ⟨v0, d0, rfl, rfl, h0⟩ := trodAll_one hA
  obtain ⟨rfl, rfl⟩ := trodVars_none hV
  obtain ⟨x0, r0, w0⟩ := agg_arg G_ok op_Set (fs := fieldsOf Tryz.prog 26) (by kernel_rfl) rfl (hval 0 26 v0 rfl rfl) h0
  refine (ok_top_TopFailure.ok (by kernel_rfl) (x0, ()) true (main_TopFailure x0 w0) W _ (args_v G_ok r0 (args_nil))).mono fun e W' hret => ?_
  obtain ⟨he, hb⟩ := ret_true hret rfl rfl
  subst he
  exact ⟨_, rfl, law_post hW' (by
    intro t ht
    rw [Tryz.params3] at ht
    simp only [List.mem_cons, List.not_mem_nil, or_false] at ht
    subst ht
    exact ⟨by kernel_rfl, of_decide_eq_true (by kernel_rfl)⟩) rfl rfl rfl rfl (by kernel_rfl) Tryz.underlying4 hb⟩

set_option maxRecDepth 100000
theorem topFailure_j1 : (Rows.topFailureRow.inPlace == Tryz.pinned.checked.prog.inPlace 3) = true := by kernel_rfl
theorem topFailure_j2 : (Rows.topFailureRow.unfollowed == Tryz.pinned.checked.prog.unfollowed 3) = true := by kernel_rfl
theorem topFailure_j3 : (Rows.topFailureRow.recurses == Tryz.pinned.checked.prog.recurses 3) = true := by kernel_rfl
theorem topFailure_j4 : (Rows.topFailureRow.named == Tryz.pinned.checked.prog.varsNamed 3) = true := by kernel_rfl
theorem topFailure_j5 : Tryz.pinned.checked.prog.stopsHeard = true := by kernel_rfl
theorem topFailure_j6 : Tryz.pinned.checked.prog.mayEnter = true := by kernel_rfl
theorem topFailure_j7 : (Rows.topFailureRow.lifted == Tryz.pinned.checked.prog.liftsFinal) = true := by kernel_rfl
theorem topFailure_j8 : laidOutB Tryz.pinned.checked.prog = true := by kernel_rfl
theorem topFailure_j9 : mapsRowed Tryz.pinned.checked.prog = true := by kernel_rfl
theorem topFailure_facts : joinedFacts Tryz.pinned.checked.prog 3 Tryz.f3 Rows.topFailureSpec Rows.topFailureRow = true := by
  unfold joinedFacts
  rw [topFailure_j8, topFailure_j9, topFailure_j1, topFailure_j2, topFailure_j3, topFailure_j4, topFailure_j5, topFailure_j6, topFailure_j7]
  kernel_rfl
theorem topFailure_holds : Rows.TopFailureSaid :=
  OpenClaim.holds_of_wide 3 Tryz.f3 rfl rfl rfl rfl rfl rfl rfl ⟨rfl, rfl, rfl, rfl, rfl⟩ rfl rfl rfl rfl rfl (by kernel_rfl) Tryz.func3 topFailure_facts
    (of_decide_eq_true (by kernel_rfl)) (by unfold Func.isWrapper; first | (rw [if_pos (by decide +kernel)]; kernel_rfl) | (rw [if_neg (by decide +kernel)]; exact ⟨rfl, rfl⟩))
    (fun os started H enc _ => topFailure_lifted os started H enc)

theorem topFailure_card : Rows.TopFailureCardSaid :=
  Claim7.holds_tied_plain_at .later [] [.data, .data, .data] true (true, "1c791ae537b465b0d2df479524af66b8c8425acd96b55dde08d3e22f5723eb84") true
    topFailure_holds (fun _ h => by cases h) (by kernel_rfl) (fun _ h => by cases h) topFailure_row_tie rfl ⟨rfl, rfl⟩ (by kernel_rfl) rfl
    (fun f fn hf hfn => by
      obtain rfl : f = 3 := Option.some.inj ((show Tryz.prog.funcNamed "loftblock/loftblocktop.TopFailure" = some 3 by kernel_rfl).symm.trans hf) |>.symm
      obtain rfl : fn = Tryz.f3 := (Option.some.inj (Tryz.func3.symm.trans hfn)).symm
      exact ⟨by kernel_rfl, fun j t ht => by
        rw [Tryz.params3] at ht
        have hm : t ∈ [26] := by simpa using Array.mem_of_getElem? ht
        have hall : ([26].all fun u => !Tryz.prog.wantsStandIn u) = true := by kernel_rfl
        exact (show Tryz.prog.wantsStandIn t = false by simpa using List.all_eq_true.1 hall t hm)⟩)
    (by kernel_rfl)
#print axioms topFailure_card
end Go.Proofs.YtgbicnkpnhifgaaGreatDoor
