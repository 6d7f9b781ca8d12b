/- FailureLeast: the last step: its plain reading is true of every input, so the given sentence holds. -/
import Derived.Test.YtcaopooflemnlaaGreatM10
namespace Go.Proofs.YtcaopooflemnlaaGreat
open Go.ChangeShapes Go.WideShapes Go.ChangeAt Go.RowKit

set_option maxRecDepth 100000 in
theorem failureLeast_lifted (os : Os) (started : os.Started) (H : Type) (enc : TypeId × Value → H) :
    ReturnsInHanded {} Tryz.checked os 12 .any (Rows.failureLeastSpec.pre6 enc Tryz.prog Tryz.f12 Rows.failureLeastRow.domain false) (Rows.failureLeastSpec.post enc Tryz.prog Tryz.f12 false true false false) := by
  refine returnsInHanded_of_change (C := Tryz.checked) Tryz.own started (by kernel_rfl) Tryz.func12
    (ChangeSpec.witness6 (enc := enc) (C := Tryz.checked) false ⟨#[], #[(.agg #[(.string ⟨#[]⟩), (.int .i64 0), (.int .i64 0), (.int .i64 0), (.int .i64 0), (.slice none 0 0), (.int .i64 0), (.int .i64 0), (.int .i64 0), (.int .i64 0), (.int .i64 0), (.slice none 0 0), (.slice none 0 0)])], []⟩ 8 (by kernel_rfl) (by kernel_rfl) (by kernel_rfl) (by kernel_rfl)) ?_
  intro W base args ds gs before hval0 hW hcnd _
  have hval : ∀ (j : Nat) t v, Tryz.f12.params[j]? = some t → args[j]? = some v → Value.okWide Tryz.prog W .any base t v := hval0
  have hW' := hW
  obtain ⟨p, q, hA0, hV, rfl, hfz, hnd⟩ := hW
  have hA : DataW.TrodAll enc Tryz.prog W 0 (fun _ => true) true Tryz.f12.params.toList args.toList ds p := hA0
  rw [Tryz.params12] at hA hval
  obtain ⟨v0, d0, rfl, rfl, h0⟩ := trodAll_one hA
  obtain ⟨rfl, rfl⟩ := trodVars_none hV
  obtain ⟨x0, r0, w0⟩ := agg_arg G_ok op_Set (fs := fieldsOf Tryz.prog 26) (by kernel_rfl) rfl (hval 0 26 v0 rfl rfl) h0
  refine (ok_law24_FailureLeast.ok (by kernel_rfl) (x0, ()) true (main_FailureLeast x0 w0) W _ (args_v G_ok r0 (args_nil))).mono fun e W' hret => ?_
  obtain ⟨he, hb⟩ := ret_true hret rfl rfl
  subst he
  exact ⟨_, rfl, law_post hW' (by
    intro t ht
    rw [Tryz.params12] at ht
    simp only [List.mem_cons, List.not_mem_nil, or_false] at ht
    subst ht
    exact ⟨by kernel_rfl, of_decide_eq_true (by kernel_rfl)⟩) rfl rfl rfl rfl (by kernel_rfl) Tryz.underlying4 hb⟩

set_option maxRecDepth 100000
theorem failureLeast_j1 : (Rows.failureLeastRow.inPlace == Tryz.pinned.checked.prog.inPlace 12) = true := by kernel_rfl
theorem failureLeast_j2 : (Rows.failureLeastRow.unfollowed == Tryz.pinned.checked.prog.unfollowed 12) = true := by kernel_rfl
theorem failureLeast_j3 : (Rows.failureLeastRow.recurses == Tryz.pinned.checked.prog.recurses 12) = true := by kernel_rfl
theorem failureLeast_j4 : (Rows.failureLeastRow.named == Tryz.pinned.checked.prog.varsNamed 12) = true := by kernel_rfl
theorem failureLeast_j5 : Tryz.pinned.checked.prog.stopsHeard = true := by kernel_rfl
theorem failureLeast_j6 : Tryz.pinned.checked.prog.mayEnter = true := by kernel_rfl
theorem failureLeast_j7 : (Rows.failureLeastRow.lifted == Tryz.pinned.checked.prog.liftsFinal) = true := by kernel_rfl
theorem failureLeast_j8 : laidOutB Tryz.pinned.checked.prog = true := by kernel_rfl
theorem failureLeast_j9 : mapsRowed Tryz.pinned.checked.prog = true := by kernel_rfl
theorem failureLeast_facts : joinedFacts Tryz.pinned.checked.prog 12 Tryz.f12 Rows.failureLeastSpec Rows.failureLeastRow = true := by
  unfold joinedFacts
  rw [failureLeast_j8, failureLeast_j9, failureLeast_j1, failureLeast_j2, failureLeast_j3, failureLeast_j4, failureLeast_j5, failureLeast_j6, failureLeast_j7]
  kernel_rfl
theorem failureLeast_holds : Rows.FailureLeastSaid :=
  OpenClaim.holds_of_wide 12 Tryz.f12 rfl rfl rfl rfl rfl rfl rfl ⟨rfl, rfl, rfl, rfl, rfl⟩ rfl rfl rfl rfl rfl (by kernel_rfl) Tryz.func12 failureLeast_facts
    (of_decide_eq_true (by kernel_rfl)) (by unfold Func.isWrapper; first | (rw [if_pos (by decide +kernel)]; kernel_rfl) | (rw [if_neg (by decide +kernel)]; exact ⟨rfl, rfl⟩))
    (fun os started H enc _ => failureLeast_lifted os started H enc)

#print axioms failureLeast_holds
end Go.Proofs.YtcaopooflemnlaaGreat
