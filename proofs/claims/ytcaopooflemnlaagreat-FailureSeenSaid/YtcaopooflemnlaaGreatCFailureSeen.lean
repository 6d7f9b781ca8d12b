/- FailureSeen: the last step: its plain reading is true of every input, so the given sentence holds. -/
import Derived.Test.YtcaopooflemnlaaGreatM09
namespace Go.Proofs.YtcaopooflemnlaaGreat
open Go.ChangeShapes Go.WideShapes Go.ChangeAt Go.RowKit

set_option maxRecDepth 100000 in
theorem failureSeen_lifted (os : Os) (started : os.Started) (H : Type) (enc : TypeId × Value → H) :
    ReturnsInHanded {} Tryz.checked os 9 .any (Rows.failureSeenSpec.pre6 enc Tryz.prog Tryz.f9 Rows.failureSeenRow.domain false) (Rows.failureSeenSpec.post enc Tryz.prog Tryz.f9 false true false false) := by
  refine returnsInHanded_of_change (C := Tryz.checked) Tryz.own started (by kernel_rfl) Tryz.func9
    (ChangeSpec.witness6 (enc := enc) (C := Tryz.checked) false ⟨#[], #[(.agg #[(.string ⟨#[]⟩), (.int .i64 0), (.int .i64 0), (.int .i64 0), (.int .i64 0), (.slice none 0 0), (.int .i64 0), (.int .i64 0), (.int .i64 0), (.int .i64 0), (.int .i64 0), (.slice none 0 0), (.slice none 0 0)]), (.int .u32 0)], []⟩ 8 (by kernel_rfl) (by kernel_rfl) (by kernel_rfl) (by kernel_rfl)) ?_
  intro W base args ds gs before hval0 hW hcnd _
  have hval : ∀ (j : Nat) t v, Tryz.f9.params[j]? = some t → args[j]? = some v → Value.okWide Tryz.prog W .any base t v := hval0
  have hW' := hW
  obtain ⟨p, q, hA0, hV, rfl, hfz, hnd⟩ := hW
  have hA : DataW.TrodAll enc Tryz.prog W 0 (fun _ => true) true Tryz.f9.params.toList args.toList ds p := hA0
  rw [Tryz.params9] at hA hval
  obtain ⟨v0, v1, d0, d1, p0, p1, rfl, rfl, rfl, h0, h1⟩ := trodAll_two hA
  obtain ⟨rfl, rfl⟩ := trodVars_none hV
  obtain ⟨x0, r0, w0⟩ := agg_arg G_ok op_Set (fs := fieldsOf Tryz.prog 26) (by kernel_rfl) rfl (hval 0 26 v0 rfl rfl) h0
  obtain ⟨x1, r1, w1⟩ := cell_arg G_ok op_u32 (.inl ⟨.u32, by kernel_rfl⟩) rfl (hval 1 60 v1 rfl rfl) h1
  refine (ok_law24_FailureSeen.ok (by kernel_rfl) (x0, (x1, ())) true (main_FailureSeen x0 x1 w0 w1) W _ (args_v G_ok r0 (args_v G_ok r1 (args_nil)))).mono fun e W' hret => ?_
  obtain ⟨he, hb⟩ := ret_true hret rfl rfl
  subst he
  exact ⟨_, rfl, law_post hW' (by
    intro t ht
    rw [Tryz.params9] at ht
    simp only [List.mem_cons, List.not_mem_nil, or_false] at ht
    rcases ht with rfl | rfl
    · exact ⟨by kernel_rfl, of_decide_eq_true (by kernel_rfl)⟩
    · exact ⟨by kernel_rfl, of_decide_eq_true (by kernel_rfl)⟩) rfl rfl rfl rfl (by kernel_rfl) Tryz.underlying4 hb⟩

set_option maxRecDepth 100000
theorem failureSeen_j1 : (Rows.failureSeenRow.inPlace == Tryz.pinned.checked.prog.inPlace 9) = true := by kernel_rfl
theorem failureSeen_j2 : (Rows.failureSeenRow.unfollowed == Tryz.pinned.checked.prog.unfollowed 9) = true := by kernel_rfl
theorem failureSeen_j3 : (Rows.failureSeenRow.recurses == Tryz.pinned.checked.prog.recurses 9) = true := by kernel_rfl
theorem failureSeen_j4 : (Rows.failureSeenRow.named == Tryz.pinned.checked.prog.varsNamed 9) = true := by kernel_rfl
theorem failureSeen_j5 : Tryz.pinned.checked.prog.stopsHeard = true := by kernel_rfl
theorem failureSeen_j6 : Tryz.pinned.checked.prog.mayEnter = true := by kernel_rfl
theorem failureSeen_j7 : (Rows.failureSeenRow.lifted == Tryz.pinned.checked.prog.liftsFinal) = true := by kernel_rfl
theorem failureSeen_j8 : laidOutB Tryz.pinned.checked.prog = true := by kernel_rfl
theorem failureSeen_j9 : mapsRowed Tryz.pinned.checked.prog = true := by kernel_rfl
theorem failureSeen_facts : joinedFacts Tryz.pinned.checked.prog 9 Tryz.f9 Rows.failureSeenSpec Rows.failureSeenRow = true := by
  unfold joinedFacts
  rw [failureSeen_j8, failureSeen_j9, failureSeen_j1, failureSeen_j2, failureSeen_j3, failureSeen_j4, failureSeen_j5, failureSeen_j6, failureSeen_j7]
  kernel_rfl
theorem failureSeen_holds : Rows.FailureSeenSaid :=
  OpenClaim.holds_of_wide 9 Tryz.f9 rfl rfl rfl rfl rfl rfl rfl ⟨rfl, rfl, rfl, rfl, rfl⟩ rfl rfl rfl rfl rfl (by kernel_rfl) Tryz.func9 failureSeen_facts
    (of_decide_eq_true (by kernel_rfl)) (by unfold Func.isWrapper; first | (rw [if_pos (by decide +kernel)]; kernel_rfl) | (rw [if_neg (by decide +kernel)]; exact ⟨rfl, rfl⟩))
    (fun os started H enc _ => failureSeen_lifted os started H enc)

#print axioms failureSeen_holds
end Go.Proofs.YtcaopooflemnlaaGreat
