/- FailureWithout: the last step: its plain reading is true of every input, so the given sentence holds. -/
import Derived.Test.YtcaopooflemnlaaGreatM14
namespace Go.Proofs.YtcaopooflemnlaaGreat
open Go.ChangeShapes Go.WideShapes Go.ChangeAt Go.RowKit

set_option maxRecDepth 100000 in
theorem failureWithout_lifted (os : Os) (started : os.Started) (H : Type) (enc : TypeId × Value → H) :
    ReturnsInHanded {} Tryz.checked os 11 .any (Rows.failureWithoutSpec.pre6 enc Tryz.prog Tryz.f11 Rows.failureWithoutRow.domain false) (Rows.failureWithoutSpec.post enc Tryz.prog Tryz.f11 false true false false) := by
  refine returnsInHanded_of_change (C := Tryz.checked) Tryz.own started (by kernel_rfl) Tryz.func11
    (ChangeSpec.witness6 (enc := enc) (C := Tryz.checked) false ⟨#[], #[(.agg #[(.string ⟨#[]⟩), (.int .i64 0), (.int .i64 0), (.int .i64 0), (.int .i64 0), (.slice none 0 0), (.int .i64 0), (.int .i64 0), (.int .i64 0), (.int .i64 0), (.int .i64 0), (.slice none 0 0), (.slice none 0 0)]), (.int .i64 0), (.agg #[(.int .i64 0), (.int .i64 0)])], []⟩ 8 (by kernel_rfl) (by kernel_rfl) (by kernel_rfl) (by kernel_rfl)) ?_
  intro W base args ds gs before hval0 hW hcnd _
  have hval : ∀ (j : Nat) t v, Tryz.f11.params[j]? = some t → args[j]? = some v → Value.okWide Tryz.prog W .any base t v := hval0
  have hW' := hW
  obtain ⟨p, q, hA0, hV, rfl, hfz, hnd⟩ := hW
  have hA : DataW.TrodAll enc Tryz.prog W 0 (fun _ => true) true Tryz.f11.params.toList args.toList ds p := hA0
  rw [Tryz.params11] at hA hval
  obtain ⟨v0, v1, v2, d0, d1, d2, p0, p1, p2, rfl, rfl, rfl, h0, h1, h2⟩ := trodAll_three hA
  obtain ⟨rfl, rfl⟩ := trodVars_none hV
  obtain ⟨x0, r0, w0⟩ := agg_arg G_ok op_Set (fs := fieldsOf Tryz.prog 26) (by kernel_rfl) rfl (hval 0 26 v0 rfl rfl) h0
  obtain ⟨x1, r1, w1⟩ := cell_arg G_ok op_int1 (.inl ⟨.i64, by kernel_rfl⟩) rfl (hval 1 3 v1 rfl rfl) h1
  obtain ⟨x2, r2, w2⟩ := agg_arg G_ok op_Frac (fs := fieldsOf Tryz.prog 43) (by kernel_rfl) rfl (hval 2 43 v2 rfl rfl) h2
  refine (ok_law24_FailureWithout.ok (by kernel_rfl) (x0, (x1, (x2, ()))) true (main_FailureWithout x0 x1 x2 w0 w1 w2) W _ (args_v G_ok r0 (args_v G_ok r1 (args_v G_ok r2 (args_nil))))).mono fun e W' hret => ?_
  obtain ⟨he, hb⟩ := ret_true hret rfl rfl
  subst he
  exact ⟨_, rfl, law_post hW' (by
    intro t ht
    rw [Tryz.params11] at ht
    simp only [List.mem_cons, List.not_mem_nil, or_false] at ht
    rcases ht with rfl | rfl | rfl
    · exact ⟨by kernel_rfl, of_decide_eq_true (by kernel_rfl)⟩
    · exact ⟨by kernel_rfl, of_decide_eq_true (by kernel_rfl)⟩
    · exact ⟨by kernel_rfl, of_decide_eq_true (by kernel_rfl)⟩) rfl rfl rfl rfl (by kernel_rfl) Tryz.underlying4 hb⟩

set_option maxRecDepth 100000
theorem failureWithout_j1 : (Rows.failureWithoutRow.inPlace == Tryz.pinned.checked.prog.inPlace 11) = true := by kernel_rfl
theorem failureWithout_j2 : (Rows.failureWithoutRow.unfollowed == Tryz.pinned.checked.prog.unfollowed 11) = true := by kernel_rfl
theorem failureWithout_j3 : (Rows.failureWithoutRow.recurses == Tryz.pinned.checked.prog.recurses 11) = true := by kernel_rfl
theorem failureWithout_j4 : (Rows.failureWithoutRow.named == Tryz.pinned.checked.prog.varsNamed 11) = true := by kernel_rfl
theorem failureWithout_j5 : Tryz.pinned.checked.prog.stopsHeard = true := by kernel_rfl
theorem failureWithout_j6 : Tryz.pinned.checked.prog.mayEnter = true := by kernel_rfl
theorem failureWithout_j7 : (Rows.failureWithoutRow.lifted == Tryz.pinned.checked.prog.liftsFinal) = true := by kernel_rfl
theorem failureWithout_j8 : laidOutB Tryz.pinned.checked.prog = true := by kernel_rfl
theorem failureWithout_j9 : mapsRowed Tryz.pinned.checked.prog = true := by kernel_rfl
theorem failureWithout_facts : joinedFacts Tryz.pinned.checked.prog 11 Tryz.f11 Rows.failureWithoutSpec Rows.failureWithoutRow = true := by
  unfold joinedFacts
  rw [failureWithout_j8, failureWithout_j9, failureWithout_j1, failureWithout_j2, failureWithout_j3, failureWithout_j4, failureWithout_j5, failureWithout_j6, failureWithout_j7]
  kernel_rfl
theorem failureWithout_holds : Rows.FailureWithoutSaid :=
  OpenClaim.holds_of_wide 11 Tryz.f11 rfl rfl rfl rfl rfl rfl rfl ⟨rfl, rfl, rfl, rfl, rfl⟩ rfl rfl rfl rfl rfl (by kernel_rfl) Tryz.func11 failureWithout_facts
    (of_decide_eq_true (by kernel_rfl)) (by unfold Func.isWrapper; first | (rw [if_pos (by decide +kernel)]; kernel_rfl) | (rw [if_neg (by decide +kernel)]; exact ⟨rfl, rfl⟩))
    (fun os started H enc _ => failureWithout_lifted os started H enc)

#print axioms failureWithout_holds
end Go.Proofs.YtcaopooflemnlaaGreat
