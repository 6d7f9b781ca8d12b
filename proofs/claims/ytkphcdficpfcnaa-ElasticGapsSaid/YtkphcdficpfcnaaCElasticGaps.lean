/- ElasticGaps: the last step: its plain reading is true of every input, so the given sentence holds. -/
import Derived.Test.YtkphcdficpfcnaaM05
namespace Go.Proofs.Ytkphcdficpfcnaa
open Go.ChangeShapes Go.WideShapes Go.ChangeAt Go.RowKit

set_option maxRecDepth 100000 in
theorem elasticGaps_lifted (os : Os) (started : os.Started) (H : Type) (enc : TypeId × Value → H) :
    ReturnsInHanded {} Try.checked os 9 .any (Rows.elasticGapsSpec.pre6 enc Try.prog Try.f9 Rows.elasticGapsRow.domain false) (Rows.elasticGapsSpec.post enc Try.prog Try.f9 false true false false) := by
  refine returnsInHanded_of_change (C := Try.checked) Try.own started (by kernel_rfl) Try.func9
    (ChangeSpec.witness6 (enc := enc) (C := Try.checked) false ⟨#[], #[(.int .i64 0), (.slice none 0 0), (.slice none 0 0), (.int .u16 0)], []⟩ 8 (by kernel_rfl) (by kernel_rfl) (by kernel_rfl) (by kernel_rfl)) ?_
  intro W base args ds gs before hval0 hW hcnd _
  have hval : ∀ (j : Nat) t v, Try.f9.params[j]? = some t → args[j]? = some v → Value.okWide Try.prog W .any base t v := hval0
  have hW' := hW
  obtain ⟨p, q, hA0, hV, rfl, hfz, hnd⟩ := hW
  have hA : DataW.TrodAll enc Try.prog W 0 (fun _ => true) true Try.f9.params.toList args.toList ds p := hA0
  rw [Try.params9] at hA hval
  obtain ⟨v0, v1, v2, v3, d0, d1, d2, d3, p0, p1, p2, p3, rfl, rfl, rfl, h0, h1, h2, h3⟩ := trodAll_four hA
  obtain ⟨rfl, rfl⟩ := trodVars_none hV
  obtain ⟨x0, r0, w0⟩ := cell_arg G_ok op_int1 (.inl ⟨.i64, by kernel_rfl⟩) rfl (hval 0 3 v0 rfl rfl) h0
  obtain ⟨x1, r1, w1⟩ := cell_arg G_ok op_l_Spring (.inr (.inr (.inr ⟨50, by kernel_rfl⟩))) rfl (hval 1 22 v1 rfl rfl) h1
  obtain ⟨x2, r2, w2⟩ := cell_arg G_ok op_l_int1 (.inr (.inr (.inr ⟨3, by kernel_rfl⟩))) rfl (hval 2 23 v2 rfl rfl) h2
  obtain ⟨x3, r3, w3⟩ := cell_arg G_ok op_u16 (.inl ⟨.u16, by kernel_rfl⟩) rfl (hval 3 65 v3 rfl rfl) h3
  refine (ok_law17_ElasticGaps.ok (by kernel_rfl) (x0, (x1, (x2, (x3, ())))) true (main_ElasticGaps x0 x1 x2 x3 w0 w1 w2 w3) W _ (args_v G_ok r0 (args_v G_ok r1 (args_v G_ok r2 (args_v G_ok r3 (args_nil)))))).mono fun e W' hret => ?_
  obtain ⟨he, hb⟩ := ret_true hret rfl rfl
  subst he
  exact ⟨_, rfl, law_post hW' (by
    intro t ht
    rw [Try.params9] at ht
    simp only [List.mem_cons, List.not_mem_nil, or_false] at ht
    rcases ht with rfl | rfl | rfl | rfl
    · exact ⟨by kernel_rfl, of_decide_eq_true (by kernel_rfl)⟩
    · exact ⟨by kernel_rfl, of_decide_eq_true (by kernel_rfl)⟩
    · exact ⟨by kernel_rfl, of_decide_eq_true (by kernel_rfl)⟩
    · exact ⟨by kernel_rfl, of_decide_eq_true (by kernel_rfl)⟩) rfl rfl rfl rfl (by kernel_rfl) Try.underlying4 hb⟩

theorem elasticGaps_holds : Rows.ElasticGapsSaid :=
  OpenClaim.holds_of_wide 9 Try.f9 rfl rfl rfl rfl rfl rfl rfl ⟨rfl, rfl, rfl, rfl, rfl⟩ rfl rfl rfl rfl rfl (by kernel_rfl) Try.func9 (by kernel_rfl)
    (of_decide_eq_true (by kernel_rfl)) (by unfold Func.isWrapper; first | (rw [if_pos (by decide +kernel)]; kernel_rfl) | (rw [if_neg (by decide +kernel)]; exact ⟨rfl, rfl⟩))
    (fun os started H enc _ => elasticGaps_lifted os started H enc)

#print axioms elasticGaps_holds
end Go.Proofs.Ytkphcdficpfcnaa
