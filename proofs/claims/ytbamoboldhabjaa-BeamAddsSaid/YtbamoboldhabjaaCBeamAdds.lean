/- BeamAdds: the last step: its plain reading is true of every input, so the given sentence holds. -/
import Derived.Test.YtbamoboldhabjaaM09
namespace Go.Proofs.Ytbamoboldhabjaa
open Go.ChangeShapes Go.WideShapes Go.ChangeAt Go.RowKit

set_option maxRecDepth 100000 in
theorem beamAdds_lifted (os : Os) (started : os.Started) (H : Type) (enc : TypeId × Value → H) :
    ReturnsInHanded {} Try.checked os 7 .any (Rows.beamAddsSpec.pre6 enc Try.prog Try.f7 Rows.beamAddsRow.domain false) (Rows.beamAddsSpec.post enc Try.prog Try.f7 false true false false) := by
  refine returnsInHanded_of_change (C := Try.checked) Try.own started (by kernel_rfl) Try.func7
    (ChangeSpec.witness6 (enc := enc) (C := Try.checked) false ⟨#[], #[(.agg #[(.string ⟨#[]⟩), (.int .i64 0), (.slice none 0 0), (.slice none 0 0), (.int .i64 0)]), (.int .u8 0), (.int .u8 0)], []⟩ 8 (by kernel_rfl) (by kernel_rfl) (by kernel_rfl) (by kernel_rfl)) ?_
  intro W base args ds gs before hval0 hW hcnd _
  have hval : ∀ (j : Nat) t v, Try.f7.params[j]? = some t → args[j]? = some v → Value.okWide Try.prog W .any base t v := hval0
  have hW' := hW
  obtain ⟨p, q, hA0, hV, rfl, hfz, hnd⟩ := hW
  have hA : DataW.TrodAll enc Try.prog W 0 (fun _ => true) true Try.f7.params.toList args.toList ds p := hA0
  rw [Try.params7] at hA hval
  obtain ⟨v0, v1, v2, d0, d1, d2, p0, p1, p2, rfl, rfl, rfl, h0, h1, h2⟩ := trodAll_three hA
  obtain ⟨rfl, rfl⟩ := trodVars_none hV
  obtain ⟨x0, r0, w0⟩ := agg_arg G_ok op_Beam (fs := fieldsOf Try.prog 25) (by kernel_rfl) rfl (hval 0 25 v0 rfl rfl) h0
  obtain ⟨x1, r1, w1⟩ := cell_arg G_ok op_u8 (.inl ⟨.u8, by kernel_rfl⟩) rfl (hval 1 5 v1 rfl rfl) h1
  obtain ⟨x2, r2, w2⟩ := cell_arg G_ok op_u8 (.inl ⟨.u8, by kernel_rfl⟩) rfl (hval 2 5 v2 rfl rfl) h2
  refine (ok_law20_BeamAdds.ok (by kernel_rfl) (x0, (x1, (x2, ()))) true (main_BeamAdds x0 x1 x2 w0 w1 w2) W _ (args_v G_ok r0 (args_v G_ok r1 (args_v G_ok r2 (args_nil))))).mono fun e W' hret => ?_
  obtain ⟨he, hb⟩ := ret_true hret rfl rfl
  subst he
  exact ⟨_, rfl, law_post hW' (by
    intro t ht
    rw [Try.params7] at ht
    simp only [List.mem_cons, List.not_mem_nil, or_false] at ht
    rcases ht with rfl | rfl | rfl
    · exact ⟨by kernel_rfl, of_decide_eq_true (by kernel_rfl)⟩
    · exact ⟨by kernel_rfl, of_decide_eq_true (by kernel_rfl)⟩
    · exact ⟨by kernel_rfl, of_decide_eq_true (by kernel_rfl)⟩) rfl rfl rfl rfl (by kernel_rfl) Try.underlying4 hb⟩

theorem beamAdds_holds : Rows.BeamAddsSaid :=
  OpenClaim.holds_of_wide 7 Try.f7 rfl rfl rfl rfl rfl rfl rfl ⟨rfl, rfl, rfl, rfl, rfl⟩ rfl rfl rfl rfl rfl (by kernel_rfl) Try.func7 (by kernel_rfl)
    (of_decide_eq_true (by kernel_rfl)) (by unfold Func.isWrapper; first | (rw [if_pos (by decide +kernel)]; kernel_rfl) | (rw [if_neg (by decide +kernel)]; exact ⟨rfl, rfl⟩))
    (fun os started H enc _ => beamAdds_lifted os started H enc)

#print axioms beamAdds_holds
end Go.Proofs.Ytbamoboldhabjaa
