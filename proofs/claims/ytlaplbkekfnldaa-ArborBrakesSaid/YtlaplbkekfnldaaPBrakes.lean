/- ArborBrakes: a greater brake holds no less, a brake as great as the imbalance holds, a lesser one does not: for every line set and every number the law returns true. No condition. -/
import Derived.Test.YtlaplbkekfnldaaBrakesW
import Derived.Test.YtlaplbkekfnldaaLaw
import Derived.OpenShut
namespace Go.Proofs.Ytlaplbkekfnldaa
open Go.ChangeShapes Go.WideShapes Go.ChangeAt Go.RowKit

theorem brakes_any (S : LSet) (m : Int) (w : World) (ha : S.At w w.heap.size) (hm0 : 0 ≤ m) (hm1 : m ≤ 4294967295) :
    Calls Try.prog 3 #[S.val, .int .u32 m] w fun e w' => e = .returned (.bool true) ∧ Below w.heap.size w w' := by
  cases hs : smallB S 8 with
  | false => exact brakes_easy S m w ha (Or.inl hs)
  | true =>
    cases hv : validB S with
    | false => exact brakes_easy S m w ha (Or.inr hv)
    | true => exact brakes_hard S m w ha hs hv hm0 hm1

set_option maxRecDepth 100000 in
theorem arborBrakes_lifted (os : Os) (started : os.Started) (H : Type) (enc : TypeId × Value → H) :
    ReturnsInHanded {} Try.checked os 3 .any (Rows.arborBrakesSpec.pre6 enc Try.prog Try.f3 Rows.arborBrakesRow.domain false) (Rows.arborBrakesSpec.post enc Try.prog Try.f3 false true false false) := by
  refine returnsInHanded_of_change (C := Try.checked) Try.own started (by kernel_rfl) Try.func3
    (ChangeSpec.witness6 (enc := enc) (C := Try.checked) false ⟨#[], #[.agg #[.string ByteArray.empty, .int .i64 0, .int .i64 0, .int .i64 0, .int .i64 0, .slice none 0 0, .int .i64 0, .int .i64 0, .int .i64 0, .int .i64 0, .int .i64 0, .slice none 0 0, .slice none 0 0], .int .u32 0], []⟩ 8 (by kernel_rfl) (by kernel_rfl) (by kernel_rfl) (by kernel_rfl)) ?_
  intro W base args ds gs before hval0 hW hcnd _
  have hval : ∀ (j : Nat) t v, Try.f3.params[j]? = some t → args[j]? = some v → Value.okWide Try.prog W .any base t v := hval0
  have hW' := hW
  obtain ⟨p, q, hA0, hV, rfl, hfz, hnd⟩ := hW
  have hA : DataW.TrodAll enc Try.prog W 0 (fun _ => true) true Try.f3.params.toList args.toList ds p := hA0
  rw [Try.params3] at hA hval
  obtain ⟨v0, v1, d0, d1, p0, p1, rfl, rfl, rfl, h0, h1⟩ := trodAll_two hA
  obtain ⟨rfl, rfl⟩ := trodVars_none hV
  obtain ⟨S, rfl, hS⟩ := open_set (hval 0 26 v0 rfl rfl) h0
  obtain ⟨m, rfl, rfl, rfl, wm⟩ := open_int Try.underlying27 (hval 1 27 v1 rfl rfl) h1
  have hm := bounds_u32 wm
  refine (brakes_any S m W hS hm.1 hm.2).mono fun e W' ⟨he, hb⟩ => ?_
  subst he
  exact ⟨_, rfl, law_post hW' (by
    intro t ht
    rw [Try.params3] at ht
    simp only [List.mem_cons, List.not_mem_nil, or_false] at ht
    rcases ht with rfl | rfl
    · exact ⟨by kernel_rfl, of_decide_eq_true (by kernel_rfl)⟩
    · exact ⟨by kernel_rfl, of_decide_eq_true (by kernel_rfl)⟩) rfl rfl rfl rfl (by kernel_rfl) Try.underlying4 hb⟩

theorem arborBrakes_holds : Rows.ArborBrakesSaid :=
  OpenClaim.holds_of_wide 3 Try.f3 rfl rfl rfl rfl rfl rfl rfl ⟨rfl, rfl, rfl, rfl, rfl⟩ rfl rfl rfl rfl rfl (by kernel_rfl) Try.func3 (by kernel_rfl)
    (of_decide_eq_true (by kernel_rfl)) (by unfold Func.isWrapper; first | (rw [if_pos (by decide +kernel)]; kernel_rfl) | (rw [if_neg (by decide +kernel)]; exact ⟨rfl, rfl⟩))
    (fun os started H enc _ => arborBrakes_lifted os started H enc)

#print axioms arborBrakes_holds
end Go.Proofs.Ytlaplbkekfnldaa
