/- TopStored: the last step: its plain reading is true of every input, so the given sentence holds. -/
import Derived.Test.YtgbicnkpnhifgaaGreatDoorM11
import Derived.Test.YtgbicnkpnhifgaaGreatDoorTie
import Derived.Test.YtgbicnkpnhifgaaGreatDoorCards
import Derived.LaidMore
import Derived.LaidSub
import Derived.Lib.LaidTab
import Derived.SevenTiedAt
namespace Go.Proofs.YtgbicnkpnhifgaaGreatDoor
open Go.ChangeShapes Go.WideShapes Go.ChangeAt Go.RowKit

theorem topStored_door (os : Os) (args : Array Value) : laidMetH Tryz.prog Rows.topStoredRow.laid ((World.doorLaid Tryz.prog 400 os).forCall (fun _ _ => 0) ⟨#[], args, []⟩).memory :=
  laidMetH_of_parts3 (fuel := 8) (laidMet_of_run' 8 (by kernel_rfl) (by kernel_rfl)) (by kernel_rfl) (by kernel_rfl)
/-- The table of powers of ten, out of the row's condition. -/
theorem topStored_gh {W : World} (h : laidMetH Tryz.prog Rows.topStoredRow.laid W) : G.gh W := by
  have h2 := (laidMetH_iff.1 h).1.filter (fun x => x.1 == "internal/strconv.uint64pow10")
  have e : ((Rows.topStoredRow.laid.filter fun x => x.2.handleName?.isNone).filter fun x => x.1 == "internal/strconv.uint64pow10") = [("internal/strconv.uint64pow10", Go.Lib.tabData .u64 Go.Lib.pow10Tab)] := by kernel_rfl
  rw [e] at h2
  exact Go.Lib.tabIs_of_head (t := 294) (e := 119) (n := 20) tab_at (by kernel_rfl) Tryz.underlying294 Tryz.underlying119 (by kernel_rfl) (by kernel_rfl) h2
set_option maxRecDepth 100000 in
theorem topStored_lifted (os : Os) (started : os.Started) (H : Type) (enc : TypeId × Value → H) :
    ReturnsInHanded {} Tryz.checked os 4 .any (fun w args => (Rows.topStoredSpec.pre enc Tryz.prog Tryz.f4 [] false w args ∧ laidMetH Tryz.prog Rows.topStoredRow.laid w) ∧ sizedMet enc Tryz.prog Tryz.f4 (OpenSpec.ofChange Rows.topStoredSpec) false w args) (Rows.topStoredSpec.post enc Tryz.prog Tryz.f4 false true false false) := by
  refine returnsInHanded_of_change_and (C := Tryz.checked) (X := fun w _ => laidMetH Tryz.prog Rows.topStoredRow.laid w) (fun _ _ _ hh h => h.of_heap hh) Tryz.own started (by kernel_rfl) Tryz.func4
    (ChangeSpec.witness_shaped (enc := enc) (C := Tryz.checked) (os := os) (X := fun w _ => laidMetH Tryz.prog Rows.topStoredRow.laid w) false (World.doorLaid Tryz.prog 400 os) #[(.slice none 0 0)] 8 rfl (World.shaped_of_RefB (by kernel_rfl) (by kernel_rfl)) (by kernel_rfl) (by kernel_rfl) (by kernel_rfl) (topStored_door os _)) ?_
  intro W base args ds gs before hval0 hW _ _ hX _
  have hgh : G.gh W := topStored_gh hX
  have hval : ∀ (j : Nat) t v, Tryz.f4.params[j]? = some t → args[j]? = some v → Value.okWide Tryz.prog W .any base t v := hval0
  have hW' := hW
  obtain ⟨p, q, hA0, hV, rfl, hfz, hnd⟩ := hW
  have hA : DataW.TrodAll enc Tryz.prog W 0 (fun _ => true) true Tryz.f4.params.toList args.toList ds p := hA0
  rw [Tryz.params4] at hA hval
  obtain ⟨v0, d0, rfl, rfl, h0⟩ := trodAll_one hA
  obtain ⟨rfl, rfl⟩ := trodVars_none hV
  obtain ⟨x0, r0, w0⟩ := cell_arg G_ok op_l_Set (.inr (.inr (.inr ⟨26, by kernel_rfl⟩))) rfl (hval 0 50 v0 rfl rfl) h0
  refine (ok_top_TopStored.ok (by kernel_rfl) (x0, ()) true (main_TopStored x0 w0) W _ hgh (args_v G_ok r0 (args_nil))).mono fun e W' hret => ?_
  obtain ⟨he, hb⟩ := ret_true hgh hret rfl rfl
  subst he
  exact ⟨_, rfl, law_post hW' (by
    intro t ht
    rw [Tryz.params4] at ht
    simp only [List.mem_cons, List.not_mem_nil, or_false] at ht
    subst ht
    exact ⟨by kernel_rfl, of_decide_eq_true (by kernel_rfl)⟩) rfl rfl rfl rfl (by kernel_rfl) Tryz.underlying4 hb⟩

set_option maxRecDepth 100000
theorem topStored_j1 : (Rows.topStoredRow.inPlace == Tryz.pinned.checked.prog.inPlace 4) = true := by kernel_rfl
theorem topStored_j2 : (Rows.topStoredRow.unfollowed == Tryz.pinned.checked.prog.unfollowed 4) = true := by kernel_rfl
theorem topStored_j3 : (Rows.topStoredRow.recurses == Tryz.pinned.checked.prog.recurses 4) = true := by kernel_rfl
theorem topStored_j4 : (Rows.topStoredRow.named == Tryz.pinned.checked.prog.varsNamed 4) = true := by kernel_rfl
theorem topStored_j5 : Tryz.pinned.checked.prog.stopsHeard = true := by kernel_rfl
theorem topStored_j6 : Tryz.pinned.checked.prog.mayEnter = true := by kernel_rfl
theorem topStored_j7 : (Rows.topStoredRow.lifted == Tryz.pinned.checked.prog.liftsFinal) = true := by kernel_rfl
theorem topStored_j8 : laidOutB Tryz.pinned.checked.prog = true := by kernel_rfl
theorem topStored_j9 : mapsRowed Tryz.pinned.checked.prog = true := by kernel_rfl
theorem topStored_facts : joinedFacts Tryz.pinned.checked.prog 4 Tryz.f4 Rows.topStoredSpec Rows.topStoredRow = true := by
  unfold joinedFacts
  rw [topStored_j8, topStored_j9, topStored_j1, topStored_j2, topStored_j3, topStored_j4, topStored_j5, topStored_j6, topStored_j7]
  kernel_rfl
theorem topStored_holds : Rows.TopStoredSaid :=
  OpenClaim.holds_of_wide 4 Tryz.f4 rfl rfl rfl rfl rfl rfl rfl ⟨rfl, rfl, rfl, rfl, rfl⟩ rfl rfl rfl rfl rfl (by kernel_rfl) Tryz.func4 topStored_facts
    (of_decide_eq_true (by kernel_rfl)) (by unfold Func.isWrapper; first | (rw [if_pos (by decide +kernel)]; kernel_rfl) | (rw [if_neg (by decide +kernel)]; exact ⟨rfl, rfl⟩))
    (fun os started H enc _ => topStored_lifted os started H enc)

theorem topStored_card : Rows.TopStoredCardSaid :=
  Claim7.holds_tied_plain_at .later [] [.data, .data, .data] true (true, "1c791ae537b465b0d2df479524af66b8c8425acd96b55dde08d3e22f5723eb84") true
    topStored_holds (fun _ h => by cases h) (by kernel_rfl) (fun _ h => by cases h) topStored_row_tie rfl ⟨rfl, rfl⟩ (by kernel_rfl) rfl
    (fun f fn hf hfn => by
      obtain rfl : f = 4 := Option.some.inj ((show Tryz.prog.funcNamed "loftblock/loftblocktop.TopStored" = some 4 by kernel_rfl).symm.trans hf) |>.symm
      obtain rfl : fn = Tryz.f4 := (Option.some.inj (Tryz.func4.symm.trans hfn)).symm
      exact ⟨by kernel_rfl, fun j t ht => by
        rw [Tryz.params4] at ht
        have hm : t ∈ [50] := by simpa using Array.mem_of_getElem? ht
        have hall : ([50].all fun u => !Tryz.prog.wantsStandIn u) = true := by kernel_rfl
        exact (show Tryz.prog.wantsStandIn t = false by simpa using List.all_eq_true.1 hall t hm)⟩)
    (by kernel_rfl)
#print axioms topStored_card
end Go.Proofs.YtgbicnkpnhifgaaGreatDoor
