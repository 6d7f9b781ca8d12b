/- TopBricks: the last step: its plain reading is true of every input, so the given sentence holds. -/
import Derived.Test.YtgbicnkpnhifgaaGreatDoorM13
import Derived.Test.YtgbicnkpnhifgaaGreatDoorTie
import Derived.Test.YtgbicnkpnhifgaaGreatDoorCards
import Derived.LaidMore
import Derived.LaidSub
import Derived.Lib.LaidTab
import Derived.SevenTiedAt
namespace Go.Proofs.YtgbicnkpnhifgaaGreatDoor
open Go.ChangeShapes Go.WideShapes Go.ChangeAt Go.RowKit

theorem topBricks_door (os : Os) (args : Array Value) : laidMetH Tryz.prog Rows.topBricksRow.laid ((World.doorLaid Tryz.prog 400 os).forCall (fun _ _ => 0) ⟨#[], args, []⟩).memory :=
  laidMetH_of_parts3 (fuel := 8) (laidMet_of_run' 8 (by kernel_rfl) (by kernel_rfl)) (by kernel_rfl) (by kernel_rfl)
/-- The table of powers of ten, out of the row's condition. -/
theorem topBricks_gh {W : World} (h : laidMetH Tryz.prog Rows.topBricksRow.laid W) : G.gh W := by
  have h2 := (laidMetH_iff.1 h).1.filter (fun x => x.1 == "internal/strconv.uint64pow10")
  have e : ((Rows.topBricksRow.laid.filter fun x => x.2.handleName?.isNone).filter fun x => x.1 == "internal/strconv.uint64pow10") = [("internal/strconv.uint64pow10", Go.Lib.tabData .u64 Go.Lib.pow10Tab)] := by kernel_rfl
  rw [e] at h2
  exact Go.Lib.tabIs_of_head (t := 294) (e := 119) (n := 20) tab_at (by kernel_rfl) Tryz.underlying294 Tryz.underlying119 (by kernel_rfl) (by kernel_rfl) h2
set_option maxRecDepth 100000 in
theorem topBricks_lifted (os : Os) (started : os.Started) (H : Type) (enc : TypeId × Value → H) :
    ReturnsInHanded {} Tryz.checked os 5 .any (fun w args => (Rows.topBricksSpec.pre enc Tryz.prog Tryz.f5 [] false w args ∧ laidMetH Tryz.prog Rows.topBricksRow.laid w) ∧ sizedMet enc Tryz.prog Tryz.f5 (OpenSpec.ofChange Rows.topBricksSpec) false w args) (Rows.topBricksSpec.post enc Tryz.prog Tryz.f5 false true false false) := by
  refine returnsInHanded_of_change_and (C := Tryz.checked) (X := fun w _ => laidMetH Tryz.prog Rows.topBricksRow.laid w) (fun _ _ _ hh h => h.of_heap hh) Tryz.own started (by kernel_rfl) Tryz.func5
    (ChangeSpec.witness_shaped (enc := enc) (C := Tryz.checked) (os := os) (X := fun w _ => laidMetH Tryz.prog Rows.topBricksRow.laid w) false (World.doorLaid Tryz.prog 400 os) #[(.agg #[(.string ⟨#[]⟩), (.int .i64 0), (.int .i64 0), (.int .i64 0), (.int .i64 0), (.slice none 0 0), (.int .i64 0), (.int .i64 0), (.int .i64 0), (.int .i64 0), (.int .i64 0), (.slice none 0 0), (.slice none 0 0)]), (.slice none 0 0)] 8 rfl (World.shaped_of_RefB (by kernel_rfl) (by kernel_rfl)) (by kernel_rfl) (by kernel_rfl) (by kernel_rfl) (topBricks_door os _)) ?_
  intro W base args ds gs before hval0 hW _ _ hX _
  have hgh : G.gh W := topBricks_gh hX
  have hval : ∀ (j : Nat) t v, Tryz.f5.params[j]? = some t → args[j]? = some v → Value.okWide Tryz.prog W .any base t v := hval0
  have hW' := hW
  obtain ⟨p, q, hA0, hV, rfl, hfz, hnd⟩ := hW
  have hA : DataW.TrodAll enc Tryz.prog W 0 (fun _ => true) true Tryz.f5.params.toList args.toList ds p := hA0
  rw [Tryz.params5] at hA hval
  obtain ⟨v0, v1, d0, d1, p0, p1, rfl, rfl, rfl, h0, h1⟩ := trodAll_two hA
  obtain ⟨rfl, rfl⟩ := trodVars_none hV
  obtain ⟨x0, r0, w0⟩ := agg_arg G_ok op_Set (fs := fieldsOf Tryz.prog 26) (by kernel_rfl) rfl (hval 0 26 v0 rfl rfl) h0
  obtain ⟨x1, r1, w1⟩ := cell_arg G_ok op_l_int1 (.inr (.inr (.inr ⟨3, by kernel_rfl⟩))) rfl (hval 1 22 v1 rfl rfl) h1
  refine (ok_top_TopBricks.ok (by kernel_rfl) (x0, (x1, ())) true (main_TopBricks x0 x1 w0 w1) W _ hgh (args_v G_ok r0 (args_v G_ok r1 (args_nil)))).mono fun e W' hret => ?_
  obtain ⟨he, hb⟩ := ret_true hgh hret rfl rfl
  subst he
  exact ⟨_, rfl, law_post hW' (by
    intro t ht
    rw [Tryz.params5] at ht
    simp only [List.mem_cons, List.not_mem_nil, or_false] at ht
    rcases ht with rfl | rfl
    · exact ⟨by kernel_rfl, of_decide_eq_true (by kernel_rfl)⟩
    · exact ⟨by kernel_rfl, of_decide_eq_true (by kernel_rfl)⟩) rfl rfl rfl rfl (by kernel_rfl) Tryz.underlying4 hb⟩

set_option maxRecDepth 100000
theorem topBricks_j1 : (Rows.topBricksRow.inPlace == Tryz.pinned.checked.prog.inPlace 5) = true := by kernel_rfl
theorem topBricks_j2 : (Rows.topBricksRow.unfollowed == Tryz.pinned.checked.prog.unfollowed 5) = true := by kernel_rfl
theorem topBricks_j3 : (Rows.topBricksRow.recurses == Tryz.pinned.checked.prog.recurses 5) = true := by kernel_rfl
theorem topBricks_j4 : (Rows.topBricksRow.named == Tryz.pinned.checked.prog.varsNamed 5) = true := by kernel_rfl
theorem topBricks_j5 : Tryz.pinned.checked.prog.stopsHeard = true := by kernel_rfl
theorem topBricks_j6 : Tryz.pinned.checked.prog.mayEnter = true := by kernel_rfl
theorem topBricks_j7 : (Rows.topBricksRow.lifted == Tryz.pinned.checked.prog.liftsFinal) = true := by kernel_rfl
theorem topBricks_j8 : laidOutB Tryz.pinned.checked.prog = true := by kernel_rfl
theorem topBricks_j9 : mapsRowed Tryz.pinned.checked.prog = true := by kernel_rfl
theorem topBricks_facts : joinedFacts Tryz.pinned.checked.prog 5 Tryz.f5 Rows.topBricksSpec Rows.topBricksRow = true := by
  unfold joinedFacts
  rw [topBricks_j8, topBricks_j9, topBricks_j1, topBricks_j2, topBricks_j3, topBricks_j4, topBricks_j5, topBricks_j6, topBricks_j7]
  kernel_rfl
theorem topBricks_holds : Rows.TopBricksSaid :=
  OpenClaim.holds_of_wide 5 Tryz.f5 rfl rfl rfl rfl rfl rfl rfl ⟨rfl, rfl, rfl, rfl, rfl⟩ rfl rfl rfl rfl rfl (by kernel_rfl) Tryz.func5 topBricks_facts
    (of_decide_eq_true (by kernel_rfl)) (by unfold Func.isWrapper; first | (rw [if_pos (by decide +kernel)]; kernel_rfl) | (rw [if_neg (by decide +kernel)]; exact ⟨rfl, rfl⟩))
    (fun os started H enc _ => topBricks_lifted os started H enc)

theorem topBricks_card : Rows.TopBricksCardSaid :=
  Claim7.holds_tied_plain_at .later [] [.data, .data, .data] true (true, "1c791ae537b465b0d2df479524af66b8c8425acd96b55dde08d3e22f5723eb84") true
    topBricks_holds (fun _ h => by cases h) (by kernel_rfl) (fun _ h => by cases h) topBricks_row_tie rfl ⟨rfl, rfl⟩ (by kernel_rfl) rfl
    (fun f fn hf hfn => by
      obtain rfl : f = 5 := Option.some.inj ((show Tryz.prog.funcNamed "loftblock/loftblocktop.TopBricks" = some 5 by kernel_rfl).symm.trans hf) |>.symm
      obtain rfl : fn = Tryz.f5 := (Option.some.inj (Tryz.func5.symm.trans hfn)).symm
      exact ⟨by kernel_rfl, fun j t ht => by
        rw [Tryz.params5] at ht
        have hm : t ∈ [26, 22] := by simpa using Array.mem_of_getElem? ht
        have hall : ([26, 22].all fun u => !Tryz.prog.wantsStandIn u) = true := by kernel_rfl
        exact (show Tryz.prog.wantsStandIn t = false by simpa using List.all_eq_true.1 hall t hm)⟩)
    (by kernel_rfl)
#print axioms topBricks_card
end Go.Proofs.YtgbicnkpnhifgaaGreatDoor
