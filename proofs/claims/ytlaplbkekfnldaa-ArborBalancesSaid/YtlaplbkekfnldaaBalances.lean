/- The law ArborBalances: its walk. -/
import Derived.Test.YtlaplbkekfnldaaRArb
import Derived.Test.YtlaplbkekfnldaaRVal3
import Derived.Test.YtlaplbkekfnldaaBrakesW
namespace Go.Proofs.Ytlaplbkekfnldaa
open Go.RowKit

set_option maxHeartbeats 2000000 in
set_option maxRecDepth 100000 in
theorem balances_any (S : LSet) (w : World) (ha : S.At w w.heap.size) : Calls Try.prog 4 #[S.val] w fun e w' => e = .returned (.bool true) ∧ Below w.heap.size w w' := by
  have H1 := Lib.hid (fun w' (hb : Below w.heap.size w w') => large25 S w' (ha.on hb))
  have HV := Lib.hid (fun w' (hb : Below w.heap.size w w') => rvalid_any S w' (ha.on hb))
  by_cases hs : smallB S 8 = false
  · rw [hs] at H1
    clear ha HV
    unfold LSet.val at *
    go_enter Try.func4, Try.ntmps4
    go_wp2_with fail
    refine (awake25 _).mono ?_
    rintro e w1 ⟨rfl, hc1⟩
    obtain ⟨hx1, hz1, hb1⟩ := InBox.of hc1
    clear hc1
    go_wp2_with fail
    refine (H1.out _ hb1).mono ?_
    rintro e w2 ⟨rfl, hc2⟩
    obtain ⟨hx2, hz2, hb2⟩ := InBox.step ⟨hx1, hz1, hb1⟩ (hc2.mono hz1)
    clear hx1 hc2
    go_wp2_with fail
    go_ret
    exact ⟨rfl, hb2⟩
  · have hs : smallB S 8 = true := by simpa using hs
    rw [hs] at H1
    by_cases hv : validB S = true
    · rw [hv] at HV
      have H2 := Lib.hid (fun w' (hb : Below w.heap.size w w') => needed_yes S w' (ha.on hb) hv)
      have H3 := Lib.hid (fun w' (hb : Below w.heap.size w w') => balance_yes S w' (ha.on hb) hv)
      have H4 := Lib.hid (fun w' (hb : Below w.heap.size w w') => holds_yes S w' (ha.on hb) hv)
      have H5 := Lib.hid (fun w' (hb : Below w.heap.size w w') => room_yes S w' (ha.on hb) hv)
      have R2 := Lib.hid (fun w' (hb : Below w.heap.size w w') => rneeded_any S w' (Good.of hv) (ha.on hb))
      have R3 := Lib.hid (fun w' (hb : Below w.heap.size w w') => rbalance_any S w' (Good.of hv) (ha.on hb))
      have R4 := Lib.hid (fun w' (hb : Below w.heap.size w w') => rholds_any S w' (Good.of hv) (ha.on hb))
      have R5 := Lib.hid (fun w' (hb : Below w.heap.size w w') => rroom_any S w' (Good.of hv) (ha.on hb))
      clear ha hv hs
      unfold LSet.val at *
      go_enter Try.func4, Try.ntmps4
      go_wp2_with fail
      refine (awake25 _).mono ?_
      rintro e w1 ⟨rfl, hc1⟩
      obtain ⟨hx1, hz1, hb1⟩ := InBox.of hc1
      clear hc1
      go_wp2_with fail
      refine (H1.out _ hb1).mono ?_
      rintro e w2 ⟨rfl, hc2⟩
      obtain ⟨hx2, hz2, hb2⟩ := InBox.step ⟨hx1, hz1, hb1⟩ (hc2.mono hz1)
      clear hx1 hc2
      go_wp2_with fail
      refine (H2.out _ hb2).mono ?_
      rintro e w3 ⟨rfl, hc3⟩
      obtain ⟨hx3, hz3, hb3⟩ := InBox.step ⟨hx2, hz2, hb2⟩ (hc3.mono hz2)
      clear hx2 hc3
      go_wp2_with fail
      refine (H3.out _ hb3).mono ?_
      rintro e w4 ⟨rfl, hc4⟩
      obtain ⟨hx4, hz4, hb4⟩ := InBox.step ⟨hx3, hz3, hb3⟩ (hc4.mono hz3)
      clear hx3 hc4
      go_wp2_with fail
      refine (H4.out _ hb4).mono ?_
      rintro e w5 ⟨rfl, hc5⟩
      obtain ⟨hx5, hz5, hb5⟩ := InBox.step ⟨hx4, hz4, hb4⟩ (hc5.mono hz4)
      clear hx4 hc5
      go_wp2_with fail
      refine (H5.out _ hb5).mono ?_
      rintro e w6 ⟨rfl, hc6⟩
      obtain ⟨hx6, hz6, hb6⟩ := InBox.step ⟨hx5, hz5, hb5⟩ (hc6.mono hz5)
      clear hx5 hc6
      go_wp2_with fail
      refine (HV.out _ hb6).mono ?_
      rintro e w7 ⟨rfl, hc7⟩
      obtain ⟨hx7, hz7, hb7⟩ := InBox.step ⟨hx6, hz6, hb6⟩ (hc7.mono hz6)
      clear hx6 hc7
      go_wp2_with fail
      refine (R2.out _ hb7).mono ?_
      rintro e w8 ⟨rfl, hc8⟩
      obtain ⟨hx8, hz8, hb8⟩ := InBox.step ⟨hx7, hz7, hb7⟩ (hc8.mono hz7)
      clear hx7 hc8
      go_wp2_with fail
      refine (R3.out _ hb8).mono ?_
      rintro e w9 ⟨rfl, hc9⟩
      obtain ⟨hx9, hz9, hb9⟩ := InBox.step ⟨hx8, hz8, hb8⟩ (hc9.mono hz8)
      clear hx8 hc9
      go_wp2_with fail
      refine (R4.out _ hb9).mono ?_
      rintro e w10 ⟨rfl, hc10⟩
      obtain ⟨hx10, hz10, hb10⟩ := InBox.step ⟨hx9, hz9, hb9⟩ (hc10.mono hz9)
      clear hx9 hc10
      go_wp2_with fail
      refine (R5.out _ hb10).mono ?_
      rintro e w11 ⟨rfl, hc11⟩
      obtain ⟨hx11, hz11, hb11⟩ := InBox.step ⟨hx10, hz10, hb10⟩ (hc11.mono hz10)
      clear hx10 hc11
      go_wp2_with fail
      go_ret
      exact ⟨rfl, hb11⟩
    · have hv := Bool.eq_false_iff.2 hv
      rw [hv] at HV
      have H2 := Lib.hid (fun w' (hb : Below w.heap.size w w') => needed_no S w' (ha.on hb) hv)
      have H3 := Lib.hid (fun w' (hb : Below w.heap.size w w') => balance_no S w' (ha.on hb) hv)
      have H4 := Lib.hid (fun w' (hb : Below w.heap.size w w') => holds_no S w' (ha.on hb) hv)
      have H5 := Lib.hid (fun w' (hb : Below w.heap.size w w') => room_no S w' (ha.on hb) hv)
      clear ha hv hs
      unfold LSet.val at *
      go_enter Try.func4, Try.ntmps4
      go_wp2_with fail
      refine (awake25 _).mono ?_
      rintro e w1 ⟨rfl, hc1⟩
      obtain ⟨hx1, hz1, hb1⟩ := InBox.of hc1
      clear hc1
      go_wp2_with fail
      refine (H1.out _ hb1).mono ?_
      rintro e w2 ⟨rfl, hc2⟩
      obtain ⟨hx2, hz2, hb2⟩ := InBox.step ⟨hx1, hz1, hb1⟩ (hc2.mono hz1)
      clear hx1 hc2
      go_wp2_with fail
      refine (H2.out _ hb2).mono ?_
      rintro e w3 ⟨rfl, hc3⟩
      obtain ⟨hx3, hz3, hb3⟩ := InBox.step ⟨hx2, hz2, hb2⟩ (hc3.mono hz2)
      clear hx2 hc3
      go_wp2_with fail
      refine (H3.out _ hb3).mono ?_
      rintro e w4 ⟨rfl, hc4⟩
      obtain ⟨hx4, hz4, hb4⟩ := InBox.step ⟨hx3, hz3, hb3⟩ (hc4.mono hz3)
      clear hx3 hc4
      go_wp2_with fail
      refine (H4.out _ hb4).mono ?_
      rintro e w5 ⟨rfl, hc5⟩
      obtain ⟨hx5, hz5, hb5⟩ := InBox.step ⟨hx4, hz4, hb4⟩ (hc5.mono hz4)
      clear hx4 hc5
      go_wp2_with fail
      refine (H5.out _ hb5).mono ?_
      rintro e w6 ⟨rfl, hc6⟩
      obtain ⟨hx6, hz6, hb6⟩ := InBox.step ⟨hx5, hz5, hb5⟩ (hc6.mono hz5)
      clear hx5 hc6
      go_wp2_with fail
      refine (HV.out _ hb6).mono ?_
      rintro e w7 ⟨rfl, hc7⟩
      obtain ⟨hx7, hz7, hb7⟩ := InBox.step ⟨hx6, hz6, hb6⟩ (hc7.mono hz6)
      clear hx6 hc7
      go_wp2_with fail
      go_ret
      exact ⟨rfl, hb7⟩
end Go.Proofs.Ytlaplbkekfnldaa
