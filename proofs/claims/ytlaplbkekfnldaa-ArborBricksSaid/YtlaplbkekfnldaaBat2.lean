/- Contracts: the weight of a set, the places of its lines (the program's and the reference's). -/
import Derived.Test.YtlaplbkekfnldaaBat1
namespace Go.Proofs.Ytlaplbkekfnldaa
open Go.RowKit

set_option maxHeartbeats 400000 in
theorem weight_any (S : LSet) (w : World) (h : Good S) (ha : S.At w w.heap.size) : Calls Try.prog 66 #[S.val] w fun e w' => e = .returned (.int .i64 (weightI S)) ∧ Below w.heap.size w w' := by
  have hp := pipe_bound h
  obtain ⟨hp1, hp2⟩ := hp
  have HW := Lib.hid (weights_bound h)
  have HI := Lib.hid ha.items
  have hn := h.ni
  have HG := Lib.hid h; clear h
  have hfin : weightI S = pipeI S + sumTo (·.weight) S.items S.items.length := rfl
  have HF := Lib.hid hfin; clear hfin
  clear ha
  show Calls Try.prog 66 #[.agg #[.string S.name, .int .i64 S.depth, .int .i64 S.low, .int .i64 S.high, .int .i64 S.len, .slice S.la S.lines.length S.lc, .int .i64 S.pipe, .int .i64 S.arbor, .int .i64 S.purchase, .int .i64 S.most, .int .i64 S.brake, .slice S.ia S.items.length S.ic, .slice S.ba S.bricks.length S.bc]] w _
  go_enter Try.func66, Try.ntmps66
  go_wp2_with fail
  refine (pipe_any S _ HG.out).mono ?_
  rintro e w1 ⟨rfl, hb1⟩
  obtain ⟨hbox, hz, hb⟩ := InBox.of hb1
  go_wp2_with fail
  go_loopw [3, 5, 11] (fun s _ i wr => ∃ k : Nat, k ≤ S.items.length ∧ i = .int .i64 k ∧ s = .int .i64 (pipeI S + sumTo (·.weight) S.items k) ∧ Below (w.heap.size + 1) w1 wr) (fun _ _ i _ => S.items.length - (intOf i).toNat)
  case atStart => exact ⟨0, Nat.zero_le _, rfl, by rw [sumTo_zero]; simp, Below.refl _ _⟩
  case round =>
    obtain ⟨k, hk, rfl, rfl, hbr⟩ := hrel
    by_cases hlt : k < S.items.length
    · obtain ⟨b, off, hA, hbb, c0, c1, c2, c3, c4, c5, c6⟩ := (HI.out.below (hb.trans (hbr.mono (by omega)))).at_ hlt
      have hs1 := HW.out (k + 1) (by omega)
      have hs2 := HW.out k (by omega)
      rw [sumTo_succ _ _ _ hlt] at hs1
      have HS := Lib.hid (sumTo_succ (·.weight) S.items k hlt)
      obtain ⟨hs1, hs3⟩ := hs1
      obtain ⟨hs2, hs4⟩ := hs2
      go_wp2_with fail
      exact ⟨⟨k + 1, by omega, by go_num, by rw [HS.out, Int.add_assoc], hbr.alloc (by have := hbr.size; omega) _⟩, by simp [intOf]; omega⟩
    · have hk2 : k = S.items.length := by omega
      have HK := Lib.hid hk2; clear hk2
      go_wp2_with fail
      go_ret
      exact ⟨ret_int (by rw [HF.out, HK.out]), hb.trans (hbr.mono (by omega))⟩
set_option maxHeartbeats 400000 in
theorem rweight_any (S : LSet) (w : World) (h : Good S) (ha : S.At w w.heap.size) : Calls Try.prog 43 #[S.val] w fun e w' => e = .returned (.int .i64 (weightI S)) ∧ Below w.heap.size w w' := by
  have hp := pipe_bound h
  obtain ⟨hp1, hp2⟩ := hp
  have HW := Lib.hid (weights_bound h)
  have HI := Lib.hid ha.items
  have hn := h.ni
  have HG := Lib.hid h; clear h
  have hfin : weightI S = pipeI S + sumTo (·.weight) S.items S.items.length := rfl
  have HF := Lib.hid hfin; clear hfin
  clear ha
  show Calls Try.prog 43 #[.agg #[.string S.name, .int .i64 S.depth, .int .i64 S.low, .int .i64 S.high, .int .i64 S.len, .slice S.la S.lines.length S.lc, .int .i64 S.pipe, .int .i64 S.arbor, .int .i64 S.purchase, .int .i64 S.most, .int .i64 S.brake, .slice S.ia S.items.length S.ic, .slice S.ba S.bricks.length S.bc]] w _
  go_enter Try.func43, Try.ntmps43
  go_wp2_with fail
  refine (rpipe_any S _ HG.out).mono ?_
  rintro e w1 ⟨rfl, hb1⟩
  obtain ⟨hbox, hz, hb⟩ := InBox.of hb1
  go_wp2_with fail
  go_loop [3, 4] (fun s i => ∃ k : Nat, k ≤ S.items.length ∧ i = .int .i64 k ∧ s = .int .i64 (pipeI S + sumTo (·.weight) S.items k)) (fun _ i => S.items.length - (intOf i).toNat)
  case atStart => exact ⟨0, Nat.zero_le _, rfl, by rw [sumTo_zero]; simp⟩
  case round =>
    obtain ⟨k, hk, rfl, rfl⟩ := hrel
    by_cases hlt : k < S.items.length
    · obtain ⟨b, off, hA, hbb, c0, c1, c2, c3, c4, c5, c6⟩ := (HI.out.below hb).at_ hlt
      have hs1 := HW.out (k + 1) (by omega)
      have hs2 := HW.out k (by omega)
      rw [sumTo_succ _ _ _ hlt] at hs1
      have HS := Lib.hid (sumTo_succ (·.weight) S.items k hlt)
      obtain ⟨hs1, hs3⟩ := hs1
      obtain ⟨hs2, hs4⟩ := hs2
      go_wp2_with fail
      exact ⟨⟨k + 1, by omega, by go_num, by rw [HS.out, Int.add_assoc]⟩, by simp [intOf]; omega⟩
    · have hk2 : k = S.items.length := by omega
      have HK := Lib.hid hk2; clear hk2
      go_wp2_with fail
      go_ret
      exact ⟨ret_int (by rw [HF.out, HK.out]), hb⟩
end Go.Proofs.Ytlaplbkekfnldaa
