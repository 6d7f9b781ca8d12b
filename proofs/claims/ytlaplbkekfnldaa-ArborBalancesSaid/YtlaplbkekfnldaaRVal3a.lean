/- Contract: whether a set is valid, by the reference: one theorem for each way through its first two tests. -/
import Derived.Test.YtlaplbkekfnldaaRVal2
namespace Go.Proofs.Ytlaplbkekfnldaa
open Go.RowKit

set_option maxHeartbeats 1000000 in
set_option maxRecDepth 100000 in
theorem rvalid_way1 (S : LSet) (w : World) (hnm : S.name.size ≤ maxLen)  (o1 : nameB S.name = false) :
    Calls Try.prog 16 #[S.val] w fun e w' => e = .returned (.bool false) ∧ Below w.heap.size w w' := by
  unfold LSet.val
  go_enter Try.func16, Try.ntmps16
  go_wp2_with (first | (go_at_call 40; refine (rname_any _ _ hnm).mono ?_; rintro e w' ⟨rfl, rfl⟩) | (go_at_call 41; refine (rbetween_any _ _ _ _).mono ?_; rintro e w' ⟨rfl, rfl⟩))
  go_ret
  exact ⟨rfl, below_box _ _⟩

set_option maxHeartbeats 1000000 in
set_option maxRecDepth 100000 in
theorem rvalid_way2 (S : LSet) (w : World) (hnm : S.name.size ≤ maxLen) (o1 : nameB S.name = true) (o2 : betweenB S.depth 0 1048576 = false) :
    Calls Try.prog 16 #[S.val] w fun e w' => e = .returned (.bool false) ∧ Below w.heap.size w w' := by
  unfold LSet.val
  go_enter Try.func16, Try.ntmps16
  go_wp2_with (first | (go_at_call 40; refine (rname_any _ _ hnm).mono ?_; rintro e w' ⟨rfl, rfl⟩) | (go_at_call 41; refine (rbetween_any _ _ _ _).mono ?_; rintro e w' ⟨rfl, rfl⟩))
  go_ret
  exact ⟨rfl, below_box _ _⟩

set_option maxHeartbeats 1000000 in
set_option maxRecDepth 100000 in
theorem rvalid_way3 (S : LSet) (w : World) (hnm : S.name.size ≤ maxLen) (o1 : nameB S.name = true) (o2 : betweenB S.depth 0 1048576 = true) (o3 : betweenB S.low 0 S.high = false) :
    Calls Try.prog 16 #[S.val] w fun e w' => e = .returned (.bool false) ∧ Below w.heap.size w w' := by
  unfold LSet.val
  go_enter Try.func16, Try.ntmps16
  go_wp2_with (first | (go_at_call 40; refine (rname_any _ _ hnm).mono ?_; rintro e w' ⟨rfl, rfl⟩) | (go_at_call 41; refine (rbetween_any _ _ _ _).mono ?_; rintro e w' ⟨rfl, rfl⟩))
  go_ret
  exact ⟨rfl, below_box _ _⟩

set_option maxHeartbeats 1000000 in
set_option maxRecDepth 100000 in
theorem rvalid_way4 (S : LSet) (w : World) (hnm : S.name.size ≤ maxLen) (o1 : nameB S.name = true) (o2 : betweenB S.depth 0 1048576 = true) (o3 : betweenB S.low 0 S.high = true) (o4 : betweenB S.high 0 1048576 = false) :
    Calls Try.prog 16 #[S.val] w fun e w' => e = .returned (.bool false) ∧ Below w.heap.size w w' := by
  unfold LSet.val
  go_enter Try.func16, Try.ntmps16
  go_wp2_with (first | (go_at_call 40; refine (rname_any _ _ hnm).mono ?_; rintro e w' ⟨rfl, rfl⟩) | (go_at_call 41; refine (rbetween_any _ _ _ _).mono ?_; rintro e w' ⟨rfl, rfl⟩))
  go_ret
  exact ⟨rfl, below_box _ _⟩

set_option maxHeartbeats 1000000 in
set_option maxRecDepth 100000 in
theorem rvalid_way5 (S : LSet) (w : World) (hnm : S.name.size ≤ maxLen) (o1 : nameB S.name = true) (o2 : betweenB S.depth 0 1048576 = true) (o3 : betweenB S.low 0 S.high = true) (o4 : betweenB S.high 0 1048576 = true) (o5 : betweenB S.len 1000 1048576 = false) :
    Calls Try.prog 16 #[S.val] w fun e w' => e = .returned (.bool false) ∧ Below w.heap.size w w' := by
  unfold LSet.val
  go_enter Try.func16, Try.ntmps16
  go_wp2_with (first | (go_at_call 40; refine (rname_any _ _ hnm).mono ?_; rintro e w' ⟨rfl, rfl⟩) | (go_at_call 41; refine (rbetween_any _ _ _ _).mono ?_; rintro e w' ⟨rfl, rfl⟩))
  go_ret
  exact ⟨rfl, below_box _ _⟩

set_option maxHeartbeats 1000000 in
set_option maxRecDepth 100000 in
theorem rvalid_way6 (S : LSet) (w : World) (hnm : S.name.size ≤ maxLen) (o1 : nameB S.name = true) (o2 : betweenB S.depth 0 1048576 = true) (o3 : betweenB S.low 0 S.high = true) (o4 : betweenB S.high 0 1048576 = true) (o5 : betweenB S.len 1000 1048576 = true) (o6 : (S.len % 1000 != 0) = true) :
    Calls Try.prog 16 #[S.val] w fun e w' => e = .returned (.bool false) ∧ Below w.heap.size w w' := by
  obtain ⟨hl0, hl1⟩ := (between_iff _ _ _).1 o5
  unfold LSet.val
  go_enter Try.func16, Try.ntmps16
  go_wp2_with (first | (go_at_call 40; refine (rname_any _ _ hnm).mono ?_; rintro e w' ⟨rfl, rfl⟩) | (go_at_call 41; refine (rbetween_any _ _ _ _).mono ?_; rintro e w' ⟨rfl, rfl⟩))
  go_ret
  exact ⟨rfl, below_box _ _⟩

set_option maxHeartbeats 1000000 in
set_option maxRecDepth 100000 in
theorem rvalid_way7 (S : LSet) (w : World) (hnm : S.name.size ≤ maxLen) (o1 : nameB S.name = true) (o2 : betweenB S.depth 0 1048576 = true) (o3 : betweenB S.low 0 S.high = true) (o4 : betweenB S.high 0 1048576 = true) (o5 : betweenB S.len 1000 1048576 = true) (o6 : (S.len % 1000 != 0) = false) (o7 : betweenB S.lines.length 2 10 = false) :
    Calls Try.prog 16 #[S.val] w fun e w' => e = .returned (.bool false) ∧ Below w.heap.size w w' := by
  obtain ⟨hl0, hl1⟩ := (between_iff _ _ _).1 o5
  unfold LSet.val
  go_enter Try.func16, Try.ntmps16
  go_wp2_with (first | (go_at_call 40; refine (rname_any _ _ hnm).mono ?_; rintro e w' ⟨rfl, rfl⟩) | (go_at_call 41; refine (rbetween_any _ _ _ _).mono ?_; rintro e w' ⟨rfl, rfl⟩))
  go_ret
  exact ⟨rfl, below_box _ _⟩
end Go.Proofs.Ytlaplbkekfnldaa
