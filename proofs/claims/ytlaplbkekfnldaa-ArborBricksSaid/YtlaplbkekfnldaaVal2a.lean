/- Contract: whether a set is valid, by the program: one theorem for each way through the test. -/
import Derived.Test.YtlaplbkekfnldaaVal
namespace Go.Proofs.Ytlaplbkekfnldaa
open Go.RowKit

set_option maxHeartbeats 1000000 in
set_option maxRecDepth 100000 in
theorem valid_way1 (S : LSet) (w : World) (ha : S.At w w.heap.size)  (o1 : nameB S.name = false) :
    Calls Try.prog 35 #[S.val] w fun e w' => e = .returned (.bool false) ∧ Below w.heap.size w w' := by
  have hnm := ha.name
  have HA := Lib.hid ha; clear ha
  unfold LSet.val
  go_enter Try.func35, Try.ntmps35
  go_wp2_with (first | (go_at_call 53; refine (name_any _ _ hnm).mono ?_; rintro e w' ⟨rfl, rfl⟩) | (go_at_call 62; refine (between_any _ _ _ _).mono ?_; rintro e w' ⟨rfl, rfl⟩))
  go_ret
  exact ⟨rfl, below_box _ _⟩

set_option maxHeartbeats 1000000 in
set_option maxRecDepth 100000 in
theorem valid_way2 (S : LSet) (w : World) (ha : S.At w w.heap.size) (o1 : nameB S.name = true) (o2 : betweenB S.depth 0 1048576 = false) :
    Calls Try.prog 35 #[S.val] w fun e w' => e = .returned (.bool false) ∧ Below w.heap.size w w' := by
  have hnm := ha.name
  have HA := Lib.hid ha; clear ha
  unfold LSet.val
  go_enter Try.func35, Try.ntmps35
  go_wp2_with (first | (go_at_call 53; refine (name_any _ _ hnm).mono ?_; rintro e w' ⟨rfl, rfl⟩) | (go_at_call 62; refine (between_any _ _ _ _).mono ?_; rintro e w' ⟨rfl, rfl⟩))
  go_ret
  exact ⟨rfl, below_box _ _⟩

set_option maxHeartbeats 1000000 in
set_option maxRecDepth 100000 in
theorem valid_way3 (S : LSet) (w : World) (ha : S.At w w.heap.size) (o1 : nameB S.name = true) (o2 : betweenB S.depth 0 1048576 = true) (o3 : S.low < 0) :
    Calls Try.prog 35 #[S.val] w fun e w' => e = .returned (.bool false) ∧ Below w.heap.size w w' := by
  have hnm := ha.name
  have HA := Lib.hid ha; clear ha
  unfold LSet.val
  go_enter Try.func35, Try.ntmps35
  go_wp2_with (first | (go_at_call 53; refine (name_any _ _ hnm).mono ?_; rintro e w' ⟨rfl, rfl⟩) | (go_at_call 62; refine (between_any _ _ _ _).mono ?_; rintro e w' ⟨rfl, rfl⟩))
  go_ret
  exact ⟨rfl, below_box _ _⟩

set_option maxHeartbeats 1000000 in
set_option maxRecDepth 100000 in
theorem valid_way4 (S : LSet) (w : World) (ha : S.At w w.heap.size) (o1 : nameB S.name = true) (o2 : betweenB S.depth 0 1048576 = true) (o3 : 0 ≤ S.low) (o4 : S.high < S.low) :
    Calls Try.prog 35 #[S.val] w fun e w' => e = .returned (.bool false) ∧ Below w.heap.size w w' := by
  have hnm := ha.name
  have HA := Lib.hid ha; clear ha
  unfold LSet.val
  go_enter Try.func35, Try.ntmps35
  go_wp2_with (first | (go_at_call 53; refine (name_any _ _ hnm).mono ?_; rintro e w' ⟨rfl, rfl⟩) | (go_at_call 62; refine (between_any _ _ _ _).mono ?_; rintro e w' ⟨rfl, rfl⟩))
  go_ret
  exact ⟨rfl, below_box _ _⟩

set_option maxHeartbeats 1000000 in
set_option maxRecDepth 100000 in
theorem valid_way5 (S : LSet) (w : World) (ha : S.At w w.heap.size) (o1 : nameB S.name = true) (o2 : betweenB S.depth 0 1048576 = true) (o3 : 0 ≤ S.low) (o4 : S.low ≤ S.high) (o5 : 1048576 < S.high) :
    Calls Try.prog 35 #[S.val] w fun e w' => e = .returned (.bool false) ∧ Below w.heap.size w w' := by
  have hnm := ha.name
  have HA := Lib.hid ha; clear ha
  unfold LSet.val
  go_enter Try.func35, Try.ntmps35
  go_wp2_with (first | (go_at_call 53; refine (name_any _ _ hnm).mono ?_; rintro e w' ⟨rfl, rfl⟩) | (go_at_call 62; refine (between_any _ _ _ _).mono ?_; rintro e w' ⟨rfl, rfl⟩))
  go_ret
  exact ⟨rfl, below_box _ _⟩

set_option maxHeartbeats 1000000 in
set_option maxRecDepth 100000 in
theorem valid_way6 (S : LSet) (w : World) (ha : S.At w w.heap.size) (o1 : nameB S.name = true) (o2 : betweenB S.depth 0 1048576 = true) (o3 : 0 ≤ S.low) (o4 : S.low ≤ S.high) (o5 : S.high ≤ 1048576) (o6 : betweenB S.len 1000 1048576 = false) :
    Calls Try.prog 35 #[S.val] w fun e w' => e = .returned (.bool false) ∧ Below w.heap.size w w' := by
  have hnm := ha.name
  have HA := Lib.hid ha; clear ha
  unfold LSet.val
  go_enter Try.func35, Try.ntmps35
  go_wp2_with (first | (go_at_call 53; refine (name_any _ _ hnm).mono ?_; rintro e w' ⟨rfl, rfl⟩) | (go_at_call 62; refine (between_any _ _ _ _).mono ?_; rintro e w' ⟨rfl, rfl⟩))
  go_ret
  exact ⟨rfl, below_box _ _⟩

set_option maxHeartbeats 1000000 in
set_option maxRecDepth 100000 in
theorem valid_way7 (S : LSet) (w : World) (ha : S.At w w.heap.size) (o1 : nameB S.name = true) (o2 : betweenB S.depth 0 1048576 = true) (o3 : 0 ≤ S.low) (o4 : S.low ≤ S.high) (o5 : S.high ≤ 1048576) (o6 : betweenB S.len 1000 1048576 = true) (o7 : (S.len % 1000 == 0) = false) :
    Calls Try.prog 35 #[S.val] w fun e w' => e = .returned (.bool false) ∧ Below w.heap.size w w' := by
  have hnm := ha.name
  have HA := Lib.hid ha; clear ha
  obtain ⟨hl0, hl1⟩ := (between_iff _ _ _).1 o6
  unfold LSet.val
  go_enter Try.func35, Try.ntmps35
  go_wp2_with (first | (go_at_call 53; refine (name_any _ _ hnm).mono ?_; rintro e w' ⟨rfl, rfl⟩) | (go_at_call 62; refine (between_any _ _ _ _).mono ?_; rintro e w' ⟨rfl, rfl⟩))
  go_ret
  exact ⟨rfl, below_box _ _⟩
end Go.Proofs.Ytlaplbkekfnldaa
