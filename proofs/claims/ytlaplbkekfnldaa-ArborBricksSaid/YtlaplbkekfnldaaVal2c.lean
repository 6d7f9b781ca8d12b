/- Contract: whether a set is valid, by the program: one theorem for each way through the test. -/
import Derived.Test.YtlaplbkekfnldaaVal
namespace Go.Proofs.Ytlaplbkekfnldaa
open Go.RowKit

set_option maxHeartbeats 1000000 in
set_option maxRecDepth 100000 in
theorem valid_way14 (S : LSet) (w : World) (ha : S.At w w.heap.size) (o1 : nameB S.name = true) (o2 : betweenB S.depth 0 1048576 = true) (o3 : 0 ≤ S.low) (o4 : S.low ≤ S.high) (o5 : S.high ≤ 1048576) (o6 : betweenB S.len 1000 1048576 = true) (o7 : (S.len % 1000 == 0) = true) (o8 : linesB S.lines S.len = true) (o9 : betweenB S.pipe 0 1048576 = true) (o10 : betweenB S.arbor 0 1048576 = true) (o11 : betweenB S.purchase 1 2 = true) (o12 : betweenB S.most 1 67108864 = true) (o13 : betweenB S.brake 0 67108864 = true) (o14 : itemsB S.items S.len = false) :
    Calls Try.prog 35 #[S.val] w fun e w' => e = .returned (.bool false) ∧ Below w.heap.size w w' := by
  have hnm := ha.name
  have HA := Lib.hid ha; clear ha
  obtain ⟨hl0, hl1⟩ := (between_iff _ _ _).1 o6
  unfold LSet.val
  go_enter Try.func35, Try.ntmps35
  go_wp2_with (first | (go_at_call 53; refine (name_any _ _ hnm).mono ?_; rintro e w' ⟨rfl, rfl⟩) | (go_at_call 62; refine (between_any _ _ _ _).mono ?_; rintro e w' ⟨rfl, rfl⟩))
  have hA1 := HA.out.alloc (.cells #[.string S.name, .int .i64 S.depth, .int .i64 S.low, .int .i64 S.high, .int .i64 S.len, .slice S.la S.lines.length S.lc, .int .i64 S.pipe, .int .i64 S.arbor, .int .i64 S.purchase, .int .i64 S.most, .int .i64 S.brake, .slice S.ia S.items.length S.ic, .slice S.ba S.bricks.length S.bc] 26)
  refine (lines_any _ _ _ _ _ hA1.lines hA1.nlines).mono ?_
  rintro e w1 ⟨rfl, hb1⟩
  obtain ⟨hbox, hz, hb⟩ := InBox.of hb1
  clear hA1 hb1
  go_wp2_with (first | (go_at_call 53; refine (name_any _ _ hnm).mono ?_; rintro e w' ⟨rfl, rfl⟩) | (go_at_call 62; refine (between_any _ _ _ _).mono ?_; rintro e w' ⟨rfl, rfl⟩))
  have hA2 := HA.out.on hb
  refine (items_any _ _ _ _ _ hA2.items hA2.nitems hA2.citems hA2.inames (by omega) (by omega)).mono ?_
  rintro e w2 ⟨rfl, hb2⟩
  obtain ⟨hbox2, hz2, hb02⟩ := InBox.step ⟨hbox, hz, hb⟩ (hb2.mono hz)
  clear hbox hA2 hb2
  go_wp2_with (first | (go_at_call 53; refine (name_any _ _ hnm).mono ?_; rintro e w' ⟨rfl, rfl⟩) | (go_at_call 62; refine (between_any _ _ _ _).mono ?_; rintro e w' ⟨rfl, rfl⟩))
  go_ret
  exact ⟨rfl, hb02⟩

set_option maxHeartbeats 1000000 in
set_option maxRecDepth 100000 in
theorem valid_way15 (S : LSet) (w : World) (ha : S.At w w.heap.size) (o1 : nameB S.name = true) (o2 : betweenB S.depth 0 1048576 = true) (o3 : 0 ≤ S.low) (o4 : S.low ≤ S.high) (o5 : S.high ≤ 1048576) (o6 : betweenB S.len 1000 1048576 = true) (o7 : (S.len % 1000 == 0) = true) (o8 : linesB S.lines S.len = true) (o9 : betweenB S.pipe 0 1048576 = true) (o10 : betweenB S.arbor 0 1048576 = true) (o11 : betweenB S.purchase 1 2 = true) (o12 : betweenB S.most 1 67108864 = true) (o13 : betweenB S.brake 0 67108864 = true) (o14 : itemsB S.items S.len = true) (o15 : bricksB S.bricks = false) :
    Calls Try.prog 35 #[S.val] w fun e w' => e = .returned (.bool false) ∧ Below w.heap.size w w' := by
  have hnm := ha.name
  have HA := Lib.hid ha; clear ha
  obtain ⟨hl0, hl1⟩ := (between_iff _ _ _).1 o6
  unfold LSet.val
  go_enter Try.func35, Try.ntmps35
  go_wp2_with (first | (go_at_call 53; refine (name_any _ _ hnm).mono ?_; rintro e w' ⟨rfl, rfl⟩) | (go_at_call 62; refine (between_any _ _ _ _).mono ?_; rintro e w' ⟨rfl, rfl⟩))
  have hA1 := HA.out.alloc (.cells #[.string S.name, .int .i64 S.depth, .int .i64 S.low, .int .i64 S.high, .int .i64 S.len, .slice S.la S.lines.length S.lc, .int .i64 S.pipe, .int .i64 S.arbor, .int .i64 S.purchase, .int .i64 S.most, .int .i64 S.brake, .slice S.ia S.items.length S.ic, .slice S.ba S.bricks.length S.bc] 26)
  refine (lines_any _ _ _ _ _ hA1.lines hA1.nlines).mono ?_
  rintro e w1 ⟨rfl, hb1⟩
  obtain ⟨hbox, hz, hb⟩ := InBox.of hb1
  clear hA1 hb1
  go_wp2_with (first | (go_at_call 53; refine (name_any _ _ hnm).mono ?_; rintro e w' ⟨rfl, rfl⟩) | (go_at_call 62; refine (between_any _ _ _ _).mono ?_; rintro e w' ⟨rfl, rfl⟩))
  have hA2 := HA.out.on hb
  refine (items_any _ _ _ _ _ hA2.items hA2.nitems hA2.citems hA2.inames (by omega) (by omega)).mono ?_
  rintro e w2 ⟨rfl, hb2⟩
  obtain ⟨hbox2, hz2, hb02⟩ := InBox.step ⟨hbox, hz, hb⟩ (hb2.mono hz)
  clear hbox hA2 hb2
  go_wp2_with (first | (go_at_call 53; refine (name_any _ _ hnm).mono ?_; rintro e w' ⟨rfl, rfl⟩) | (go_at_call 62; refine (between_any _ _ _ _).mono ?_; rintro e w' ⟨rfl, rfl⟩))
  have hA3 := HA.out.on hb02
  refine (bricks_any _ _ _ _ hA3.bricks hA3.nbricks hA3.bnames).mono ?_
  rintro e w3 ⟨rfl, hb3⟩
  have hb03 := bthen hb02 hb3
  clear hA3 hb3 hbox2
  go_wp2_with (first | (go_at_call 53; refine (name_any _ _ hnm).mono ?_; rintro e w' ⟨rfl, rfl⟩) | (go_at_call 62; refine (between_any _ _ _ _).mono ?_; rintro e w' ⟨rfl, rfl⟩))
  go_ret
  exact ⟨rfl, hb03⟩

set_option maxHeartbeats 1000000 in
set_option maxRecDepth 100000 in
theorem valid_way16 (S : LSet) (w : World) (ha : S.At w w.heap.size) (o1 : nameB S.name = true) (o2 : betweenB S.depth 0 1048576 = true) (o3 : 0 ≤ S.low) (o4 : S.low ≤ S.high) (o5 : S.high ≤ 1048576) (o6 : betweenB S.len 1000 1048576 = true) (o7 : (S.len % 1000 == 0) = true) (o8 : linesB S.lines S.len = true) (o9 : betweenB S.pipe 0 1048576 = true) (o10 : betweenB S.arbor 0 1048576 = true) (o11 : betweenB S.purchase 1 2 = true) (o12 : betweenB S.most 1 67108864 = true) (o13 : betweenB S.brake 0 67108864 = true) (o14 : itemsB S.items S.len = true) (o15 : bricksB S.bricks = true) :
    Calls Try.prog 35 #[S.val] w fun e w' => e = .returned (.bool true) ∧ Below w.heap.size w w' := by
  have hnm := ha.name
  have HA := Lib.hid ha; clear ha
  obtain ⟨hl0, hl1⟩ := (between_iff _ _ _).1 o6
  unfold LSet.val
  go_enter Try.func35, Try.ntmps35
  go_wp2_with (first | (go_at_call 53; refine (name_any _ _ hnm).mono ?_; rintro e w' ⟨rfl, rfl⟩) | (go_at_call 62; refine (between_any _ _ _ _).mono ?_; rintro e w' ⟨rfl, rfl⟩))
  have hA1 := HA.out.alloc (.cells #[.string S.name, .int .i64 S.depth, .int .i64 S.low, .int .i64 S.high, .int .i64 S.len, .slice S.la S.lines.length S.lc, .int .i64 S.pipe, .int .i64 S.arbor, .int .i64 S.purchase, .int .i64 S.most, .int .i64 S.brake, .slice S.ia S.items.length S.ic, .slice S.ba S.bricks.length S.bc] 26)
  refine (lines_any _ _ _ _ _ hA1.lines hA1.nlines).mono ?_
  rintro e w1 ⟨rfl, hb1⟩
  obtain ⟨hbox, hz, hb⟩ := InBox.of hb1
  clear hA1 hb1
  go_wp2_with (first | (go_at_call 53; refine (name_any _ _ hnm).mono ?_; rintro e w' ⟨rfl, rfl⟩) | (go_at_call 62; refine (between_any _ _ _ _).mono ?_; rintro e w' ⟨rfl, rfl⟩))
  have hA2 := HA.out.on hb
  refine (items_any _ _ _ _ _ hA2.items hA2.nitems hA2.citems hA2.inames (by omega) (by omega)).mono ?_
  rintro e w2 ⟨rfl, hb2⟩
  obtain ⟨hbox2, hz2, hb02⟩ := InBox.step ⟨hbox, hz, hb⟩ (hb2.mono hz)
  clear hbox hA2 hb2
  go_wp2_with (first | (go_at_call 53; refine (name_any _ _ hnm).mono ?_; rintro e w' ⟨rfl, rfl⟩) | (go_at_call 62; refine (between_any _ _ _ _).mono ?_; rintro e w' ⟨rfl, rfl⟩))
  have hA3 := HA.out.on hb02
  refine (bricks_any _ _ _ _ hA3.bricks hA3.nbricks hA3.bnames).mono ?_
  rintro e w3 ⟨rfl, hb3⟩
  have hb03 := bthen hb02 hb3
  clear hA3 hb3 hbox2
  go_wp2_with (first | (go_at_call 53; refine (name_any _ _ hnm).mono ?_; rintro e w' ⟨rfl, rfl⟩) | (go_at_call 62; refine (between_any _ _ _ _).mono ?_; rintro e w' ⟨rfl, rfl⟩))
  go_ret
  exact ⟨rfl, hb03⟩
end Go.Proofs.Ytlaplbkekfnldaa
