/- Contracts of the small functions on items and line sets. -/
import Derived.Test.YtlaplbkekfnldaaStr
import Derived.Deep.QuietTactic
import Derived.BigQuiet
namespace Go.Proofs.Ytlaplbkekfnldaa
open Go.RowKit

set_option maxHeartbeats 400000 in
theorem alone_any (x : Item) (w : World) (hs : x.name.size ≤ maxLen) : Calls Try.prog 57 #[x.val] w fun e w' => e = .returned (.bool (aloneB x)) ∧ Below w.heap.size w w' := by
  unfold Item.val
  go_enter Try.func57, Try.ntmps57
  go_wp2_with (first | (go_at_call 53; refine (name_any _ _ hs).mono ?_; rintro e w' ⟨rfl, rfl⟩) | (go_at_call 62; refine (between_any _ _ _ _).mono ?_; rintro e w' ⟨rfl, rfl⟩))
  all_goals (go_ret; refine ⟨ret_bool ?_, below_box _ _⟩; simp [aloneB, *])
theorem small_of {x : Item} {len : Int} (h : (aloneB x && insideB x len) = true) (hl : len ≤ 1048576) : 0 ≤ x.pos ∧ x.pos ≤ 1048576 ∧ 0 ≤ x.width ∧ x.width ≤ 1048576 := by
  have g := GoodItem.of h
  have := g.p0; have := g.w1; have := g.pw; omega
set_option maxHeartbeats 400000 in
theorem inside_any (x : Item) (len : Int) (w : World) (h0 : 0 ≤ len) (h1 : len ≤ 1048576) : Calls Try.prog 58 #[x.val, .int .i64 len] w fun e w' => e = .returned (.bool (insideB x len)) ∧ Below w.heap.size w w' := by
  unfold Item.val
  by_cases hw : betweenB x.width 1 1048576 = true
  · have hb := (between_iff _ _ _).1 hw
    obtain ⟨hb1, hb2⟩ := hb
    by_cases hp : 0 ≤ x.pos
    all_goals
      go_enter Try.func58, Try.ntmps58
      go_wp2_with (first | (go_at_call 62; refine (between_any _ _ _ _).mono ?_; rintro e w' ⟨rfl, rfl⟩))
      go_ret
      refine ⟨ret_bool ?_, below_box _ _⟩
      first | (simp [insideB, *]; done) | (simp [insideB, *]; omega)
  · have hw := Bool.eq_false_iff.2 hw
    go_enter Try.func58, Try.ntmps58
    go_wp2_with (first | (go_at_call 62; refine (between_any _ _ _ _).mono ?_; rintro e w' ⟨rfl, rfl⟩))
    all_goals (go_ret; refine ⟨ret_bool ?_, below_box _ _⟩; simp [insideB, *])
set_option maxHeartbeats 400000 in
theorem apart_any (x y : Item) (w : World) (hx : 0 ≤ x.pos ∧ x.pos ≤ 1048576 ∧ 0 ≤ x.width ∧ x.width ≤ 1048576) (hy : 0 ≤ y.pos ∧ y.pos ≤ 1048576 ∧ 0 ≤ y.width ∧ y.width ≤ 1048576) :
    Calls Try.prog 60 #[x.val, y.val] w fun e w' => e = .returned (.bool (apartB x y)) ∧ Below w.heap.size w w' := by
  unfold Item.val
  obtain ⟨x1, x2, x3, x4⟩ := hx
  obtain ⟨y1, y2, y3, y4⟩ := hy
  go_enter Try.func60, Try.ntmps60
  go_wp2
  all_goals (go_ret; refine ⟨ret_bool ?_, bthen (below_box _ _) (below_box _ _)⟩; simp [apartB, *])
set_option maxHeartbeats 400000 in
theorem rapart_any (x y : Item) (w : World) (hx : 0 ≤ x.pos ∧ x.pos ≤ 1048576 ∧ 0 ≤ x.width ∧ x.width ≤ 1048576) (hy : 0 ≤ y.pos ∧ y.pos ≤ 1048576 ∧ 0 ≤ y.width ∧ y.width ≤ 1048576) :
    Calls Try.prog 70 #[x.val, y.val] w fun e w' => e = .returned (.bool (apartB x y)) ∧ Below w.heap.size w w' := by
  unfold Item.val
  obtain ⟨x1, x2, x3, x4⟩ := hx
  obtain ⟨y1, y2, y3, y4⟩ := hy
  go_enter Try.func70, Try.ntmps70
  go_wp2
  all_goals (go_ret; refine ⟨ret_bool ?_, bthen (below_box _ _) (below_box _ _)⟩; simp [apartB, *])
theorem ralone_bool (x : Item) (len : Int) : (nameB x.name && (betweenB x.width 1 1048576 && (betweenB x.pos 0 (len - x.width) && (betweenB x.weight 0 1048576 && (betweenB x.hang 0 1048576 && (betweenB x.front 0 1048576 && betweenB x.back 0 1048576)))))) = (aloneB x && insideB x len) := by
  rw [Bool.eq_iff_iff]
  simp only [aloneB, insideB, Bool.and_eq_true, between_iff, decide_eq_true_iff]
  constructor
  · rintro ⟨h1, h2, h3, h4⟩
    exact ⟨⟨h1, h4⟩, h3.1, h2, h3.2⟩
  · rintro ⟨⟨h1, h4⟩, h3, h2, h5⟩
    exact ⟨h1, h2, ⟨h3, h5⟩, h4⟩
set_option maxHeartbeats 400000 in
theorem ralone_any (x : Item) (len : Int) (w : World) (hs : x.name.size ≤ maxLen) (h0 : 0 ≤ len) (h1 : len ≤ 1048576) :
    Calls Try.prog 69 #[x.val, .int .i64 len] w fun e w' => e = .returned (.bool (aloneB x && insideB x len)) ∧ Below w.heap.size w w' := by
  rw [← ralone_bool]
  unfold Item.val
  by_cases hw : betweenB x.width 1 1048576 = true
  · have hb := (between_iff _ _ _).1 hw
    obtain ⟨hb1, hb2⟩ := hb
    go_enter Try.func69, Try.ntmps69
    go_wp2_with (first | (go_at_call 40; refine (rname_any _ _ hs).mono ?_; rintro e w' ⟨rfl, rfl⟩) | (go_at_call 41; refine (rbetween_any _ _ _ _).mono ?_; rintro e w' ⟨rfl, rfl⟩))
    all_goals (go_ret; refine ⟨ret_bool ?_, below_box _ _⟩; simp [*])
  · have hw := Bool.eq_false_iff.2 hw
    go_enter Try.func69, Try.ntmps69
    go_wp2_with (first | (go_at_call 40; refine (rname_any _ _ hs).mono ?_; rintro e w' ⟨rfl, rfl⟩) | (go_at_call 41; refine (rbetween_any _ _ _ _).mono ?_; rintro e w' ⟨rfl, rfl⟩))
    all_goals (go_ret; refine ⟨ret_bool ?_, below_box _ _⟩; simp [*])

set_option maxHeartbeats 400000 in
theorem pipe_any (S : LSet) (w : World) (h : Good S) : Calls Try.prog 82 #[S.val] w fun e w' => e = .returned (.int .i64 (pipeI S)) ∧ Below w.heap.size w w' := by
  have hb := pipe_bound h
  unfold pipeI at *
  have g1 := h.n0
  have g2 := h.n1
  obtain ⟨hb1, hb2⟩ := hb
  unfold LSet.val
  go_enter Try.func82, Try.ntmps82
  go_wp2
  go_ret
  exact ⟨ret_int rfl, below_box _ _⟩
set_option maxHeartbeats 400000 in
theorem rpipe_any (S : LSet) (w : World) (h : Good S) : Calls Try.prog 71 #[S.val] w fun e w' => e = .returned (.int .i64 (pipeI S)) ∧ Below w.heap.size w w' := by
  have hb := pipe_bound h
  unfold pipeI at *
  have g1 := h.n0
  have g2 := h.n1
  obtain ⟨hb1, hb2⟩ := hb
  unfold LSet.val
  go_enter Try.func71, Try.ntmps71
  go_wp2
  go_ret
  exact ⟨ret_int rfl, below_box _ _⟩
end Go.Proofs.Ytlaplbkekfnldaa
