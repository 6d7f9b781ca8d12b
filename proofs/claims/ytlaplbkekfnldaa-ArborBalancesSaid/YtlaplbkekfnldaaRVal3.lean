/- Contract: whether a set is valid, by the reference. -/
import Derived.Test.YtlaplbkekfnldaaRVal3a
import Derived.Test.YtlaplbkekfnldaaRVal3b
import Derived.Test.YtlaplbkekfnldaaRVal3c
import Derived.Test.YtlaplbkekfnldaaVal2
namespace Go.Proofs.Ytlaplbkekfnldaa
open Go.RowKit

theorem rvalid_any (S : LSet) (w : World) (ha : S.At w w.heap.size) : Calls Try.prog 16 #[S.val] w fun e w' => e = .returned (.bool (validB S)) ∧ Below w.heap.size w w' := by
  have hb : ∀ {b : Bool}, ¬ b = true → b = false := fun h => Bool.eq_false_iff.2 h
  have hn := ha.name
  by_cases o1 : nameB S.name = true
  case neg => exact Calls_bool (rvalid_way1 S w hn (hb o1)) (by simp [validB, headB, hb o1])
  by_cases o2 : betweenB S.depth 0 1048576 = true
  case neg => exact Calls_bool (rvalid_way2 S w hn o1 (hb o2)) (by simp [validB, headB, hb o2])
  by_cases o3 : betweenB S.low 0 S.high = true
  case neg => exact Calls_bool (rvalid_way3 S w hn o1 o2 (hb o3)) (by
    symm; rw [Bool.eq_false_iff]; intro e; have g := Good.of e; exact o3 ((between_iff _ _ _).2 ⟨g.l0, g.l1⟩))
  by_cases o4 : betweenB S.high 0 1048576 = true
  case neg => exact Calls_bool (rvalid_way4 S w hn o1 o2 o3 (hb o4)) (by
    symm; rw [Bool.eq_false_iff]; intro e; have g := Good.of e; exact o4 ((between_iff _ _ _).2 ⟨by have := g.l0; have := g.l1; omega, g.h1⟩))
  by_cases o5 : betweenB S.len 1000 1048576 = true
  case neg => exact Calls_bool (rvalid_way5 S w hn o1 o2 o3 o4 (hb o5)) (by simp [validB, headB, hb o5])
  by_cases o6 : (S.len % 1000 != 0) = true
  case pos => exact Calls_bool (rvalid_way6 S w hn o1 o2 o3 o4 o5 o6) (by
    symm; rw [Bool.eq_false_iff]; intro e; have g := Good.of e; rw [bne_iff_ne] at o6; exact o6 g.nm)
  have o6' := hb o6
  by_cases o7 : betweenB S.lines.length 2 10 = true
  case neg => exact Calls_bool (rvalid_way7 S w hn o1 o2 o3 o4 o5 o6' (hb o7)) (by
    symm; rw [Bool.eq_false_iff]; intro e; have g := Good.of e; exact o7 ((between_iff _ _ _).2 ⟨by have := g.ln0; omega, by have := g.ln1; omega⟩))
  by_cases o8 : betweenB S.pipe 0 1048576 = true
  case neg => exact Calls_bool (rvalid_way8 S w hn o1 o2 o3 o4 o5 o6' o7 (hb o8)) (by simp [validB, weightsB, hb o8])
  by_cases o9 : betweenB S.arbor 0 1048576 = true
  case neg => exact Calls_bool (rvalid_way9 S w hn o1 o2 o3 o4 o5 o6' o7 o8 (hb o9)) (by simp [validB, weightsB, hb o9])
  by_cases o10 : betweenB S.purchase 1 2 = true
  case neg => exact Calls_bool (rvalid_way10 S w hn o1 o2 o3 o4 o5 o6' o7 o8 o9 (hb o10)) (by simp [validB, weightsB, hb o10])
  by_cases o11 : betweenB S.most 1 67108864 = true
  case neg => exact Calls_bool (rvalid_way11 S w hn o1 o2 o3 o4 o5 o6' o7 o8 o9 o10 (hb o11)) (by simp [validB, weightsB, hb o11])
  by_cases o12 : betweenB S.brake 0 67108864 = true
  case neg => exact Calls_bool (rvalid_way12 S w hn o1 o2 o3 o4 o5 o6' o7 o8 o9 o10 o11 (hb o12)) (by simp [validB, weightsB, hb o12])
  refine Calls_bool (rvalid_way13 S w ha o1 o2 o3 o4 o5 o6' o7 o8 o9 o10 o11 o12) ?_
  have e1 : headB S = true := by
    have h3 := (between_iff _ _ _).1 o3
    have h4 := (between_iff _ _ _).1 o4
    have h6 : S.len % 1000 = 0 := by rw [bne_eq_false_iff_eq] at o6'; exact o6'
    simp [headB, o1, o2, o5, h3.1, h3.2, h4.2, h6]
  have e2 : weightsB S = true := by simp [weightsB, o8, o9, o10, o11, o12]
  unfold validB
  rw [e1, e2, Bool.true_and, Bool.true_and]
end Go.Proofs.Ytlaplbkekfnldaa
