/- Contract: whether a set is valid, by the program. -/
import Derived.Test.YtlaplbkekfnldaaVal2a
import Derived.Test.YtlaplbkekfnldaaVal2b
import Derived.Test.YtlaplbkekfnldaaVal2c
namespace Go.Proofs.Ytlaplbkekfnldaa
open Go.RowKit

theorem Calls_bool {f : FuncId} {args : Array Value} {w : World} {a b : Bool} (h : Calls Try.prog f args w fun e w' => e = .returned (.bool a) ∧ Below w.heap.size w w') (e : a = b) :
    Calls Try.prog f args w fun e w' => e = .returned (.bool b) ∧ Below w.heap.size w w' := e ▸ h
theorem valid_any (S : LSet) (w : World) (ha : S.At w w.heap.size) : Calls Try.prog 35 #[S.val] w fun e w' => e = .returned (.bool (validB S)) ∧ Below w.heap.size w w' := by
  have hb : ∀ {b : Bool}, ¬ b = true → b = false := fun h => Bool.eq_false_iff.2 h
  by_cases o1 : nameB S.name = true
  case neg => exact Calls_bool (valid_way1 S w ha (hb o1)) (by simp [validB, headB, hb o1])
  by_cases o2 : betweenB S.depth 0 1048576 = true
  case neg => exact Calls_bool (valid_way2 S w ha o1 (hb o2)) (by simp [validB, headB, hb o2])
  by_cases o3 : 0 ≤ S.low
  case neg => exact Calls_bool (valid_way3 S w ha o1 o2 (by omega)) (by simp [validB, headB, o3])
  by_cases o4 : S.low ≤ S.high
  case neg => exact Calls_bool (valid_way4 S w ha o1 o2 o3 (by omega)) (by simp [validB, headB, o4])
  by_cases o5 : S.high ≤ 1048576
  case neg => exact Calls_bool (valid_way5 S w ha o1 o2 o3 o4 (by omega)) (by simp [validB, headB, o5])
  by_cases o6 : betweenB S.len 1000 1048576 = true
  case neg => exact Calls_bool (valid_way6 S w ha o1 o2 o3 o4 o5 (hb o6)) (by simp [validB, headB, hb o6])
  by_cases o7 : (S.len % 1000 == 0) = true
  case neg => exact Calls_bool (valid_way7 S w ha o1 o2 o3 o4 o5 o6 (hb o7)) (by have : ¬ S.len % 1000 = 0 := fun e => o7 (beq_iff_eq.2 e); simp [validB, headB, this])
  have o7' : S.len % 1000 = 0 := beq_iff_eq.1 o7
  by_cases o8 : linesB S.lines S.len = true
  case neg => exact Calls_bool (valid_way8 S w ha o1 o2 o3 o4 o5 o6 o7 (hb o8)) (by simp [validB, hb o8])
  by_cases o9 : betweenB S.pipe 0 1048576 = true
  case neg => exact Calls_bool (valid_way9 S w ha o1 o2 o3 o4 o5 o6 o7 o8 (hb o9)) (by simp [validB, weightsB, hb o9])
  by_cases o10 : betweenB S.arbor 0 1048576 = true
  case neg => exact Calls_bool (valid_way10 S w ha o1 o2 o3 o4 o5 o6 o7 o8 o9 (hb o10)) (by simp [validB, weightsB, hb o10])
  by_cases o11 : betweenB S.purchase 1 2 = true
  case neg => exact Calls_bool (valid_way11 S w ha o1 o2 o3 o4 o5 o6 o7 o8 o9 o10 (hb o11)) (by simp [validB, weightsB, hb o11])
  by_cases o12 : betweenB S.most 1 67108864 = true
  case neg => exact Calls_bool (valid_way12 S w ha o1 o2 o3 o4 o5 o6 o7 o8 o9 o10 o11 (hb o12)) (by simp [validB, weightsB, hb o12])
  by_cases o13 : betweenB S.brake 0 67108864 = true
  case neg => exact Calls_bool (valid_way13 S w ha o1 o2 o3 o4 o5 o6 o7 o8 o9 o10 o11 o12 (hb o13)) (by simp [validB, weightsB, hb o13])
  by_cases o14 : itemsB S.items S.len = true
  case neg => exact Calls_bool (valid_way14 S w ha o1 o2 o3 o4 o5 o6 o7 o8 o9 o10 o11 o12 o13 (hb o14)) (by simp [validB, hb o14])
  by_cases o15 : bricksB S.bricks = true
  case neg => exact Calls_bool (valid_way15 S w ha o1 o2 o3 o4 o5 o6 o7 o8 o9 o10 o11 o12 o13 o14 (hb o15)) (by simp [validB, hb o15])
  exact Calls_bool (valid_way16 S w ha o1 o2 o3 o4 o5 o6 o7 o8 o9 o10 o11 o12 o13 o14 o15) (by simp [validB, headB, weightsB, o1, o2, o3, o4, o5, o6, o7', o8, o9, o10, o11, o12, o13, o14, o15])
end Go.Proofs.Ytlaplbkekfnldaa
