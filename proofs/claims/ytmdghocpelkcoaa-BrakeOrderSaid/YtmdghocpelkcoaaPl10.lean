/- batten.Valid: a set is valid exactly if validB says so. -/
import Derived.Test.YtmdghocpelkcoaaPl9
namespace Go.Proofs.Ytmdghocpelkcoaa

theorem W_len {α : Type} {l : List α} (h : l.length ≤ 2147483648) : l.length < 9223372036854775807 := by omega
/-- What is needed of a set's sizes. -/
structure Fits (s : TSet) : Prop where
  name : s.name.size ≤ 2147483648
  lines : s.lines.length ≤ 2147483648
  items : s.items.length ≤ 2147483648
  bricks : s.bricks.length ≤ 2147483648
  inames : ∀ x ∈ s.items, x.name.size ≤ 2147483648
  bnames : ∀ x ∈ s.bricks, x.name.size ≤ 2147483648
theorem f_valid (s : TSet) (h : Fits s) : F_batten_Valid s = some (validB s) := by
  unfold F_batten_Valid validB headB weightsB
  rw [f_name s.name (by have := h.name; omega), f_lines s.lines s.length h.lines, f_bricks s.bricks h.bricks h.bnames]
  simp only [f_between, Option.bind_some]
  cases nameB s.name <;> try rfl
  cases betweenB s.depth 0 1048576 <;> try rfl
  cases decide (0 ≤ s.low) <;> try rfl
  cases decide (s.low ≤ s.high) <;> try rfl
  cases decide (s.high ≤ 1048576) <;> try rfl
  cases hl : betweenB s.length 1000 1048576 <;> try rfl
  rw [between_iff] at hl
  have hm : (s.length.tmod 1000 == 0) = decide (s.length % 1000 = 0) := by
    rw [Int.tmod_eq_emod_of_nonneg (by omega)]
    by_cases hz : s.length % 1000 = 0
    · rw [decide_eq_true hz, beq_iff_eq.2 hz]
    · rw [decide_eq_false hz, beq_eq_false_iff_ne.2 hz]
  rw [hm, f_items s.items s.length h.items h.inames (by omega) (by omega)]
  simp only [cond_true, Option.bind_some]
  cases decide (s.length % 1000 = 0) <;> try rfl
  cases linesB s.lines s.length <;> try rfl
  cases betweenB s.pipe 0 1048576 <;> try rfl
  cases betweenB s.arbor 0 1048576 <;> try rfl
  cases betweenB s.purchase 1 2 <;> try rfl
  cases betweenB s.most 1 67108864 <;> try rfl
  cases betweenB s.brake 0 67108864 <;> try rfl
  cases itemsB s.items s.length <;> rfl
end Go.Proofs.Ytmdghocpelkcoaa
