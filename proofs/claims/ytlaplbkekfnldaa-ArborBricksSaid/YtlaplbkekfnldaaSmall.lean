/- Contract: whether a set has few elements and short names. -/
import Derived.Test.YtlaplbkekfnldaaDef
namespace Go.Proofs.Ytlaplbkekfnldaa
open Go.RowKit

def longItem (x : Item) : Bool := decide (60 < x.name.size)
def longBrick (x : Brick) : Bool := decide (60 < x.name.size)
def smallB (S : LSet) (most : Nat) : Bool := (decide (S.name.size ≤ 60) && (decide (S.lines.length ≤ 12) && ((decide (S.items.length ≤ most) || decide (40 < S.items.length)) && (decide (S.items.length ≤ 45) && decide (S.bricks.length ≤ 10))))) &&
  (!S.items.any longItem && !S.bricks.any longBrick)
theorem any_take_succ' {α : Type} (l : List α) (p : α → Bool) (k : Nat) (h : k < l.length) (h0 : (l.take k).any p = false) (h1 : p l[k] = false) : (l.take (k + 1)).any p = false := by
  rw [List.take_succ_eq_append_getElem h, List.any_append, h0]; simp [h1]
theorem any_at' {α : Type} (l : List α) (p : α → Bool) (k : Nat) (h : k < l.length) (h1 : p l[k] = true) : l.any p = true := List.any_eq_true.2 ⟨l[k], List.getElem_mem h, h1⟩

theorem small_head {S : LSet} {most : Nat} (h : ¬ (S.name.size ≤ 60 ∧ S.lines.length ≤ 12 ∧ (S.items.length ≤ most ∨ 40 < S.items.length) ∧ S.items.length ≤ 45 ∧ S.bricks.length ≤ 10)) : smallB S most = false := by
  rw [Bool.eq_false_iff]
  intro e
  simp only [smallB, Bool.and_eq_true, Bool.or_eq_true, decide_eq_true_iff] at e
  exact h e.1
theorem small_tail {S : LSet} {most : Nat} (h : S.name.size ≤ 60 ∧ S.lines.length ≤ 12 ∧ (S.items.length ≤ most ∨ 40 < S.items.length) ∧ S.items.length ≤ 45 ∧ S.bricks.length ≤ 10) : smallB S most = (!S.items.any longItem && !S.bricks.any longBrick) := by
  unfold smallB
  obtain ⟨h1, h2, h3, h4, h5⟩ := h
  rw [decide_eq_true h1, decide_eq_true h2, decide_eq_true h4, decide_eq_true h5]
  rcases h3 with h3 | h3 <;> simp [h3]

set_option maxHeartbeats 1000000 in
set_option maxRecDepth 100000 in
theorem small_any (S : LSet) (most : Nat) (w : World) (ha : S.At w w.heap.size) (hm : most ≤ 40) : Calls Try.prog 37 #[S.val, .int .i64 most] w fun e w' => e = .returned (.bool (smallB S most)) ∧ Below w.heap.size w w' := by
  have HL := Lib.hid ha.items
  have HB := Lib.hid ha.bricks
  have n1 := ha.nitems
  have n2 := ha.nbricks
  unfold maxLen at n1 n2
  have hn := ha.name
  unfold maxLen at hn
  clear ha
  show Calls Try.prog 37 #[.agg #[.string S.name, .int .i64 S.depth, .int .i64 S.low, .int .i64 S.high, .int .i64 S.len, .slice S.la S.lines.length S.lc, .int .i64 S.pipe, .int .i64 S.arbor, .int .i64 S.purchase, .int .i64 S.most, .int .i64 S.brake, .slice S.ia S.items.length S.ic, .slice S.ba S.bricks.length S.bc], .int .i64 most] w _
  by_cases hh : S.name.size ≤ 60 ∧ S.lines.length ≤ 12 ∧ (S.items.length ≤ most ∨ 40 < S.items.length) ∧ S.items.length ≤ 45 ∧ S.bricks.length ≤ 10
  · have HT := Lib.hid (small_tail hh)
    obtain ⟨h1, h2, h3, h4, h5⟩ := hh
    generalize S.ia = ia at *
    generalize S.ba = ba at *
    have f1 : decide ((60 : Int) < (S.name.size : Int)) = false := decide_eq_false (by omega)
    have f2 : decide ((12 : Int) < (S.lines.length : Int)) = false := decide_eq_false (by omega)
    rcases h3 with h3 | h3
    all_goals
      go_enter Try.func37, Try.ntmps37
      go_wp2_with fail
      go_loop [5] (fun i => ∃ k : Nat, k ≤ S.items.length ∧ i = .int .i64 k ∧ Hid ((S.items.take k).any longItem = false)) (fun i => S.items.length - (intOf i).toNat)
      case atStart => exact ⟨0, Nat.zero_le _, rfl, by simp [Hid]⟩
      case round =>
        obtain ⟨k, hk, rfl, hok⟩ := hrel
        by_cases hlt : k < S.items.length
        · obtain ⟨b, off, rfl, hbb, c0, _⟩ := HL.out.at_ hlt
          by_cases hlong : 60 < S.items[k].name.size
          · have HNO := Lib.hid (any_at' S.items longItem k hlt (decide_eq_true hlong))
            go_wp2_with fail
            go_ret
            exact ⟨ret_bool (by rw [HT.out, HNO.out]; rfl), below_box _ _⟩
          · have HOK := Lib.hid (any_take_succ' S.items longItem k hlt hok.out (decide_eq_false hlong))
            go_wp2_with fail
            exact ⟨⟨k + 1, by omega, by go_num, HOK⟩, by simp [intOf]; omega⟩
        · have hk2 : k = S.items.length := by omega
          have HI : Hid (S.items.any longItem = false) := by have := hok.out; rw [hk2, List.take_length] at this; exact this
          clear hk2 hok
          go_wp2_with fail
          go_loop [6] (fun i => ∃ m : Nat, m ≤ S.bricks.length ∧ i = .int .i64 m ∧ Hid ((S.bricks.take m).any longBrick = false)) (fun i => S.bricks.length - (intOf i).toNat)
          case atStart => exact ⟨0, Nat.zero_le _, rfl, by simp [Hid]⟩
          case round =>
            obtain ⟨m, hm, rfl, hok⟩ := hrel
            by_cases hlt2 : m < S.bricks.length
            · obtain ⟨b, off, rfl, hbb, c0, _⟩ := HB.out.at_ hlt2
              by_cases hlong : 60 < S.bricks[m].name.size
              · have HNO := Lib.hid (any_at' S.bricks longBrick m hlt2 (decide_eq_true hlong))
                go_wp2_with fail
                go_ret
                exact ⟨ret_bool (by rw [HT.out, HI.out, HNO.out]; rfl), below_box _ _⟩
              · have HOK := Lib.hid (any_take_succ' S.bricks longBrick m hlt2 hok.out (decide_eq_false hlong))
                go_wp2_with fail
                exact ⟨⟨m + 1, by omega, by go_num, HOK⟩, by simp [intOf]; omega⟩
            · have hk2 : m = S.bricks.length := by omega
              have HB2 : Hid (S.bricks.any longBrick = false) := by have := hok.out; rw [hk2, List.take_length] at this; exact this
              clear hk2 hok
              go_wp2_with fail
              go_ret
              exact ⟨ret_bool (by rw [HT.out, HI.out, HB2.out]; rfl), below_box _ _⟩
  · have HF := Lib.hid (small_head hh)
    have HH := Lib.hid hh
    clear hh
    go_enter Try.func37, Try.ntmps37
    go_wp2_with fail
    all_goals first
      | (go_ret; exact ⟨ret_bool HF.out.symm, below_box _ _⟩)
      | (exfalso; have := HH.out; omega)
end Go.Proofs.Ytlaplbkekfnldaa
