/- Contracts: arbor.Valid and arbor.Weight, and the reference's Weight. -/
import Derived.Test.YtlaplbkekfnldaaRArb
import Derived.Test.YtlaplbkekfnldaaRVal2
namespace Go.Proofs.Ytlaplbkekfnldaa
open Go.RowKit

set_option maxHeartbeats 400000 in
theorem valid1_any (x y : Brick) (b : Nat) (w : World) (hb : b < w.heap.size) (hc : ∀ i, w.cell? ⟨b, i, none⟩ = x.cells.toArray[i]?) :
    Calls Try.prog 54 #[y.val, .pointer (some ⟨b, 0, none⟩)] w fun e w' => e = .returned (.bool (sameName y.name x.name)) ∧ Below w.heap.size w w' := by
  unfold Brick.cells at hc
  unfold Brick.val
  go_enter Try.func54, Try.ntmps54
  go_wp2_with fail
  go_ret
  exact ⟨rfl, below_box _ _⟩
theorem bokAt_any {l : List Brick} {k : Nat} (h : k < l.length) : okAt brickB refTwoB l k = (brickB l[k] && !(l.take k).any fun y => sameName y.name l[k].name) := by
  rw [okAt_eq h]
  congr 1
  rw [List.any_eq_not_all_not, Bool.not_not]
  rfl
theorem brickB_no {x : Brick} (h : ¬ (nameB x.name = true ∧ 1 ≤ x.weight ∧ x.weight ≤ 1048576 ∧ 0 ≤ x.count ∧ x.count ≤ 60)) : brickB x = false := by
  rw [Bool.eq_false_iff]; intro e; have g := GoodBrick.of e; exact h ⟨g.name, g.w0, g.w1, g.c0, g.c1⟩

set_option maxHeartbeats 2000000 in
theorem avalid_any (A : Option Addr) (c : Nat) (l : List Brick) (w : World) (hl : BricksAt w w.heap.size A l) (hn : l.length ≤ maxLen) (hc : l.length ≤ c) (hs : ∀ x, x ∈ l → x.name.size ≤ maxLen) :
    Calls Try.prog 27 #[.slice A l.length c] w fun e w' => e = .returned (.bool (bricksB l)) ∧ Below w.heap.size w w' := by
  have hn' := Lib.hid hn
  unfold maxLen at hn
  have HL := Lib.hid hl; clear hl
  have HS := Lib.hid hs; clear hs
  by_cases h8 : l.length ≤ 8
  · go_enter Try.func27, Try.ntmps27
    go_wp2_with fail
    go_loopw [3, 4, 5, 11] (fun s _ _ i wr => ∃ k : Nat, k ≤ l.length ∧ i = .int .i64 k ∧ s = .int .i64 (sumTo (·.count) l k) ∧ Hid (okTo brickB refTwoB l k) ∧ Below w.heap.size w wr) (fun _ _ _ i _ => l.length - (intOf i).toNat)
    case atStart => exact ⟨0, Nat.zero_le _, rfl, rfl, okTo_zero, Below.refl _ _⟩
    case round =>
      obtain ⟨k, hk, rfl, rfl, hok, hb⟩ := hrel
      by_cases hlt : k < l.length
      · obtain ⟨b, off, rfl, hbb, c0, c1, c2⟩ := (HL.out.below hb).at_ hlt
        have hname := Lib.hid (HS.out _ (List.getElem_mem hlt))
        by_cases hone : brickB l[k] = true
        · have hall := all_take_succ l brickB k hlt (okTo_all hok.out) hone
          obtain ⟨s1, s2⟩ := counts_bound h8 (by omega) hall
          obtain ⟨s3, s4⟩ := counts_bound h8 hk (okTo_all hok.out)
          rw [sumTo_succ _ _ _ hlt] at s1 s2
          have HSUM := Lib.hid (sumTo_succ (·.count) l k hlt)
          have HO := Lib.hid (bokAt_any hlt)
          have HONE := Lib.hid hone
          have g := GoodBrick.of hone
          have g1 := g.name
          have g2 := g.w0
          have g3 := g.w1
          have g4 := g.c0
          have g5 := g.c1
          clear hall hone g
          go_wp2_with ((go_at_call 53; refine (name_any _ _ hname.out).mono ?_; rintro e w' ⟨rfl, rfl⟩))
          have hBk : ∀ i, (wr.alloc (.cells #[.string l[k].name, .int .i64 l[k].weight, .int .i64 l[k].count] 50)).cell? ⟨wr.heap.size, i, none⟩ = l[k].cells.toArray[i]? := fun i => World.cell?_alloc_at _ _ _ i rfl
          have HBk := Lib.hid hBk; clear hBk
          have hb0 := hb.alloc hb.size (.cells #[.string l[k].name, .int .i64 l[k].weight, .int .i64 l[k].count] 50)
          have hon : ∀ j (h : j < (l.take k).length) (w4 : World), Below (wr.alloc (.cells #[.string l[k].name, .int .i64 l[k].weight, .int .i64 l[k].count] 50)).heap.size (wr.alloc (.cells #[.string l[k].name, .int .i64 l[k].weight, .int .i64 l[k].count] 50)) w4 →
              Calls Try.prog 54 (#[(l.take k)[j].val] ++ #[.pointer (some ⟨wr.heap.size, 0, none⟩)]) w4 fun e w5 => e = .returned (.bool ((fun y : Brick => sameName y.name l[k].name) (l.take k)[j])) ∧ Below w4.heap.size w4 w5 := by
            intro j hj w4 hb4
            refine valid1_any l[k] (l.take k)[j] wr.heap.size w4 (by have := hb4.size; simp at this; omega) (fun i => ?_)
            exact (hb4.cell (p := ⟨wr.heap.size, i, none⟩) (by simp)).trans (HBk.out i)
          refine (contains_bricks 54 Try.call54 #[.pointer (some ⟨wr.heap.size, 0, none⟩)] (fun y : Brick => sameName y.name l[k].name) _ k c (l.take k) _ (by simp; omega) ?_ (by rw [List.length_take]; have := hn'.out; omega) hon).mono ?_
          · exact RowsAt.more (by have := (RowsAt.below HL.out hb0).take k; rw [← List.map_take] at this; exact this) hb0.size
          rintro e w4 ⟨rfl, hb4⟩
          have hb04 := hb0.trans (hb4.mono hb0.size)
          have hbx : ∀ i, w4.cell? ⟨wr.heap.size, i, none⟩ = #[.string l[k].name, .int .i64 l[k].weight, .int .i64 l[k].count][i]? := fun i => (hb4.cell (p := ⟨wr.heap.size, i, none⟩) (by simp)).trans (HBk.out i)
          clear hon hb4
          by_cases hany : ((l.take k).any fun y => sameName y.name l[k].name) = true
          · have HNO := Lib.hid (bricksB_no (pairs_no hlt (by rw [HO.out, hany]; simp)))
            go_wp2_with fail
            go_ret
            exact ⟨ret_bool HNO.out.symm, hb04⟩
          · have hany := Bool.eq_false_iff.2 hany
            have HYES := Lib.hid (okTo_succ hok.out (by rw [HO.out, hany, HONE.out]; rfl))
            go_wp2_with fail
            exact ⟨⟨k + 1, by omega, by go_num, by rw [HSUM.out], HYES, hb04⟩, by simp [intOf]; omega⟩
        · have hone := Bool.eq_false_iff.2 hone
          have HNO := Lib.hid (bricksB_no (pairs_no hlt (bokAt_one hlt hone)))
          have HONE := Lib.hid hone; clear hone
          by_cases g1 : nameB l[k].name = true
          · by_cases g2 : 1 ≤ l[k].weight
            · by_cases g3 : l[k].weight ≤ 1048576
              · by_cases g4 : 0 ≤ l[k].count
                · have g5 : ¬ l[k].count ≤ 60 := fun g5 => by
                    have := HONE.out
                    rw [show brickB l[k] = true from by simp [brickB, betweenB, g1, g2, g3, g4, g5]] at this
                    cases this
                  go_wp2_with ((go_at_call 53; refine (name_any _ _ hname.out).mono ?_; rintro e w' ⟨rfl, rfl⟩))
                  go_ret
                  exact ⟨ret_bool HNO.out.symm, hb.alloc hb.size _⟩
                · go_wp2_with ((go_at_call 53; refine (name_any _ _ hname.out).mono ?_; rintro e w' ⟨rfl, rfl⟩))
                  go_ret
                  exact ⟨ret_bool HNO.out.symm, hb.alloc hb.size _⟩
              · go_wp2_with ((go_at_call 53; refine (name_any _ _ hname.out).mono ?_; rintro e w' ⟨rfl, rfl⟩))
                go_ret
                exact ⟨ret_bool HNO.out.symm, hb.alloc hb.size _⟩
            · go_wp2_with ((go_at_call 53; refine (name_any _ _ hname.out).mono ?_; rintro e w' ⟨rfl, rfl⟩))
              go_ret
              exact ⟨ret_bool HNO.out.symm, hb.alloc hb.size _⟩
          · have g1 := Bool.eq_false_iff.2 g1
            go_wp2_with ((go_at_call 53; refine (name_any _ _ hname.out).mono ?_; rintro e w' ⟨rfl, rfl⟩))
            go_ret
            exact ⟨ret_bool HNO.out.symm, hb.alloc hb.size _⟩
      · have hk2 : k = l.length := by omega
        have HYES : Hid (decide (sumTo (·.count) l k ≤ 60) = bricksB l) := by
          have hp := hok.out
          rw [hk2] at hp ⊢
          show _ = _
          rw [bricksB_eq h8, pairs_yes hp]; rfl
        clear hk2
        go_wp2_with fail
        go_ret
        exact ⟨ret_bool HYES.out, hb⟩
  · have HF := Lib.hid (bricksB_many h8)
    go_enter Try.func27, Try.ntmps27
    go_wp2_with fail
    go_ret
    exact ⟨ret_bool HF.out.symm, Below.refl _ _⟩
end Go.Proofs.Ytlaplbkekfnldaa
