/- Contracts: whether items and bricks are right, by the program. -/
import Derived.Test.YtlaplbkekfnldaaBat2
import Derived.Test.YtlaplbkekfnldaaBat3
import Derived.Test.YtlaplbkekfnldaaIdx
import Derived.Test.YtlaplbkekfnldaaTwice
namespace Go.Proofs.Ytlaplbkekfnldaa
open Go.RowKit

set_option maxHeartbeats 400000 in
theorem items1_any (x : Item) (w : World) : Calls Try.prog 78 #[x.val] w fun e w' => e = .returned (.string x.name) ∧ Below w.heap.size w w' := by
  unfold Item.val
  go_enter Try.func78, Try.ntmps78
  go_wp2
  go_ret
  exact ⟨rfl, below_box _ _⟩
set_option maxHeartbeats 400000 in
theorem bricks1_any (x : Brick) (w : World) : Calls Try.prog 81 #[x.val] w fun e w' => e = .returned (.string x.name) ∧ Below w.heap.size w w' := by
  unfold Brick.val
  go_enter Try.func81, Try.ntmps81
  go_wp2
  go_ret
  exact ⟨rfl, below_box _ _⟩
set_option maxHeartbeats 400000 in
theorem items2_any (x y : Item) (b : Nat) (w : World) (hb : b < w.heap.size) (hc : ∀ i, w.cell? ⟨b, i, none⟩ = x.cells.toArray[i]?)
    (hx : 0 ≤ x.pos ∧ x.pos ≤ 1048576 ∧ 0 ≤ x.width ∧ x.width ≤ 1048576) (hy : 0 ≤ y.pos ∧ y.pos ≤ 1048576 ∧ 0 ≤ y.width ∧ y.width ≤ 1048576) :
    Calls Try.prog 79 #[y.val, .pointer (some ⟨b, 0, none⟩)] w fun e w' => e = .returned (.bool (!apartB x y)) ∧ Below w.heap.size w w' := by
  have H := Lib.hid (apart_any x y)
  have hX := Lib.hid hx; clear hx
  have hY := Lib.hid hy; clear hy
  unfold Item.cells at hc
  unfold Item.val
  go_enter Try.func79, Try.ntmps79
  go_wp2_with fail
  refine (H.out _ hX.out hY.out).mono ?_
  rintro e w1 ⟨rfl, hb1⟩
  go_wp2_with fail
  go_ret
  exact ⟨rfl, bpast hb1⟩

def itemOne (len : Int) (x : Item) : Bool := aloneB x && insideB x len
theorem itemsB_no {l : List Item} {len : Int} (h : pairsB (itemOne len) apartB l = false) : itemsB l len = false := by
  unfold itemsB; unfold itemOne at h; rw [h]; simp
theorem itemsB_twice {l : List Item} {len : Int} (h : pairsB (fun _ => true) (fun x y : Item => !sameName x.name y.name) l = false) : itemsB l len = false := by
  unfold itemsB; rw [h]; simp
theorem itemsB_many {l : List Item} {len : Int} (h : ¬ l.length ≤ 40) : itemsB l len = false := by
  unfold itemsB; rw [decide_eq_false h]; rfl
theorem itemsB_yes {l : List Item} {len : Int} (h : l.length ≤ 40) (h1 : pairsB (itemOne len) apartB l = true) (h2 : pairsB (fun _ => true) (fun x y : Item => !sameName x.name y.name) l = true) : itemsB l len = true := by
  unfold itemsB; unfold itemOne at h1; rw [decide_eq_true h, h1, h2]; rfl
theorem okAt_any {l : List Item} {len : Int} {k : Nat} (h : k < l.length) : okAt (itemOne len) apartB l k = (itemOne len l[k] && !(l.take k).any fun y => !apartB l[k] y) := by
  rw [okAt_eq h]
  congr 1
  rw [List.any_eq_not_all_not, Bool.not_not]
  congr 1
  funext y
  rw [Bool.not_not, apart_comm]
theorem okTo_one {l : List Item} {len : Int} {k j : Nat} (h : okTo (itemOne len) apartB l k) (hj : j < k) (hl : j < l.length) : itemOne len l[j] = true := by
  have := h j hj
  rw [okAt_eq hl, Bool.and_eq_true] at this
  exact this.1
theorem small_of' {x : Item} {len : Int} (h : itemOne len x = true) (hl : len ≤ 1048576) : 0 ≤ x.pos ∧ x.pos ≤ 1048576 ∧ 0 ≤ x.width ∧ x.width ≤ 1048576 := small_of h hl

set_option maxHeartbeats 1000000 in
theorem items_any (A : Option Addr) (c : Nat) (l : List Item) (len : Int) (w : World) (hl : ItemsAt w w.heap.size A l) (hn : l.length ≤ maxLen) (hc : l.length ≤ c) (hs : ∀ x, x ∈ l → x.name.size ≤ maxLen) (h0 : 0 ≤ len) (h1 : len ≤ 1048576) :
    Calls Try.prog 64 #[.slice A l.length c, .int .i64 len] w fun e w' => e = .returned (.bool (itemsB l len)) ∧ Below w.heap.size w w' := by
  have hn' := Lib.hid hn
  unfold maxLen at hn
  have HL := Lib.hid hl; clear hl
  have HS := Lib.hid hs; clear hs
  by_cases h40 : l.length ≤ 40
  · by_cases htw : pairsB (fun _ => true) (fun x y : Item => !sameName x.name y.name) l = true
    · have HT := Lib.hid (twice_items 78 Try.call78 A c l w HL.out (by simp only [maxLen]; omega) HS.out items1_any)
      rw [htw] at HT
      have HF := Lib.hid htw; clear htw
      go_enter Try.func64, Try.ntmps64
      go_wp2_with fail
      refine HT.out.mono ?_
      rintro e w1 ⟨rfl, hb1⟩
      go_wp2_with fail
      go_loopw [5, 6, 16] (fun _ _ i wr => ∃ k : Nat, k ≤ l.length ∧ i = .int .i64 k ∧ Hid (okTo (itemOne len) apartB l k) ∧ Below w.heap.size w wr) (fun _ _ i _ => l.length - (intOf i).toNat)
      case atStart => exact ⟨0, Nat.zero_le _, rfl, okTo_zero, hb1⟩
      case round =>
        obtain ⟨k, hk, rfl, hok, hb⟩ := hrel
        by_cases hlt : k < l.length
        · obtain ⟨b, off, rfl, hbb, c0, c1, c2, c3, c4, c5, c6⟩ := (HL.out.below hb).at_ hlt
          have hname := Lib.hid (HS.out _ (List.getElem_mem hlt))
          have HO := Lib.hid (okAt_any (len := len) hlt)
          by_cases hal : aloneB l[k] = true
          · by_cases hin : insideB l[k] len = true
            · have hone : itemOne len l[k] = true := by unfold itemOne; rw [hal, hin]; rfl
              have HONE := Lib.hid hone; clear hone
              go_wp2_with fail
              refine (alone_any l[k] _ hname.out).mono ?_
              rintro e w2 ⟨rfl, hb2⟩
              obtain ⟨hbox, hz2, hbw⟩ := InBox.of hb2
              go_wp2_with fail
              refine (inside_any l[k] len _ h0 h1).mono ?_
              rintro e w3 ⟨rfl, hb3⟩
              have hbox3 := Lib.hid (fun i => (hb3.cell (p := ⟨wr.heap.size, i, none⟩) (by simp; omega)).trans (hbox i))
              have hb03 := hb.trans ((bthen hbw hb3).mono hb.size)
              have hz3 : wr.heap.size + 1 ≤ w3.heap.size := Nat.le_trans hz2 hb3.size
              clear hbox hb2
              go_wp2_with fail
              have hsm := Lib.hid (small_of' HONE.out h1)
              have hon : ∀ j (h : j < (l.take k).length) (w4 : World), Below w3.heap.size w3 w4 →
                  Calls Try.prog 79 (#[(l.take k)[j].val] ++ #[.pointer (some ⟨wr.heap.size, 0, none⟩)]) w4 fun e w5 => e = .returned (.bool ((fun y => !apartB l[k] y) (l.take k)[j])) ∧ Below w4.heap.size w4 w5 := by
                intro j hj w4 hb4
                have hj' : j < k := by rw [List.length_take] at hj; omega
                have hjl : j < l.length := by omega
                have e1 : (l.take k)[j] = l[j] := List.getElem_take
                rw [e1]
                refine items2_any l[k] l[j] wr.heap.size w4 (by have := hb4.size; omega) (fun i => ?_) hsm.out (small_of' (okTo_one hok.out hj' hjl) h1)
                exact (hb4.cell (p := ⟨wr.heap.size, i, none⟩) (by simp; omega)).trans (hbox3.out i)
              refine (contains_items 79 Try.call79 #[.pointer (some ⟨wr.heap.size, 0, none⟩)] (fun y => !apartB l[k] y) _ k c (l.take k) w3 (by simp; omega) ?_ (by rw [List.length_take]; have := hn'.out; omega) hon).mono ?_
              · exact RowsAt.more (by have := (RowsAt.below HL.out hb03).take k; rw [← List.map_take] at this; exact this) (hb03.size)
              rintro e w4 ⟨rfl, hb4⟩
              have hb04 := hb03.trans (hb4.mono hb03.size)
              clear hon hbox3
              by_cases hany : ((l.take k).any fun y => !apartB l[k] y) = true
              · have HNO := Lib.hid (itemsB_no (pairs_no (one := itemOne len) (two := apartB) hlt (by rw [HO.out, hany]; simp)))
                go_wp2_with fail
                go_ret
                exact ⟨ret_bool HNO.out.symm, hb04⟩
              · have hany := Bool.eq_false_iff.2 hany
                have HYES := Lib.hid (okTo_succ hok.out (by rw [HO.out, hany, HONE.out]; rfl))
                go_wp2_with fail
                exact ⟨⟨k + 1, by omega, by go_num, HYES, hb04⟩, by simp [intOf]; omega⟩
            · have hin := Bool.eq_false_iff.2 hin
              have HNO := Lib.hid (itemsB_no (pairs_no (one := itemOne len) (two := apartB) hlt (by rw [HO.out]; unfold itemOne; rw [hin]; simp)))
              go_wp2_with fail
              refine (alone_any l[k] _ hname.out).mono ?_
              rintro e w2 ⟨rfl, hb2⟩
              obtain ⟨hbox, hz2, hbw⟩ := InBox.of hb2
              go_wp2_with fail
              refine (inside_any l[k] len _ h0 h1).mono ?_
              rintro e w3 ⟨rfl, hb3⟩
              have hb03 := hb.trans ((bthen hbw hb3).mono hb.size)
              go_wp2_with fail
              go_ret
              exact ⟨ret_bool HNO.out.symm, hb03⟩
          · have hal := Bool.eq_false_iff.2 hal
            have HNO := Lib.hid (itemsB_no (pairs_no (one := itemOne len) (two := apartB) hlt (by rw [HO.out]; unfold itemOne; rw [hal]; simp)))
            go_wp2_with fail
            refine (alone_any l[k] _ hname.out).mono ?_
            rintro e w2 ⟨rfl, hb2⟩
            go_wp2_with fail
            go_ret
            exact ⟨ret_bool HNO.out.symm, hb.trans ((bpast hb2).mono hb.size)⟩
        · have hk2 : k = l.length := by omega
          have HYES := Lib.hid (itemsB_yes (len := len) h40 (pairs_yes (hk2 ▸ hok.out)) HF.out)
          clear hk2
          go_wp2_with fail
          go_ret
          exact ⟨ret_bool HYES.out.symm, hb⟩
    · have htw := Bool.eq_false_iff.2 htw
      have HT := Lib.hid (twice_items 78 Try.call78 A c l w HL.out (by simp only [maxLen]; omega) HS.out items1_any)
      rw [htw] at HT
      have HF := Lib.hid (itemsB_twice (len := len) htw)
      clear htw
      go_enter Try.func64, Try.ntmps64
      go_wp2_with fail
      refine HT.out.mono ?_
      rintro e w1 ⟨rfl, hb1⟩
      go_wp2_with fail
      go_ret
      exact ⟨ret_bool HF.out.symm, hb1⟩
  · have HF := Lib.hid (itemsB_many (len := len) h40)
    go_enter Try.func64, Try.ntmps64
    go_wp2_with fail
    go_ret
    exact ⟨ret_bool HF.out.symm, Below.refl _ _⟩
theorem bricksB_many {l : List Brick} (h : ¬ l.length ≤ 8) : bricksB l = false := by
  unfold bricksB; rw [decide_eq_false h]; rfl
theorem bricksB_twice {l : List Brick} (h : pairsB (fun _ => true) (fun x y : Brick => !sameName x.name y.name) l = false) : bricksB l = false := by
  unfold bricksB; rw [pairs_split, h]; simp
theorem bricksB_one {l : List Brick} {k : Nat} (hk : k < l.length) (h : brickB l[k] = false) : bricksB l = false := by
  unfold bricksB; rw [pairs_split, all_no l brickB k hk h]; simp
theorem bricksB_sum {l : List Brick} (h : l.length ≤ 8) (h1 : l.all brickB = true) (h2 : pairsB (fun _ => true) (fun x y : Brick => !sameName x.name y.name) l = true) : decide (sumTo (·.count) l l.length ≤ 60) = bricksB l := by
  unfold bricksB; rw [pairs_split, h1, h2, decide_eq_true h]; rfl
theorem counts_bound {l : List Brick} {k : Nat} (h : l.length ≤ 8) (hk : k ≤ l.length) (h1 : (l.take k).all brickB = true) : 0 ≤ sumTo (·.count) l k ∧ sumTo (·.count) l k ≤ 480 := by
  have e : sumTo (·.count) l k = sumTo (·.count) (l.take k) k := by unfold sumTo; rw [List.take_take, Nat.min_self]
  have hl : (l.take k).length = k := by rw [List.length_take]; omega
  have := sumTo_bound (·.count) (l.take k) 60 (fun x hx => ⟨(GoodBrick.of (List.all_eq_true.1 h1 x hx)).c0, (GoodBrick.of (List.all_eq_true.1 h1 x hx)).c1⟩) k (by omega)
  rw [e]
  omega

set_option maxHeartbeats 1000000 in
theorem bricks_any (A : Option Addr) (c : Nat) (l : List Brick) (w : World) (hl : BricksAt w w.heap.size A l) (hn : l.length ≤ maxLen) (hs : ∀ x, x ∈ l → x.name.size ≤ maxLen) :
    Calls Try.prog 65 #[.slice A l.length c] w fun e w' => e = .returned (.bool (bricksB l)) ∧ Below w.heap.size w w' := by
  unfold maxLen at hn
  have HL := Lib.hid hl; clear hl
  have HS := Lib.hid hs; clear hs
  by_cases h8 : l.length ≤ 8
  · by_cases htw : pairsB (fun _ => true) (fun x y : Brick => !sameName x.name y.name) l = true
    · have HT := Lib.hid (twice_bricks 81 Try.call81 A c l w HL.out (by simp only [maxLen]; omega) HS.out bricks1_any)
      rw [htw] at HT
      have HF := Lib.hid htw; clear htw
      go_enter Try.func65, Try.ntmps65
      go_wp2_with fail
      refine HT.out.mono ?_
      rintro e w1 ⟨rfl, hb1⟩
      go_wp2_with fail
      go_loopw [3, 5, 15] (fun s _ i wr => ∃ k : Nat, k ≤ l.length ∧ i = .int .i64 k ∧ s = .int .i64 (sumTo (·.count) l k) ∧ Hid ((l.take k).all brickB = true) ∧ Below w.heap.size w wr) (fun _ _ i _ => l.length - (intOf i).toNat)
      case atStart => exact ⟨0, Nat.zero_le _, rfl, rfl, by simp [Hid], hb1⟩
      case round =>
        obtain ⟨k, hk, rfl, rfl, hok, hb⟩ := hrel
        by_cases hlt : k < l.length
        · obtain ⟨b, off, rfl, hbb, c0, c1, c2⟩ := (HL.out.below hb).at_ hlt
          have hname := Lib.hid (HS.out _ (List.getElem_mem hlt))
          by_cases hone : brickB l[k] = true
          · have hall := all_take_succ l brickB k hlt hok.out hone
            obtain ⟨s1, s2⟩ := counts_bound h8 (by omega) hall
            obtain ⟨s3, s4⟩ := counts_bound h8 hk hok.out
            rw [sumTo_succ _ _ _ hlt] at s1 s2
            have HSUM := Lib.hid (sumTo_succ (·.count) l k hlt)
            have HALL := Lib.hid hall; clear hall
            simp only [brickB, Bool.and_eq_true] at hone
            obtain ⟨o1, o2, o3⟩ := hone
            go_wp2_with (first | (go_at_call 53; refine (name_any _ _ hname.out).mono ?_; rintro e w' ⟨rfl, rfl⟩) | (go_at_call 62; refine (between_any _ _ _ _).mono ?_; rintro e w' ⟨rfl, rfl⟩))
            exact ⟨⟨k + 1, by omega, by go_num, by rw [HSUM.out], HALL, hb.alloc hb.size _⟩, by simp [intOf]; omega⟩
          · have hone := Bool.eq_false_iff.2 hone
            have HNO := Lib.hid (bricksB_one hlt hone)
            have HONE := Lib.hid hone; clear hone
            go_wp2_with (first | (go_at_call 53; refine (name_any _ _ hname.out).mono ?_; rintro e w' ⟨rfl, rfl⟩) | (go_at_call 62; refine (between_any _ _ _ _).mono ?_; rintro e w' ⟨rfl, rfl⟩))
            all_goals first
              | (go_ret; exact ⟨ret_bool HNO.out.symm, hb.alloc hb.size _⟩)
              | (exfalso; have := HONE.out; simp_all [brickB])
        · have hk2 : k = l.length := by omega
          have HYES := Lib.hid (bricksB_sum h8 (by have := hok.out; rw [hk2, List.take_length] at this; exact this) HF.out)
          have HK := Lib.hid hk2; clear hk2
          go_wp2_with fail
          go_ret
          exact ⟨ret_bool (by rw [HK.out]; exact HYES.out), hb⟩
    · have htw := Bool.eq_false_iff.2 htw
      have HT := Lib.hid (twice_bricks 81 Try.call81 A c l w HL.out (by simp only [maxLen]; omega) HS.out bricks1_any)
      rw [htw] at HT
      have HF := Lib.hid (bricksB_twice htw)
      clear htw
      go_enter Try.func65, Try.ntmps65
      go_wp2_with fail
      refine HT.out.mono ?_
      rintro e w1 ⟨rfl, hb1⟩
      go_wp2_with fail
      go_ret
      exact ⟨ret_bool HF.out.symm, hb1⟩
  · have HF := Lib.hid (bricksB_many h8)
    go_enter Try.func65, Try.ntmps65
    go_wp2_with fail
    go_ret
    exact ⟨ret_bool HF.out.symm, Below.refl _ _⟩
end Go.Proofs.Ytlaplbkekfnldaa
