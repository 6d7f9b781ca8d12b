/- Contracts: whether bricks, and a whole set, are right, by the reference; and Small. -/
import Derived.Test.YtlaplbkekfnldaaRVal
namespace Go.Proofs.Ytlaplbkekfnldaa
open Go.RowKit

def refTwoB (x y : Brick) : Bool := !sameName x.name y.name
theorem bricksB_eq {l : List Brick} (h : l.length ≤ 8) : bricksB l = (pairsB brickB refTwoB l && decide (sumTo (·.count) l l.length ≤ 60)) := by
  unfold bricksB; rw [decide_eq_true h]; rfl
theorem bricksB_no {l : List Brick} (h : pairsB brickB refTwoB l = false) : bricksB l = false := by
  unfold bricksB; unfold refTwoB at h; rw [h]; simp
theorem bokAt_two {l : List Brick} {k : Nat} (h : k < l.length) (h1 : brickB l[k] = true) (h2 : ∀ j (hj : j < k), refTwoB (l[j]'(Nat.lt_trans hj h)) l[k] = true) : okAt brickB refTwoB l k = true := by
  rw [okAt_eq h, h1, Bool.true_and, List.all_eq_true]
  intro y hy
  obtain ⟨j, hj, rfl⟩ := List.mem_take_iff_getElem.1 hy
  exact h2 j (by omega)
theorem bokAt_bad {l : List Brick} {k j : Nat} (h : k < l.length) (hj : j < k) (h2 : refTwoB (l[j]'(Nat.lt_trans hj h)) l[k] = false) : okAt brickB refTwoB l k = false := by
  rw [okAt_eq h, Bool.eq_false_iff]
  intro e
  rw [Bool.and_eq_true, List.all_eq_true] at e
  have := e.2 (l[j]'(Nat.lt_trans hj h)) (List.mem_take_iff_getElem.2 ⟨j, by omega, rfl⟩)
  rw [h2] at this
  cases this
theorem bokAt_one {l : List Brick} {k : Nat} (h : k < l.length) (h1 : brickB l[k] = false) : okAt brickB refTwoB l k = false := by
  rw [okAt_eq h, h1]; rfl
def TwoToB (l : List Brick) (k m : Nat) : Prop := ∀ (h : k < l.length) j (hj : j < k), j < m → refTwoB (l[j]'(Nat.lt_trans hj h)) l[k] = true
theorem okTo_all {l : List Brick} {k : Nat} (h : okTo brickB refTwoB l k) : (l.take k).all brickB = true := by
  rw [List.all_eq_true]
  intro x hx
  obtain ⟨j, hj, rfl⟩ := List.mem_take_iff_getElem.1 hx
  have := h j (by omega)
  rw [okAt_eq (by omega), Bool.and_eq_true] at this
  exact this.1

set_option maxHeartbeats 1000000 in
theorem rbricks_any (A : Option Addr) (c : Nat) (l : List Brick) (w : World) (hl : BricksAt w w.heap.size A l) (hn : l.length ≤ maxLen) (hs : ∀ x, x ∈ l → x.name.size ≤ maxLen) :
    Calls Try.prog 28 #[.slice A l.length c] w fun e w' => e = .returned (.bool (bricksB l)) ∧ Below w.heap.size w w' := by
  unfold maxLen at hn
  have HL := Lib.hid hl; clear hl
  have HS := Lib.hid hs; clear hs
  by_cases h8 : l.length ≤ 8
  · go_enter Try.func28, Try.ntmps28
    go_wp2_with fail
    go_loopw [3, 4, 5] (fun s i _ wr => ∃ k : Nat, k ≤ l.length ∧ i = .int .i64 k ∧ s = .int .i64 (sumTo (·.count) l k) ∧ Hid (okTo brickB refTwoB l k) ∧ Below w.heap.size w wr) (fun _ i _ _ => l.length - (intOf i).toNat)
    case atStart => exact ⟨0, Nat.zero_le _, rfl, rfl, okTo_zero, Below.refl _ _⟩
    case round =>
      obtain ⟨k, hk, rfl, rfl, hok, hb⟩ := hrel
      by_cases hlt : k < l.length
      · obtain ⟨b, off, rfl, hbb, c0, c1, c2⟩ := (HL.out.below hb).at_ hlt
        have hname := Lib.hid (HS.out _ (List.getElem_mem hlt))
        by_cases hone : brickB l[k] = true
        · have hall := all_take_succ l brickB k hlt (okTo_all hok.out) hone
          obtain ⟨s1, s2⟩ := counts_bound h8 (by omega) hall
          obtain ⟨s3, s4⟩ := counts_bound h8 hk (okTo_all hok.out)
          rw [sumTo_succ _ _ _ hlt] at s1 s2
          have HSUM := Lib.hid (sumTo_succ (·.count) l k hlt)
          clear hall
          have HONE := Lib.hid hone
          simp only [brickB, Bool.and_eq_true] at hone
          obtain ⟨o1, o2, o3⟩ := hone
          go_wp2_with (first | (go_at_call 40; refine (rname_any _ _ hname.out).mono ?_; rintro e w' ⟨rfl, rfl⟩) | (go_at_call 41; refine (rbetween_any _ _ _ _).mono ?_; rintro e w' ⟨rfl, rfl⟩))
          go_loopw [5] (fun j wv => ∃ m : Nat, m ≤ k ∧ j = .int .i64 m ∧ Hid (TwoToB l k m) ∧ Below w.heap.size w wv) (fun j _ => k - (intOf j).toNat)
          case atStart => exact ⟨0, Nat.zero_le _, rfl, fun _ _ _ h => absurd h (by omega), hb⟩
          case round =>
            obtain ⟨m, hm, rfl, htwo, hbv⟩ := hrel
            clear c0 c1 c2
            by_cases hlm : m < k
            · obtain ⟨b1, off1, e1, _, c0, c1, c2⟩ := (HL.out.below hbv).at_ hlt
              simp only [Option.some.injEq, Addr.mk.injEq, and_true] at e1
              obtain ⟨rfl, rfl⟩ := e1
              have hml : m < l.length := by omega
              obtain ⟨b2, off2, e2, _, d0, d1, d2⟩ := (HL.out.below hbv).at_ hml
              simp only [Option.some.injEq, Addr.mk.injEq, and_true] at e2
              obtain ⟨rfl, rfl⟩ := e2
              by_cases hsn : sameName l[m].name l[k].name = true
              · have HNO := Lib.hid (bricksB_no (pairs_no hlt (bokAt_bad hlt hlm (by unfold refTwoB; rw [hsn]; rfl))))
                unfold sameName at hsn
                go_wp2_with fail
                go_quiet (fail)
                go_wp2_with fail
                go_ret
                exact ⟨ret_bool HNO.out.symm, below_drewN hbv _⟩
              · have hsn := Bool.eq_false_iff.2 hsn
                have HSN := Lib.hid hsn
                unfold sameName at hsn
                go_wp2_with fail
                go_quiet (fail)
                go_wp2_with fail
                exact ⟨⟨m + 1, by omega, by go_num, fun h j hj hjm => by
                  rcases Nat.lt_or_ge j m with h1 | h1
                  · exact htwo.out h j hj h1
                  · obtain rfl : j = m := by omega
                    unfold refTwoB
                    rw [HSN.out]; rfl, below_drewN hbv _⟩, by simp [intOf]; omega⟩
            · have hmk : m = k := by omega
              have HOK := Lib.hid (okTo_succ hok.out (bokAt_two hlt HONE.out fun j hj => htwo.out hlt j hj (by omega)))
              clear hmk
              go_wp2_with fail
              exact ⟨⟨k + 1, by omega, by go_num, by rw [HSUM.out], HOK, hbv⟩, by simp [intOf]; omega⟩
        · have hone := Bool.eq_false_iff.2 hone
          have HNO := Lib.hid (bricksB_no (pairs_no hlt (bokAt_one hlt hone)))
          have HONE := Lib.hid hone; clear hone
          go_wp2_with (first | (go_at_call 40; refine (rname_any _ _ hname.out).mono ?_; rintro e w' ⟨rfl, rfl⟩) | (go_at_call 41; refine (rbetween_any _ _ _ _).mono ?_; rintro e w' ⟨rfl, rfl⟩))
          all_goals first
            | (go_ret; exact ⟨ret_bool HNO.out.symm, hb⟩)
            | (exfalso; have := HONE.out; simp_all [brickB])
      · have hk2 : k = l.length := by omega
        have HYES : Hid (decide (sumTo (·.count) l k ≤ 60) = bricksB l) := by
          have hp := hok.out
          rw [hk2] at hp ⊢
          show _ = _
          rw [bricksB_eq h8, pairs_yes hp]; rfl
        clear hk2
        go_wp2_with fail
        go_ret
        exact ⟨ret_bool HYES.out, hb⟩
  · have HF := Lib.hid (bricksB_many h8)
    go_enter Try.func28, Try.ntmps28
    go_wp2_with fail
    go_ret
    exact ⟨ret_bool HF.out.symm, Below.refl _ _⟩
end Go.Proofs.Ytlaplbkekfnldaa
