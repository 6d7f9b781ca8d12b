/- Contracts: the reference's Weight; few; and the walk of ArborBricks. -/
import Derived.Test.YtlaplbkekfnldaaWgt2
import Derived.Test.YtlaplbkekfnldaaBrakesW
namespace Go.Proofs.Ytlaplbkekfnldaa
open Go.RowKit

theorem sum_any' (A B : Option Addr) (c d : Nat) (l : List Brick) (cs : List Int) (w : World) (hl : BricksAt w w.heap.size A l) (hcs : IntsAt w w.heap.size B cs) (g : GoodL l) (hlen : cs.length = l.length) (hr : rangeB l cs = true) :
    Calls Try.prog 44 #[.slice A l.length c, .slice B cs.length d] w fun e w' => e = .returned (.int .i64 (pairTo l cs l.length)) ∧ Below w.heap.size w w' := by
  refine sum_any A B c d l cs w hl hcs hlen (by have := g.n; omega) (fun x hx => by have h := g.one x hx; have := h.w0; exact ⟨by omega, h.w1⟩) (fun x hx => ?_)
  obtain ⟨k, hk, rfl⟩ := List.mem_iff_getElem.1 hx
  have hk2 : k < l.length := by omega
  have h := List.all_eq_true.1 hr k (List.mem_range.2 hk2)
  rw [inR_eq hk2 hk, Bool.and_eq_true, decide_eq_true_iff, decide_eq_true_iff] at h
  have := (g.one l[k] (List.getElem_mem hk2)).c1
  exact ⟨h.1, by omega⟩

set_option maxHeartbeats 2000000 in
theorem rbweight_any (A B : Option Addr) (c d : Nat) (l : List Brick) (cs : List Int) (w : World) (hl : BricksAt w w.heap.size A l) (hcs : IntsAt w w.heap.size B cs) (hn : l.length ≤ maxLen) (hs : ∀ x, x ∈ l → x.name.size ≤ maxLen) :
    Calls Try.prog 26 #[.slice A l.length c, .slice B cs.length d] w fun e w' => e = .returned (.tuple #[.int .i64 (wVal l cs), .int .i64 (wErr l cs)]) ∧ Below w.heap.size w w' := by
  have HV := Lib.hid (rbricks_any A c l w hl hn hs)
  have HL := Lib.hid hl
  have HC := Lib.hid hcs
  clear hs
  unfold maxLen at hn
  by_cases hv : bricksB l = true
  · rw [hv] at HV
    have g := GoodL.of hv
    have hn8 := g.n
    by_cases hlen : cs.length = l.length
    · have HLEN := Lib.hid hlen
      have HBV := Lib.hid hv
      have hle : cs.length ≤ 8 := by omega
      have hneq : ((cs.length : Int) != (l.length : Int)) = false := by rw [hlen]; simp
      have hneq2 : (cs.length != l.length) = false := by rw [hlen]; simp
      have HSUM := Lib.hid (fun w' (hb : Below w.heap.size w w') (hr : rangeB l cs = true) => sum_any' A B c d l cs w' (hl.on hb) (hcs.on hb) g hlen hr)
      clear hlen g hv hl hcs
      go_enter Try.func26, Try.ntmps26
      go_wp2_with fail
      refine HV.out.mono ?_
      rintro e w1 ⟨rfl, hb1⟩
      go_wp2_with fail
      go_loopw [6] (fun i wr => ∃ k : Nat, k ≤ l.length ∧ i = .int .i64 k ∧ Hid (∀ j, j < k → inR l cs j = true) ∧ Below w.heap.size w wr) (fun i _ => l.length - (intOf i).toNat)
      case atStart => exact ⟨0, Nat.zero_le _, rfl, fun _ h => absurd h (by omega), hb1⟩
      case round =>
        obtain ⟨k, hk, rfl, hok, hb⟩ := hrel
        by_cases hlt2 : k < l.length
        · have hlt : k < cs.length := by have := HLEN.out; omega
          obtain ⟨b, off, rfl, hbb, c0, c1, c2⟩ := (HL.out.below hb).at_ hlt2
          obtain ⟨b2, off2, rfl, hbb2, d0⟩ := (HC.out.below hb).at_ hlt
          have HR := Lib.hid (inR_eq hlt2 hlt)
          by_cases h0 : 0 ≤ cs[k]
          · have hd0 : decide (cs[k] < 0) = false := decide_eq_false (by omega)
            by_cases h1 : cs[k] ≤ l[k].count
            · have hin : ∀ j, j < k + 1 → inR l cs j = true := fun j hj => by
                rcases Nat.lt_or_ge j k with h2 | h2
                · exact hok.out j h2
                · obtain rfl : j = k := by omega
                  rw [HR.out, decide_eq_true h0, decide_eq_true h1]; rfl
              have HIN := Lib.hid hin; clear hin
              go_wp2_with fail
              go_quiet (fail)
              go_wp2_with fail
              exact ⟨⟨k + 1, by omega, by go_num, HIN, below_drewN hb _⟩, by simp [intOf]; omega⟩
            · have HE := Lib.hid (wErr2 HBV.out HLEN.out (range_no hlt2 (by rw [HR.out, decide_eq_false h1, Bool.and_false])))
              go_wp2_with fail
              go_quiet (fail)
              go_wp2_with fail
              go_ret2
              exact ⟨by rw [HE.out.1, HE.out.2]; rfl, below_drewN hb _⟩
          · have hd0 : decide (cs[k] < 0) = true := decide_eq_true (by omega)
            have HE := Lib.hid (wErr2 HBV.out HLEN.out (range_no hlt2 (by rw [HR.out, decide_eq_false h0]; rfl)))
            go_wp2_with fail
            go_quiet (fail)
            go_wp2_with fail
            go_ret2
            exact ⟨by rw [HE.out.1, HE.out.2]; rfl, below_drewN hb _⟩
        · have hk2 : k = l.length := by omega
          have hry := range_yes (hk2 ▸ hok.out)
          have HE := Lib.hid (wErr0 HBV.out HLEN.out hry)
          have HRY := Lib.hid hry
          clear hk2 hry
          go_wp2_with fail
          refine (HSUM.out _ hb HRY.out).mono ?_
          rintro e w2 ⟨rfl, hb2⟩
          go_wp2_with fail
          go_ret2
          exact ⟨by rw [HE.out.1, HE.out.2]; rfl, bthen hb hb2⟩
    · have HE := Lib.hid (wErr3 hv hlen)
      have hneq : ((cs.length : Int) != (l.length : Int)) = true := by rw [bne_iff_ne]; omega
      have hneq2 : (cs.length != l.length) = true := by rw [bne_iff_ne]; omega
      clear hv hl hcs
      go_enter Try.func26, Try.ntmps26
      go_wp2_with fail
      refine HV.out.mono ?_
      rintro e w1 ⟨rfl, hb1⟩
      go_wp2_with fail
      go_ret2
      exact ⟨by rw [HE.out.1, HE.out.2]; rfl, hb1⟩
  · have hv := Bool.eq_false_iff.2 hv
    rw [hv] at HV
    have HE := Lib.hid (wErr1 (cs := cs) hv)
    clear hv hl hcs
    go_enter Try.func26, Try.ntmps26
    go_wp2_with fail
    refine HV.out.mono ?_
    rintro e w1 ⟨rfl, hb1⟩
    go_wp2_with fail
    go_ret2
    exact ⟨by rw [HE.out.1, HE.out.2]; rfl, hb1⟩

set_option maxHeartbeats 400000 in
theorem few1_any (x : Brick) (w : World) (hx : x.name.size ≤ maxLen) : Calls Try.prog 52 #[x.val] w fun e w' => e = .returned (.bool (longBrick x)) ∧ Below w.heap.size w w' := by
  unfold maxLen at hx
  unfold Brick.val
  by_cases h : 60 < x.name.size
  · have HF := Lib.hid (show longBrick x = true from decide_eq_true h)
    have hd : decide ((60 : Int) < (x.name.size : Int)) = true := decide_eq_true (by omega)
    go_enter Try.func52, Try.ntmps52
    go_wp2
    go_ret
    exact ⟨ret_bool (by rw [HF.out]), below_box _ _⟩
  · have HF := Lib.hid (show longBrick x = false from decide_eq_false h)
    have hd : decide ((60 : Int) < (x.name.size : Int)) = false := decide_eq_false (by omega)
    go_enter Try.func52, Try.ntmps52
    go_wp2
    go_ret
    exact ⟨ret_bool (by rw [HF.out]), below_box _ _⟩
def fewB (l : List Brick) : Bool := decide (l.length ≤ 12) && !l.any longBrick
set_option maxHeartbeats 400000 in
theorem few_any (A : Option Addr) (c : Nat) (l : List Brick) (w : World) (hl : BricksAt w w.heap.size A l) (hn : l.length ≤ maxLen) (hs : ∀ x, x ∈ l → x.name.size ≤ maxLen) : Calls Try.prog 24 #[.slice A l.length c] w fun e w' => e = .returned (.bool (fewB l)) ∧ Below w.heap.size w w' := by
  have H := Lib.hid (contains_bricks 52 Try.call52 #[] longBrick A l.length c l w rfl hl hn (fun k hk w1 _ => few1_any l[k] w1 (hs _ (List.getElem_mem hk))))
  clear hl hs
  unfold maxLen at hn
  by_cases h12 : l.length ≤ 12
  · have HF := Lib.hid (show fewB l = !l.any longBrick by unfold fewB; rw [decide_eq_true h12]; rfl)
    go_enter Try.func24, Try.ntmps24
    go_wp2_with fail
    refine H.out.mono ?_
    rintro e w1 ⟨rfl, hb1⟩
    go_wp2_with fail
    go_ret
    exact ⟨ret_bool (by rw [HF.out]), hb1⟩
  · have HF := Lib.hid (show fewB l = false by unfold fewB; rw [decide_eq_false h12]; rfl)
    go_enter Try.func24, Try.ntmps24
    go_wp2_with fail
    go_ret
    exact ⟨ret_bool (by rw [HF.out]), Below.refl _ _⟩

set_option maxHeartbeats 2000000 in
theorem lawBricks_any (A B : Option Addr) (c d : Nat) (l : List Brick) (cs : List Int) (w : World) (hl : BricksAt w w.heap.size A l) (hcs : IntsAt w w.heap.size B cs) (hn : l.length ≤ maxLen) (hm : cs.length ≤ maxLen) (hc : l.length ≤ c) (hs : ∀ x, x ∈ l → x.name.size ≤ maxLen) :
    Calls Try.prog 6 #[.slice A l.length c, .slice B cs.length d] w fun e w' => e = .returned (.bool true) ∧ Below w.heap.size w w' := by
  have HF := Lib.hid (fun w' (hb : Below w.heap.size w w') => few_any A c l w' (hl.on hb) hn hs)
  have H1 := Lib.hid (fun w' (hb : Below w.heap.size w w') => aweight_any A B c d l cs w' (hl.on hb) (hcs.on hb) hn hm hc hs)
  have H2 := Lib.hid (fun w' (hb : Below w.heap.size w w') => rbweight_any A B c d l cs w' (hl.on hb) (hcs.on hb) hn hs)
  have H3 := Lib.hid (fun w' (hb : Below w.heap.size w w') => avalid_any A c l w' (hl.on hb) hn hc hs)
  have H4 := Lib.hid (fun w' (hb : Below w.heap.size w w') => rbricks_any A c l w' (hl.on hb) hn hs)
  clear hl hcs hs
  unfold maxLen at hn hm
  cases hf : fewB l with
  | false =>
    rw [hf] at HF
    clear hf
    go_enter Try.func6, Try.ntmps6
    go_wp2_with fail
    refine (awake25 _).mono ?_
    rintro e w1 ⟨rfl, hb1⟩
    go_wp2_with fail
    refine (HF.out _ hb1).mono ?_
    rintro e w2 ⟨rfl, hb2⟩
    go_wp2_with fail
    go_ret
    exact ⟨rfl, bthen hb1 hb2⟩
  | true =>
    rw [hf] at HF
    clear hf
    by_cases h20 : cs.length ≤ 20
    · go_enter Try.func6, Try.ntmps6
      go_wp2_with fail
      refine (awake25 _).mono ?_
      rintro e w1 ⟨rfl, hb1⟩
      go_wp2_with fail
      refine (HF.out _ hb1).mono ?_
      rintro e w2 ⟨rfl, hc2⟩
      have hb2 := bthen hb1 hc2
      clear hc2
      go_wp2_with fail
      refine (H1.out _ hb2).mono ?_
      rintro e w3 ⟨rfl, hc3⟩
      have hb3 := bthen hb2 hc3
      clear hc3
      go_wp2_with fail
      refine (H2.out _ hb3).mono ?_
      rintro e w4 ⟨rfl, hc4⟩
      have hb4 := bthen hb3 hc4
      clear hc4
      go_wp2_with fail
      refine (H3.out _ hb4).mono ?_
      rintro e w5 ⟨rfl, hc5⟩
      have hb5 := bthen hb4 hc5
      clear hc5
      go_wp2_with fail
      refine (H4.out _ hb5).mono ?_
      rintro e w6 ⟨rfl, hc6⟩
      have hb6 := bthen hb5 hc6
      clear hc6
      go_wp2_with fail
      go_ret
      exact ⟨rfl, hb6⟩
    · go_enter Try.func6, Try.ntmps6
      go_wp2_with fail
      refine (awake25 _).mono ?_
      rintro e w1 ⟨rfl, hb1⟩
      go_wp2_with fail
      refine (HF.out _ hb1).mono ?_
      rintro e w2 ⟨rfl, hb2⟩
      go_wp2_with fail
      go_ret
      exact ⟨rfl, bthen hb1 hb2⟩
end Go.Proofs.Ytlaplbkekfnldaa
