/- Contracts: arbor.Weight and the reference's Weight. -/
import Derived.Test.YtlaplbkekfnldaaWgt
namespace Go.Proofs.Ytlaplbkekfnldaa
open Go.RowKit

def inR (l : List Brick) (cs : List Int) (k : Nat) : Bool := match cs[k]?, l[k]? with | some n, some b => decide (0 ≤ n) && decide (n ≤ b.count) | _, _ => true
theorem inR_eq {l : List Brick} {cs : List Int} {k : Nat} (h : k < l.length) (h' : k < cs.length) : inR l cs k = (decide (0 ≤ cs[k]) && decide (cs[k] ≤ l[k].count)) := by
  unfold inR; rw [List.getElem?_eq_getElem h, List.getElem?_eq_getElem h']
def rangeB (l : List Brick) (cs : List Int) : Bool := (List.range l.length).all (inR l cs)
theorem range_no {l : List Brick} {cs : List Int} {k : Nat} (h : k < l.length) (h1 : inR l cs k = false) : rangeB l cs = false :=
  all_no (List.range l.length) (inR l cs) k (by simpa using h) (by simpa using h1)
theorem range_yes {l : List Brick} {cs : List Int} (h : ∀ k, k < l.length → inR l cs k = true) : rangeB l cs = true := List.all_eq_true.2 fun k hk => h k (List.mem_range.1 hk)
def wErr (l : List Brick) (cs : List Int) : Int := if bricksB l = true then (if cs.length = l.length then (if rangeB l cs = true then 0 else 2) else 3) else 1
def wVal (l : List Brick) (cs : List Int) : Int := if wErr l cs = 0 then pairTo l cs l.length else 0
theorem wErr1 {l : List Brick} {cs : List Int} (h : bricksB l = false) : wErr l cs = 1 ∧ wVal l cs = 0 := by
  have : wErr l cs = 1 := by unfold wErr; rw [h]; rfl
  exact ⟨this, by unfold wVal; rw [this]; rfl⟩
theorem wErr3 {l : List Brick} {cs : List Int} (h : bricksB l = true) (h1 : ¬ cs.length = l.length) : wErr l cs = 3 ∧ wVal l cs = 0 := by
  have : wErr l cs = 3 := by unfold wErr; rw [if_pos h, if_neg h1]
  exact ⟨this, by unfold wVal; rw [this]; rfl⟩
theorem wErr2 {l : List Brick} {cs : List Int} (h : bricksB l = true) (h1 : cs.length = l.length) (h2 : rangeB l cs = false) : wErr l cs = 2 ∧ wVal l cs = 0 := by
  have : wErr l cs = 2 := by unfold wErr; rw [if_pos h, if_pos h1, h2]; rfl
  exact ⟨this, by unfold wVal; rw [this]; rfl⟩
theorem wErr0 {l : List Brick} {cs : List Int} (h : bricksB l = true) (h1 : cs.length = l.length) (h2 : rangeB l cs = true) : wErr l cs = 0 ∧ wVal l cs = pairTo l cs l.length := by
  have : wErr l cs = 0 := by unfold wErr; rw [if_pos h, if_pos h1, h2]; rfl
  exact ⟨this, by unfold wVal; rw [this]; rfl⟩
structure GoodL (l : List Brick) : Prop where
  n : l.length ≤ 8
  one : ∀ x, x ∈ l → GoodBrick x
theorem GoodL.of {l : List Brick} (h : bricksB l = true) : GoodL l := by
  unfold bricksB at h
  rw [Bool.and_eq_true, Bool.and_eq_true, decide_eq_true_iff] at h
  exact ⟨h.1, fun x hx => GoodBrick.of (pairs_one h.2.1 x hx)⟩
theorem pairTo_succ {l : List Brick} {cs : List Int} {k : Nat} (h : k < l.length) (h' : k < cs.length) : pairTo l cs (k + 1) = pairTo l cs k + l[k].weight * cs[k] := by
  unfold pairTo
  have hz : k < (l.zip cs).length := by rw [List.length_zip]; omega
  rw [sumTo_succ _ _ _ hz]
  have e : (l.zip cs)[k] = (l[k], cs[k]) := List.getElem_zip
  simp only [e]
theorem pairTo_bound {l : List Brick} {cs : List Int} (g : GoodL l) (hc : cs.length = l.length) : ∀ k, k ≤ l.length → (∀ j, j < k → inR l cs j = true) → 0 ≤ pairTo l cs k ∧ pairTo l cs k ≤ k * 62914560 := by
  intro k
  induction k with
  | zero => intro _ _; exact ⟨Int.le_refl 0, Int.le_refl 0⟩
  | succ k ih =>
    intro hk hr
    have h1 := ih (by omega) (fun j hj => hr j (by omega))
    have h2 := hr k (by omega)
    rw [inR_eq (by omega) (by omega), Bool.and_eq_true, decide_eq_true_iff, decide_eq_true_iff] at h2
    have gb := g.one l[k] (List.getElem_mem (by omega))
    have m := mul_bd (show 0 ≤ l[k].weight by have := gb.w0; omega) gb.w1 h2.1 (show cs[k] ≤ 60 by have := gb.c1; omega)
    rw [pairTo_succ (by omega) (by omega)]
    omega

set_option maxHeartbeats 2000000 in
theorem aweight_any (A B : Option Addr) (c d : Nat) (l : List Brick) (cs : List Int) (w : World) (hl : BricksAt w w.heap.size A l) (hcs : IntsAt w w.heap.size B cs) (hn : l.length ≤ maxLen) (_hm : cs.length ≤ maxLen) (hc : l.length ≤ c) (hs : ∀ x, x ∈ l → x.name.size ≤ maxLen) :
    Calls Try.prog 25 #[.slice A l.length c, .slice B cs.length d] w fun e w' => e = .returned (.tuple #[.int .i64 (wVal l cs), .int .i64 (wErr l cs)]) ∧ Below w.heap.size w w' := by
  have HV := Lib.hid (avalid_any A c l w hl hn hc hs)
  have HL := Lib.hid hl; clear hl
  have HC := Lib.hid hcs; clear hcs
  clear hs
  unfold maxLen at hn _hm
  by_cases hv : bricksB l = true
  · rw [hv] at HV
    have g := GoodL.of hv
    have hn8 := g.n
    by_cases hlen : cs.length = l.length
    · have HLEN := Lib.hid hlen
      have HPB := Lib.hid (pairTo_bound g hlen)
      have HBV := Lib.hid hv
      have hle : cs.length ≤ 8 := by omega
      have hneq : ((cs.length : Int) != (l.length : Int)) = false := by rw [hlen]; simp
      have hneq2 : (cs.length != l.length) = false := by rw [hlen]; simp
      have HG := Lib.hid g
      clear hlen g hv
      go_enter Try.func25, Try.ntmps25
      go_wp2_with fail
      refine HV.out.mono ?_
      rintro e w1 ⟨rfl, hb1⟩
      go_wp2_with fail
      go_loop [6, 7, 8, 21] (fun s _ _ i => ∃ k : Nat, k ≤ cs.length ∧ i = .int .i64 k ∧ s = .int .i64 (pairTo l cs k) ∧ Hid (∀ j, j < k → inR l cs j = true)) (fun _ _ _ i => cs.length - (intOf i).toNat)
      case atStart => exact ⟨0, Nat.zero_le _, rfl, rfl, fun _ h => absurd h (by omega)⟩
      case round =>
        obtain ⟨k, hk, rfl, rfl, hok⟩ := hrel
        by_cases hlt : k < cs.length
        · have hlt2 : k < l.length := by have := HLEN.out; omega
          obtain ⟨b, off, rfl, hbb, c0, c1, c2⟩ := (HL.out.below hb1).at_ hlt2
          obtain ⟨b2, off2, rfl, hbb2, d0⟩ := (HC.out.below hb1).at_ hlt
          have HR := Lib.hid (inR_eq hlt2 hlt)
          by_cases h0 : 0 ≤ cs[k]
          · by_cases h1 : cs[k] ≤ l[k].count
            · have hin : ∀ j, j < k + 1 → inR l cs j = true := fun j hj => by
                rcases Nat.lt_or_ge j k with h2 | h2
                · exact hok.out j h2
                · obtain rfl : j = k := by omega
                  rw [HR.out, decide_eq_true h0, decide_eq_true h1]; rfl
              have p1 := HPB.out (k + 1) (by omega) hin
              have p2 := HPB.out k (by omega) hok.out
              have HIN := Lib.hid hin; clear hin
              rw [pairTo_succ hlt2 hlt, Int.mul_comm] at p1
              have HPS := Lib.hid (pairTo_succ hlt2 hlt)
              have gb := HG.out.one l[k] (List.getElem_mem hlt2)
              have m := mul_bd h0 h1 (show 0 ≤ l[k].weight by have := gb.w0; omega) gb.w1
              have gc := gb.c1
              have m1 := m.1
              have m2 : cs[k] * l[k].weight ≤ 62914560 := by omega
              obtain ⟨p11, p12⟩ := p1
              obtain ⟨p21, p22⟩ := p2
              clear gb m gc
              go_wp2_with fail
              exact ⟨⟨k + 1, by omega, by go_num, by rw [HPS.out, Int.mul_comm], HIN⟩, by simp [intOf]; omega⟩
            · have HE := Lib.hid (wErr2 HBV.out HLEN.out (range_no hlt2 (by rw [HR.out, decide_eq_false h1, Bool.and_false])))
              go_wp2_with fail
              go_ret2
              exact ⟨by rw [HE.out.1, HE.out.2]; rfl, hb1⟩
          · have HE := Lib.hid (wErr2 HBV.out HLEN.out (range_no hlt2 (by rw [HR.out, decide_eq_false h0]; rfl)))
            go_wp2_with fail
            go_ret2
            exact ⟨by rw [HE.out.1, HE.out.2]; rfl, hb1⟩
        · have hk2 : k = l.length := by have := HLEN.out; omega
          have HE := Lib.hid (wErr0 HBV.out HLEN.out (range_yes (hk2 ▸ hok.out)))
          have HK := Lib.hid hk2; clear hk2
          go_wp2_with fail
          go_ret2
          exact ⟨by rw [HE.out.1, HE.out.2, ← HK.out]; rfl, hb1⟩
    · have HE := Lib.hid (wErr3 hv hlen)
      have hneq : ((cs.length : Int) != (l.length : Int)) = true := by rw [bne_iff_ne]; omega
      have hneq2 : (cs.length != l.length) = true := by rw [bne_iff_ne]; omega
      clear hv
      go_enter Try.func25, Try.ntmps25
      go_wp2_with fail
      refine HV.out.mono ?_
      rintro e w1 ⟨rfl, hb1⟩
      go_wp2_with fail
      go_ret2
      exact ⟨by rw [HE.out.1, HE.out.2]; rfl, hb1⟩
  · have hv := Bool.eq_false_iff.2 hv
    rw [hv] at HV
    have HE := Lib.hid (wErr1 (cs := cs) hv)
    clear hv
    go_enter Try.func25, Try.ntmps25
    go_wp2_with fail
    refine HV.out.mono ?_
    rintro e w1 ⟨rfl, hb1⟩
    go_wp2_with fail
    go_ret2
    exact ⟨by rw [HE.out.1, HE.out.2]; rfl, hb1⟩
end Go.Proofs.Ytlaplbkekfnldaa
