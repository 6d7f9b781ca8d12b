/- Contracts: whether items and bricks are right, by the reference. -/
import Derived.Test.YtlaplbkekfnldaaVal
import Derived.StillTailTactics
namespace Go.Proofs.Ytlaplbkekfnldaa
open Go.RowKit

def refTwo (x y : Item) : Bool := !sameName x.name y.name && apartB x y
theorem rows_eq {w : World} {B B' : Nat} {A : Option Addr} {b off b' off' : Nat} (_h : A = some ⟨b, off, none⟩) (h' : A = some ⟨b', off', none⟩) (_hb : b < B) (_hb' : b' < B') (_hw : w = w) : A = some ⟨b', off', none⟩ := h'
theorem refItems {l : List Item} {len : Int} (h : l.length ≤ 40) : pairsB (itemOne len) refTwo l = itemsB l len := by
  have e := pairs_and (one := itemOne len) (two := apartB) (two' := fun x y : Item => !sameName x.name y.name) (l := l)
  unfold itemsB
  rw [decide_eq_true h, Bool.true_and]
  refine Eq.trans ?_ e
  refine pairs_congr fun i hi => ⟨rfl, fun k hk => ?_⟩
  unfold refTwo
  rw [Bool.and_comm]
theorem okAt_two {l : List Item} {len : Int} {k : Nat} (h : k < l.length) (h1 : itemOne len l[k] = true) (h2 : ∀ j (hj : j < k), refTwo (l[j]'(Nat.lt_trans hj h)) l[k] = true) : okAt (itemOne len) refTwo l k = true := by
  rw [okAt_eq h, h1, Bool.true_and, List.all_eq_true]
  intro y hy
  obtain ⟨j, hj, rfl⟩ := List.mem_take_iff_getElem.1 hy
  exact h2 j (by omega)
theorem okAt_bad {l : List Item} {len : Int} {k j : Nat} (h : k < l.length) (hj : j < k) (h2 : refTwo (l[j]'(Nat.lt_trans hj h)) l[k] = false) : okAt (itemOne len) refTwo l k = false := by
  rw [okAt_eq h, Bool.eq_false_iff]
  intro e
  rw [Bool.and_eq_true, List.all_eq_true] at e
  have := e.2 (l[j]'(Nat.lt_trans hj h)) (List.mem_take_iff_getElem.2 ⟨j, by omega, rfl⟩)
  rw [h2] at this
  cases this
theorem okAt_one {l : List Item} {len : Int} {k : Nat} (h : k < l.length) (h1 : itemOne len l[k] = false) : okAt (itemOne len) refTwo l k = false := by
  rw [okAt_eq h, h1]; rfl
def TwoTo (l : List Item) (k m : Nat) : Prop := ∀ (h : k < l.length) j (hj : j < k), j < m → refTwo (l[j]'(Nat.lt_trans hj h)) l[k] = true
theorem okTo_one' {l : List Item} {len : Int} {k j : Nat} (h : okTo (itemOne len) refTwo l k) (hj : j < k) (hl : j < l.length) : itemOne len l[j] = true := by
  have := h j hj
  rw [okAt_eq hl, Bool.and_eq_true] at this
  exact this.1

set_option maxHeartbeats 1000000 in
theorem ritems_any (S : LSet) (w : World) (ha : S.At w w.heap.size) (h0 : 0 ≤ S.len) (h1 : S.len ≤ 1048576) :
    Calls Try.prog 42 #[S.val] w fun e w' => e = .returned (.bool (itemsB S.items S.len)) ∧ Below w.heap.size w w' := by
  have HL := Lib.hid ha.items
  have HS := Lib.hid ha.inames
  have hn := ha.nitems
  unfold maxLen at hn
  clear ha
  show Calls Try.prog 42 #[.agg #[.string S.name, .int .i64 S.depth, .int .i64 S.low, .int .i64 S.high, .int .i64 S.len, .slice S.la S.lines.length S.lc, .int .i64 S.pipe, .int .i64 S.arbor, .int .i64 S.purchase, .int .i64 S.most, .int .i64 S.brake, .slice S.ia S.items.length S.ic, .slice S.ba S.bricks.length S.bc]] w _
  generalize S.ia = ia at *
  by_cases h40 : S.items.length ≤ 40
  · have HR := Lib.hid (refItems (len := S.len) h40)
    go_enter Try.func42, Try.ntmps42
    go_wp2_with fail
    go_loopw [3, 4] (fun i _ wr => ∃ k : Nat, k ≤ S.items.length ∧ i = .int .i64 k ∧ Hid (okTo (itemOne S.len) refTwo S.items k) ∧ InBox w #[.string S.name, .int .i64 S.depth, .int .i64 S.low, .int .i64 S.high, .int .i64 S.len, .slice S.la S.lines.length S.lc, .int .i64 S.pipe, .int .i64 S.arbor, .int .i64 S.purchase, .int .i64 S.most, .int .i64 S.brake, .slice ia S.items.length S.ic, .slice S.ba S.bricks.length S.bc] wr) (fun i _ _ => S.items.length - (intOf i).toNat)
    case atStart => exact ⟨0, Nat.zero_le _, rfl, okTo_zero, InBox.of (Below.refl _ _)⟩
    case round =>
      obtain ⟨k, hk, rfl, hok, hIB⟩ := hrel
      obtain ⟨hbox, hz, hb⟩ := hIB
      by_cases hlt : k < S.items.length
      · obtain ⟨b, off, rfl, hbb, c0, c1, c2, c3, c4, c5, c6⟩ := (HL.out.below hb).at_ hlt
        have hname := Lib.hid (HS.out _ (List.getElem_mem hlt))
        by_cases hone : (aloneB S.items[k] && insideB S.items[k] S.len) = true
        · have hsm := Lib.hid (small_of hone h1)
          go_wp2_with fail
          go_still_tail 7, (by kernel_rfl)
          change wpList _ _ _ _ _ wr.drew
          go_wp2_with fail
          refine (ralone_any S.items[k] S.len _ hname.out h0 h1).mono ?_
          rintro e w2 ⟨rfl, hb2⟩
          have hIB2 := InBox.step ⟨hbox, hz, hb⟩ ((Below.refl _ wr).drew.trans (hb2.mono hz))
          clear hbox c0 c1 c2 c3 c4 c5 c6
          go_wp2_with fail
          go_loopw [4] (fun j wv => ∃ m : Nat, m ≤ k ∧ j = .int .i64 m ∧ Hid (TwoTo S.items k m) ∧ InBox w #[.string S.name, .int .i64 S.depth, .int .i64 S.low, .int .i64 S.high, .int .i64 S.len, .slice S.la S.lines.length S.lc, .int .i64 S.pipe, .int .i64 S.arbor, .int .i64 S.purchase, .int .i64 S.most, .int .i64 S.brake, .slice (some ⟨b, off, none⟩) S.items.length S.ic, .slice S.ba S.bricks.length S.bc] wv) (fun j _ => k - (intOf j).toNat)
          case atStart => exact ⟨0, Nat.zero_le _, rfl, fun _ _ _ h => absurd h (by omega), hIB2⟩
          case round =>
            obtain ⟨m, hm, rfl, htwo, hIBv⟩ := hrel
            obtain ⟨hbox, hzv, hbv⟩ := hIBv
            by_cases hlm : m < k
            · obtain ⟨b1, off1, e1, _, c0, c1, c2, c3, c4, c5, c6⟩ := (HL.out.below hbv).at_ hlt
              simp only [Option.some.injEq, Addr.mk.injEq, and_true] at e1
              obtain ⟨rfl, rfl⟩ := e1
              have hml : m < S.items.length := by omega
              obtain ⟨b2, off2, e2, _, d0, d1, d2, d3, d4, d5, d6⟩ := (HL.out.below hbv).at_ hml
              simp only [Option.some.injEq, Addr.mk.injEq, and_true] at e2
              obtain ⟨rfl, rfl⟩ := e2
              by_cases hsn : sameName S.items[m].name S.items[k].name = true
              · have HNO := Lib.hid (HR.out.symm.trans (pairs_no hlt (okAt_bad (len := S.len) hlt hlm (by unfold refTwo; rw [hsn]; rfl))))
                unfold sameName at hsn
                go_wp2_with fail
                go_quiet (fail)
                go_wp2_with fail
                go_ret
                exact ⟨ret_bool HNO.out.symm, below_drewN hbv _⟩
              · have hsn := Bool.eq_false_iff.2 hsn
                have hsm2 := Lib.hid (small_of (okTo_one' hok.out hlm hml) h1)
                have HSN := Lib.hid hsn
                unfold sameName at hsn
                go_wp2_with fail
                go_still_tail 24, (by kernel_rfl)
                change wpList _ _ _ _ _ wr.drew
                go_wp2_with fail
                refine (rapart_any S.items[m] S.items[k] _ hsm2.out hsm.out).mono ?_
                rintro e w3 ⟨rfl, hb3⟩
                have hIB3 := InBox.step ⟨hbox, hzv, hbv⟩ ((Below.refl _ wr).drew.trans (hb3.mono hzv))
                clear hbox c0 c1 c2 c3 c4 c5 c6 d0 d1 d2 d3 d4 d5 d6
                by_cases hap : apartB S.items[m] S.items[k] = true
                · have HT := Lib.hid hap
                  go_wp2_with fail
                  exact ⟨⟨m + 1, by omega, by go_num, fun h j hj hjm => by
                    rcases Nat.lt_or_ge j m with h1 | h1
                    · exact htwo.out h j hj h1
                    · obtain rfl : j = m := by omega
                      unfold refTwo
                      rw [HSN.out, HT.out]; rfl, hIB3⟩, by simp [intOf]; omega⟩
                · have hap := Bool.eq_false_iff.2 hap
                  have HNO := Lib.hid (HR.out.symm.trans (pairs_no hlt (okAt_bad (len := S.len) hlt hlm (by unfold refTwo; rw [hap, Bool.and_false]))))
                  go_wp2_with fail
                  go_ret
                  exact ⟨ret_bool HNO.out.symm, hIB3.2.2⟩
            · have hmk : m = k := by omega
              have HOK := Lib.hid (okTo_succ hok.out (okAt_two (len := S.len) hlt hone fun j hj => htwo.out hlt j hj (by omega)))
              clear hmk
              go_wp2_with fail
              exact ⟨⟨k + 1, by omega, by go_num, HOK, ⟨hbox, hzv, hbv⟩⟩, by simp [intOf]; omega⟩
        · have hone := Bool.eq_false_iff.2 hone
          have HNO := Lib.hid (HR.out.symm.trans (pairs_no hlt (okAt_one (len := S.len) hlt hone)))
          go_wp2_with fail
          go_still_tail 7, (by kernel_rfl)
          change wpList _ _ _ _ _ wr.drew
          go_wp2_with fail
          refine (ralone_any S.items[k] S.len _ hname.out h0 h1).mono ?_
          rintro e w2 ⟨rfl, hb2⟩
          have hIB2 := InBox.step ⟨hbox, hz, hb⟩ ((Below.refl _ wr).drew.trans (hb2.mono hz))
          clear hbox c0 c1 c2 c3 c4 c5 c6
          go_wp2_with fail
          go_ret
          exact ⟨ret_bool HNO.out.symm, hIB2.2.2⟩
      · have hk2 : k = S.items.length := by omega
        have HYES := Lib.hid (HR.out.symm.trans (pairs_yes (hk2 ▸ hok.out)))
        clear hk2
        go_wp2_with fail
        go_ret
        exact ⟨ret_bool HYES.out.symm, hb⟩
  · have HF := Lib.hid (itemsB_many (len := S.len) h40)
    go_enter Try.func42, Try.ntmps42
    go_wp2_with fail
    go_ret
    exact ⟨ret_bool HF.out.symm, below_box _ _⟩
end Go.Proofs.Ytlaplbkekfnldaa
