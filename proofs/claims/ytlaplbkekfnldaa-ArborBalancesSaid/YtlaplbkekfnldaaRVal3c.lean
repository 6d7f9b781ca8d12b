/- Contract: whether a set is valid, by the reference: one theorem for each way through its first two tests. -/
import Derived.Test.YtlaplbkekfnldaaRVal2
namespace Go.Proofs.Ytlaplbkekfnldaa
open Go.RowKit

theorem rbetween_q (n low high : Int) (w : World) : Calls Try.prog 41 #[.int .i64 n, .int .i64 low, .int .i64 high] w fun e w' => e = .returned (.bool (betweenB n low high)) ∧ w' = w :=
  (rbetween_any n low high w).mono fun _ _ ⟨h1, h2⟩ => ⟨h1, h2.symm⟩
theorem linesB_no {l : List Int} {len : Int} {k : Nat} (hk : k < l.length) (h : lineAt l len k = false) : linesB l len = false := by
  unfold linesB
  rw [all_no (List.range l.length) (lineAt l len) k (by simpa using hk) (by simpa using h), Bool.and_false]
theorem linesB_yes {l : List Int} {len : Int} (h : betweenB l.length 2 10 = true) (h1 : ∀ j, j < l.length → lineAt l len j = true) : linesB l len = true := by
  have hb := (between_iff _ _ _).1 h
  unfold linesB
  rw [Bool.and_eq_true, decide_eq_true_iff, List.all_eq_true]
  exact ⟨by omega, fun j hj => h1 j (List.mem_range.1 hj)⟩
set_option maxHeartbeats 2000000 in
set_option maxRecDepth 100000 in
theorem rvalid_way13 (S : LSet) (w : World) (ha : S.At w w.heap.size) (o1 : nameB S.name = true) (o2 : betweenB S.depth 0 1048576 = true) (o3 : betweenB S.low 0 S.high = true) (o4 : betweenB S.high 0 1048576 = true) (o5 : betweenB S.len 1000 1048576 = true) (o6 : (S.len % 1000 != 0) = false) (o7 : betweenB S.lines.length 2 10 = true) (o8 : betweenB S.pipe 0 1048576 = true) (o9 : betweenB S.arbor 0 1048576 = true) (o10 : betweenB S.purchase 1 2 = true) (o11 : betweenB S.most 1 67108864 = true) (o12 : betweenB S.brake 0 67108864 = true) :
    Calls Try.prog 16 #[S.val] w fun e w' => e = .returned (.bool (linesB S.lines S.len && (itemsB S.items S.len && bricksB S.bricks))) ∧ Below w.heap.size w w' := by
  have hnm := ha.name
  have hn := ha.nlines
  unfold maxLen at hn
  obtain ⟨hl0, hl1⟩ := (between_iff _ _ _).1 o5
  have HL := Lib.hid ha.lines
  have H7 := Lib.hid o7
  have hP : ∀ w', Below w.heap.size w w' → S.At w' w'.heap.size := fun w' hb => ha.on hb
  have HA := Lib.hid hP; clear hP ha
  have HI := Lib.hid (fun w' (hb : Below w.heap.size w w') => ritems_any S w' (HA.out w' hb) (by omega) (by omega))
  have HB := Lib.hid (fun w' (hb : Below w.heap.size w w') => rbricks_any S.ba S.bc S.bricks w' (HA.out w' hb).bricks (HA.out w' hb).nbricks (HA.out w' hb).bnames)
  clear HA
  unfold LSet.val at *
  generalize S.la = la at *
  go_enter Try.func16, Try.ntmps16
  go_wp2_with (first | (go_at_call 40; refine (rname_any _ _ hnm).mono ?_; rintro e w' ⟨rfl, rfl⟩) | (go_at_call 41; refine (rbetween_any _ _ _ _).mono ?_; rintro e w' ⟨rfl, rfl⟩))
  go_loopw [3] (fun i wr => ∃ k : Nat, k ≤ S.lines.length ∧ i = .int .i64 k ∧ Hid (∀ j, j < k → lineAt S.lines S.len j = true) ∧ InBox w #[.string S.name, .int .i64 S.depth, .int .i64 S.low, .int .i64 S.high, .int .i64 S.len, .slice la S.lines.length S.lc, .int .i64 S.pipe, .int .i64 S.arbor, .int .i64 S.purchase, .int .i64 S.most, .int .i64 S.brake, .slice S.ia S.items.length S.ic, .slice S.ba S.bricks.length S.bc] wr) (fun i _ => S.lines.length - (intOf i).toNat)
  case atStart => exact ⟨0, Nat.zero_le _, rfl, fun _ h => absurd h (by omega), InBox.of (Below.refl _ _)⟩
  case round =>
    obtain ⟨k, hk, rfl, hok, hIB⟩ := hrel
    obtain ⟨hbox, hz, hb⟩ := hIB
    by_cases hlt : k < S.lines.length
    · obtain ⟨b, off, rfl, hbb, c0⟩ := (HL.out.below hb).at_ hlt
      have HLA := Lib.hid (lineAt_eq S.lines S.len k hlt)
      by_cases hbt : betweenB S.lines[k] 0 S.len = true
      · rcases Nat.eq_zero_or_pos k with hk0 | hk0
        · have HOK : Hid (∀ j, j < k + 1 → lineAt S.lines S.len j = true) := fun j hj => by
            obtain rfl : j = k := by omega
            rw [HLA.out, hbt, decide_eq_true hk0]; rfl
          have hd : decide ((0 : Int) < (k : Int)) = false := decide_eq_false (by omega)
          have hd2 : decide (0 < k) = false := decide_eq_false (by omega)
          clear HLA hk0
          go_wp2_with fail
          go_quiet ((go_at_call 41; exact Calls.quiet_of_same (rbetween_q _ _ _ _)))
          go_wp2_with fail
          exact ⟨⟨k + 1, by omega, by go_num, HOK, ⟨hbox, hz, below_drewN hb _⟩⟩, by simp [intOf]; omega⟩
        · obtain ⟨b2, off2, e2, _, c1⟩ := (HL.out.below hb).at_ (show k - 1 < S.lines.length by omega)
          simp only [Option.some.injEq, Addr.mk.injEq, and_true] at e2
          obtain ⟨rfl, rfl⟩ := e2
          have hd : decide ((0 : Int) < (k : Int)) = true := decide_eq_true (by omega)
          by_cases hle : S.lines[k] ≤ S.lines[k - 1]
          · have HNO := Lib.hid (linesB_no (len := S.len) hlt (by rw [HLA.out, hbt, decide_eq_false (show ¬ k = 0 by omega), decide_eq_false (show ¬ S.lines[k - 1] < S.lines[k] by omega)]; rfl))
            clear HLA
            go_wp2_with fail
            go_quiet ((go_at_call 41; exact Calls.quiet_of_same (rbetween_q _ _ _ _)))
            go_wp2_with fail
            go_ret
            exact ⟨ret_bool (by rw [HNO.out]; rfl), below_drewN hb _⟩
          · have HOK : Hid (∀ j, j < k + 1 → lineAt S.lines S.len j = true) := fun j hj => by
              rcases Nat.lt_or_ge j k with h1 | h1
              · exact hok.out j h1
              · obtain rfl : j = k := by omega
                rw [HLA.out, hbt, decide_eq_true (show S.lines[j - 1] < S.lines[j] by omega), Bool.or_true]; rfl
            clear HLA
            go_wp2_with fail
            go_quiet ((go_at_call 41; exact Calls.quiet_of_same (rbetween_q _ _ _ _)))
            go_wp2_with fail
            exact ⟨⟨k + 1, by omega, by go_num, HOK, ⟨hbox, hz, below_drewN hb _⟩⟩, by simp [intOf]; omega⟩
      · have hbt := Bool.eq_false_iff.2 hbt
        have HNO := Lib.hid (linesB_no (len := S.len) hlt (by rw [HLA.out, hbt]; rfl))
        clear HLA
        go_wp2_with fail
        go_quiet ((go_at_call 41; exact Calls.quiet_of_same (rbetween_q _ _ _ _)))
        go_wp2_with fail
        go_ret
        exact ⟨ret_bool (by rw [HNO.out]; rfl), below_drewN hb _⟩
    · have hk2 : k = S.lines.length := by omega
      have HYES := Lib.hid (linesB_yes (len := S.len) H7.out (hk2 ▸ hok.out))
      clear hk2
      go_wp2_with fail
      refine (HI.out _ hb).mono ?_
      rintro e w2 ⟨rfl, hb2⟩
      have hIB2 := InBox.step ⟨hbox, hz, hb⟩ (hb2.mono hz)
      clear hbox
      obtain ⟨hbox, hz2, hbw2⟩ := hIB2
      by_cases hit : itemsB S.items S.len = true
      · go_wp2_with fail
        refine (HB.out _ hbw2).mono ?_
        rintro e w3 ⟨rfl, hb3⟩
        go_wp2_with fail
        go_ret
        exact ⟨ret_bool (by rw [HYES.out, hit]; rfl), bthen hbw2 hb3⟩
      · have hit := Bool.eq_false_iff.2 hit
        go_wp2_with fail
        go_ret
        exact ⟨ret_bool (by rw [HYES.out, hit]; rfl), hbw2⟩
end Go.Proofs.Ytlaplbkekfnldaa
