/- The plain sentence of ArborParts. -/
import Derived.Test.YtlaplbkekfnldaaPl17
namespace Go.Proofs.Ytlaplbkekfnldaa
set_option linter.unusedSimpArgs false
set_option linter.unusedVariables false

theorem rep_all {a b : Bool} (h : a = b) : (!(a == b)) = false := by subst h; cases a <;> rfl
theorem main_ArborParts (x0 : List TBrick) (x1 : List Int) (x2 : List Int) (w0 : W_l_Brick x0) (w1 : W_l_int1 x1) (w2 : W_l_int1 x2) : F_law25_ArborParts x0 x1 x2 = some true := by
  unfold F_law25_ArborParts
  have haw : F_law25_awake = some true := by kernel_rfl
  rw [haw, f_fewl]
  simp only [Option.bind_some, Bool.not_true, cond_false]
  cases hs : smallL x0 with
  | false => rfl
  | true =>
    obtain ⟨hl12, hnm⟩ := smallL_ok hs
    simp only [Bool.not_true, cond_false]
    by_cases hx1 : x1.length > 20
    · rw [decide_eq_true (show ((x1.length : Nat) : Int) > 20 by omega)]; rfl
    by_cases hx2 : x2.length > 20
    · rw [decide_eq_true (show ((x2.length : Nat) : Int) > 20 by omega), decide_eq_false (show ¬ ((x1.length : Nat) : Int) > 20 by omega)]; rfl
    rw [decide_eq_false (show ¬ ((x1.length : Nat) : Int) > 20 by omega), decide_eq_false (show ¬ ((x2.length : Nat) : Int) > 20 by omega)]
    have hW : ∀ (l : List TBrick) (cs : List Int), l.length ≤ 12 → (∀ x ∈ l, x.name.size ≤ 60) → cs.length ≤ 20 → F_arbor_Weight l cs = some (weightP l cs) := fun l cs h1 h2 h3 => f_aweight l cs (by omega) (fun x hx => by have := h2 x hx; omega) (by omega)
    simp only [Option.bind_some, cond_false]
    rw [hW x0 x1 hl12 hnm (by omega), hW x0 x2 hl12 hnm (by omega)]
    simp only [Option.bind_some]
    cases h1 : ((weightP x0 x1).2 != 0) with
    | true =>
      obtain ⟨z1, z1'⟩ := weight_not h1
      simp only [cond_true, Option.bind_some, z1', cond_false, z1, beq_self_eq_true]
      cases h2 : ((weightP x0 x2).2 != 0) with
      | true =>
        obtain ⟨z2, z2'⟩ := weight_not h2
        rw [z2, z2']; rfl
      | false =>
        have z : (weightP x0 x2).2 = 0 := by simpa using h2
        rw [z]; rfl
    | false =>
      have z1 : (weightP x0 x1).2 = 0 := by simpa using h1
      obtain ⟨hb, hlen1, ho1, e1⟩ := weight_yes z1
      simp only [cond_false]
      cases h2 : ((weightP x0 x2).2 != 0) with
      | true =>
        obtain ⟨z2, z2'⟩ := weight_not h2
        simp only [cond_true, Option.bind_some, z1, z2, z2']
        rfl
      | false =>
        have z2 : (weightP x0 x2).2 = 0 := by simpa using h2
        obtain ⟨-, hlen2, ho2, e2⟩ := weight_yes z2
        obtain ⟨h8, hg⟩ := bricks_good hb
        have hc : ∀ (k : Nat) (h : k < x0.length) (h' : k < x1.length), 0 ≤ x1[k] ∧ x1[k] ≤ x0[k].count ∧ x0[k].count ≤ 60 := fun k h h' => by
          have hm : (x0[k], x1[k]) ∈ x0.zip x1 := by
            have := List.getElem_mem (l := x0.zip x1) (n := k) (by rw [List.length_zip]; omega)
            rwa [List.getElem_zip] at this
          have := List.any_eq_false.1 ho1 _ hm
          simp only [outC, Bool.or_eq_true, decide_eq_true_eq] at this
          have := (hg _ (List.getElem_mem h)).c1
          omega
        have hd : ∀ (k : Nat) (h : k < x0.length) (h' : k < x2.length), 0 ≤ x2[k] ∧ x2[k] ≤ x0[k].count := fun k h h' => by
          have hm : (x0[k], x2[k]) ∈ x0.zip x2 := by
            have := List.getElem_mem (l := x0.zip x2) (n := k) (by rw [List.length_zip]; omega)
            rwa [List.getElem_zip] at this
          have := List.any_eq_false.1 ho2 _ hm
          simp only [outC, Bool.or_eq_true, decide_eq_true_eq] at this
          omega
        simp only [cond_false, Option.bind_some]
        rw [f_clone_int x1 (by omega), f_clone_brick x0 (by omega)]
        simp only [Option.bind_some]
        have hloop : iterF (σ := Bool × Int × List Int × Unit) (ρ := Bool × List Int × Unit) (fun s34 => (bif (decide (s34.2.1 < ((x1.length : Nat) : Int))) then (idx s34.2.2.1 s34.2.1).bind fun _x35 => (s34.2.2.1[(Int.toNat s34.2.1)]?).bind fun x36 => (idx x2 s34.2.1).bind fun x37 => (idx s34.2.2.1 s34.2.1).bind fun _x38 => (s34.2.2.1[(Int.toNat s34.2.1)]?).bind fun x39 => (bif s34.1 then (idx (s34.2.2.1.set (Int.toNat s34.2.1) (IntKind.i64.wrap (x36 + x37))) s34.2.1).bind fun _x40 => ((s34.2.2.1.set (Int.toNat s34.2.1) (IntKind.i64.wrap (x36 + x37)))[(Int.toNat s34.2.1)]?).bind fun x41 => (idx x0 s34.2.1).bind fun x42 => some (.inl ((decide (x41 ≤ x42.count)), (IntKind.i64.wrap (s34.2.1 + 1)), (s34.2.2.1.set (Int.toNat s34.2.1) (IntKind.i64.wrap (x36 + x37))), ())) else some (.inl (false, (IntKind.i64.wrap (s34.2.1 + 1)), (s34.2.2.1.set (Int.toNat s34.2.1) (IntKind.i64.wrap (x36 + x37))), ()))) else some (.inr (s34.1, s34.2.2.1, ())))) big (true, 0, x1, ()) = some (sumB x0 x1 x2 x1.length, List.zipWith (· + ·) x1 x2, ()) := by
          obtain ⟨r, g1, g2⟩ := iter_inv (F := fun s34 : Bool × Int × List Int × Unit => (bif (decide (s34.2.1 < ((x1.length : Nat) : Int))) then (idx s34.2.2.1 s34.2.1).bind fun _x35 => (s34.2.2.1[(Int.toNat s34.2.1)]?).bind fun x36 => (idx x2 s34.2.1).bind fun x37 => (idx s34.2.2.1 s34.2.1).bind fun _x38 => (s34.2.2.1[(Int.toNat s34.2.1)]?).bind fun x39 => (bif s34.1 then (idx (s34.2.2.1.set (Int.toNat s34.2.1) (IntKind.i64.wrap (x36 + x37))) s34.2.1).bind fun _x40 => ((s34.2.2.1.set (Int.toNat s34.2.1) (IntKind.i64.wrap (x36 + x37)))[(Int.toNat s34.2.1)]?).bind fun x41 => (idx x0 s34.2.1).bind fun x42 => some (.inl ((decide (x41 ≤ x42.count)), (IntKind.i64.wrap (s34.2.1 + 1)), (s34.2.2.1.set (Int.toNat s34.2.1) (IntKind.i64.wrap (x36 + x37))), ())) else some (.inl (false, (IntKind.i64.wrap (s34.2.1 + 1)), (s34.2.2.1.set (Int.toNat s34.2.1) (IntKind.i64.wrap (x36 + x37))), ()))) else some (.inr (s34.1, s34.2.2.1, ())) : Option ((Bool × Int × List Int × Unit) ⊕ (Bool × List Int × Unit))))
            (Q := fun r => r = (sumB x0 x1 x2 x1.length, List.zipWith (· + ·) x1 x2, ())) (fun k s => ∃ t : List Int, s = (sumB x0 x1 x2 k, (k : Int), t, ()) ∧ t.length = x1.length ∧ ∀ (i : Nat) (h : i < t.length) (h1 : i < x1.length) (h2 : i < x2.length), t[i] = if i < k then x1[i] + x2[i] else x1[i]) x1.length (by unfold big; omega) (fun k s hk hs => by
              obtain ⟨t, rfl, ht, hgt⟩ := hs
              by_cases hlt : k < x1.length
              · have hkt : k < t.length := by omega
                have hk0 : k < x0.length := by omega
                have hk2 : k < x2.length := by omega
                have hv := hgt k hkt hlt hk2
                rw [if_neg (by omega)] at hv
                have b1 := hc k hk0 hlt
                have b2 := hd k hk0 hk2
                have hkt2 : k < (t.set k (x1[k] + x2[k])).length := by rw [List.length_set]; exact hkt
                refine .inl ⟨(sumB x0 x1 x2 (k + 1), ((k + 1 : Nat) : Int), t.set k (x1[k] + x2[k]), ()), ?_, by omega, t.set k (x1[k] + x2[k]), rfl, by simp [ht], ?_⟩
                · simp only [lt_yes hlt, cond_true, idx_at hkt, idx_at hk2, idx_at hk0, Option.bind_some, Int.toNat_natCast, List.getElem?_eq_getElem hkt, hv]
                  rw [wrap64 (n := x1[k] + x2[k]) (by omega) (by omega), wrap64 (by omega) (by omega)]
                  simp only [idx_at hkt2, List.getElem?_eq_getElem hkt2, Option.bind_some, List.getElem_set_self]
                  rw [sumB_succ x0 x1 x2 k hk0 hlt hk2]
                  cases sumB x0 x1 x2 k <;> rfl
                · intro i hi hi1 hi2
                  rw [List.getElem_set]
                  by_cases e : k = i
                  · subst e; rw [if_pos rfl, if_pos (by omega)]
                  · rw [if_neg e, hgt i (by rw [List.length_set] at hi; exact hi) hi1 hi2]
                    by_cases c : i < k
                    · rw [if_pos c, if_pos (by omega)]
                    · rw [if_neg c, if_neg (by omega)]
              · obtain rfl : k = x1.length := by omega
                refine .inr ⟨(sumB x0 x1 x2 x1.length, t, ()), by simp only [lt_no, cond_false], ?_⟩
                congr 2
                apply List.ext_getElem
                · rw [ht, List.length_zipWith]; omega
                · intro i hi hi2
                  rw [List.length_zipWith] at hi2
                  rw [hgt i hi (by omega) (by omega), if_pos (by omega), List.getElem_zipWith]) (s := (true, 0, x1, ())) ⟨x1, rfl, rfl, fun i _ _ _ => by rw [if_neg (by omega)]⟩
          subst g2
          exact g1
        rw [hloop]
        simp only [Option.bind_some]
        have hlenS : (List.zipWith (· + ·) x1 x2).length = x0.length := by rw [List.length_zipWith]; omega
        rw [hW x0 _ hl12 hnm (by omega)]
        simp only [Option.bind_some]
        have hout : (x0.zip (List.zipWith (· + ·) x1 x2)).any outC = !sumB x0 x1 x2 x1.length := by
          rw [Bool.eq_iff_iff, List.any_eq_true, Bool.not_eq_true']
          unfold sumB
          rw [List.all_eq_false]
          constructor
          · rintro ⟨p, hp, hq⟩
            obtain ⟨i, hi, rfl⟩ := List.mem_iff_getElem.1 hp
            rw [List.length_zip, List.length_zipWith] at hi
            rw [List.getElem_zip, List.getElem_zipWith] at hq
            refine ⟨i, List.mem_range.2 (by omega), ?_⟩
            rw [List.getElem?_eq_getElem (show i < x1.length by omega), List.getElem?_eq_getElem (show i < x2.length by omega), List.getElem?_eq_getElem (show i < x0.length by omega)]
            simp only [outC, Bool.or_eq_true, decide_eq_true_eq, Option.getD_some] at hq ⊢
            have b1 := hc i (by omega) (by omega)
            have b2 := hd i (by omega) (by omega)
            omega
          · rintro ⟨i, hi, hq⟩
            have hi := List.mem_range.1 hi
            rw [List.getElem?_eq_getElem (show i < x1.length by omega), List.getElem?_eq_getElem (show i < x2.length by omega), List.getElem?_eq_getElem (show i < x0.length by omega)] at hq
            simp only [decide_eq_true_eq, Option.getD_some] at hq
            refine ⟨(x0[i], x1[i] + x2[i]), ?_, ?_⟩
            · have := List.getElem_mem (l := x0.zip (List.zipWith (· + ·) x1 x2)) (n := i) (by rw [List.length_zip, List.length_zipWith]; omega)
              rwa [List.getElem_zip, List.getElem_zipWith] at this
            · simp only [outC, Bool.or_eq_true, decide_eq_true_eq]
              omega
        have hwS : weightP x0 (List.zipWith (· + ·) x1 x2) = bif sumB x0 x1 x2 x1.length then (wsum x0 x1 + wsum x0 x2, 0) else (0, 2) := by
          unfold weightP
          rw [hb, decide_eq_true hlenS, hout, wsum_add x0 x1 x2 hlen1 hlen2]
          cases sumB x0 x1 x2 x1.length <;> rfl
        have hn1 : 0 ≤ wsum x0 x1 := wsum_nonneg _ _ (fun b h => by have := (hg b h).w0; omega) (fun c h => by
          obtain ⟨i, hi, rfl⟩ := List.mem_iff_getElem.1 h
          exact (hc i (by omega) hi).1)
        have hend : ((bif (!(sumB x0 x1 x2 x1.length == ((weightP x0 (List.zipWith (· + ·) x1 x2)).2 == 0))) then some (true, ()) else (bif sumB x0 x1 x2 x1.length then (bif ((weightP x0 (List.zipWith (· + ·) x1 x2)).1 != (IntKind.i64.wrap ((weightP x0 x1).1 + (weightP x0 x2).1))) then some (true, ()) else some ((decide ((weightP x0 x1).1 < 0)), ())) else some ((decide ((weightP x0 x1).1 < 0)), ()))) : Option (Bool × Unit)) = some (false, ()) := by
          rw [hwS, e1, e2, decide_eq_false (show ¬ wsum x0 x1 < 0 by omega)]
          cases hS : sumB x0 x1 x2 x1.length with
          | false => rfl
          | true =>
            have hB : ∀ cs : List Int, cs.length = x0.length → (∀ (i : Nat) (h : i < x0.length) (h' : i < cs.length), 0 ≤ cs[i] ∧ cs[i] ≤ 60) → 0 ≤ wsum x0 cs ∧ wsum x0 cs ≤ 503316480 := fun cs hl hcs => by
              rw [← wsum_zip]
              have hb2 := sumTo_bound (fun x : TBrick × Int => x.2 * x.1.weight) (x0.zip cs) 62914560 (fun p hp => by
                obtain ⟨i, hi, rfl⟩ := List.mem_iff_getElem.1 hp
                rw [List.length_zip] at hi
                rw [List.getElem_zip]
                have q1 := hcs i (by omega) (by omega)
                have q2 := hg _ (List.getElem_mem (show i < x0.length by omega))
                have q3 := q2.w0
                have q4 := q2.w1
                show 0 ≤ cs[i] * x0[i].weight ∧ cs[i] * x0[i].weight ≤ 62914560
                refine ⟨Int.mul_nonneg (by omega) (by omega), ?_⟩
                exact Int.le_trans (Int.mul_le_mul q1.2 q4 (by omega) (by decide)) (by decide)) (x0.zip cs).length (Nat.le_refl _)
              rw [sumTo_all] at hb2
              have hzl : (x0.zip cs).length = x0.length := by rw [List.length_zip]; omega
              rw [hzl] at hb2
              omega
            have hb1 := hB x1 hlen1 (fun i h h' => by have := hc i h h'; omega)
            have hb2 := hB x2 hlen2 (fun i h h' => by have := hd i h h'; have := hc i h (by omega); omega)
            simp only [cond_true]
            rw [wrap64 (by omega) (by omega), bne_self_eq_false]
            rfl
        rw [hend]
        simp only [Option.bind_some, cond_false]
        rw [iter_rev x0 (by omega), iter_rev x1 (by omega)]
        simp only [Option.bind_some]
        rw [hW x0.reverse x1.reverse (by simpa using hl12) (fun x hx => hnm x (List.mem_reverse.1 hx)) (by simp; omega)]
        have hwR : weightP x0.reverse x1.reverse = (wsum x0 x1, 0) := by
          unfold weightP
          rw [bricks_rev hb, decide_eq_true (show x1.reverse.length = x0.reverse.length by simpa using hlen1), zip_rev x0 x1 hlen1, wsum_rev x0 x1 hlen1, List.any_reverse, ho1]
          rfl
        rw [hwR, Int.toNat_natCast]
        simp only [Option.bind_some]
        rw [if_pos ⟨by omega, by omega⟩, hW x0 _ hl12 hnm (by rw [List.length_replicate]; omega)]
        have hwZ : weightP x0 (List.replicate x0.length 0) = (0, 0) := by
          have hz : (x0.zip (List.replicate x0.length 0)).any outC = false := by
            rw [List.any_eq_false]
            intro p hp
            obtain ⟨i, hi, rfl⟩ := List.mem_iff_getElem.1 hp
            rw [List.length_zip, List.length_replicate] at hi
            rw [List.getElem_zip, List.getElem_replicate]
            have := (hg _ (List.getElem_mem (show i < x0.length by omega))).c0
            simp only [outC, Bool.or_eq_true, decide_eq_true_eq]
            omega
          unfold weightP
          rw [hb, decide_eq_true (show (List.replicate x0.length (0 : Int)).length = x0.length by simp), hz, wsum_zero]
          rfl
        rw [hwZ, e1]
        simp only [Option.bind_some, beq_self_eq_true, cond_true]
end Go.Proofs.Ytlaplbkekfnldaa
