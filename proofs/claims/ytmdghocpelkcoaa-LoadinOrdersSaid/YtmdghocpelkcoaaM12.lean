/- Joined by merge.py: PlL9, PlL10, PlL11. -/
import Derived.Test.YtmdghocpelkcoaaM11
/- Loading in: the reference comes to the same. -/
namespace Go.Proofs.Ytmdghocpelkcoaa
set_option linter.unusedSimpArgs false
set_option linter.unusedVariables false

theorem f_has (m i : Nat) (hm : m < 128) (hi : i < 7) : F_ref28_has (m : Int) (i : Int) = some (m.testBit i) := by
  unfold F_ref28_has
  rw [if_neg (by omega), b_has m i hm hi]
theorem safe_len {n : Nat} (hn : n ≤ 7) {h : Nat → Bool} {o : List Nat} (hs : Safe n h o) : o.length = n := by
  obtain ⟨h1, h2, h3, _⟩ := hs
  have h4 := nodup_len h1 h2
  have h5 : ∀ j, j < n → j ∈ o := fun j hj => by
    have h6 := (st_bits hn h1 h2).2 j (by omega)
    rw [h3] at h6
    have h7 := bit_flip n (by omega) 0 (Nat.two_pow_pos n) j hj
    rw [Nat.sub_zero, Nat.zero_testBit] at h7
    rw [h7] at h6
    exact of_decide_eq_true h6.symm
  have h6 := (List.nodup_range (n := n)).length_le_of_subset (l₂ := o) fun j hj => h5 j (List.mem_range.1 hj)
  rw [List.length_range] at h6
  omega
section
variable {s : TSet} {l : List TJob}
theorem f_rheldM (h : Few s l) (m : Nat) (hm : m < 128) : F_ref28_Held s l (m : Int) = some (heldM s l m) := by
  have h7 := h.n7
  have hb1 := h.good.b0
  have hb2 := h.good.b1
  unfold F_ref28_Held
  rw [f_rbalance s h.good]
  refine bind_of rfl ?_
  refine bind_of (iter_go l.length (fun i => (balanceI s + bsum (l.map (chI s)) m i, (i : Int), ())) (imbM s l m, ()) (by omega) (by simp [bsum]) ?_ ?_) ?_
  · intro i hi
    have hb := bsum_bound (l.map (chI s)) 2097152 (by decide) h.ch m (i + 1)
    have hbal := bal_bound h.good
    have hch := ch_bound h.good (jobs_good h.jobs _ (List.getElem_mem hi))
    simp only [lt_yes hi, cond_true, f_has m i hm (by omega), Option.bind_some]
    rw [wrap64 (n := (i : Int) + 1) (by omega) (by omega)]
    have e : bsum (l.map (chI s)) m (i + 1) = bsum (l.map (chI s)) m i + bif m.testBit i then chI s l[i] else 0 := by
      rw [bsum, List.getD_eq_getElem?_getD, List.getElem?_map, List.getElem?_eq_getElem hi]; rfl
    rw [e] at hb ⊢
    cases hbi : m.testBit i with
    | false => simp only [cond_false, Option.bind_some, Int.add_zero]; rfl
    | true =>
      rw [hbi] at hb
      simp only [cond_true] at hb
      simp only [cond_true, idx_at hi, Option.bind_some]
      rw [f_rchange s _ h.good (jobs_good h.jobs _ (List.getElem_mem hi))]
      simp only [Option.bind_some]
      rw [Int.add_assoc, wrap64 (by omega) (by omega)]; rfl
  · simp only [lt_no, cond_false]; rfl
  rw [Int.zero_sub, wrap64 (n := -s.brake) (by omega) (by omega)]
  show ((bif decide (imbM s l m ≥ -s.brake) then some (decide (imbM s l m ≤ s.brake), ()) else some (false, ()) : Option (Bool × Unit)).bind fun y15 => some y15.1) = some (decide (-s.brake ≤ imbM s l m) && decide (imbM s l m ≤ s.brake))
  have e2 : decide (imbM s l m ≥ -s.brake) = decide (-s.brake ≤ imbM s l m) := rfl
  rw [e2]
  cases decide (-s.brake ≤ imbM s l m) <;> rfl
theorem f_rgiven (hf : Fits s) (hn : ∀ x ∈ l, x.name.size ≤ 60) : F_ref28_Given s l = some (bif okB s l then (bif decide (((l.length : Nat) : Int) > 12) then 6 else 0) else 1) := by
  unfold F_ref28_Given okB
  rw [f_rvalid s hf, f_rjobs l (fun x hx => by have := hn x hx; omega)]
  cases validB s with
  | false => rfl
  | true =>
    cases jobsB l with
    | false => rfl
    | true =>
      cases hd : decide (((l.length : Nat) : Int) > 12) <;> simp [hd]
theorem f_rways (h : Few s l) : F_ref28_Ways s l = some (rm (2 ^ l.length) fun m => waysV l.length (flip l.length (heldM s l)) (2 ^ l.length - 1 - m)) := by
  have h7 := h.n7
  have hN := h.N
  have hp := Nat.two_pow_pos l.length
  unfold F_ref28_Ways
  simp only [pw l.length (by omega)]
  rw [wrap64 (n := ((2 ^ l.length : Nat) : Int) - 1) (by omega) (by omega), Int.sub_add_cancel, wrap64 (by omega) (by omega)]
  rw [if_neg (show ¬ ((l.length : Nat) : Int) < 0 by omega), if_pos (by omega)]
  simp only [Int.toNat_natCast, rm_rep]
  have ewh : ((2 ^ l.length : Nat) : Int) - 1 = ((2 ^ l.length - 1 : Nat) : Int) := by omega
  rw [ewh]
  refine bind_of (iter_go (2 ^ l.length) (fun k => (((2 ^ l.length - 1 : Nat) : Int) - (k : Int), rm (2 ^ l.length) (fun m => if 2 ^ l.length - 1 - m < k then waysV l.length (flip l.length (heldM s l)) (2 ^ l.length - 1 - m) else 0), ())) (rm (2 ^ l.length) (fun m => waysV l.length (flip l.length (heldM s l)) (2 ^ l.length - 1 - m)), ()) (by omega) (by simp) ?_ ?_) rfl
  · intro k hk
    obtain ⟨m, hm⟩ : ∃ m, m = 2 ^ l.length - 1 - k := ⟨_, rfl⟩
    have hmN : m < 2 ^ l.length := by omega
    have em : ((2 ^ l.length - 1 : Nat) : Int) - (k : Int) = (m : Int) := by omega
    have em2 : ((2 ^ l.length - 1 : Nat) : Int) - ((k + 1 : Nat) : Int) = (m : Int) - 1 := by omega
    have emk : 2 ^ l.length - 1 - m = k := by omega
    have ef : flip l.length (heldM s l) k = heldM s l m := by unfold flip; rw [← hm]
    have e := ways_eq l.length (flip l.length (heldM s l)) k
    rw [ef] at e
    simp only [em, em2]
    simp only [decide_eq_true (show (m : Int) ≥ 0 by omega), cond_true, f_rheldM h m (by omega), Option.bind_some, rm_idx _ hmN, rm_at _ hmN]
    rw [wrap64 (n := (m : Int) - 1) (by omega) (by omega)]
    cases hh : heldM s l m with
    | false =>
      rw [hh] at e
      simp only [cond_false] at e
      simp only [Bool.not_false, cond_true, Option.bind_some]
      rw [rm_congr (g' := fun m => if 2 ^ l.length - 1 - m < k + 1 then waysV l.length (flip l.length (heldM s l)) (2 ^ l.length - 1 - m) else 0) fun q hq => by
        by_cases hq1 : 2 ^ l.length - 1 - q < k
        · rw [if_pos hq1, if_pos (by omega)]
        · rw [if_neg hq1]
          by_cases hq2 : 2 ^ l.length - 1 - q < k + 1
          · rw [if_pos hq2, show 2 ^ l.length - 1 - q = k from by omega, e]
          · rw [if_neg hq2]]
    | true =>
      rw [hh] at e
      simp only [cond_true] at e
      simp only [Bool.not_true, cond_false]
      have ek : ((m : Int) == ((2 ^ l.length - 1 : Nat) : Int)) = (k == 0) := by rw [Bool.eq_iff_iff]; simp only [beq_iff_eq]; omega
      rw [ek]
      obtain ⟨c, hc⟩ : ∃ c : Int, c = bif k == 0 then 1 else 0 := ⟨_, rfl⟩
      have hc01 : 0 ≤ c ∧ c ≤ 1 := by rw [hc]; cases k == 0 <;> simp
      have first : ((bif k == 0 then some ((rm (2 ^ l.length) (fun m => if 2 ^ l.length - 1 - m < k then waysV l.length (flip l.length (heldM s l)) (2 ^ l.length - 1 - m) else 0)).set (Int.toNat (m : Int)) 1, ()) else some (rm (2 ^ l.length) (fun m => if 2 ^ l.length - 1 - m < k then waysV l.length (flip l.length (heldM s l)) (2 ^ l.length - 1 - m) else 0), ())) : Option (List Int × Unit)) = some (rm (2 ^ l.length) (fun q => if 2 ^ l.length - 1 - q < k then waysV l.length (flip l.length (heldM s l)) (2 ^ l.length - 1 - q) else if q = m then c else 0), ()) := by
        cases hk0 : k == 0 with
        | true =>
          rw [hk0] at hc
          simp only [cond_true] at hc ⊢
          rw [rm_set (g' := fun q => if 2 ^ l.length - 1 - q < k then waysV l.length (flip l.length (heldM s l)) (2 ^ l.length - 1 - q) else if q = m then c else 0) _ _ fun q hq => by
            by_cases hq1 : q = m
            · subst hq1; rw [if_pos rfl, if_neg (by omega), if_pos rfl, hc]
            · rw [if_neg hq1, if_neg hq1]]
        | false =>
          rw [hk0] at hc
          simp only [cond_false] at hc ⊢
          rw [rm_congr (g' := fun q => if 2 ^ l.length - 1 - q < k then waysV l.length (flip l.length (heldM s l)) (2 ^ l.length - 1 - q) else if q = m then c else 0) fun q hq => by
            by_cases hq1 : 2 ^ l.length - 1 - q < k
            · rw [if_pos hq1, if_pos hq1]
            · rw [if_neg hq1, if_neg hq1]
              by_cases hq2 : q = m
              · rw [if_pos hq2, hc]
              · rw [if_neg hq2]]
      rw [first]
      simp only [Option.bind_some]
      obtain ⟨f, hf⟩ : ∃ f : Nat → Int, f = fun i => bif k.testBit i then waysV l.length (flip l.length (heldM s l)) (k - 2 ^ i) else 0 := ⟨_, rfl⟩
      have hfb : ∀ i, 0 ≤ f i ∧ f i ≤ 1000000 := fun i => by
        rw [hf]
        simp only
        cases hb : k.testBit i with
        | false => simp
        | true => have := sub_lt hb; exact ways_bound h7 _ _ (by omega)
      have hps := psum_bound f 1000000 hfb
      refine bind_of (bind_of (iter_go l.length (fun i => ((i : Int), rm (2 ^ l.length) (fun q => if 2 ^ l.length - 1 - q < k then waysV l.length (flip l.length (heldM s l)) (2 ^ l.length - 1 - q) else if q = m then c + psum f i else 0), ())) (rm (2 ^ l.length) (fun q => if 2 ^ l.length - 1 - q < k + 1 then waysV l.length (flip l.length (heldM s l)) (2 ^ l.length - 1 - q) else 0), ()) (by omega) ?_ ?_ ?_) rfl) rfl
      · refine Prod.ext rfl (Prod.ext (rm_congr fun q hq => ?_) rfl)
        show _ = if 2 ^ l.length - 1 - q < k then _ else if q = m then c + psum f 0 else 0
        have : psum f 0 = 0 := rfl
        rw [this, Int.add_zero]
      · intro i hi
        have hpi := hps i
        have hpi2 := hps (i + 1)
        have hfl := bit_flip l.length (by omega) m hmN i hi
        rw [emk] at hfl
        simp only [lt_yes hi, cond_true, if_neg (show ¬ (i : Int) < 0 by omega), f_has m i (by omega) (by omega), pw i (by omega), Option.bind_some]
        rw [wrap64 (n := (i : Int) + 1) (by omega) (by omega)]
        cases hb : m.testBit i with
        | true =>
          rw [hb] at hfl
          have e4 : psum f (i + 1) = psum f i := by rw [psum_succ, hf]; simp only [hfl, Bool.not_true, cond_false]; omega
          rw [e4]; rfl
        | false =>
          rw [hb] at hfl
          have hlt := sub_lt hfl
          have hge := bit_ge hfl
          have hup := bit_up l.length (by omega) m hmN i hi hb
          have e4 : psum f (i + 1) = psum f i + waysV l.length (flip l.length (heldM s l)) (k - 2 ^ i) := by rw [psum_succ, hf]; simp only [hfl, Bool.not_false, cond_true]
          have hpi2n : (2 : Nat) ^ i > 0 := Nat.two_pow_pos i
          simp only [Bool.not_false, cond_true, b_or m i (by omega) (by omega) hb, rm_idx _ hmN, rm_at _ hmN, rm_idx _ hup, rm_at _ hup, Option.bind_some, if_pos (show 2 ^ l.length - 1 - (m + 2 ^ i) < k by omega), if_neg (show ¬ 2 ^ l.length - 1 - m < k by omega), if_true]
          rw [show 2 ^ l.length - 1 - (m + 2 ^ i) = k - 2 ^ i from by omega]
          rw [rm_set (g' := fun q => if 2 ^ l.length - 1 - q < k then waysV l.length (flip l.length (heldM s l)) (2 ^ l.length - 1 - q) else if q = m then c + psum f (i + 1) else 0) _ _ fun q hq => by
            by_cases hq1 : q = m
            · subst hq1
              rw [if_pos rfl, if_neg (by omega), if_pos rfl, e4, wrap64 (by omega) (by omega)]; omega
            · by_cases hq2 : 2 ^ l.length - 1 - q < k
              · simp only [if_pos hq2, if_neg hq1]
              · simp only [if_neg hq2, if_neg hq1]]
          rfl
      · simp only [lt_no, cond_false]
        rw [rm_congr (g' := fun q => if 2 ^ l.length - 1 - q < k + 1 then waysV l.length (flip l.length (heldM s l)) (2 ^ l.length - 1 - q) else 0) fun q hq => by
          by_cases hq1 : 2 ^ l.length - 1 - q < k
          · rw [if_pos hq1, if_pos (by omega)]
          · rw [if_neg hq1]
            by_cases hq2 : q = m
            · subst hq2
              rw [if_pos rfl, if_pos (by omega), emk, e, hc, hf]; rfl
            · rw [if_neg hq2, if_neg (by omega)]]
  · rw [show ((2 ^ l.length - 1 : Nat) : Int) - ((2 ^ l.length : Nat) : Int) = -1 from by omega]
    simp only [show decide ((-1 : Int) ≥ 0) = false from rfl, cond_false]
    rw [rm_congr (g' := fun m => waysV l.length (flip l.length (heldM s l)) (2 ^ l.length - 1 - m)) fun j hj => if_pos (by omega)]
theorem any_succ (p : Nat → Bool) (i : Nat) : (List.range (i + 1)).any p = ((List.range i).any p || p i) := by rw [List.range_succ, List.any_append]; simp
theorem f_rreached (h : Few s l) : F_ref28_Reached s l = some (rm (2 ^ l.length) (reachV l.length (heldM s l))) := by
  have h7 := h.n7
  have hN := h.N
  have hp := Nat.two_pow_pos l.length
  unfold F_ref28_Reached
  simp only [pw l.length (by omega)]
  rw [if_neg (show ¬ ((l.length : Nat) : Int) < 0 by omega), if_pos (by omega)]
  simp only [Int.toNat_natCast, rm_rep]
  refine bind_of (iter_go (2 ^ l.length) (fun k => ((k : Int), rm (2 ^ l.length) (fun m => if m < k then reachV l.length (heldM s l) m else false), ())) (rm (2 ^ l.length) (reachV l.length (heldM s l)), ()) (by omega) rfl ?_ ?_) rfl
  · intro k hk
    have e := reach_eq l.length (heldM s l) k
    simp only [rm_len, lt_yes hk, cond_true, rm_idx _ hk, rm_at _ hk, Option.bind_some, f_rheldM h k (by omega)]
    rw [wrap64 (n := (k : Int) + 1) (by omega) (by omega)]
    cases hh : heldM s l k with
    | false =>
      rw [hh, Bool.false_and] at e
      simp only [Bool.not_false, cond_true, Option.bind_some]
      rw [rm_congr (g' := fun m => if m < k + 1 then reachV l.length (heldM s l) m else false) fun q hq => by
        by_cases hq1 : q < k
        · rw [if_pos hq1, if_pos (by omega)]
        · rw [if_neg hq1]
          by_cases hq2 : q < k + 1
          · obtain rfl : q = k := by omega
            rw [if_pos hq2, e]
          · rw [if_neg hq2]]
      rfl
    | true =>
      rw [hh, Bool.true_and] at e
      simp only [Bool.not_true, cond_false]
      have ek : ((k : Int) == 0) = (k == 0) := by rw [Bool.eq_iff_iff]; simp
      rw [ek]
      obtain ⟨p, hpd⟩ : ∃ p : Nat → Bool, p = fun i => k.testBit i && reachV l.length (heldM s l) (k - 2 ^ i) := ⟨_, rfl⟩
      rw [rm_set (g' := fun m => if m < k then reachV l.length (heldM s l) m else if m = k then (k == 0 || (List.range 0).any p) else false) _ _ fun q hq => by
        by_cases hq1 : q = k
        · subst hq1; rw [if_pos rfl, if_neg (by omega), if_pos rfl]; simp
        · by_cases hq2 : q < k
          · simp only [if_pos hq2, if_neg hq1]
          · simp only [if_neg hq2, if_neg hq1]]
      refine bind_of (bind_of (iter_go l.length (fun i => ((i : Int), rm (2 ^ l.length) (fun m => if m < k then reachV l.length (heldM s l) m else if m = k then (k == 0 || (List.range i).any p) else false), ())) (rm (2 ^ l.length) (fun m => if m < k + 1 then reachV l.length (heldM s l) m else false), ()) (by omega) rfl ?_ ?_) rfl) rfl
      · intro i hi
        have hi2 : 2 ^ i ≤ 2 ^ 6 := Nat.pow_le_pow_right (by omega) (by omega)
        simp only [lt_yes hi, cond_true, if_neg (show ¬ (i : Int) < 0 by omega), f_has k i (by omega) (by omega), pw i (by omega), Option.bind_some, any_succ]
        rw [wrap64 (n := (i : Int) + 1) (by omega) (by omega)]
        cases hb : k.testBit i with
        | false =>
          have : p i = false := by rw [hpd]; simp only [hb, Bool.false_and]
          rw [this]
          simp only [cond_false, Bool.or_false]
          rfl
        | true =>
          have hlt := sub_lt hb
          have hge := bit_ge hb
          have hpi : p i = reachV l.length (heldM s l) (k - 2 ^ i) := by rw [hpd]; simp only [hb, Bool.true_and]
          rw [hpi]
          have ew : IntKind.i64.wrap ((k : Int) - ((2 ^ i : Nat) : Int)) = ((k - 2 ^ i : Nat) : Int) := by rw [wrap64 (by omega) (by omega)]; omega
          simp only [cond_true, ew, rm_idx _ (show k - 2 ^ i < 2 ^ l.length by omega), rm_at _ (show k - 2 ^ i < 2 ^ l.length by omega), Option.bind_some, if_pos hlt, rm_idx _ hk, rm_at _ hk]
          cases hr : reachV l.length (heldM s l) (k - 2 ^ i) with
          | false => simp only [cond_false, Bool.or_false]; rfl
          | true =>
            simp only [cond_true, Bool.or_true]
            rw [rm_set (g' := fun m => if m < k then reachV l.length (heldM s l) m else if m = k then true else false) _ _ fun q hq => by
              by_cases hq1 : q = k
              · subst hq1; rw [if_pos rfl, if_neg (by omega), if_pos rfl]
              · by_cases hq2 : q < k
                · simp only [if_pos hq2, if_neg hq1]
                · simp only [if_neg hq2, if_neg hq1]]
            rfl
      · simp only [lt_no, cond_false]
        rw [rm_congr (g' := fun m => if m < k + 1 then reachV l.length (heldM s l) m else false) fun q hq => by
          by_cases hq1 : q < k
          · rw [if_pos hq1, if_pos (by omega)]
          · rw [if_neg hq1]
            by_cases hq2 : q = k
            · subst hq2
              rw [if_pos rfl, if_pos (by omega), e, hpd]
            · rw [if_neg hq2, if_neg (by omega)]]
  · simp only [rm_len, lt_no, cond_false]
    rw [rm_congr (g' := reachV l.length (heldM s l)) fun j hj => if_pos hj]
end
end Go.Proofs.Ytmdghocpelkcoaa

/- Loading in: the reference's orders; Order, Out, and Count return what is specified. -/
namespace Go.Proofs.Ytmdghocpelkcoaa
set_option linter.unusedSimpArgs false
set_option linter.unusedVariables false

theorem full_len {n : Nat} (hn : n ≤ 7) {h : Nat → Bool} (hr : reachV n (flip n h) (2 ^ n - 1) = true) : (dnM n (reachV n (flip n h)) (2 ^ n - 1)).length = n :=
  safe_len hn ((safe_up hn h _).1 (dn_mem _ _ (Nat.lt_succ_self _) hr))
section
variable {s : TSet} {l : List TJob}
theorem f_rorder (h : Few s l) : F_ref28_Order s l = some (bif reachV l.length (flip l.length (heldM s l)) (2 ^ l.length - 1) then (ints (dnM l.length (reachV l.length (flip l.length (heldM s l))) (2 ^ l.length - 1)), true) else ([], false)) := by
  have h7 := h.n7
  have hN := h.N
  have hp := Nat.two_pow_pos l.length
  unfold F_ref28_Order
  rw [f_rways h]
  refine bind_of rfl ?_
  refine bind_of (rm_idx (k := 0) _ hp) ?_
  refine bind_of (rm_at (k := 0) _ hp) ?_
  rw [Nat.sub_zero, ways_pos]
  cases hr : reachV l.length (flip l.length (heldM s l)) (2 ^ l.length - 1) with
  | false => rfl
  | true =>
    simp only [Bool.not_true, cond_false, cond_true]
    obtain ⟨full, hfull⟩ : ∃ full, full = dnM l.length (reachV l.length (flip l.length (heldM s l))) (2 ^ l.length - 1) := ⟨_, rfl⟩
    have hfl0 : full.length = l.length := by rw [hfull]; exact full_len h7 hr
    rw [← hfull]
    refine bind_of (x := (ints full, ())) ?_ rfl
    have key : ∀ {F : Int × List Int × Unit → Option ((Int × List Int × Unit) ⊕ (List Int × Unit))}, (∀ (m : Nat) (o : List Nat), m < 2 ^ l.length → o.length ≤ 128 → (o.length < l.length ↔ m ≠ 2 ^ l.length - 1) → reachV l.length (flip l.length (heldM s l)) (2 ^ l.length - 1 - m) = true → F ((m : Int), ints o, ()) = if m = 2 ^ l.length - 1 then some (.inr (ints o, ())) else
        match (List.range l.length).find? (fun i => (2 ^ l.length - 1 - m).testBit i && reachV l.length (flip l.length (heldM s l)) (2 ^ l.length - 1 - m - 2 ^ i)) with
        | some i => some (.inl (((m + 2 ^ i : Nat) : Int), ints (o ++ [i]), ()))
        | none => none) → iterF F big (0, [], ()) = some (ints full, ()) := by
      intro F hF
      obtain ⟨r, g1, g2⟩ := iter_inv (F := F) (Q := fun r => r = (ints full, ())) (fun k z => ∃ (m : Nat) (o : List Nat), z = ((m : Int), ints o, ()) ∧ m < 2 ^ l.length ∧ k ≤ m ∧ o.length ≤ k ∧ reachV l.length (flip l.length (heldM s l)) (2 ^ l.length - 1 - m) = true ∧ o ++ dnM l.length (reachV l.length (flip l.length (heldM s l))) (2 ^ l.length - 1 - m) = full) (2 ^ l.length) (by unfold big; omega) (fun k z hk hz => by
        obtain ⟨m, o, rfl, h1, h2, h3, h4, h5⟩ := hz
        by_cases hm : m = 2 ^ l.length - 1
        · have h6 := h5
          rw [hm, Nat.sub_self, dnM_zero, List.append_nil] at h6
          have e := hF m o h1 (by omega) ⟨fun hlt => by rw [h6] at hlt; omega, fun hne => absurd hm hne⟩ h4
          rw [if_pos hm] at e
          exact .inr ⟨_, e, by rw [h6]⟩
        · obtain ⟨i, hf, hi, hb, hri⟩ := reach_find h4 (by omega)
          have h6 := congrArg List.length h5
          rw [List.length_append, dnM_cons (by omega) hf, List.length_cons] at h6
          have e := hF m o h1 (by omega) ⟨fun _ => hm, fun _ => by omega⟩ h4
          rw [if_neg hm] at e
          rw [hf] at e
          have hge := bit_ge hb
          have hpi := Nat.two_pow_pos i
          refine .inl ⟨_, e, by omega, m + 2 ^ i, o ++ [i], rfl, by omega, by omega, by simp; omega, by rw [← Nat.sub_sub]; exact hri, ?_⟩
          rw [List.append_assoc, ← Nat.sub_sub, ← h5, dnM_cons (by omega) hf]
          rfl) (s := (0, [], ())) ⟨0, [], rfl, hp, Nat.le_refl _, Nat.le_refl _, hr, by rw [hfull]; rfl⟩
      rw [g1, g2]
    refine key ?_
    intro m o hm ho hiff hr2
    simp only [ints_len]
    by_cases hw : m = 2 ^ l.length - 1
    · rw [if_pos hw]
      have : ¬ o.length < l.length := fun hlt => (hiff.1 hlt) hw
      rw [decide_eq_false (show ¬ ((o.length : Nat) : Int) < ((l.length : Nat) : Int) by omega)]
      rfl
    · rw [if_neg hw]
      have := hiff.2 hw
      rw [decide_eq_true (show ((o.length : Nat) : Int) < ((l.length : Nat) : Int) by omega)]
      simp only [cond_true]
      obtain ⟨i, hf, hi, hb, hri⟩ := reach_find hr2 (by omega)
      rw [hf]
      obtain ⟨_, _, hleast⟩ := find_least hf
      have hfl := bit_flip l.length (by omega) m hm
      have hmi : m.testBit i = false := by have := hfl i hi; rw [hb] at this; simpa using this.symm
      have hup := bit_up l.length (by omega) m hm i hi hmi
      refine bind_of (iter_go i (fun j => ((j : Int), ())) ((i : Int), ()) (by omega) rfl ?_ ?_) ?_
      · intro j hj
        have hjn : j < l.length := by omega
        simp only [if_neg (show ¬ (j : Int) < 0 by omega), f_has m j (by omega) (by omega), pw j (by omega), Option.bind_some]
        rw [wrap64 (n := (j : Int) + 1) (by omega) (by omega)]
        have hl := hleast j hj
        rw [hfl j hjn] at hl
        cases hbj : m.testBit j with
        | true => rfl
        | false =>
          rw [hbj] at hl
          simp only [Bool.not_false, Bool.true_and] at hl
          have hupj := bit_up l.length (by omega) m hm j hjn hbj
          simp only [cond_false, b_or m j (by omega) (by omega) hbj, rm_idx _ hupj, rm_at _ hupj, Option.bind_some, ways_pos]
          rw [← Nat.sub_sub, hl]
          rfl
      · simp only [if_neg (show ¬ (i : Int) < 0 by omega), f_has m i (by omega) (by omega), pw i (by omega), hmi, cond_false, b_or m i (by omega) (by omega) hmi, rm_idx _ hup, rm_at _ hup, Option.bind_some, ways_pos]
        rw [← Nat.sub_sub, hri]
        rfl
      · simp only
        rw [if_pos (by simp; omega), if_neg (show ¬ (i : Int) < 0 by omega), pw i (by omega), b_or m i (by omega) (by omega) hmi, ints_snoc]
theorem f_rout (h : Few s l) : F_ref28_Out s l = some (bif reachV l.length (heldM s l) (2 ^ l.length - 1) then (ints (dnM l.length (reachV l.length (heldM s l)) (2 ^ l.length - 1)), true) else ([], false)) := by
  have h7 := h.n7
  have hN := h.N
  have hp := Nat.two_pow_pos l.length
  unfold F_ref28_Out
  rw [f_rreached h]
  refine bind_of rfl ?_
  have ew : IntKind.i64.wrap (((rm (2 ^ l.length) (reachV l.length (heldM s l))).length : Int) - 1) = ((2 ^ l.length - 1 : Nat) : Int) := by rw [rm_len, wrap64 (by omega) (by omega)]; omega
  rw [ew]
  refine bind_of (rm_idx (k := 2 ^ l.length - 1) _ (by omega)) ?_
  refine bind_of (rm_at (k := 2 ^ l.length - 1) _ (by omega)) ?_
  cases hr : reachV l.length (heldM s l) (2 ^ l.length - 1) with
  | false => rfl
  | true =>
    simp only [Bool.not_true, cond_false, cond_true]
    obtain ⟨full, hfull⟩ : ∃ full, full = dnM l.length (reachV l.length (heldM s l)) (2 ^ l.length - 1) := ⟨_, rfl⟩
    rw [← hfull]
    refine bind_of (x := (ints full, ())) ?_ rfl
    have key : ∀ {F : Int × List Int × Unit → Option ((Int × List Int × Unit) ⊕ (List Int × Unit))}, (∀ (m : Nat) (o : List Nat), m < 2 ^ l.length → o.length ≤ 128 → reachV l.length (heldM s l) m = true → F ((m : Int), ints o, ()) = if m = 0 then some (.inr (ints o, ())) else
        match (List.range l.length).find? (fun i => m.testBit i && reachV l.length (heldM s l) (m - 2 ^ i)) with
        | some i => some (.inl (((m - 2 ^ i : Nat) : Int), ints (o ++ [i]), ()))
        | none => none) → iterF F big (((2 ^ l.length - 1 : Nat) : Int), [], ()) = some (ints full, ()) := by
      intro F hF
      obtain ⟨r, g1, g2⟩ := iter_inv (F := F) (Q := fun r => r = (ints full, ())) (fun k z => ∃ (m : Nat) (o : List Nat), z = ((m : Int), ints o, ()) ∧ m < 2 ^ l.length ∧ k + m < 2 ^ l.length ∧ o.length ≤ k ∧ reachV l.length (heldM s l) m = true ∧ o ++ dnM l.length (reachV l.length (heldM s l)) m = full) (2 ^ l.length) (by unfold big; omega) (fun k z hk hz => by
        obtain ⟨m, o, rfl, h1, h2, h3, h4, h5⟩ := hz
        have e := hF m o h1 (by omega) h4
        by_cases hm : m = 0
        · rw [if_pos hm] at e
          refine .inr ⟨_, e, ?_⟩
          rw [hm, dnM_zero, List.append_nil] at h5
          rw [h5]
        · rw [if_neg hm] at e
          obtain ⟨i, hf, hi, hb, hri⟩ := reach_find h4 hm
          rw [hf] at e
          have hge := bit_ge hb
          have hpi := Nat.two_pow_pos i
          refine .inl ⟨_, e, by omega, m - 2 ^ i, o ++ [i], rfl, by omega, by omega, by simp; omega, hri, ?_⟩
          rw [List.append_assoc, ← h5, dnM_cons hm hf]
          rfl) (s := (((2 ^ l.length - 1 : Nat) : Int), [], ())) ⟨2 ^ l.length - 1, [], rfl, by omega, by omega, Nat.le_refl _, hr, by rw [hfull]; rfl⟩
      rw [g1, g2]
    refine key ?_
    intro m o hm ho hr2
    by_cases hw : m = 0
    · rw [if_pos hw, hw]; rfl
    · rw [if_neg hw]
      rw [decide_eq_true (show (m : Int) > 0 by omega)]
      simp only [cond_true]
      obtain ⟨i, hf, hi, hb, hri⟩ := reach_find hr2 hw
      rw [hf]
      obtain ⟨_, _, hleast⟩ := find_least hf
      have hlt := sub_lt hb
      have hw2 : ∀ j, m.testBit j = true → IntKind.i64.wrap ((m : Int) - ((2 ^ j : Nat) : Int)) = ((m - 2 ^ j : Nat) : Int) := fun j hj => by
        have h1 := bit_ge hj
        have h2 := Nat.two_pow_pos j
        generalize 2 ^ j = q at *
        rw [wrap64 (by omega) (by omega)]; omega
      refine bind_of (iter_go i (fun j => ((j : Int), ())) ((i : Int), ()) (by omega) rfl ?_ ?_) ?_
      · intro j hj
        have hjn : j < l.length := by omega
        simp only [if_neg (show ¬ (j : Int) < 0 by omega), f_has m j (by omega) (by omega), pw j (by omega), Option.bind_some]
        rw [wrap64 (n := (j : Int) + 1) (by omega) (by omega)]
        have hl := hleast j hj
        cases hbj : m.testBit j with
        | false => rfl
        | true =>
          rw [hbj] at hl
          simp only [Bool.true_and] at hl
          have hltj := sub_lt hbj
          simp only [Bool.not_true, cond_false, hw2 j hbj, rm_idx _ (show m - 2 ^ j < 2 ^ l.length by omega), rm_at _ (show m - 2 ^ j < 2 ^ l.length by omega), Option.bind_some, hl]
          rfl
      · simp only [if_neg (show ¬ (i : Int) < 0 by omega), f_has m i (by omega) (by omega), pw i (by omega), hb, Bool.not_true, cond_false, hw2 i hb, rm_idx _ (show m - 2 ^ i < 2 ^ l.length by omega), rm_at _ (show m - 2 ^ i < 2 ^ l.length by omega), Option.bind_some, hri]
      · simp only
        rw [if_pos (by rw [ints_len]; simp; omega), if_neg (show ¬ (i : Int) < 0 by omega), pw i (by omega), hw2 i hb, ints_snoc]
end
/-- There is a way up exactly if there is one down. -/
theorem reach_flip {n : Nat} (hn : n ≤ 7) (h : Nat → Bool) : reachV n (flip n h) (2 ^ n - 1) = reachV n h (2 ^ n - 1) := by
  have h1 := ways_pos n (flip n h) (2 ^ n - 1)
  have h2 := ways_pos n h (2 ^ n - 1)
  rw [ways_flip hn] at h1
  rw [h1] at h2
  simpa using h2
end Go.Proofs.Ytmdghocpelkcoaa

/- Loading in: Order, Out, and Count return what is specified. -/
namespace Go.Proofs.Ytmdghocpelkcoaa
set_option linter.unusedSimpArgs false
set_option linter.unusedVariables false

theorem f_awake28 : F_law28_awake = some true := by kernel_rfl
def longB (s : TSet) (l : List TJob) : Bool := !smallB s 8 || (decide (20 < s.lines.length) || ((decide (7 < l.length) && decide (l.length ≤ 12)) || (decide (110 < l.length) || l.any fun x => decide (60 < x.name.size))))
theorem f_long28 (s : TSet) (l : List TJob) : F_law28_long s l = some (longB s l) := by
  unfold F_law28_long longB
  rw [f_small]
  have e1 : decide (((s.lines.length : Nat) : Int) > 20) = decide (20 < s.lines.length) := by rw [Bool.eq_iff_iff]; simp; omega
  have e2 : decide (((l.length : Nat) : Int) > 7) = decide (7 < l.length) := by rw [Bool.eq_iff_iff]; simp; omega
  have e3 : decide (((l.length : Nat) : Int) ≤ 12) = decide (l.length ≤ 12) := by rw [Bool.eq_iff_iff]; simp; omega
  have e4 : decide (((l.length : Nat) : Int) > 110) = decide (110 < l.length) := by rw [Bool.eq_iff_iff]; simp; omega
  rw [e1, e2, e3, e4]
  by_cases h110 : 110 < l.length
  · rw [decide_eq_true h110, decide_eq_false (show ¬ l.length ≤ 12 by omega)]
    cases smallB s 8 <;> cases decide (20 < s.lines.length) <;> cases decide (7 < l.length) <;> simp
  · have hc : F_slices_ContainsFunc_api_Job l (fun z10 => F_law28_long_1 z10) = some (l.any fun x => decide (60 < x.name.size)) := f_slices_ContainsFunc_api_Job l (by omega) _ (fun x => decide (60 < x.name.size)) (fun x _ => by
      unfold F_law28_long_1
      congr 1
      rw [Bool.eq_iff_iff]; simp; omega)
    rw [hc]
    cases smallB s 8 <;> cases decide (20 < s.lines.length) <;> cases decide (7 < l.length) <;> cases decide (l.length ≤ 12) <;> cases decide (110 < l.length) <;> simp
theorem long_ok {s : TSet} {l : List TJob} (h : longB s l = false) : Fits s ∧ (l.length ≤ 7 ∨ 12 < l.length) ∧ l.length ≤ 110 ∧ ∀ x ∈ l, x.name.size ≤ 60 := by
  unfold longB at h
  simp only [Bool.or_eq_false_iff, Bool.not_eq_false', Bool.and_eq_false_iff, decide_eq_false_iff_not, List.any_eq_false, decide_eq_true_eq] at h
  obtain ⟨h1, h2, h3, h4, h5⟩ := h
  exact ⟨small_fits h1, by omega, by omega, fun x hx => by have := h5 x hx; omega⟩
def resP {α : Type} (s : TSet) (l : List TJob) (e : Int → α) (k : α) : α := bif okB s l then (bif decide (12 < l.length) then e 6 else k) else e 1
theorem few_of {s : TSet} {l : List TJob} (h : longB s l = false) (ho : okB s l = true) (hm : ¬ 12 < l.length) : Few s l := by
  obtain ⟨h1, h2, h3, h4⟩ := long_ok h
  obtain ⟨g1, g2, g3⟩ := okB_ok ho
  exact ⟨g1, g3, g2, h1, h4, by omega⟩
section
variable {s : TSet} {l : List TJob} {β : Type}
theorem c_res (h : longB s l = false) (kE : Int → Option β) (kO : List Bool → List Bool → List Bool → Option β) (e : Int → β) (k : β) (h1 : kE 1 = some (e 1)) (h6 : kE 6 = some (e 6))
    (hk : ∀ hf : Few s l, kO (rm (2 ^ l.length) (heldM s l)) (rm (2 ^ l.length) (reachV l.length (heldM s l))) (rm (2 ^ l.length) fun m => reachV l.length (flip l.length (heldM s l)) (2 ^ l.length - 1 - m)) = some k) : C_of s l kE kO = some (resP s l e k) := by
  obtain ⟨g1, g2, g3, g4⟩ := long_ok h
  unfold resP
  cases ho : okB s l with
  | false =>
    simp only [cond_false]
    rw [← h1]
    refine c_bad g1 g4 ?_ kE kO
    unfold okB at ho
    rwa [Bool.and_eq_false_iff] at ho
  | true =>
    simp only [cond_true]
    by_cases hm : 12 < l.length
    · rw [decide_eq_true hm, cond_true, ← h6]
      obtain ⟨_, q2, q3⟩ := okB_ok ho
      exact c_many g1 g4 q3 q2 hm kE kO
    · rw [decide_eq_false hm, cond_false]
      have hf := few_of h ho hm
      rw [c_of hf kE kO, hk hf]
theorem f_Count (h : longB s l = false) : F_loadin_Count s l = some (resP s l (fun e => (0, e)) (waysV l.length (heldM s l) (2 ^ l.length - 1), 0)) := by
  rw [F_Count_eq]
  exact c_res h _ _ _ _ rfl rfl fun hf => k_count hf _ _
theorem f_Order (h : longB s l = false) : F_loadin_Order s l = some (resP s l (fun e => ([], e)) (orderP l.length (heldM s l))) := by
  rw [F_Order_eq]
  exact c_res h _ _ _ _ rfl rfl fun hf => k_order hf _ _
theorem f_Out (h : longB s l = false) : F_loadin_Out s l = some (resP s l (fun e => ([], e)) (outP l.length (heldM s l))) := by
  rw [F_Out_eq]
  exact c_res h _ _ _ _ rfl rfl fun hf => k_out hf _ _
theorem f_Closed (h : longB s l = false) : F_loadin_Closed s l = some (resP s l (fun e => ([], e)) (closedP l.length (heldM s l))) := by
  rw [F_Closed_eq]
  exact c_res h _ _ _ _ rfl rfl fun hf => k_closed hf _ _
theorem f_Given (h : longB s l = false) : F_ref28_Given s l = some (resP s l id 0) := by
  obtain ⟨g1, g2, g3, g4⟩ := long_ok h
  rw [f_rgiven g1 g4]
  unfold resP
  have e : decide (((l.length : Nat) : Int) > 12) = decide (12 < l.length) := by rw [Bool.eq_iff_iff]; simp; omega
  rw [e]; rfl
end
theorem dn_small {n : Nat} (hn : n ≤ 7) (r : Nat → Bool) : (ints (dnM n r (2 ^ n - 1))).length ≤ 2147483648 := by
  have h1 := dnM_len (n := n) (r := r) _ _ (Nat.lt_succ_self (2 ^ n - 1))
  have h2 := pow_le7 hn
  rw [ints_len]; omega
theorem main_LoadinOrders (x0 : TSet) (x1 : List TJob) (w0 : W_Set x0) (w1 : W_l_Job x1) : F_law28_LoadinOrders x0 x1 = some true := by
  unfold F_law28_LoadinOrders
  rw [f_awake28, f_long28 x0 x1]
  simp only [Option.bind_some, Bool.not_true, cond_false]
  cases hl : longB x0 x1 with
  | true => rfl
  | false =>
    simp only [cond_false]
    rw [f_Order hl, f_Out hl, f_Count hl, f_Given hl]
    simp only [Option.bind_some]
    unfold resP
    cases ho : okB x0 x1 with
    | false => rfl
    | true =>
      simp only [cond_true]
      by_cases hm : 12 < x1.length
      · rw [decide_eq_true hm]; rfl
      · rw [decide_eq_false hm]
        have hf := few_of hl ho hm
        have h7 := hf.n7
        have hp := Nat.two_pow_pos x1.length
        have e0 : ((0 : Int) != 0) = false := rfl
        simp only [cond_false, e0]
        rw [f_rorder hf, f_rout hf, f_rways hf]
        simp only [Option.bind_some, rm_idx (k := 0) _ hp, rm_at (k := 0) _ hp]
        have hi : ∀ g : Nat → Int, idx (rm (2 ^ x1.length) g) 0 = some (g 0) := fun g => rm_idx (k := 0) g hp
        have ha : ∀ g : Nat → Int, (rm (2 ^ x1.length) g)[Int.toNat 0]? = some (g 0) := fun g => rm_at (k := 0) g hp
        simp only [hi, ha, Option.bind_some, Nat.sub_zero]
        unfold orderP outP
        rw [reach_flip h7]
        cases hr : reachV x1.length (heldM x0 x1) (2 ^ x1.length - 1) with
        | false =>
          simp only [cond_false, Bool.not_false, cond_true, Option.bind_some]
          rw [f_equal_refl _ (by simp)]
          simp only [Option.bind_some, cond_true, beq_self_eq_true, ways_flip h7]
        | true =>
          simp only [cond_true, Bool.not_true, cond_false, Option.bind_some]
          rw [f_equal_refl _ (dn_small h7 _), f_equal_refl _ (dn_small h7 _)]
          simp only [Option.bind_some, cond_true, beq_self_eq_true, ways_flip h7]
end Go.Proofs.Ytmdghocpelkcoaa
