/- Joined by merge.py: PlL9, PlL10, PlL11, PlL12, PlL13, PlL14, PlB4, PlB5, PlL15, PlL16, PlL17, PlL18, PlL19, PlL20. -/
import Derived.Test.YtmdghocpelkcoaaM11
/- Loading in: the reference comes to the same. -/
namespace Go.Proofs.Ytmdghocpelkcoaa
set_option linter.unusedSimpArgs false
set_option linter.unusedVariables false

theorem f_has (m i : Nat) (hm : m < 128) (hi : i < 7) : F_ref28_has (m : Int) (i : Int) = some (m.testBit i) := by
  unfold F_ref28_has
  rw [if_neg (by omega), b_has m i hm hi]
theorem safe_len {n : Nat} (hn : n ≤ 7) {h : Nat → Bool} {o : List Nat} (hs : Safe n h o) : o.length = n := by
  obtain ⟨h1, h2, h3, _⟩ := hs
  have h4 := nodup_len h1 h2
  have h5 : ∀ j, j < n → j ∈ o := fun j hj => by
    have h6 := (st_bits hn h1 h2).2 j (by omega)
    rw [h3] at h6
    have h7 := bit_flip n (by omega) 0 (Nat.two_pow_pos n) j hj
    rw [Nat.sub_zero, Nat.zero_testBit] at h7
    rw [h7] at h6
    exact of_decide_eq_true h6.symm
  have h6 := (List.nodup_range (n := n)).length_le_of_subset (l₂ := o) fun j hj => h5 j (List.mem_range.1 hj)
  rw [List.length_range] at h6
  omega
section
variable {s : TSet} {l : List TJob}
theorem f_rheldM (h : Few s l) (m : Nat) (hm : m < 128) : F_ref28_Held s l (m : Int) = some (heldM s l m) := by
  have h7 := h.n7
  have hb1 := h.good.b0
  have hb2 := h.good.b1
  unfold F_ref28_Held
  rw [f_rbalance s h.good]
  refine bind_of rfl ?_
  refine bind_of (iter_go l.length (fun i => (balanceI s + bsum (l.map (chI s)) m i, (i : Int), ())) (imbM s l m, ()) (by omega) (by simp [bsum]) ?_ ?_) ?_
  · intro i hi
    have hb := bsum_bound (l.map (chI s)) 2097152 (by decide) h.ch m (i + 1)
    have hbal := bal_bound h.good
    have hch := ch_bound h.good (jobs_good h.jobs _ (List.getElem_mem hi))
    simp only [lt_yes hi, cond_true, f_has m i hm (by omega), Option.bind_some]
    rw [wrap64 (n := (i : Int) + 1) (by omega) (by omega)]
    have e : bsum (l.map (chI s)) m (i + 1) = bsum (l.map (chI s)) m i + bif m.testBit i then chI s l[i] else 0 := by
      rw [bsum, List.getD_eq_getElem?_getD, List.getElem?_map, List.getElem?_eq_getElem hi]; rfl
    rw [e] at hb ⊢
    cases hbi : m.testBit i with
    | false => simp only [cond_false, Option.bind_some, Int.add_zero]; rfl
    | true =>
      rw [hbi] at hb
      simp only [cond_true] at hb
      simp only [cond_true, idx_at hi, Option.bind_some]
      rw [f_rchange s _ h.good (jobs_good h.jobs _ (List.getElem_mem hi))]
      simp only [Option.bind_some]
      rw [Int.add_assoc, wrap64 (by omega) (by omega)]; rfl
  · simp only [lt_no, cond_false]; rfl
  rw [Int.zero_sub, wrap64 (n := -s.brake) (by omega) (by omega)]
  show ((bif decide (imbM s l m ≥ -s.brake) then some (decide (imbM s l m ≤ s.brake), ()) else some (false, ()) : Option (Bool × Unit)).bind fun y15 => some y15.1) = some (decide (-s.brake ≤ imbM s l m) && decide (imbM s l m ≤ s.brake))
  have e2 : decide (imbM s l m ≥ -s.brake) = decide (-s.brake ≤ imbM s l m) := rfl
  rw [e2]
  cases decide (-s.brake ≤ imbM s l m) <;> rfl
theorem f_rgiven (hf : Fits s) (hn : ∀ x ∈ l, x.name.size ≤ 60) : F_ref28_Given s l = some (bif okB s l then (bif decide (((l.length : Nat) : Int) > 12) then 6 else 0) else 1) := by
  unfold F_ref28_Given okB
  rw [f_rvalid s hf, f_rjobs l (fun x hx => by have := hn x hx; omega)]
  cases validB s with
  | false => rfl
  | true =>
    cases jobsB l with
    | false => rfl
    | true =>
      cases hd : decide (((l.length : Nat) : Int) > 12) <;> simp [hd]
theorem f_rways (h : Few s l) : F_ref28_Ways s l = some (rm (2 ^ l.length) fun m => waysV l.length (flip l.length (heldM s l)) (2 ^ l.length - 1 - m)) := by
  have h7 := h.n7
  have hN := h.N
  have hp := Nat.two_pow_pos l.length
  unfold F_ref28_Ways
  simp only [pw l.length (by omega)]
  rw [wrap64 (n := ((2 ^ l.length : Nat) : Int) - 1) (by omega) (by omega), Int.sub_add_cancel, wrap64 (by omega) (by omega)]
  rw [if_neg (show ¬ ((l.length : Nat) : Int) < 0 by omega), if_pos (by omega)]
  simp only [Int.toNat_natCast, rm_rep]
  have ewh : ((2 ^ l.length : Nat) : Int) - 1 = ((2 ^ l.length - 1 : Nat) : Int) := by omega
  rw [ewh]
  refine bind_of (iter_go (2 ^ l.length) (fun k => (((2 ^ l.length - 1 : Nat) : Int) - (k : Int), rm (2 ^ l.length) (fun m => if 2 ^ l.length - 1 - m < k then waysV l.length (flip l.length (heldM s l)) (2 ^ l.length - 1 - m) else 0), ())) (rm (2 ^ l.length) (fun m => waysV l.length (flip l.length (heldM s l)) (2 ^ l.length - 1 - m)), ()) (by omega) (by simp) ?_ ?_) rfl
  · intro k hk
    obtain ⟨m, hm⟩ : ∃ m, m = 2 ^ l.length - 1 - k := ⟨_, rfl⟩
    have hmN : m < 2 ^ l.length := by omega
    have em : ((2 ^ l.length - 1 : Nat) : Int) - (k : Int) = (m : Int) := by omega
    have em2 : ((2 ^ l.length - 1 : Nat) : Int) - ((k + 1 : Nat) : Int) = (m : Int) - 1 := by omega
    have emk : 2 ^ l.length - 1 - m = k := by omega
    have ef : flip l.length (heldM s l) k = heldM s l m := by unfold flip; rw [← hm]
    have e := ways_eq l.length (flip l.length (heldM s l)) k
    rw [ef] at e
    simp only [em, em2]
    simp only [decide_eq_true (show (m : Int) ≥ 0 by omega), cond_true, f_rheldM h m (by omega), Option.bind_some, rm_idx _ hmN, rm_at _ hmN]
    rw [wrap64 (n := (m : Int) - 1) (by omega) (by omega)]
    cases hh : heldM s l m with
    | false =>
      rw [hh] at e
      simp only [cond_false] at e
      simp only [Bool.not_false, cond_true, Option.bind_some]
      rw [rm_congr (g' := fun m => if 2 ^ l.length - 1 - m < k + 1 then waysV l.length (flip l.length (heldM s l)) (2 ^ l.length - 1 - m) else 0) fun q hq => by
        by_cases hq1 : 2 ^ l.length - 1 - q < k
        · rw [if_pos hq1, if_pos (by omega)]
        · rw [if_neg hq1]
          by_cases hq2 : 2 ^ l.length - 1 - q < k + 1
          · rw [if_pos hq2, show 2 ^ l.length - 1 - q = k from by omega, e]
          · rw [if_neg hq2]]
    | true =>
      rw [hh] at e
      simp only [cond_true] at e
      simp only [Bool.not_true, cond_false]
      have ek : ((m : Int) == ((2 ^ l.length - 1 : Nat) : Int)) = (k == 0) := by rw [Bool.eq_iff_iff]; simp only [beq_iff_eq]; omega
      rw [ek]
      obtain ⟨c, hc⟩ : ∃ c : Int, c = bif k == 0 then 1 else 0 := ⟨_, rfl⟩
      have hc01 : 0 ≤ c ∧ c ≤ 1 := by rw [hc]; cases k == 0 <;> simp
      have first : ((bif k == 0 then some ((rm (2 ^ l.length) (fun m => if 2 ^ l.length - 1 - m < k then waysV l.length (flip l.length (heldM s l)) (2 ^ l.length - 1 - m) else 0)).set (Int.toNat (m : Int)) 1, ()) else some (rm (2 ^ l.length) (fun m => if 2 ^ l.length - 1 - m < k then waysV l.length (flip l.length (heldM s l)) (2 ^ l.length - 1 - m) else 0), ())) : Option (List Int × Unit)) = some (rm (2 ^ l.length) (fun q => if 2 ^ l.length - 1 - q < k then waysV l.length (flip l.length (heldM s l)) (2 ^ l.length - 1 - q) else if q = m then c else 0), ()) := by
        cases hk0 : k == 0 with
        | true =>
          rw [hk0] at hc
          simp only [cond_true] at hc ⊢
          rw [rm_set (g' := fun q => if 2 ^ l.length - 1 - q < k then waysV l.length (flip l.length (heldM s l)) (2 ^ l.length - 1 - q) else if q = m then c else 0) _ _ fun q hq => by
            by_cases hq1 : q = m
            · subst hq1; rw [if_pos rfl, if_neg (by omega), if_pos rfl, hc]
            · rw [if_neg hq1, if_neg hq1]]
        | false =>
          rw [hk0] at hc
          simp only [cond_false] at hc ⊢
          rw [rm_congr (g' := fun q => if 2 ^ l.length - 1 - q < k then waysV l.length (flip l.length (heldM s l)) (2 ^ l.length - 1 - q) else if q = m then c else 0) fun q hq => by
            by_cases hq1 : 2 ^ l.length - 1 - q < k
            · rw [if_pos hq1, if_pos hq1]
            · rw [if_neg hq1, if_neg hq1]
              by_cases hq2 : q = m
              · rw [if_pos hq2, hc]
              · rw [if_neg hq2]]
      rw [first]
      simp only [Option.bind_some]
      obtain ⟨f, hf⟩ : ∃ f : Nat → Int, f = fun i => bif k.testBit i then waysV l.length (flip l.length (heldM s l)) (k - 2 ^ i) else 0 := ⟨_, rfl⟩
      have hfb : ∀ i, 0 ≤ f i ∧ f i ≤ 1000000 := fun i => by
        rw [hf]
        simp only
        cases hb : k.testBit i with
        | false => simp
        | true => have := sub_lt hb; exact ways_bound h7 _ _ (by omega)
      have hps := psum_bound f 1000000 hfb
      refine bind_of (bind_of (iter_go l.length (fun i => ((i : Int), rm (2 ^ l.length) (fun q => if 2 ^ l.length - 1 - q < k then waysV l.length (flip l.length (heldM s l)) (2 ^ l.length - 1 - q) else if q = m then c + psum f i else 0), ())) (rm (2 ^ l.length) (fun q => if 2 ^ l.length - 1 - q < k + 1 then waysV l.length (flip l.length (heldM s l)) (2 ^ l.length - 1 - q) else 0), ()) (by omega) ?_ ?_ ?_) rfl) rfl
      · refine Prod.ext rfl (Prod.ext (rm_congr fun q hq => ?_) rfl)
        show _ = if 2 ^ l.length - 1 - q < k then _ else if q = m then c + psum f 0 else 0
        have : psum f 0 = 0 := rfl
        rw [this, Int.add_zero]
      · intro i hi
        have hpi := hps i
        have hpi2 := hps (i + 1)
        have hfl := bit_flip l.length (by omega) m hmN i hi
        rw [emk] at hfl
        simp only [lt_yes hi, cond_true, if_neg (show ¬ (i : Int) < 0 by omega), f_has m i (by omega) (by omega), pw i (by omega), Option.bind_some]
        rw [wrap64 (n := (i : Int) + 1) (by omega) (by omega)]
        cases hb : m.testBit i with
        | true =>
          rw [hb] at hfl
          have e4 : psum f (i + 1) = psum f i := by rw [psum_succ, hf]; simp only [hfl, Bool.not_true, cond_false]; omega
          rw [e4]; rfl
        | false =>
          rw [hb] at hfl
          have hlt := sub_lt hfl
          have hge := bit_ge hfl
          have hup := bit_up l.length (by omega) m hmN i hi hb
          have e4 : psum f (i + 1) = psum f i + waysV l.length (flip l.length (heldM s l)) (k - 2 ^ i) := by rw [psum_succ, hf]; simp only [hfl, Bool.not_false, cond_true]
          have hpi2n : (2 : Nat) ^ i > 0 := Nat.two_pow_pos i
          simp only [Bool.not_false, cond_true, b_or m i (by omega) (by omega) hb, rm_idx _ hmN, rm_at _ hmN, rm_idx _ hup, rm_at _ hup, Option.bind_some, if_pos (show 2 ^ l.length - 1 - (m + 2 ^ i) < k by omega), if_neg (show ¬ 2 ^ l.length - 1 - m < k by omega), if_true]
          rw [show 2 ^ l.length - 1 - (m + 2 ^ i) = k - 2 ^ i from by omega]
          rw [rm_set (g' := fun q => if 2 ^ l.length - 1 - q < k then waysV l.length (flip l.length (heldM s l)) (2 ^ l.length - 1 - q) else if q = m then c + psum f (i + 1) else 0) _ _ fun q hq => by
            by_cases hq1 : q = m
            · subst hq1
              rw [if_pos rfl, if_neg (by omega), if_pos rfl, e4, wrap64 (by omega) (by omega)]; omega
            · by_cases hq2 : 2 ^ l.length - 1 - q < k
              · simp only [if_pos hq2, if_neg hq1]
              · simp only [if_neg hq2, if_neg hq1]]
          rfl
      · simp only [lt_no, cond_false]
        rw [rm_congr (g' := fun q => if 2 ^ l.length - 1 - q < k + 1 then waysV l.length (flip l.length (heldM s l)) (2 ^ l.length - 1 - q) else 0) fun q hq => by
          by_cases hq1 : 2 ^ l.length - 1 - q < k
          · rw [if_pos hq1, if_pos (by omega)]
          · rw [if_neg hq1]
            by_cases hq2 : q = m
            · subst hq2
              rw [if_pos rfl, if_pos (by omega), emk, e, hc, hf]; rfl
            · rw [if_neg hq2, if_neg (by omega)]]
  · rw [show ((2 ^ l.length - 1 : Nat) : Int) - ((2 ^ l.length : Nat) : Int) = -1 from by omega]
    simp only [show decide ((-1 : Int) ≥ 0) = false from rfl, cond_false]
    rw [rm_congr (g' := fun m => waysV l.length (flip l.length (heldM s l)) (2 ^ l.length - 1 - m)) fun j hj => if_pos (by omega)]
theorem any_succ (p : Nat → Bool) (i : Nat) : (List.range (i + 1)).any p = ((List.range i).any p || p i) := by rw [List.range_succ, List.any_append]; simp
theorem f_rreached (h : Few s l) : F_ref28_Reached s l = some (rm (2 ^ l.length) (reachV l.length (heldM s l))) := by
  have h7 := h.n7
  have hN := h.N
  have hp := Nat.two_pow_pos l.length
  unfold F_ref28_Reached
  simp only [pw l.length (by omega)]
  rw [if_neg (show ¬ ((l.length : Nat) : Int) < 0 by omega), if_pos (by omega)]
  simp only [Int.toNat_natCast, rm_rep]
  refine bind_of (iter_go (2 ^ l.length) (fun k => ((k : Int), rm (2 ^ l.length) (fun m => if m < k then reachV l.length (heldM s l) m else false), ())) (rm (2 ^ l.length) (reachV l.length (heldM s l)), ()) (by omega) rfl ?_ ?_) rfl
  · intro k hk
    have e := reach_eq l.length (heldM s l) k
    simp only [rm_len, lt_yes hk, cond_true, rm_idx _ hk, rm_at _ hk, Option.bind_some, f_rheldM h k (by omega)]
    rw [wrap64 (n := (k : Int) + 1) (by omega) (by omega)]
    cases hh : heldM s l k with
    | false =>
      rw [hh, Bool.false_and] at e
      simp only [Bool.not_false, cond_true, Option.bind_some]
      rw [rm_congr (g' := fun m => if m < k + 1 then reachV l.length (heldM s l) m else false) fun q hq => by
        by_cases hq1 : q < k
        · rw [if_pos hq1, if_pos (by omega)]
        · rw [if_neg hq1]
          by_cases hq2 : q < k + 1
          · obtain rfl : q = k := by omega
            rw [if_pos hq2, e]
          · rw [if_neg hq2]]
      rfl
    | true =>
      rw [hh, Bool.true_and] at e
      simp only [Bool.not_true, cond_false]
      have ek : ((k : Int) == 0) = (k == 0) := by rw [Bool.eq_iff_iff]; simp
      rw [ek]
      obtain ⟨p, hpd⟩ : ∃ p : Nat → Bool, p = fun i => k.testBit i && reachV l.length (heldM s l) (k - 2 ^ i) := ⟨_, rfl⟩
      rw [rm_set (g' := fun m => if m < k then reachV l.length (heldM s l) m else if m = k then (k == 0 || (List.range 0).any p) else false) _ _ fun q hq => by
        by_cases hq1 : q = k
        · subst hq1; rw [if_pos rfl, if_neg (by omega), if_pos rfl]; simp
        · by_cases hq2 : q < k
          · simp only [if_pos hq2, if_neg hq1]
          · simp only [if_neg hq2, if_neg hq1]]
      refine bind_of (bind_of (iter_go l.length (fun i => ((i : Int), rm (2 ^ l.length) (fun m => if m < k then reachV l.length (heldM s l) m else if m = k then (k == 0 || (List.range i).any p) else false), ())) (rm (2 ^ l.length) (fun m => if m < k + 1 then reachV l.length (heldM s l) m else false), ()) (by omega) rfl ?_ ?_) rfl) rfl
      · intro i hi
        have hi2 : 2 ^ i ≤ 2 ^ 6 := Nat.pow_le_pow_right (by omega) (by omega)
        simp only [lt_yes hi, cond_true, if_neg (show ¬ (i : Int) < 0 by omega), f_has k i (by omega) (by omega), pw i (by omega), Option.bind_some, any_succ]
        rw [wrap64 (n := (i : Int) + 1) (by omega) (by omega)]
        cases hb : k.testBit i with
        | false =>
          have : p i = false := by rw [hpd]; simp only [hb, Bool.false_and]
          rw [this]
          simp only [cond_false, Bool.or_false]
          rfl
        | true =>
          have hlt := sub_lt hb
          have hge := bit_ge hb
          have hpi : p i = reachV l.length (heldM s l) (k - 2 ^ i) := by rw [hpd]; simp only [hb, Bool.true_and]
          rw [hpi]
          have ew : IntKind.i64.wrap ((k : Int) - ((2 ^ i : Nat) : Int)) = ((k - 2 ^ i : Nat) : Int) := by rw [wrap64 (by omega) (by omega)]; omega
          simp only [cond_true, ew, rm_idx _ (show k - 2 ^ i < 2 ^ l.length by omega), rm_at _ (show k - 2 ^ i < 2 ^ l.length by omega), Option.bind_some, if_pos hlt, rm_idx _ hk, rm_at _ hk]
          cases hr : reachV l.length (heldM s l) (k - 2 ^ i) with
          | false => simp only [cond_false, Bool.or_false]; rfl
          | true =>
            simp only [cond_true, Bool.or_true]
            rw [rm_set (g' := fun m => if m < k then reachV l.length (heldM s l) m else if m = k then true else false) _ _ fun q hq => by
              by_cases hq1 : q = k
              · subst hq1; rw [if_pos rfl, if_neg (by omega), if_pos rfl]
              · by_cases hq2 : q < k
                · simp only [if_pos hq2, if_neg hq1]
                · simp only [if_neg hq2, if_neg hq1]]
            rfl
      · simp only [lt_no, cond_false]
        rw [rm_congr (g' := fun m => if m < k + 1 then reachV l.length (heldM s l) m else false) fun q hq => by
          by_cases hq1 : q < k
          · rw [if_pos hq1, if_pos (by omega)]
          · rw [if_neg hq1]
            by_cases hq2 : q = k
            · subst hq2
              rw [if_pos rfl, if_pos (by omega), e, hpd]
            · rw [if_neg hq2, if_neg (by omega)]]
  · simp only [rm_len, lt_no, cond_false]
    rw [rm_congr (g' := reachV l.length (heldM s l)) fun j hj => if_pos hj]
end
end Go.Proofs.Ytmdghocpelkcoaa

/- Loading in: the reference's orders; Order, Out, and Count return what is specified. -/
namespace Go.Proofs.Ytmdghocpelkcoaa
set_option linter.unusedSimpArgs false
set_option linter.unusedVariables false

theorem full_len {n : Nat} (hn : n ≤ 7) {h : Nat → Bool} (hr : reachV n (flip n h) (2 ^ n - 1) = true) : (dnM n (reachV n (flip n h)) (2 ^ n - 1)).length = n :=
  safe_len hn ((safe_up hn h _).1 (dn_mem _ _ (Nat.lt_succ_self _) hr))
section
variable {s : TSet} {l : List TJob}
theorem f_rorder (h : Few s l) : F_ref28_Order s l = some (bif reachV l.length (flip l.length (heldM s l)) (2 ^ l.length - 1) then (ints (dnM l.length (reachV l.length (flip l.length (heldM s l))) (2 ^ l.length - 1)), true) else ([], false)) := by
  have h7 := h.n7
  have hN := h.N
  have hp := Nat.two_pow_pos l.length
  unfold F_ref28_Order
  rw [f_rways h]
  refine bind_of rfl ?_
  refine bind_of (rm_idx (k := 0) _ hp) ?_
  refine bind_of (rm_at (k := 0) _ hp) ?_
  rw [Nat.sub_zero, ways_pos]
  cases hr : reachV l.length (flip l.length (heldM s l)) (2 ^ l.length - 1) with
  | false => rfl
  | true =>
    simp only [Bool.not_true, cond_false, cond_true]
    obtain ⟨full, hfull⟩ : ∃ full, full = dnM l.length (reachV l.length (flip l.length (heldM s l))) (2 ^ l.length - 1) := ⟨_, rfl⟩
    have hfl0 : full.length = l.length := by rw [hfull]; exact full_len h7 hr
    rw [← hfull]
    refine bind_of (x := (ints full, ())) ?_ rfl
    have key : ∀ {F : Int × List Int × Unit → Option ((Int × List Int × Unit) ⊕ (List Int × Unit))}, (∀ (m : Nat) (o : List Nat), m < 2 ^ l.length → o.length ≤ 128 → (o.length < l.length ↔ m ≠ 2 ^ l.length - 1) → reachV l.length (flip l.length (heldM s l)) (2 ^ l.length - 1 - m) = true → F ((m : Int), ints o, ()) = if m = 2 ^ l.length - 1 then some (.inr (ints o, ())) else
        match (List.range l.length).find? (fun i => (2 ^ l.length - 1 - m).testBit i && reachV l.length (flip l.length (heldM s l)) (2 ^ l.length - 1 - m - 2 ^ i)) with
        | some i => some (.inl (((m + 2 ^ i : Nat) : Int), ints (o ++ [i]), ()))
        | none => none) → iterF F big (0, [], ()) = some (ints full, ()) := by
      intro F hF
      obtain ⟨r, g1, g2⟩ := iter_inv (F := F) (Q := fun r => r = (ints full, ())) (fun k z => ∃ (m : Nat) (o : List Nat), z = ((m : Int), ints o, ()) ∧ m < 2 ^ l.length ∧ k ≤ m ∧ o.length ≤ k ∧ reachV l.length (flip l.length (heldM s l)) (2 ^ l.length - 1 - m) = true ∧ o ++ dnM l.length (reachV l.length (flip l.length (heldM s l))) (2 ^ l.length - 1 - m) = full) (2 ^ l.length) (by unfold big; omega) (fun k z hk hz => by
        obtain ⟨m, o, rfl, h1, h2, h3, h4, h5⟩ := hz
        by_cases hm : m = 2 ^ l.length - 1
        · have h6 := h5
          rw [hm, Nat.sub_self, dnM_zero, List.append_nil] at h6
          have e := hF m o h1 (by omega) ⟨fun hlt => by rw [h6] at hlt; omega, fun hne => absurd hm hne⟩ h4
          rw [if_pos hm] at e
          exact .inr ⟨_, e, by rw [h6]⟩
        · obtain ⟨i, hf, hi, hb, hri⟩ := reach_find h4 (by omega)
          have h6 := congrArg List.length h5
          rw [List.length_append, dnM_cons (by omega) hf, List.length_cons] at h6
          have e := hF m o h1 (by omega) ⟨fun _ => hm, fun _ => by omega⟩ h4
          rw [if_neg hm] at e
          rw [hf] at e
          have hge := bit_ge hb
          have hpi := Nat.two_pow_pos i
          refine .inl ⟨_, e, by omega, m + 2 ^ i, o ++ [i], rfl, by omega, by omega, by simp; omega, by rw [← Nat.sub_sub]; exact hri, ?_⟩
          rw [List.append_assoc, ← Nat.sub_sub, ← h5, dnM_cons (by omega) hf]
          rfl) (s := (0, [], ())) ⟨0, [], rfl, hp, Nat.le_refl _, Nat.le_refl _, hr, by rw [hfull]; rfl⟩
      rw [g1, g2]
    refine key ?_
    intro m o hm ho hiff hr2
    simp only [ints_len]
    by_cases hw : m = 2 ^ l.length - 1
    · rw [if_pos hw]
      have : ¬ o.length < l.length := fun hlt => (hiff.1 hlt) hw
      rw [decide_eq_false (show ¬ ((o.length : Nat) : Int) < ((l.length : Nat) : Int) by omega)]
      rfl
    · rw [if_neg hw]
      have := hiff.2 hw
      rw [decide_eq_true (show ((o.length : Nat) : Int) < ((l.length : Nat) : Int) by omega)]
      simp only [cond_true]
      obtain ⟨i, hf, hi, hb, hri⟩ := reach_find hr2 (by omega)
      rw [hf]
      obtain ⟨_, _, hleast⟩ := find_least hf
      have hfl := bit_flip l.length (by omega) m hm
      have hmi : m.testBit i = false := by have := hfl i hi; rw [hb] at this; simpa using this.symm
      have hup := bit_up l.length (by omega) m hm i hi hmi
      refine bind_of (iter_go i (fun j => ((j : Int), ())) ((i : Int), ()) (by omega) rfl ?_ ?_) ?_
      · intro j hj
        have hjn : j < l.length := by omega
        simp only [if_neg (show ¬ (j : Int) < 0 by omega), f_has m j (by omega) (by omega), pw j (by omega), Option.bind_some]
        rw [wrap64 (n := (j : Int) + 1) (by omega) (by omega)]
        have hl := hleast j hj
        rw [hfl j hjn] at hl
        cases hbj : m.testBit j with
        | true => rfl
        | false =>
          rw [hbj] at hl
          simp only [Bool.not_false, Bool.true_and] at hl
          have hupj := bit_up l.length (by omega) m hm j hjn hbj
          simp only [cond_false, b_or m j (by omega) (by omega) hbj, rm_idx _ hupj, rm_at _ hupj, Option.bind_some, ways_pos]
          rw [← Nat.sub_sub, hl]
          rfl
      · simp only [if_neg (show ¬ (i : Int) < 0 by omega), f_has m i (by omega) (by omega), pw i (by omega), hmi, cond_false, b_or m i (by omega) (by omega) hmi, rm_idx _ hup, rm_at _ hup, Option.bind_some, ways_pos]
        rw [← Nat.sub_sub, hri]
        rfl
      · simp only
        rw [if_pos (by simp; omega), if_neg (show ¬ (i : Int) < 0 by omega), pw i (by omega), b_or m i (by omega) (by omega) hmi, ints_snoc]
theorem f_rout (h : Few s l) : F_ref28_Out s l = some (bif reachV l.length (heldM s l) (2 ^ l.length - 1) then (ints (dnM l.length (reachV l.length (heldM s l)) (2 ^ l.length - 1)), true) else ([], false)) := by
  have h7 := h.n7
  have hN := h.N
  have hp := Nat.two_pow_pos l.length
  unfold F_ref28_Out
  rw [f_rreached h]
  refine bind_of rfl ?_
  have ew : IntKind.i64.wrap (((rm (2 ^ l.length) (reachV l.length (heldM s l))).length : Int) - 1) = ((2 ^ l.length - 1 : Nat) : Int) := by rw [rm_len, wrap64 (by omega) (by omega)]; omega
  rw [ew]
  refine bind_of (rm_idx (k := 2 ^ l.length - 1) _ (by omega)) ?_
  refine bind_of (rm_at (k := 2 ^ l.length - 1) _ (by omega)) ?_
  cases hr : reachV l.length (heldM s l) (2 ^ l.length - 1) with
  | false => rfl
  | true =>
    simp only [Bool.not_true, cond_false, cond_true]
    obtain ⟨full, hfull⟩ : ∃ full, full = dnM l.length (reachV l.length (heldM s l)) (2 ^ l.length - 1) := ⟨_, rfl⟩
    rw [← hfull]
    refine bind_of (x := (ints full, ())) ?_ rfl
    have key : ∀ {F : Int × List Int × Unit → Option ((Int × List Int × Unit) ⊕ (List Int × Unit))}, (∀ (m : Nat) (o : List Nat), m < 2 ^ l.length → o.length ≤ 128 → reachV l.length (heldM s l) m = true → F ((m : Int), ints o, ()) = if m = 0 then some (.inr (ints o, ())) else
        match (List.range l.length).find? (fun i => m.testBit i && reachV l.length (heldM s l) (m - 2 ^ i)) with
        | some i => some (.inl (((m - 2 ^ i : Nat) : Int), ints (o ++ [i]), ()))
        | none => none) → iterF F big (((2 ^ l.length - 1 : Nat) : Int), [], ()) = some (ints full, ()) := by
      intro F hF
      obtain ⟨r, g1, g2⟩ := iter_inv (F := F) (Q := fun r => r = (ints full, ())) (fun k z => ∃ (m : Nat) (o : List Nat), z = ((m : Int), ints o, ()) ∧ m < 2 ^ l.length ∧ k + m < 2 ^ l.length ∧ o.length ≤ k ∧ reachV l.length (heldM s l) m = true ∧ o ++ dnM l.length (reachV l.length (heldM s l)) m = full) (2 ^ l.length) (by unfold big; omega) (fun k z hk hz => by
        obtain ⟨m, o, rfl, h1, h2, h3, h4, h5⟩ := hz
        have e := hF m o h1 (by omega) h4
        by_cases hm : m = 0
        · rw [if_pos hm] at e
          refine .inr ⟨_, e, ?_⟩
          rw [hm, dnM_zero, List.append_nil] at h5
          rw [h5]
        · rw [if_neg hm] at e
          obtain ⟨i, hf, hi, hb, hri⟩ := reach_find h4 hm
          rw [hf] at e
          have hge := bit_ge hb
          have hpi := Nat.two_pow_pos i
          refine .inl ⟨_, e, by omega, m - 2 ^ i, o ++ [i], rfl, by omega, by omega, by simp; omega, hri, ?_⟩
          rw [List.append_assoc, ← h5, dnM_cons hm hf]
          rfl) (s := (((2 ^ l.length - 1 : Nat) : Int), [], ())) ⟨2 ^ l.length - 1, [], rfl, by omega, by omega, Nat.le_refl _, hr, by rw [hfull]; rfl⟩
      rw [g1, g2]
    refine key ?_
    intro m o hm ho hr2
    by_cases hw : m = 0
    · rw [if_pos hw, hw]; rfl
    · rw [if_neg hw]
      rw [decide_eq_true (show (m : Int) > 0 by omega)]
      simp only [cond_true]
      obtain ⟨i, hf, hi, hb, hri⟩ := reach_find hr2 hw
      rw [hf]
      obtain ⟨_, _, hleast⟩ := find_least hf
      have hlt := sub_lt hb
      have hw2 : ∀ j, m.testBit j = true → IntKind.i64.wrap ((m : Int) - ((2 ^ j : Nat) : Int)) = ((m - 2 ^ j : Nat) : Int) := fun j hj => by
        have h1 := bit_ge hj
        have h2 := Nat.two_pow_pos j
        generalize 2 ^ j = q at *
        rw [wrap64 (by omega) (by omega)]; omega
      refine bind_of (iter_go i (fun j => ((j : Int), ())) ((i : Int), ()) (by omega) rfl ?_ ?_) ?_
      · intro j hj
        have hjn : j < l.length := by omega
        simp only [if_neg (show ¬ (j : Int) < 0 by omega), f_has m j (by omega) (by omega), pw j (by omega), Option.bind_some]
        rw [wrap64 (n := (j : Int) + 1) (by omega) (by omega)]
        have hl := hleast j hj
        cases hbj : m.testBit j with
        | false => rfl
        | true =>
          rw [hbj] at hl
          simp only [Bool.true_and] at hl
          have hltj := sub_lt hbj
          simp only [Bool.not_true, cond_false, hw2 j hbj, rm_idx _ (show m - 2 ^ j < 2 ^ l.length by omega), rm_at _ (show m - 2 ^ j < 2 ^ l.length by omega), Option.bind_some, hl]
          rfl
      · simp only [if_neg (show ¬ (i : Int) < 0 by omega), f_has m i (by omega) (by omega), pw i (by omega), hb, Bool.not_true, cond_false, hw2 i hb, rm_idx _ (show m - 2 ^ i < 2 ^ l.length by omega), rm_at _ (show m - 2 ^ i < 2 ^ l.length by omega), Option.bind_some, hri]
      · simp only
        rw [if_pos (by rw [ints_len]; simp; omega), if_neg (show ¬ (i : Int) < 0 by omega), pw i (by omega), hw2 i hb, ints_snoc]
end
/-- There is a way up exactly if there is one down. -/
theorem reach_flip {n : Nat} (hn : n ≤ 7) (h : Nat → Bool) : reachV n (flip n h) (2 ^ n - 1) = reachV n h (2 ^ n - 1) := by
  have h1 := ways_pos n (flip n h) (2 ^ n - 1)
  have h2 := ways_pos n h (2 ^ n - 1)
  rw [ways_flip hn] at h1
  rw [h1] at h2
  simpa using h2
end Go.Proofs.Ytmdghocpelkcoaa

/- Loading in: Order, Out, and Count return what is specified. -/
namespace Go.Proofs.Ytmdghocpelkcoaa
set_option linter.unusedSimpArgs false
set_option linter.unusedVariables false

theorem f_awake28 : F_law28_awake = some true := by kernel_rfl
def longB (s : TSet) (l : List TJob) : Bool := !smallB s 8 || (decide (20 < s.lines.length) || ((decide (7 < l.length) && decide (l.length ≤ 12)) || (decide (110 < l.length) || l.any fun x => decide (60 < x.name.size))))
theorem f_long28 (s : TSet) (l : List TJob) : F_law28_long s l = some (longB s l) := by
  unfold F_law28_long longB
  rw [f_small]
  have e1 : decide (((s.lines.length : Nat) : Int) > 20) = decide (20 < s.lines.length) := by rw [Bool.eq_iff_iff]; simp; omega
  have e2 : decide (((l.length : Nat) : Int) > 7) = decide (7 < l.length) := by rw [Bool.eq_iff_iff]; simp; omega
  have e3 : decide (((l.length : Nat) : Int) ≤ 12) = decide (l.length ≤ 12) := by rw [Bool.eq_iff_iff]; simp; omega
  have e4 : decide (((l.length : Nat) : Int) > 110) = decide (110 < l.length) := by rw [Bool.eq_iff_iff]; simp; omega
  rw [e1, e2, e3, e4]
  by_cases h110 : 110 < l.length
  · rw [decide_eq_true h110, decide_eq_false (show ¬ l.length ≤ 12 by omega)]
    cases smallB s 8 <;> cases decide (20 < s.lines.length) <;> cases decide (7 < l.length) <;> simp
  · have hc : F_slices_ContainsFunc_api_Job l (fun z10 => F_law28_long_1 z10) = some (l.any fun x => decide (60 < x.name.size)) := f_slices_ContainsFunc_api_Job l (by omega) _ (fun x => decide (60 < x.name.size)) (fun x _ => by
      unfold F_law28_long_1
      congr 1
      rw [Bool.eq_iff_iff]; simp; omega)
    rw [hc]
    cases smallB s 8 <;> cases decide (20 < s.lines.length) <;> cases decide (7 < l.length) <;> cases decide (l.length ≤ 12) <;> cases decide (110 < l.length) <;> simp
theorem long_ok {s : TSet} {l : List TJob} (h : longB s l = false) : Fits s ∧ (l.length ≤ 7 ∨ 12 < l.length) ∧ l.length ≤ 110 ∧ ∀ x ∈ l, x.name.size ≤ 60 := by
  unfold longB at h
  simp only [Bool.or_eq_false_iff, Bool.not_eq_false', Bool.and_eq_false_iff, decide_eq_false_iff_not, List.any_eq_false, decide_eq_true_eq] at h
  obtain ⟨h1, h2, h3, h4, h5⟩ := h
  exact ⟨small_fits h1, by omega, by omega, fun x hx => by have := h5 x hx; omega⟩
def resP {α : Type} (s : TSet) (l : List TJob) (e : Int → α) (k : α) : α := bif okB s l then (bif decide (12 < l.length) then e 6 else k) else e 1
theorem few_of {s : TSet} {l : List TJob} (h : longB s l = false) (ho : okB s l = true) (hm : ¬ 12 < l.length) : Few s l := by
  obtain ⟨h1, h2, h3, h4⟩ := long_ok h
  obtain ⟨g1, g2, g3⟩ := okB_ok ho
  exact ⟨g1, g3, g2, h1, h4, by omega⟩
section
variable {s : TSet} {l : List TJob} {β : Type}
theorem c_res (h : longB s l = false) (kE : Int → Option β) (kO : List Bool → List Bool → List Bool → Option β) (e : Int → β) (k : β) (h1 : kE 1 = some (e 1)) (h6 : kE 6 = some (e 6))
    (hk : ∀ hf : Few s l, kO (rm (2 ^ l.length) (heldM s l)) (rm (2 ^ l.length) (reachV l.length (heldM s l))) (rm (2 ^ l.length) fun m => reachV l.length (flip l.length (heldM s l)) (2 ^ l.length - 1 - m)) = some k) : C_of s l kE kO = some (resP s l e k) := by
  obtain ⟨g1, g2, g3, g4⟩ := long_ok h
  unfold resP
  cases ho : okB s l with
  | false =>
    simp only [cond_false]
    rw [← h1]
    refine c_bad g1 g4 ?_ kE kO
    unfold okB at ho
    rwa [Bool.and_eq_false_iff] at ho
  | true =>
    simp only [cond_true]
    by_cases hm : 12 < l.length
    · rw [decide_eq_true hm, cond_true, ← h6]
      obtain ⟨_, q2, q3⟩ := okB_ok ho
      exact c_many g1 g4 q3 q2 hm kE kO
    · rw [decide_eq_false hm, cond_false]
      have hf := few_of h ho hm
      rw [c_of hf kE kO, hk hf]
theorem f_Count (h : longB s l = false) : F_loadin_Count s l = some (resP s l (fun e => (0, e)) (waysV l.length (heldM s l) (2 ^ l.length - 1), 0)) := by
  rw [F_Count_eq]
  exact c_res h _ _ _ _ rfl rfl fun hf => k_count hf _ _
theorem f_Order (h : longB s l = false) : F_loadin_Order s l = some (resP s l (fun e => ([], e)) (orderP l.length (heldM s l))) := by
  rw [F_Order_eq]
  exact c_res h _ _ _ _ rfl rfl fun hf => k_order hf _ _
theorem f_Out (h : longB s l = false) : F_loadin_Out s l = some (resP s l (fun e => ([], e)) (outP l.length (heldM s l))) := by
  rw [F_Out_eq]
  exact c_res h _ _ _ _ rfl rfl fun hf => k_out hf _ _
theorem f_Closed (h : longB s l = false) : F_loadin_Closed s l = some (resP s l (fun e => ([], e)) (closedP l.length (heldM s l))) := by
  rw [F_Closed_eq]
  exact c_res h _ _ _ _ rfl rfl fun hf => k_closed hf _ _
theorem f_Given (h : longB s l = false) : F_ref28_Given s l = some (resP s l id 0) := by
  obtain ⟨g1, g2, g3, g4⟩ := long_ok h
  rw [f_rgiven g1 g4]
  unfold resP
  have e : decide (((l.length : Nat) : Int) > 12) = decide (12 < l.length) := by rw [Bool.eq_iff_iff]; simp; omega
  rw [e]; rfl
end
theorem dn_small {n : Nat} (hn : n ≤ 7) (r : Nat → Bool) : (ints (dnM n r (2 ^ n - 1))).length ≤ 2147483648 := by
  have h1 := dnM_len (n := n) (r := r) _ _ (Nat.lt_succ_self (2 ^ n - 1))
  have h2 := pow_le7 hn
  rw [ints_len]; omega
theorem main_LoadinOrders (x0 : TSet) (x1 : List TJob) (w0 : W_Set x0) (w1 : W_l_Job x1) : F_law28_LoadinOrders x0 x1 = some true := by
  unfold F_law28_LoadinOrders
  rw [f_awake28, f_long28 x0 x1]
  simp only [Option.bind_some, Bool.not_true, cond_false]
  cases hl : longB x0 x1 with
  | true => rfl
  | false =>
    simp only [cond_false]
    rw [f_Order hl, f_Out hl, f_Count hl, f_Given hl]
    simp only [Option.bind_some]
    unfold resP
    cases ho : okB x0 x1 with
    | false => rfl
    | true =>
      simp only [cond_true]
      by_cases hm : 12 < x1.length
      · rw [decide_eq_true hm]; rfl
      · rw [decide_eq_false hm]
        have hf := few_of hl ho hm
        have h7 := hf.n7
        have hp := Nat.two_pow_pos x1.length
        have e0 : ((0 : Int) != 0) = false := rfl
        simp only [cond_false, e0]
        rw [f_rorder hf, f_rout hf, f_rways hf]
        simp only [Option.bind_some, rm_idx (k := 0) _ hp, rm_at (k := 0) _ hp]
        have hi : ∀ g : Nat → Int, idx (rm (2 ^ x1.length) g) 0 = some (g 0) := fun g => rm_idx (k := 0) g hp
        have ha : ∀ g : Nat → Int, (rm (2 ^ x1.length) g)[Int.toNat 0]? = some (g 0) := fun g => rm_at (k := 0) g hp
        simp only [hi, ha, Option.bind_some, Nat.sub_zero]
        unfold orderP outP
        rw [reach_flip h7]
        cases hr : reachV x1.length (heldM x0 x1) (2 ^ x1.length - 1) with
        | false =>
          simp only [cond_false, Bool.not_false, cond_true, Option.bind_some]
          rw [f_equal_refl _ (by simp)]
          simp only [Option.bind_some, cond_true, beq_self_eq_true, ways_flip h7]
        | true =>
          simp only [cond_true, Bool.not_true, cond_false, Option.bind_some]
          rw [f_equal_refl _ (dn_small h7 _), f_equal_refl _ (dn_small h7 _)]
          simp only [Option.bind_some, cond_true, beq_self_eq_true, ways_flip h7]
end Go.Proofs.Ytmdghocpelkcoaa

/- Loading in: Check returns what is specified. -/
namespace Go.Proofs.Ytmdghocpelkcoaa
set_option linter.unusedSimpArgs false
set_option linter.unusedVariables false

theorem iter_bad {α : Type} {F : Int × Unit → Option ((Int × Unit) ⊕ ((Int × Unit) ⊕ Unit))} (l : List α) (hl : l.length < 9223372036854775807) (bad : α → Bool)
    (hin : ∀ (k : Nat) (h : k < l.length), F ((k : Int), ()) = some (bif bad l[k] then .inr (.inl ((k : Int), ())) else .inl ((k : Int) + 1, ()))) (hout : F ((l.length : Int), ()) = some (.inr (.inr ()))) :
    ∃ r, iterF F big (0, ()) = some r ∧ ((l.any bad = true ∧ ∃ k : Nat, r = .inl ((k : Int), ())) ∨ (l.any bad = false ∧ r = .inr ())) :=
  iter_inv (F := F) (fun k s => s = ((k : Int), ()) ∧ (l.take k).any bad = false) l.length (by unfold big; omega) (fun k s hk hs => by
    obtain ⟨rfl, hno⟩ := hs
    rcases Nat.lt_or_ge k l.length with h | h
    · have h3 := hin k h
      cases hb : bad l[k] with
      | true =>
        rw [hb] at h3
        exact .inr ⟨_, h3, .inl ⟨List.any_eq_true.2 ⟨l[k], List.getElem_mem h, hb⟩, k, rfl⟩⟩
      | false =>
        rw [hb] at h3
        refine .inl ⟨_, h3, h, rfl, ?_⟩
        rw [List.take_succ_eq_append_getElem h, List.any_append, hno]
        simp [hb]
    · obtain rfl : k = l.length := by omega
      rw [List.take_length] at hno
      exact .inr ⟨_, hout, .inr ⟨hno, rfl⟩⟩) (s := (0, ())) ⟨rfl, by simp⟩
def badI (n : Nat) (x : Int) : Bool := decide (x < 0) || decide (x ≥ (n : Int))
theorem bad_no {n : Nat} {x : Int} (h : badI n x = false) : ∃ i : Nat, x = (i : Int) ∧ i < n := by
  unfold badI at h
  simp only [Bool.or_eq_false_iff, decide_eq_false_iff_not] at h
  exact ⟨x.toNat, by omega, by omega⟩
def ckR (h : Nat → Bool) (order : List Int) : (Bool × Int × Unit) ⊕ (Bool × Unit) :=
  runL (fun (t : Nat × Bool) x => bif t.1.testBit x.toNat then .inr (.inl (false, 10, ())) else .inl (t.1 + 2 ^ x.toNat, t.2 && h (t.1 + 2 ^ x.toNat))) (fun t => .inr (t.2, ())) order (0, h 0)
def ckP (h : Nat → Bool) (order : List Int) : Bool × Int := match ckR h order with
  | .inl y => (y.1, y.2.1)
  | .inr y => (y.1, 0)
def checkP (n : Nat) (h : Nat → Bool) (order : List Int) : Bool × Int := bif ((order.length : Nat) : Int) != ((n : Nat) : Int) then (false, 3) else bif order.any (badI n) then (false, 2) else ckP h order
section
variable {s : TSet} {l : List TJob}
theorem ck_iter (h : Few s l) {order : List Int} (hl : order.length < 9223372036854775807) (hb : order.any (badI l.length) = false) {F : Int × Bool × Int × Unit → Option ((Int × Bool × Int × Unit) ⊕ ((Bool × Int × Unit) ⊕ (Bool × Unit)))}
    (hin : ∀ (m i k : Nat) (safe : Bool), m < 2 ^ l.length → i < l.length → (hk : k < order.length) → order[k] = (i : Int) → F ((m : Int), safe, (k : Int), ()) = some (bif m.testBit i then .inr (.inl (false, 10, ())) else .inl (((m + 2 ^ i : Nat) : Int), (safe && heldM s l (m + 2 ^ i)), (k : Int) + 1, ())))
    (hout : ∀ (m : Nat) (safe : Bool), F ((m : Int), safe, (order.length : Int), ()) = some (.inr (.inr (safe, ())))) :
    iterF F big (0, heldM s l 0, 0, ()) = some (ckR (heldM s l) order) := by
  have h7 := h.n7
  refine iter_run (F := F) (fun (t : Nat × Bool) k => ((t.1 : Int), t.2, k, ())) order hl (fun (t : Nat × Bool) x => bif t.1.testBit x.toNat then .inr (.inl (false, 10, ())) else .inl (t.1 + 2 ^ x.toNat, t.2 && heldM s l (t.1 + 2 ^ x.toNat))) (fun t => .inr (t.2, ())) (fun _ t => t.1 < 2 ^ l.length) ?_ ?_ (0, heldM s l 0) (Nat.two_pow_pos _)
  · intro k hk t ht
    have hx : badI l.length order[k] = false := by
      rw [List.any_eq_false] at hb
      have := hb order[k] (List.getElem_mem hk)
      simpa using this
    obtain ⟨i, e, hi⟩ := bad_no hx
    have h1 := hin t.1 i k t.2 ht hi hk e
    rw [e, Int.toNat_natCast]
    refine ⟨?_, fun t' ht' => ?_⟩
    · rw [h1]
      cases t.1.testBit i <;> rfl
    · cases hb2 : t.1.testBit i <;> rw [hb2] at ht'
      · cases ht'
        exact bit_up l.length (by omega) t.1 ht i hi hb2
      · cases ht'
  · intro t _
    exact hout t.1 t.2
theorem k_check (h : Few s l) (order : List Int) (reached good : List Bool) : kO_Check l order (rm (2 ^ l.length) (heldM s l)) reached good = some (checkP l.length (heldM s l) order) := by
  have h7 := h.n7
  have hN := h.N
  have hp := Nat.two_pow_pos l.length
  unfold kO_Check checkP
  cases hlen : (((order.length : Nat) : Int) != ((l.length : Nat) : Int)) with
  | true => rfl
  | false =>
    have hlen2 : order.length = l.length := by
      have : ((order.length : Nat) : Int) = ((l.length : Nat) : Int) := by simpa using hlen
      omega
    simp only [cond_false]
    obtain ⟨r, g1, g2⟩ := iter_bad (F := fun s213 : Int × Unit => (bif (decide (s213.1 < ((order.length : Nat) : Int))) then (idx order s213.1).bind fun x214 => ((bif (decide (x214 < 0)) then some (true, ()) else some ((decide (x214 ≥ ((l.length : Nat) : Int))), ())) : Option (Bool × Unit)).bind fun y215 => (bif y215.1 then some (.inr (.inl (s213.1, ()))) else some (.inl ((IntKind.i64.wrap (s213.1 + 1)), ()))) else some (.inr (.inr ((())))))) order (by omega) (badI l.length) (fun k hk => by
      simp only [lt_yes hk, cond_true, idx_at hk, Option.bind_some]
      rw [wrap64 (n := (k : Int) + 1) (by omega) (by omega)]
      unfold badI
      cases decide (order[k] < 0) <;> cases decide (order[k] ≥ ((l.length : Nat) : Int)) <;> rfl) (by simp only [lt_no, cond_false])
    refine bind_of g1 ?_
    have tail : ∀ (hb : order.any (badI l.length) = false) {F : Int × Bool × Int × Unit → Option ((Int × Bool × Int × Unit) ⊕ ((Bool × Int × Unit) ⊕ (Bool × Unit)))}, (F = fun s227 => (bif (decide (s227.2.2.1 < ((order.length : Nat) : Int))) then (idx order s227.2.2.1).bind fun x228 => (if x228 < 0 then none else (bif ((bitsOf .and .i64 (s227.1.fdiv (2 ^ min (Int.toNat x228) IntKind.i64.bits)) 1) == 1) then some (.inr (.inl (false, 10, ()))) else (if x228 < 0 then none else (bif s227.2.1 then (idx (rm (2 ^ l.length) (heldM s l)) (bitsOf .or .i64 s227.1 (IntKind.i64.wrap (1 * 2 ^ min (Int.toNat x228) IntKind.i64.bits)))).bind fun _x229 => ((rm (2 ^ l.length) (heldM s l))[(Int.toNat (bitsOf .or .i64 s227.1 (IntKind.i64.wrap (1 * 2 ^ min (Int.toNat x228) IntKind.i64.bits))))]?).bind fun x230 => some (.inl ((bitsOf .or .i64 s227.1 (IntKind.i64.wrap (1 * 2 ^ min (Int.toNat x228) IntKind.i64.bits))), x230, (IntKind.i64.wrap (s227.2.2.1 + 1)), ())) else some (.inl ((bitsOf .or .i64 s227.1 (IntKind.i64.wrap (1 * 2 ^ min (Int.toNat x228) IntKind.i64.bits))), false, (IntKind.i64.wrap (s227.2.2.1 + 1)), ())))))) else some (.inr (.inr ((s227.2.1, ())))))) →
        iterF F big (0, heldM s l 0, 0, ()) = some (ckR (heldM s l) order) := by
      intro hb F hF
      refine ck_iter h (by omega) hb ?_ ?_
      · intro m i k safe hm hi hk e
        rw [hF]
        simp only [lt_yes hk, cond_true, idx_at hk, Option.bind_some, e, if_neg (show ¬ (i : Int) < 0 by omega), b_has m i (by omega) (by omega), pw i (by omega)]
        rw [wrap64 (n := (k : Int) + 1) (by omega) (by omega)]
        cases hbi : m.testBit i with
        | true => rfl
        | false =>
          have hup := bit_up l.length (by omega) m hm i hi hbi
          simp only [cond_false, b_or m i (by omega) (by omega) hbi, rm_idx _ hup, rm_at _ hup, Option.bind_some]
          cases safe <;> rfl
      · intro m safe
        rw [hF]
        simp only [lt_no, cond_false]
    rcases g2 with ⟨hb, k, rfl⟩ | ⟨hb, rfl⟩
    · rw [hb]
      simp only [cond_true]
      rw [decide_eq_true (show (k : Int) ≥ 0 by omega)]
      rfl
    · rw [hb]
      simp only [cond_false]
      refine bind_of (rm_idx (k := 0) _ hp) ?_
      refine bind_of (rm_at (k := 0) _ hp) ?_
      refine bind_of (tail hb rfl) ?_
      unfold ckP
      cases ckR (heldM s l) order <;> rfl
theorem f_Check (h : longB s l = false) (order : List Int) : F_loadin_Check s l order = some (resP s l (fun e => (false, e)) (checkP l.length (heldM s l) order)) := by
  rw [F_Check_eq]
  exact c_res h _ _ _ _ rfl rfl fun hf => k_check hf order _ _
theorem f_rCheck (h : longB s l = false) (order : List Int) : F_ref28_Check s l order = some (resP s l (fun e => (false, e)) (checkP l.length (heldM s l) order)) := by
  unfold F_ref28_Check
  rw [f_Given h]
  unfold resP
  cases ho : okB s l with
  | false => rfl
  | true =>
    simp only [cond_true]
    by_cases hm : 12 < l.length
    · rw [decide_eq_true hm]; rfl
    · rw [decide_eq_false hm]
      have hf := few_of h ho hm
      have h7 := hf.n7
      have hN := hf.N
      have e0 : ((0 : Int) != 0) = false := rfl
      simp only [cond_false, Option.bind_some, e0]
      unfold checkP
      cases hlen : (((order.length : Nat) : Int) != ((l.length : Nat) : Int)) with
      | true => rfl
      | false =>
        have hlen2 : order.length = l.length := by
          have : ((order.length : Nat) : Int) = ((l.length : Nat) : Int) := by simpa using hlen
          omega
        simp only [cond_false]
        rw [iter_no order (by omega) (fun x => !badI l.length x) (.inl (false, 2, ())) (.inr ()) (fun k hk => by
          simp only [lt_yes hk, cond_true, idx_at hk, Option.bind_some]
          rw [wrap64 (n := (k : Int) + 1) (by omega) (by omega)]
          unfold badI
          cases decide (order[k] < 0) <;> cases decide (order[k] ≥ ((l.length : Nat) : Int)) <;> rfl) (by simp only [lt_no, cond_false])]
        have eall : (order.all fun x => !badI l.length x) = !order.any (badI l.length) := by rw [List.not_any_eq_all_not]
        rw [eall]
        cases hb : order.any (badI l.length) with
        | true => rfl
        | false =>
          have hh0 := f_rheldM hf 0 (by omega)
          simp only [Bool.not_false, cond_true, Option.bind_some]
          refine bind_of hh0 ?_
          refine bind_of (ck_iter hf (by omega) hb ?_ ?_) ?_
          · intro m i k safe hm hi hk e
            simp only [lt_yes hk, cond_true, idx_at hk, Option.bind_some, e, if_neg (show ¬ (i : Int) < 0 by omega), f_has m i (by omega) (by omega), pw i (by omega)]
            rw [wrap64 (n := (k : Int) + 1) (by omega) (by omega)]
            cases hbi : m.testBit i with
            | true => rfl
            | false =>
              have hup := bit_up l.length (by omega) m hm i hi hbi
              simp only [cond_false, b_or m i (by omega) (by omega) hbi, f_rheldM hf _ (show m + 2 ^ i < 128 by omega), Option.bind_some]
              cases safe <;> rfl
          · intro m safe
            simp only [lt_no, cond_false]
          · simp only [cond_false]
            unfold ckP
            cases ckR (heldM s l) order <;> rfl
end
theorem main_LoadinChecks (x0 : TSet) (x1 : List TJob) (x2 : List Int) (w0 : W_Set x0) (w1 : W_l_Job x1) (w2 : W_l_int1 x2) : F_law28_LoadinChecks x0 x1 x2 = some true := by
  unfold F_law28_LoadinChecks
  rw [f_awake28, f_long28 x0 x1]
  simp only [Option.bind_some, Bool.not_true, cond_false]
  cases hl : longB x0 x1 with
  | true => rfl
  | false =>
    simp only [cond_false, Option.bind_some]
    cases decide (((x2.length : Nat) : Int) > 20) with
    | true => rfl
    | false =>
      simp only [cond_false]
      rw [f_Check hl, f_rCheck hl]
      simp only [Option.bind_some, beq_self_eq_true, cond_true]
end Go.Proofs.Ytmdghocpelkcoaa

/- Loading in: Closed and Proves return what is specified. -/
namespace Go.Proofs.Ytmdghocpelkcoaa
set_option linter.unusedSimpArgs false
set_option linter.unusedVariables false

def inS (states : List Int) (m : Nat) : Bool := states.contains (m : Int)
def inTo (states : List Int) (k m : Nat) : Bool := (states.take k).contains (m : Int)
def orB (m i : Nat) : Nat := bif m.testBit i then m else m + 2 ^ i
theorem b_or2 (m i : Nat) (hm : m < 128) (hi : i < 7) : bitsOf .or .i64 (m : Int) ((2 ^ i : Nat) : Int) = ((orB m i : Nat) : Int) := by
  have h : ∀ m : Nat, m < 128 → ∀ i : Nat, i < 7 → bitsOf .or .i64 (m : Int) ((2 ^ i : Nat) : Int) = ((orB m i : Nat) : Int) := by decide +kernel
  exact h m hm i hi
theorem orB_lt {n m i : Nat} (hn : n ≤ 7) (hm : m < 2 ^ n) (hi : i < n) : orB m i < 2 ^ n := by
  unfold orB
  cases hb : m.testBit i with
  | true => exact hm
  | false => exact bit_up n (by omega) m hm i hi hb
theorem inTo_succ {states : List Int} {k i : Nat} (hk : k < states.length) (e : states[k] = (i : Int)) (m : Nat) : inTo states (k + 1) m = if m = i then true else inTo states k m := by
  unfold inTo
  rw [List.take_succ_eq_append_getElem hk, e, List.contains_eq_any_beq, List.any_append, ← List.contains_eq_any_beq]
  by_cases h : m = i
  · subst h; simp
  · rw [if_neg h]
    have : ((m : Int) == (i : Int)) = false := by simpa using (show (m : Int) ≠ (i : Int) by omega)
    simp [this]
/-- Each number is greater than the one before it, of the first k. -/
def ascTo (states : List Int) (k : Nat) : Bool := (List.range k).all fun j => j == 0 || decide (states.getD (j - 1) 0 < states.getD j 0)
theorem ascTo_succ (states : List Int) (k : Nat) : ascTo states (k + 1) = (ascTo states k && (k == 0 || decide (states.getD (k - 1) 0 < states.getD k 0))) := by unfold ascTo; rw [List.range_succ, List.all_append]; simp
theorem ascTo_no {states : List Int} {k n : Nat} (hk : k ≤ n) (h : ascTo states k = false) : ascTo states n = false := by
  unfold ascTo at *
  rw [List.all_eq_false] at *
  obtain ⟨j, hj, h2⟩ := h
  exact ⟨j, List.mem_range.2 (by have := List.mem_range.1 hj; omega), h2⟩
theorem getD_at {states : List Int} {k : Nat} (hk : k < states.length) : states.getD k 0 = states[k] := by rw [List.getD_eq_getElem?_getD, List.getElem?_eq_getElem hk]; rfl
def exB (n : Nat) (h : Nat → Bool) (states : List Int) : Bool := states.any fun x => (List.range n).any fun i => h (orB x.toNat i) && !inS states (orB x.toNat i)
def provesP (n : Nat) (h : Nat → Bool) (states : List Int) : Bool × Int := bif states.any (badI (2 ^ n)) then (false, 2) else bif !ascTo states states.length then (false, 17) else
  bif inS states (2 ^ n - 1) || (h 0 && !inS states 0) then (false, 0) else bif exB n h states then (false, 0) else (true, 0)
theorem exB_eq {n : Nat} (hn : n ≤ 7) (h : Nat → Bool) {states : List Int} (hb : states.any (badI (2 ^ n)) = false) :
    ((List.range (2 ^ n)).any fun m => (List.range n).any fun i => inS states m && (!m.testBit i && (!inS states (m + 2 ^ i) && h (m + 2 ^ i)))) = exB n h states := by
  unfold exB
  rw [Bool.eq_iff_iff, List.any_eq_true, List.any_eq_true]
  constructor
  · rintro ⟨m, hm, h1⟩
    obtain ⟨i, hi, h2⟩ := List.any_eq_true.1 h1
    simp only [Bool.and_eq_true, Bool.not_eq_true'] at h2
    obtain ⟨h3, h4, h5, h6⟩ := h2
    refine ⟨(m : Int), by unfold inS at h3; simpa using h3, List.any_eq_true.2 ⟨i, hi, ?_⟩⟩
    rw [Int.toNat_natCast]
    have e : orB m i = m + 2 ^ i := by unfold orB; rw [h4]; rfl
    rw [e, h5, h6]; rfl
  · rintro ⟨x, hx, h1⟩
    obtain ⟨i, hi, h2⟩ := List.any_eq_true.1 h1
    have hbx : badI (2 ^ n) x = false := by
      rw [List.any_eq_false] at hb
      simpa using hb x hx
    obtain ⟨m, rfl, hm⟩ := bad_no hbx
    rw [Int.toNat_natCast] at h2
    simp only [Bool.and_eq_true, Bool.not_eq_true'] at h2
    have hin : inS states m = true := by unfold inS; simpa using hx
    cases hbi : m.testBit i with
    | true =>
      have e : orB m i = m := by unfold orB; rw [hbi]; rfl
      rw [e, hin] at h2
      cases h2.2
    | false =>
      have e : orB m i = m + 2 ^ i := by unfold orB; rw [hbi]; rfl
      rw [e] at h2
      refine ⟨m, List.mem_range.2 hm, List.any_eq_true.2 ⟨i, hi, ?_⟩⟩
      rw [hin, hbi, h2.1, h2.2]; rfl
/-- A loop over numbers that looks for a first one that says yes, over numbers from one on. -/
theorem iter_anyR {ρ : Type} {F : Int × Unit → Option ((Int × Unit) ⊕ ρ)} (b n : Nat) (hn : n < 9223372036854775807) (p : Nat → Bool) (a d : ρ)
    (hin : ∀ k, b ≤ k → k < n → F ((k : Int), ()) = some (bif p k then .inr a else .inl ((k : Int) + 1, ()))) (hout : ∀ k, n ≤ k → k ≤ max b n → F ((k : Int), ()) = some (.inr d)) :
    ∃ r, iterF F big ((b : Int), ()) = some r ∧ ((∃ k, b ≤ k ∧ k < n ∧ p k = true ∧ r = a) ∨ ((∀ k, b ≤ k → k < n → p k = false) ∧ r = d)) :=
  iter_inv (F := F) (fun j s => s = (((b + j : Nat) : Int), ()) ∧ b + j ≤ max b n ∧ ∀ k, b ≤ k → k < b + j → p k = false) n (by unfold big; omega) (fun j s hj hs => by
    obtain ⟨rfl, hle, hno⟩ := hs
    rcases Nat.lt_or_ge (b + j) n with h | h
    · have h3 := hin (b + j) (by omega) h
      cases hp : p (b + j) with
      | true =>
        rw [hp] at h3
        exact .inr ⟨_, h3, .inl ⟨b + j, by omega, h, hp, rfl⟩⟩
      | false =>
        rw [hp] at h3
        refine .inl ⟨_, h3, by omega, by simp; omega, by omega, fun k hk1 hk2 => ?_⟩
        rcases Nat.lt_or_ge k (b + j) with h4 | h4
        · exact hno k hk1 h4
        · obtain rfl : k = b + j := by omega
          exact hp
    · exact .inr ⟨_, hout (b + j) h (by omega), .inr ⟨fun k hk1 hk2 => hno k hk1 (by omega), rfl⟩⟩) (s := ((b : Int), ())) ⟨by simp, by omega, fun k hk1 hk2 => by omega⟩
section
variable {s : TSet} {l : List TJob}
theorem f_rClosed (h : longB s l = false) : F_ref28_Closed s l = some (resP s l (fun e => ([], e)) (closedP l.length (heldM s l))) := by
  unfold F_ref28_Closed
  rw [f_Given h]
  unfold resP
  cases ho : okB s l with
  | false => rfl
  | true =>
    simp only [cond_true]
    by_cases hm : 12 < l.length
    · rw [decide_eq_true hm]; rfl
    · rw [decide_eq_false hm]
      have hf := few_of h ho hm
      have h7 := hf.n7
      have hN := hf.N
      have hp := Nat.two_pow_pos l.length
      have e0 : ((0 : Int) != 0) = false := rfl
      simp only [cond_false, Option.bind_some, e0]
      rw [f_rreached hf]
      refine bind_of rfl ?_
      have ew : IntKind.i64.wrap (((rm (2 ^ l.length) (reachV l.length (heldM s l))).length : Int) - 1) = ((2 ^ l.length - 1 : Nat) : Int) := by rw [rm_len, wrap64 (by omega) (by omega)]; omega
      rw [ew]
      refine bind_of (rm_idx (k := 2 ^ l.length - 1) _ (by omega)) ?_
      refine bind_of (rm_at (k := 2 ^ l.length - 1) _ (by omega)) ?_
      unfold closedP
      cases hr : reachV l.length (heldM s l) (2 ^ l.length - 1) with
      | true => rfl
      | false =>
        simp only [cond_false, rm_len]
        refine bind_of (iter_go (2 ^ l.length) (fun k => ((k : Int), ints ((List.range k).filter (reachV l.length (heldM s l))), ())) (ints ((List.range (2 ^ l.length)).filter (reachV l.length (heldM s l))), ()) (by omega) rfl ?_ ?_) rfl
        · intro k hk
          have hlen := filter_len (p := reachV l.length (heldM s l)) k
          simp only [lt_yes hk, cond_true, rm_idx _ hk, rm_at _ hk, Option.bind_some]
          rw [wrap64 (n := (k : Int) + 1) (by omega) (by omega)]
          rw [List.range_succ, List.filter_append]
          cases hk2 : reachV l.length (heldM s l) k with
          | true =>
            simp only [cond_true]
            rw [if_pos (by rw [ints_len]; simp; omega), ints_snoc]
            simp only [Option.bind_some]
            rw [List.filter_cons_of_pos hk2]
            rfl
          | false =>
            simp only [cond_false, Option.bind_some]
            rw [List.filter_cons_of_neg (by simp [hk2]), List.filter_nil, List.append_nil]
            rfl
        · simp only [lt_no, cond_false]
theorem k_proves (h : Few s l) (states : List Int) (hs : states.length ≤ 200) (reached good : List Bool) : kO_Proves l states (rm (2 ^ l.length) (heldM s l)) reached good = some (provesP l.length (heldM s l) states) := by
  have h7 := h.n7
  have hN := h.N
  have hp := Nat.two_pow_pos l.length
  unfold kO_Proves provesP
  simp only [e_whole h]
  obtain ⟨r, g1, g2⟩ := iter_bad (F := fun s231 : Int × Unit => (bif (decide (s231.1 < ((states.length : Nat) : Int))) then (idx states s231.1).bind fun x232 => ((bif (decide (x232 < 0)) then some (true, ()) else (some (((2 ^ l.length - 1 : Nat) : Int))).bind fun r233 => some ((decide (x232 > r233)), ())) : Option (Bool × Unit)).bind fun y234 => (bif y234.1 then some (.inr (.inl (s231.1, ()))) else some (.inl ((IntKind.i64.wrap (s231.1 + 1)), ()))) else some (.inr (.inr ((())))))) states (by omega) (badI (2 ^ l.length)) (fun k hk => by
      simp only [lt_yes hk, cond_true, idx_at hk, Option.bind_some]
      rw [wrap64 (n := (k : Int) + 1) (by omega) (by omega)]
      unfold badI
      have e : decide (states[k] > ((2 ^ l.length - 1 : Nat) : Int)) = decide (states[k] ≥ ((2 ^ l.length : Nat) : Int)) := by rw [Bool.eq_iff_iff]; simp only [decide_eq_true_eq]; omega
      rw [e]
      cases decide (states[k] < 0) <;> cases decide (states[k] ≥ ((2 ^ l.length : Nat) : Int)) <;> rfl) (by simp only [lt_no, cond_false])
  refine bind_of g1 ?_
  rcases g2 with ⟨hb, k, rfl⟩ | ⟨hb, rfl⟩
  · rw [hb]
    simp only [cond_true]
    rw [decide_eq_true (show (k : Int) ≥ 0 by omega)]
    rfl
  rw [hb]
  simp only [cond_false, rm_len, Int.toNat_natCast, rm_rep]
  rw [if_pos (by omega)]
  have hx : ∀ (k : Nat) (hk : k < states.length), ∃ m : Nat, states[k] = (m : Int) ∧ m < 2 ^ l.length := fun k hk => bad_no (by
    rw [List.any_eq_false] at hb
    simpa using hb _ (List.getElem_mem hk))
  obtain ⟨r, g1, g2⟩ := iter_inv (F := fun s306 : Int × List Bool × Unit => (bif (decide (s306.1 < ((states.length : Nat) : Int))) then (idx states s306.1).bind fun x307 => (bif (decide (s306.1 > 0)) then (idx states (IntKind.i64.wrap (s306.1 - 1))).bind fun x308 => (bif (decide (x307 ≤ x308)) then some (.inr (.inl (false, 17, s306.2.1, ()))) else (idx s306.2.1 x307).bind fun _x309 => (s306.2.1[(Int.toNat x307)]?).bind fun x310 => some (.inl ((IntKind.i64.wrap (s306.1 + 1)), (s306.2.1.set (Int.toNat x307) true), ()))) else (idx s306.2.1 x307).bind fun _x311 => (s306.2.1[(Int.toNat x307)]?).bind fun x312 => some (.inl ((IntKind.i64.wrap (s306.1 + 1)), (s306.2.1.set (Int.toNat x307) true), ()))) else some (.inr (.inr ((s306.2.1, ())))) : Option ((Int × List Bool × Unit) ⊕ ((Bool × Int × List Bool × Unit) ⊕ (List Bool × Unit)))))
    (Q := fun r => (ascTo states states.length = false ∧ ∃ L, r = .inl (false, 17, L, ())) ∨ (ascTo states states.length = true ∧ r = .inr (rm (2 ^ l.length) (inS states), ())))
    (fun k z => z = ((k : Int), rm (2 ^ l.length) (inTo states k), ()) ∧ ascTo states k = true) states.length (by unfold big; omega) (fun k z hk hz => by
      obtain ⟨rfl, hasc⟩ := hz
      rcases Nat.lt_or_ge k states.length with hlt | hge
      · obtain ⟨m, e, hm⟩ := hx k hlt
        have hsc := ascTo_succ states k
        rw [hasc, Bool.true_and] at hsc
        have hset : (rm (2 ^ l.length) (inTo states k)).set (Int.toNat (m : Int)) true = rm (2 ^ l.length) (inTo states (k + 1)) := rm_set _ _ fun j hj => inTo_succ hlt e j
        simp only [lt_yes hlt, cond_true, idx_at hlt, Option.bind_some, e]
        rw [wrap64 (n := (k : Int) + 1) (by omega) (by omega)]
        by_cases h0 : k = 0
        · subst h0
          rw [decide_eq_false (show ¬ ((0 : Nat) : Int) > 0 by omega)]
          simp only [cond_false, rm_idx _ hm, rm_at _ hm, Option.bind_some, hset]
          exact .inl ⟨_, rfl, hlt, rfl, by rw [hsc]; rfl⟩
        · rw [decide_eq_true (show (k : Int) > 0 by omega), wrap64 (n := (k : Int) - 1) (by omega) (by omega), show (k : Int) - 1 = ((k - 1 : Nat) : Int) by omega, idx_at (show k - 1 < states.length by omega)]
          rw [show (k == 0) = false by simpa using h0, Bool.false_or, getD_at hlt, getD_at (show k - 1 < states.length by omega), e] at hsc
          simp only [cond_true, Option.bind_some]
          by_cases hle : (m : Int) ≤ states[k - 1]
          · rw [decide_eq_true hle]
            rw [decide_eq_false (by omega)] at hsc
            exact .inr ⟨_, rfl, .inl ⟨ascTo_no hlt hsc, _, rfl⟩⟩
          · rw [decide_eq_false hle]
            rw [decide_eq_true (by omega)] at hsc
            simp only [cond_false, rm_idx _ hm, rm_at _ hm, Option.bind_some, hset]
            exact .inl ⟨_, rfl, hlt, rfl, hsc⟩
      · obtain rfl : k = states.length := by omega
        simp only [lt_no, cond_false]
        refine .inr ⟨_, rfl, .inr ⟨hasc, ?_⟩⟩
        rw [rm_congr (g' := inS states) fun j hj => by unfold inTo inS; rw [List.take_length]]) (s := (0, rm (2 ^ l.length) (fun _ => false), ())) ⟨by
          rw [rm_congr (g' := inTo states 0) fun j hj => by simp [inTo]]; rfl, rfl⟩
  refine bind_of g1 ?_
  rcases g2 with ⟨hasc, L, rfl⟩ | ⟨hasc, rfl⟩
  · rw [hasc]; rfl
  rw [hasc]
  simp only [Bool.not_true, cond_false, Option.bind_some]
  have hi : ∀ g : Nat → Bool, idx (rm (2 ^ l.length) g) 0 = some (g 0) := fun g => rm_idx (k := 0) g hp
  have ha : ∀ g : Nat → Bool, (rm (2 ^ l.length) g)[Int.toNat 0]? = some (g 0) := fun g => rm_at (k := 0) g hp
  simp only [rm_idx _ (show 2 ^ l.length - 1 < 2 ^ l.length by omega), rm_at _ (show 2 ^ l.length - 1 < 2 ^ l.length by omega), Option.bind_some, hi, ha]
  have ec : ((bif inS states (2 ^ l.length - 1) then some (true, ()) else (bif heldM s l 0 then some ((!inS states 0), ()) else some (false, ()))) : Option (Bool × Unit)) = some (inS states (2 ^ l.length - 1) || (heldM s l 0 && !inS states 0), ()) := by
    cases inS states (2 ^ l.length - 1) <;> cases heldM s l 0 <;> rfl
  rw [ec]
  simp only [Option.bind_some]
  cases inS states (2 ^ l.length - 1) || (heldM s l 0 && !inS states 0) with
  | true => rfl
  | false =>
    simp only [cond_false]
    rw [iter_no states (by omega) (fun x => !(List.range l.length).any fun i => heldM s l (orB x.toNat i) && !inS states (orB x.toNat i)) (.inl (false, 0, ())) (.inr ()) (fun k hk => by
      obtain ⟨m, e, hm⟩ := hx k hk
      simp only [lt_yes hk, cond_true, idx_at hk, Option.bind_some, e, Int.toNat_natCast]
      rw [wrap64 (n := (k : Int) + 1) (by omega) (by omega)]
      refine bind_of (iter_any l.length (by omega) (fun i => heldM s l (orB m i) && !inS states (orB m i)) (.inl (true, ())) (.inr ()) (fun i hi => ?_) (by simp only [lt_no, cond_false])) ?_
      · have hlt := orB_lt h7 hm hi
        simp only [lt_yes hi, cond_true, if_neg (show ¬ (i : Int) < 0 by omega), pw i (by omega), b_or2 m i (by omega) (by omega), rm_idx _ hlt, rm_at _ hlt, Option.bind_some]
        rw [wrap64 (n := (i : Int) + 1) (by omega) (by omega)]
        cases heldM s l (orB m i) <;> cases inS states (orB m i) <;> rfl
      · cases (List.range l.length).any (fun i => heldM s l (orB m i) && !inS states (orB m i)) <;> rfl) (by simp only [lt_no, cond_false])]
    have e : (states.all fun x => !(List.range l.length).any fun i => heldM s l (orB x.toNat i) && !inS states (orB x.toNat i)) = !exB l.length (heldM s l) states := by unfold exB; rw [List.not_any_eq_all_not]
    rw [e]
    cases exB l.length (heldM s l) states <;> rfl
theorem f_Proves (h : longB s l = false) (states : List Int) (hs : states.length ≤ 200) : F_loadin_Proves s l states = some (resP s l (fun e => (false, e)) (provesP l.length (heldM s l) states)) := by
  rw [F_Proves_eq]
  exact c_res h _ _ _ _ rfl rfl fun hf => k_proves hf states hs _ _
end
end Go.Proofs.Ytmdghocpelkcoaa

/- Loading in: the reference's Proves; Closed and Proves return what is specified. -/
namespace Go.Proofs.Ytmdghocpelkcoaa
set_option linter.unusedSimpArgs false
set_option linter.unusedVariables false

theorem asc_iff (states : List Int) : ascTo states states.length = true ↔ ∀ k, 1 ≤ k → (hk : k < states.length) → ¬ states[k] ≤ states[k - 1] := by
  unfold ascTo
  rw [List.all_eq_true]
  constructor
  · intro h k hk1 hk
    have := h k (List.mem_range.2 hk)
    rw [show (k == 0) = false by simpa using (show k ≠ 0 by omega), Bool.false_or, getD_at hk, getD_at (show k - 1 < states.length by omega), decide_eq_true_eq] at this
    omega
  · intro h k hk
    have hk := List.mem_range.1 hk
    by_cases h0 : k = 0
    · subst h0; rfl
    · have := h k (by omega) hk
      rw [show (k == 0) = false by simpa using h0, Bool.false_or, getD_at hk, getD_at (show k - 1 < states.length by omega), decide_eq_true_eq]
      omega
section
variable {s : TSet} {l : List TJob}
theorem f_rProves (h : longB s l = false) (states : List Int) (hs : states.length ≤ 200) : F_ref28_Proves s l states = some (resP s l (fun e => (false, e)) (provesP l.length (heldM s l) states)) := by
  unfold F_ref28_Proves
  rw [f_Given h]
  unfold resP
  cases ho : okB s l with
  | false => rfl
  | true =>
    simp only [cond_true]
    by_cases hmn : 12 < l.length
    · rw [decide_eq_true hmn]; rfl
    rw [decide_eq_false hmn]
    have hf := few_of h ho hmn
    have h7 := hf.n7
    have hN := hf.N
    have hp := Nat.two_pow_pos l.length
    have e0 : ((0 : Int) != 0) = false := rfl
    simp only [cond_false, Option.bind_some, e0]
    rw [if_neg (show ¬ ((l.length : Nat) : Int) < 0 by omega)]
    simp only [pw l.length (by omega)]
    simp only [Int.toNat_natCast, rm_rep]
    rw [if_pos (by omega)]
    unfold provesP
    obtain ⟨r, g1, g2⟩ := iter_inv (F := fun s17 : Int × List Bool × Unit => (bif (decide (s17.1 < ((states.length : Nat) : Int))) then ((idx states s17.1).bind fun x18 => (bif (decide (x18 < 0)) then some (true, ()) else (idx states s17.1).bind fun x19 => some ((decide (x19 ≥ ((s17.2.1.length : Nat) : Int))), ())) : Option (Bool × Unit)).bind fun y20 => (bif y20.1 then some (.inr (.inl (false, 2, s17.2.1, ()))) else (idx states s17.1).bind fun x21 => (idx s17.2.1 x21).bind fun _x22 => (s17.2.1[(Int.toNat x21)]?).bind fun x23 => some (.inl ((IntKind.i64.wrap (s17.1 + 1)), (s17.2.1.set (Int.toNat x21) true), ()))) else some (.inr (.inr ((s17.2.1, ())))) : Option ((Int × List Bool × Unit) ⊕ ((Bool × Int × List Bool × Unit) ⊕ (List Bool × Unit)))))
      (Q := fun r => (states.any (badI (2 ^ l.length)) = true ∧ ∃ L, r = .inl (false, 2, L, ())) ∨ (states.any (badI (2 ^ l.length)) = false ∧ r = .inr (rm (2 ^ l.length) (inS states), ())))
      (fun k z => z = ((k : Int), rm (2 ^ l.length) (inTo states k), ()) ∧ (states.take k).any (badI (2 ^ l.length)) = false) states.length (by unfold big; omega) (fun k z hk hz => by
        obtain ⟨rfl, hno⟩ := hz
        rcases Nat.lt_or_ge k states.length with hlt | hge
        · simp only [lt_yes hlt, cond_true, idx_at hlt, Option.bind_some, rm_len]
          rw [wrap64 (n := (k : Int) + 1) (by omega) (by omega)]
          cases hbk : badI (2 ^ l.length) states[k] with
          | true =>
            have e : ((bif decide (states[k] < 0) then some (true, ()) else some ((decide (states[k] ≥ ((2 ^ l.length : Nat) : Int))), ())) : Option (Bool × Unit)) = some (true, ()) := by
              unfold badI at hbk
              cases hd : decide (states[k] < 0) with
              | true => rfl
              | false => rw [hd, Bool.false_or] at hbk; rw [hbk]; rfl
            rw [e]
            exact .inr ⟨_, rfl, .inl ⟨List.any_eq_true.2 ⟨_, List.getElem_mem hlt, hbk⟩, _, rfl⟩⟩
          | false =>
            have e : ((bif decide (states[k] < 0) then some (true, ()) else some ((decide (states[k] ≥ ((2 ^ l.length : Nat) : Int))), ())) : Option (Bool × Unit)) = some (false, ()) := by
              unfold badI at hbk
              rw [Bool.or_eq_false_iff] at hbk
              rw [hbk.1, hbk.2]; rfl
            rw [e]
            obtain ⟨m, em, hm⟩ := bad_no hbk
            have hset : (rm (2 ^ l.length) (inTo states k)).set (Int.toNat (m : Int)) true = rm (2 ^ l.length) (inTo states (k + 1)) := rm_set _ _ fun j hj => inTo_succ hlt em j
            simp only [Option.bind_some, cond_false, em, rm_idx _ hm, rm_at _ hm, hset]
            refine .inl ⟨_, rfl, hlt, rfl, ?_⟩
            rw [List.take_succ_eq_append_getElem hlt, List.any_append, hno]
            simp [hbk]
        · obtain rfl : k = states.length := by omega
          rw [List.take_length] at hno
          simp only [lt_no, cond_false]
          refine .inr ⟨_, rfl, .inr ⟨hno, ?_⟩⟩
          rw [rm_congr (g' := inS states) fun j hj => by unfold inTo inS; rw [List.take_length]]) (s := (0, rm (2 ^ l.length) (fun _ => false), ())) ⟨by
            rw [rm_congr (g' := inTo states 0) fun j hj => by simp [inTo]]; rfl, by simp⟩
    refine bind_of g1 ?_
    rcases g2 with ⟨hb, L, rfl⟩ | ⟨hb, rfl⟩
    · rw [hb]; rfl
    rw [hb]
    simp only [cond_false]
    obtain ⟨r, g1, g2⟩ := iter_anyR (F := fun s29 : Int × Unit => (bif (decide (s29.1 < ((states.length : Nat) : Int))) then (idx states s29.1).bind fun x30 => (idx states (IntKind.i64.wrap (s29.1 - 1))).bind fun x31 => (bif (decide (x30 ≤ x31)) then some (.inr (.inl (false, 17, ()))) else some (.inl ((IntKind.i64.wrap (s29.1 + 1)), ()))) else some (.inr (.inr ((())))) : Option ((Int × Unit) ⊕ ((Bool × Int × Unit) ⊕ Unit)))) 1 states.length (by omega) (fun k => decide (states.getD k 0 ≤ states.getD (k - 1) 0)) (.inl (false, 17, ())) (.inr ()) (fun k hk1 hk => by
      simp only [lt_yes hk, cond_true, idx_at hk, Option.bind_some]
      rw [wrap64 (n := (k : Int) + 1) (by omega) (by omega), wrap64 (n := (k : Int) - 1) (by omega) (by omega), show (k : Int) - 1 = ((k - 1 : Nat) : Int) by omega, idx_at (show k - 1 < states.length by omega), getD_at hk, getD_at (show k - 1 < states.length by omega)]
      simp only [Option.bind_some]
      cases decide (states[k] ≤ states[k - 1]) <;> rfl) (fun k hk1 hk2 => by
      have : decide ((k : Int) < ((states.length : Nat) : Int)) = false := decide_eq_false (by omega)
      simp only [this, cond_false])
    refine bind_of g1 ?_
    rcases g2 with ⟨k, hk1, hk2, hk3, rfl⟩ | ⟨hno, rfl⟩
    · have hasc : ascTo states states.length = false := by
        rw [← Bool.not_eq_true, asc_iff]
        intro hall
        have h1 := of_decide_eq_true hk3
        rw [getD_at hk2, getD_at (show k - 1 < states.length by omega)] at h1
        exact hall k hk1 hk2 h1
      rw [hasc]; rfl
    have hasc : ascTo states states.length = true := by
      rw [asc_iff]
      intro k hk1 hk2 hle
      have h1 := of_decide_eq_false (hno k hk1 hk2)
      rw [getD_at hk2, getD_at (show k - 1 < states.length by omega)] at h1
      exact h1 hle
    rw [hasc]
    have ew : IntKind.i64.wrap (((rm (2 ^ l.length) (inS states)).length : Int) - 1) = ((2 ^ l.length - 1 : Nat) : Int) := by rw [rm_len, wrap64 (by omega) (by omega)]; omega
    simp only [Bool.not_true, cond_false, ew]
    have hi : ∀ g : Nat → Bool, idx (rm (2 ^ l.length) g) 0 = some (g 0) := fun g => rm_idx (k := 0) g hp
    have ha : ∀ g : Nat → Bool, (rm (2 ^ l.length) g)[Int.toNat 0]? = some (g 0) := fun g => rm_at (k := 0) g hp
    have hh0 : F_ref28_Held s l 0 = some (heldM s l 0) := f_rheldM hf 0 (by omega)
    simp only [rm_idx _ (show 2 ^ l.length - 1 < 2 ^ l.length by omega), rm_at _ (show 2 ^ l.length - 1 < 2 ^ l.length by omega), Option.bind_some, hi, ha, hh0]
    have ec : ((bif inS states (2 ^ l.length - 1) then some (true, ()) else (bif heldM s l 0 then some ((!inS states 0), ()) else some (false, ()))) : Option (Bool × Unit)) = some (inS states (2 ^ l.length - 1) || (heldM s l 0 && !inS states 0), ()) := by
      cases inS states (2 ^ l.length - 1) <;> cases heldM s l 0 <;> rfl
    rw [ec]
    simp only [Option.bind_some]
    cases inS states (2 ^ l.length - 1) || (heldM s l 0 && !inS states 0) with
    | true => rfl
    | false =>
      simp only [cond_false, rm_len]
      rw [iter_any (ρ := (Bool × Int × Unit) ⊕ Unit) (2 ^ l.length) (by omega) (fun m => (List.range l.length).any fun i => inS states m && (!m.testBit i && (!inS states (m + 2 ^ i) && heldM s l (m + 2 ^ i)))) (.inl (false, 0, ())) (.inr ()) (fun m hm => by
        simp only [lt_yes hm, cond_true]
        rw [wrap64 (n := (m : Int) + 1) (by omega) (by omega)]
        refine bind_of (iter_any (ρ := (Bool × Int × Unit) ⊕ Unit) l.length (by omega) (fun i => inS states m && (!m.testBit i && (!inS states (m + 2 ^ i) && heldM s l (m + 2 ^ i)))) (.inl (false, 0, ())) (.inr ()) (fun i hi => ?_) (by simp only [lt_no, cond_false])) ?_
        · simp only [lt_yes hi, cond_true, rm_idx _ hm, rm_at _ hm, Option.bind_some, if_neg (show ¬ (i : Int) < 0 by omega), pw i (by omega), f_has m i (by omega) (by omega)]
          rw [wrap64 (n := (i : Int) + 1) (by omega) (by omega)]
          cases inS states m with
          | false => rfl
          | true =>
            simp only [cond_true, Bool.true_and]
            cases hbi : m.testBit i with
            | true => rfl
            | false =>
              have hup := bit_up l.length (by omega) m hm i hi hbi
              simp only [Bool.not_false, cond_true, Bool.true_and, b_or m i (by omega) (by omega) hbi, rm_idx _ hup, rm_at _ hup, Option.bind_some, f_rheldM hf _ (show m + 2 ^ i < 128 by omega)]
              cases inS states (m + 2 ^ i) <;> cases heldM s l (m + 2 ^ i) <;> rfl
        · cases (List.range l.length).any (fun i => inS states m && (!m.testBit i && (!inS states (m + 2 ^ i) && heldM s l (m + 2 ^ i)))) <;> rfl) (by simp only [lt_no, cond_false])]
      rw [exB_eq h7 _ hb]
      cases exB l.length (heldM s l) states <;> rfl
end
theorem filter_small {n : Nat} (hn : n ≤ 7) (p : Nat → Bool) : (ints ((List.range (2 ^ n)).filter p)).length ≤ 2147483648 := by
  have h1 := filter_len (p := p) (2 ^ n)
  have h2 := pow_le7 hn
  rw [ints_len]; omega
theorem main_LoadinCloses (x0 : TSet) (x1 : List TJob) (x2 : List Int) (w0 : W_Set x0) (w1 : W_l_Job x1) (w2 : W_l_int1 x2) : F_law28_LoadinCloses x0 x1 x2 = some true := by
  unfold F_law28_LoadinCloses
  rw [f_awake28, f_long28 x0 x1]
  simp only [Option.bind_some, Bool.not_true, cond_false]
  cases hl : longB x0 x1 with
  | true => rfl
  | false =>
    simp only [cond_false, Option.bind_some]
    by_cases hs : ((x2.length : Nat) : Int) > 200
    · rw [decide_eq_true hs]; rfl
    · rw [decide_eq_false hs]
      simp only [cond_false]
      rw [f_Closed hl, f_rClosed hl, f_Proves hl x2 (by omega), f_rProves hl x2 (by omega)]
      simp only [Option.bind_some, beq_self_eq_true, cond_true]
      have hq : (resP x0 x1 (fun e => (([] : List Int), e)) (closedP x1.length (heldM x0 x1))).1.length ≤ 2147483648 := by
        unfold resP
        cases ho : okB x0 x1 with
        | false => simp
        | true =>
          simp only [cond_true]
          by_cases hm : 12 < x1.length
          · rw [decide_eq_true hm]; simp
          · rw [decide_eq_false hm]
            simp only [cond_false]
            have h7 := (few_of hl ho hm).n7
            unfold closedP
            cases reachV x1.length (heldM x0 x1) (2 ^ x1.length - 1) with
            | true => simp
            | false => exact filter_small h7 _
      rw [f_equal_refl _ hq]
      rfl
end Go.Proofs.Ytmdghocpelkcoaa

/- The plain sentences of BrakeFirst and BrakeOrder. -/
namespace Go.Proofs.Ytmdghocpelkcoaa
set_option linter.unusedSimpArgs false
set_option linter.unusedVariables false

theorem iter_all {ρ : Type} {F : Int × Unit → Option ((Int × Unit) ⊕ ρ)} (n : Nat) (hn : n < 9223372036854775807) (d : ρ) (hin : ∀ (k : Nat), k < n → F ((k : Int), ()) = some (.inl ((k : Int) + 1, ()))) (hout : F ((n : Int), ()) = some (.inr d)) : iterF F big (0, ()) = some d := by
  obtain ⟨r, g1, g2⟩ := iter_inv (F := F) (Q := fun r => r = d) (fun k t => t = ((k : Int), ())) n (by unfold big; omega) (fun k t hk ht => by
    subst ht
    by_cases hlt : k < n
    · exact .inl ⟨_, hin k hlt, hlt, by simp⟩
    · obtain rfl : k = n := by omega
      exact .inr ⟨_, hout, rfl⟩) (s := (0, ())) rfl
  rw [g1, g2]
theorem iter_rev {α : Type} (l : List α) (hl : l.length ≤ 2147483648) :
    (iterF (σ := Int × Int × List α × Unit) (ρ := List α × Unit) (fun s61 => (bif (decide (s61.1 < s61.2.1)) then (idx s61.2.2.1 s61.2.1).bind fun _x62 => (s61.2.2.1[(Int.toNat s61.2.1)]?).bind fun x63 => (idx s61.2.2.1 s61.1).bind fun _x64 => (s61.2.2.1[(Int.toNat s61.1)]?).bind fun x65 => (idx s61.2.2.1 s61.1).bind fun _x66 => (s61.2.2.1[(Int.toNat s61.1)]?).bind fun x67 => (idx (s61.2.2.1.set (Int.toNat s61.1) x63) s61.2.1).bind fun _x68 => ((s61.2.2.1.set (Int.toNat s61.1) x63)[(Int.toNat s61.2.1)]?).bind fun x69 => some (.inl ((IntKind.i64.wrap (s61.1 + 1)), (IntKind.i64.wrap (s61.2.1 - 1)), ((s61.2.2.1.set (Int.toNat s61.1) x63).set (Int.toNat s61.2.1) x65), ())) else some (.inr (s61.2.2.1, ())))) big (0, (IntKind.i64.wrap (((l.length : Nat) : Int) - 1)), l, ())) = some (l.reverse, ()) := by
  rw [wrap64 (by omega) (by omega)]
  obtain ⟨r, g1, g2⟩ := iter_inv (F := fun s61 : Int × Int × List α × Unit => (bif (decide (s61.1 < s61.2.1)) then (idx s61.2.2.1 s61.2.1).bind fun _x62 => (s61.2.2.1[(Int.toNat s61.2.1)]?).bind fun x63 => (idx s61.2.2.1 s61.1).bind fun _x64 => (s61.2.2.1[(Int.toNat s61.1)]?).bind fun x65 => (idx s61.2.2.1 s61.1).bind fun _x66 => (s61.2.2.1[(Int.toNat s61.1)]?).bind fun x67 => (idx (s61.2.2.1.set (Int.toNat s61.1) x63) s61.2.1).bind fun _x68 => ((s61.2.2.1.set (Int.toNat s61.1) x63)[(Int.toNat s61.2.1)]?).bind fun x69 => some (.inl ((IntKind.i64.wrap (s61.1 + 1)), (IntKind.i64.wrap (s61.2.1 - 1)), ((s61.2.2.1.set (Int.toNat s61.1) x63).set (Int.toNat s61.2.1) x65), ())) else some (.inr (s61.2.2.1, ())) : Option ((Int × Int × List α × Unit) ⊕ (List α × Unit))))
    (Q := fun r => r = (l.reverse, ())) (fun k s => ∃ t : List α, s = ((k : Int), (l.length : Int) - 1 - (k : Int), t, ()) ∧ t.length = l.length ∧ ∀ i, i < l.length → t[i]? = if i < k ∨ l.length ≤ i + k then l[l.length - 1 - i]? else l[i]?) l.length (by unfold big; omega) (fun k s hk hs => by
      obtain ⟨t, rfl, ht, hg⟩ := hs
      by_cases hlt : (k : Int) < (l.length : Int) - 1 - (k : Int)
      · have hj : ∃ j : Nat, (l.length : Int) - 1 - (k : Int) = (j : Int) ∧ j = l.length - 1 - k := ⟨l.length - 1 - k, by omega, rfl⟩
        obtain ⟨j, ej, hj⟩ := hj
        rw [ej] at hlt ⊢
        have hkt : k < t.length := by omega
        have hjt : j < t.length := by omega
        have hk2 : k < (t.set k t[j]).length := by rw [List.length_set]; exact hkt
        have hj2 : j < (t.set k t[j]).length := by rw [List.length_set]; exact hjt
        refine .inl ⟨((k : Int) + 1, (j : Int) - 1, (t.set k t[j]).set j t[k], ()), ?_, by omega, (t.set k t[j]).set j t[k], ?_, ?_, ?_⟩
        · simp only [decide_eq_true hlt, cond_true, idx_at hkt, idx_at hjt, Option.bind_some, Int.toNat_natCast, List.getElem?_eq_getElem hkt, List.getElem?_eq_getElem hjt, idx_at hj2, List.getElem?_eq_getElem hj2]
          rw [wrap64 (by omega) (by omega), wrap64 (by omega) (by omega)]
        · congr 1
          · congr 1; omega
        · simp [ht]
        · intro i hi
          have h1 := hg i hi
          rw [List.getElem?_set, List.length_set]
          by_cases e1 : j = i
          · subst e1
            have h2 := hg k (by omega)
            rw [if_pos rfl, if_pos hjt, if_pos (by omega), ← List.getElem?_eq_getElem hkt, h2, if_neg (by omega)]
            congr 1; omega
          · rw [if_neg e1, List.getElem?_set]
            by_cases e2 : k = i
            · subst e2
              have h2 := hg j (by omega)
              rw [if_pos rfl, if_pos hkt, if_pos (by omega), ← List.getElem?_eq_getElem hjt, h2, if_neg (by omega), hj]
            · rw [if_neg e2, h1]
              by_cases c : i < k ∨ l.length ≤ i + k
              · rw [if_pos c, if_pos (by omega)]
              · rw [if_neg c, if_neg (by omega)]
      · refine .inr ⟨(t, ()), by simp only [decide_eq_false hlt, cond_false], ?_⟩
        congr 1
        apply List.ext_getElem?
        intro i
        by_cases hi : i < l.length
        · rw [hg i hi, List.getElem?_reverse hi]
          by_cases c : i < k ∨ l.length ≤ i + k
          · rw [if_pos c]
          · rw [if_neg c]
            congr 1; omega
        · rw [List.getElem?_eq_none (by omega), List.getElem?_eq_none (by simp; omega)]) (s := (0, (l.length : Int) - 1, l, ())) ⟨l, by simp, rfl, fun i hi => by rw [if_neg (by omega)]⟩
  subst g2
  exact g1
theorem first_spec (s : TSet) (p : List Int) : (firstI s p = -1 ∧ ∀ (j : Nat) (h : j < p.length), heldB s p[j] = true) ∨ ∃ (i : Nat) (h : i < p.length), firstI s p = (i : Int) ∧ heldB s p[i] = false ∧ ∀ (j : Nat) (hj : j < i), heldB s (p[j]'(by omega)) = true := by
  unfold firstI
  cases h : p.findIdx? fun z => !heldB s z with
  | none =>
    rw [List.findIdx?_eq_none_iff] at h
    exact .inl ⟨rfl, fun j hj => by have := h _ (List.getElem_mem hj); simpa using this⟩
  | some i =>
    obtain ⟨hi, hg, hb⟩ := List.findIdx?_eq_some_iff_getElem.1 h
    exact .inr ⟨i, hi, rfl, by simpa using hg, fun j hj => by have := hb j hj; simpa using this⟩
theorem widest_le (p : List Int) (M : Int) : widestI p ≤ M ↔ 0 ≤ M ∧ ∀ x ∈ p, x ≤ M ∧ -x ≤ M := by
  have key : ∀ (l : List Int) (t : Int), l.foldl (fun t x => max (max t x) (-x)) t ≤ M ↔ t ≤ M ∧ ∀ x ∈ l, x ≤ M ∧ -x ≤ M := by
    intro l
    induction l with
    | nil => intro t; simp
    | cons x l ih =>
      intro t
      rw [List.foldl_cons, ih]
      constructor
      · rintro ⟨h1, h2⟩
        refine ⟨by omega, fun y hy => ?_⟩
        rcases List.mem_cons.1 hy with rfl | hy
        · omega
        · exact h2 y hy
      · rintro ⟨h1, h2⟩
        have := h2 x List.mem_cons_self
        exact ⟨by omega, fun y hy => h2 y (List.mem_cons_of_mem _ hy)⟩
  exact key p 0
theorem widest_held {s : TSet} (h : Good s) (p : List Int) : decide (widestI p ≤ s.brake) = decide (firstI s p < 0) := by
  have hb := h.b0
  rw [decide_eq_decide, widest_le]
  rcases first_spec s p with ⟨e, hall⟩ | ⟨i, hi, e, hno, -⟩
  · rw [e]
    refine ⟨fun _ => by decide, fun _ => ⟨hb, fun x hx => ?_⟩⟩
    obtain ⟨j, hj, rfl⟩ := List.mem_iff_getElem.1 hx
    have := (held_iff s _).1 (hall j hj)
    omega
  · rw [e]
    refine ⟨fun hw => ?_, fun hw => by omega⟩
    have h1 := hw.2 _ (List.getElem_mem hi)
    have : heldB s p[i] = true := (held_iff s _).2 (by omega)
    rw [hno] at this; cases this
def cutI (s : TSet) (p : List Int) : Int := if firstI s p < 0 then (p.length : Int) else firstI s p
theorem cut_spec (s : TSet) (p : List Int) : 0 ≤ cutI s p ∧ cutI s p ≤ (p.length : Int) ∧ ∀ (j : Nat) (h : j < p.length), ((j : Int) < cutI s p → heldB s p[j] = true) ∧ ((j : Int) = cutI s p → heldB s p[j] = false) := by
  unfold cutI
  rcases first_spec s p with ⟨e, hall⟩ | ⟨i, hi, e, hno, hyes⟩
  · rw [e, if_pos (by decide)]
    exact ⟨by omega, by omega, fun j hj => ⟨fun _ => hall j hj, fun h => by omega⟩⟩
  · rw [e, if_neg (by omega)]
    refine ⟨by omega, by omega, fun j hj => ⟨fun h => hyes j (by omega), fun h => ?_⟩⟩
    obtain rfl : j = i := by omega
    exact hno
def moreS (s : TSet) (b : Int) : TSet := TSet.mk s.name s.depth s.low s.high s.length s.lines s.pipe s.arbor s.purchase s.most b s.items s.bricks
theorem main_BrakeFirst (x0 : TSet) (x1 : List TJob) (x2 : Int) (w0 : W_Set x0) (w1 : W_l_Job x1) (w2 : W_u16 x2) : F_law27_BrakeFirst x0 x1 x2 = some true := by
  have hx2 : 0 ≤ x2 ∧ x2 ≤ 65535 := by
    have h : (Lit.int .u16 x2).wf = true := w2
    unfold Lit.wf at h
    have h2 : IntKind.u16.min ≤ x2 ∧ x2 ≤ IntKind.u16.max := by simpa using h
    exact h2
  unfold F_law27_BrakeFirst
  rw [f_awake27, f_few27]
  simp only [Option.bind_some, Bool.not_true, cond_false]
  cases hs : few27 x0 x1 with
  | false => rfl
  | true =>
    obtain ⟨hf, hl, hn⟩ := few_ok hs
    simp only [Bool.not_true, cond_false]
    rw [f_path x0 x1 hf hn, f_first x0 x1 hf hn, f_widest x0 x1 hf hn]
    simp only [Option.bind_some]
    unfold pathP widestP
    cases ho : okB x0 x1 with
    | false => unfold firstP; rw [ho]; rfl
    | true =>
      obtain ⟨hg, hj, hv⟩ := okB_ok ho
      have e0 : ((0 : Int) != 0) = false := rfl
      have hb := path_bound hg hj
      have hpl := path_len (balanceI x0) (chI x0) x1
      have hjl := jobs_len hj
      have hbr0 := hg.b0
      have hbr1 := hg.b1
      simp only [cond_true, e0, cond_false]
      -- the wider brake
      have hmore : (F_brake_First (TSet.mk x0.name x0.depth x0.low x0.high x0.length x0.lines x0.pipe x0.arbor x0.purchase x0.most (IntKind.i64.wrap (x0.brake + (IntKind.i64.wrap x2))) x0.items x0.bricks) x1).bind (fun r23 => ((bif (r23.2 == 12) then some (true, ()) else (bif (r23.2 == 1) then some (true, ()) else (bif (r23.2 == 0) then some ((decide (r23.1 ≥ cutI x0 (pathL (balanceI x0) (chI x0) x1))), ()) else some (false, ())))) : Option (Bool × Unit)).bind fun y24 => some y24.1) = some true := by
        rw [wrap64 (n := x2) (by omega) (by omega), wrap64 (n := x0.brake + x2) (by omega) (by omega)]
        have hf' : Fits (moreS x0 (x0.brake + x2)) := ⟨hf.name, hf.lines, hf.items, hf.bricks, hf.inames, hf.bnames⟩
        show (F_brake_First (moreS x0 (x0.brake + x2)) x1).bind _ = _
        rw [f_first _ x1 hf' hn]
        simp only [Option.bind_some]
        unfold firstP
        cases ho' : okB (moreS x0 (x0.brake + x2)) x1 with
        | false => rfl
        | true =>
          have ep : pathL (balanceI (moreS x0 (x0.brake + x2))) (chI (moreS x0 (x0.brake + x2))) x1 = pathL (balanceI x0) (chI x0) x1 := rfl
          rw [ep]
          simp only [cond_true]
          generalize pathL (balanceI x0) (chI x0) x1 = p at *
          have hc := cut_spec x0 p
          have hheld : ∀ x, heldB x0 x = true → heldB (moreS x0 (x0.brake + x2)) x = true := fun x hx => by
            rw [held_iff] at hx ⊢
            show -(x0.brake + x2) ≤ x ∧ x ≤ x0.brake + x2
            omega
          rcases first_spec (moreS x0 (x0.brake + x2)) p with ⟨e, -⟩ | ⟨i, hi, e, hno, -⟩
          · rw [e]; rfl
          · rw [e, decide_eq_false (show ¬ (i : Int) < 0 by omega)]
            have hge : (i : Int) ≥ cutI x0 p := by
              apply Classical.byContradiction
              intro hlt
              have h1 := hheld _ ((hc.2.2 i hi).1 (by omega))
              rw [hno] at h1; cases h1
            simp only [cond_false]
            rw [decide_eq_true hge]
            rfl
      have hwi := widest_held hg (pathL (balanceI x0) (chI x0) x1)
      have hc := cut_spec x0 (pathL (balanceI x0) (chI x0) x1)
      have hcut : cutI x0 (pathL (balanceI x0) (chI x0) x1) = if firstI x0 (pathL (balanceI x0) (chI x0) x1) < 0 then ((pathL (balanceI x0) (chI x0) x1).length : Int) else firstI x0 (pathL (balanceI x0) (chI x0) x1) := rfl
      have hW := (widest_le (pathL (balanceI x0) (chI x0) x1) (widestI (pathL (balanceI x0) (chI x0) x1))).1 (Int.le_refl _)
      have hfp : firstP x0 x1 = bif decide (firstI x0 (pathL (balanceI x0) (chI x0) x1) < 0) then (0, 12) else (firstI x0 (pathL (balanceI x0) (chI x0) x1), 0) := by unfold firstP; rw [ho]; rfl
      rw [hfp]
      have hloop : iterF (σ := Int × Unit) (ρ := (Bool × Unit) ⊕ (Unit)) (fun s15 => (bif (decide (s15.1 < (((pathL (balanceI x0) (chI x0) x1).length : Nat) : Int))) then (idx (pathL (balanceI x0) (chI x0) x1) s15.1).bind fun _x16 => ((pathL (balanceI x0) (chI x0) x1)[(Int.toNat s15.1)]?).bind fun x17 => (F_brake_Holds x0 x17).bind fun r18 => ((bif (r18.2 != 0) then some (true, ()) else (bif (decide (s15.1 < cutI x0 (pathL (balanceI x0) (chI x0) x1))) then (bif (!r18.1) then some (true, ()) else (bif (s15.1 == cutI x0 (pathL (balanceI x0) (chI x0) x1)) then (bif r18.1 then some (true, ()) else (bif (decide (x17 > widestI (pathL (balanceI x0) (chI x0) x1))) then some (true, ()) else some ((decide ((IntKind.i64.wrap (0 - x17)) > widestI (pathL (balanceI x0) (chI x0) x1))), ()))) else (bif (decide (x17 > widestI (pathL (balanceI x0) (chI x0) x1))) then some (true, ()) else some ((decide ((IntKind.i64.wrap (0 - x17)) > widestI (pathL (balanceI x0) (chI x0) x1))), ())))) else (bif (s15.1 == cutI x0 (pathL (balanceI x0) (chI x0) x1)) then (bif r18.1 then some (true, ()) else (bif (decide (x17 > widestI (pathL (balanceI x0) (chI x0) x1))) then some (true, ()) else some ((decide ((IntKind.i64.wrap (0 - x17)) > widestI (pathL (balanceI x0) (chI x0) x1))), ()))) else (bif (decide (x17 > widestI (pathL (balanceI x0) (chI x0) x1))) then some (true, ()) else some ((decide ((IntKind.i64.wrap (0 - x17)) > widestI (pathL (balanceI x0) (chI x0) x1))), ()))))) : Option (Bool × Unit)).bind fun y19 => (bif y19.1 then some (.inr (.inl (false, ()))) else some (.inl ((IntKind.i64.wrap (s15.1 + 1)), ()))) else some (.inr (.inr ((())))))) big (0, ()) = some (.inr ()) := by
        refine iter_all (pathL (balanceI x0) (chI x0) x1).length (by omega) (Sum.inr ()) (fun k hk => ?_) (by simp only [lt_no, cond_false])
        have hx := hb _ (List.getElem_mem hk)
        have hxw := hW.2 _ (List.getElem_mem hk)
        have hck := hc.2.2 k hk
        simp only [lt_yes hk, cond_true, idx_at hk, at_some hk, Option.bind_some]
        rw [f_Holds x0 _ hf, hv]
        simp only [cond_true, Option.bind_some, e0, cond_false]
        rw [Int.zero_sub, wrap64 (n := -(pathL (balanceI x0) (chI x0) x1)[k]) (by omega) (by omega), decide_eq_false (show ¬ (pathL (balanceI x0) (chI x0) x1)[k] > widestI (pathL (balanceI x0) (chI x0) x1) by omega), decide_eq_false (show ¬ -(pathL (balanceI x0) (chI x0) x1)[k] > widestI (pathL (balanceI x0) (chI x0) x1) by omega), wrap64 (by omega) (by omega)]
        by_cases h1 : (k : Int) < cutI x0 (pathL (balanceI x0) (chI x0) x1)
        · rw [decide_eq_true h1, hck.1 h1, show ((k : Int) == cutI x0 (pathL (balanceI x0) (chI x0) x1)) = false by rw [beq_eq_false_iff_ne]; omega]; rfl
        · rw [decide_eq_false h1]
          by_cases h2 : (k : Int) = cutI x0 (pathL (balanceI x0) (chI x0) x1)
          · rw [hck.2 h2, show ((k : Int) == cutI x0 (pathL (balanceI x0) (chI x0) x1)) = true by rw [beq_iff_eq]; exact h2]; rfl
          · rw [show ((k : Int) == cutI x0 (pathL (balanceI x0) (chI x0) x1)) = false by rw [beq_eq_false_iff_ne]; exact h2]; rfl
      have hrest : ∀ (c : Int) (e : Bool), c = cutI x0 (pathL (balanceI x0) (chI x0) x1) → decide (widestI (pathL (balanceI x0) (chI x0) x1) ≤ x0.brake) = e → ((bif (decide (c < 0)) then some (true, ()) else (bif (decide (c > (((pathL (balanceI x0) (chI x0) x1).length : Nat) : Int))) then some (true, ()) else some ((!((decide (widestI (pathL (balanceI x0) (chI x0) x1) ≤ x0.brake)) == e)), ())) : Option (Bool × Unit)).bind fun y10 => (bif y10.1 then some false else (iterF (σ := Int × Unit) (ρ := (Bool × Unit) ⊕ (Unit)) (fun s15 => (bif (decide (s15.1 < (((pathL (balanceI x0) (chI x0) x1).length : Nat) : Int))) then (idx (pathL (balanceI x0) (chI x0) x1) s15.1).bind fun _x16 => ((pathL (balanceI x0) (chI x0) x1)[(Int.toNat s15.1)]?).bind fun x17 => (F_brake_Holds x0 x17).bind fun r18 => ((bif (r18.2 != 0) then some (true, ()) else (bif (decide (s15.1 < c)) then (bif (!r18.1) then some (true, ()) else (bif (s15.1 == c) then (bif r18.1 then some (true, ()) else (bif (decide (x17 > widestI (pathL (balanceI x0) (chI x0) x1))) then some (true, ()) else some ((decide ((IntKind.i64.wrap (0 - x17)) > widestI (pathL (balanceI x0) (chI x0) x1))), ()))) else (bif (decide (x17 > widestI (pathL (balanceI x0) (chI x0) x1))) then some (true, ()) else some ((decide ((IntKind.i64.wrap (0 - x17)) > widestI (pathL (balanceI x0) (chI x0) x1))), ())))) else (bif (s15.1 == c) then (bif r18.1 then some (true, ()) else (bif (decide (x17 > widestI (pathL (balanceI x0) (chI x0) x1))) then some (true, ()) else some ((decide ((IntKind.i64.wrap (0 - x17)) > widestI (pathL (balanceI x0) (chI x0) x1))), ()))) else (bif (decide (x17 > widestI (pathL (balanceI x0) (chI x0) x1))) then some (true, ()) else some ((decide ((IntKind.i64.wrap (0 - x17)) > widestI (pathL (balanceI x0) (chI x0) x1))), ()))))) : Option (Bool × Unit)).bind fun y19 => (bif y19.1 then some (.inr (.inl (false, ()))) else some (.inl ((IntKind.i64.wrap (s15.1 + 1)), ()))) else some (.inr (.inr ((())))))) big (0, ())).bind fun y20 => (match y20 with | .inl y21 => some y21.1 | .inr y22 => (F_brake_First (TSet.mk x0.name x0.depth x0.low x0.high x0.length x0.lines x0.pipe x0.arbor x0.purchase x0.most (IntKind.i64.wrap (x0.brake + (IntKind.i64.wrap x2))) x0.items x0.bricks) x1).bind fun r23 => ((bif (r23.2 == 12) then some (true, ()) else (bif (r23.2 == 1) then some (true, ()) else (bif (r23.2 == 0) then some ((decide (r23.1 ≥ c)), ()) else some (false, ())))) : Option (Bool × Unit)).bind fun y24 => some y24.1))) = some true := by
        intro c e hce he
        subst hce he
        rw [decide_eq_false (show ¬ cutI x0 (pathL (balanceI x0) (chI x0) x1) < 0 by omega), decide_eq_false (show ¬ cutI x0 (pathL (balanceI x0) (chI x0) x1) > ((pathL (balanceI x0) (chI x0) x1).length : Int) by omega)]
        simp only [beq_self_eq_true, Bool.not_true, cond_false, Option.bind_some]
        rw [hloop]
        exact hmore
      by_cases h0 : firstI x0 (pathL (balanceI x0) (chI x0) x1) < 0
      · rw [if_pos h0] at hcut
        rw [decide_eq_true h0] at hwi ⊢
        simp only [cond_true, beq_self_eq_true, Option.bind_some]
        exact hrest _ _ hcut.symm hwi
      · rw [if_neg h0] at hcut
        rw [decide_eq_false h0] at hwi ⊢
        have e12 : ((0 : Int) == 12) = false := rfl
        simp only [cond_false, e12, e0, Option.bind_some]
        exact hrest _ _ hcut.symm hwi
end Go.Proofs.Ytmdghocpelkcoaa

/- The plain sentence of BrakeOrder. -/
namespace Go.Proofs.Ytmdghocpelkcoaa
set_option linter.unusedSimpArgs false
set_option linter.unusedVariables false

theorem f_clone_job (l : List TJob) (h : l.length ≤ 2147483648) : F_slices_Clone_api_Job l = some l := by unfold F_slices_Clone_api_Job; rw [if_pos (by simpa using h)]; rfl
theorem jobs_rev1 {l : List TJob} (h : jobsB l = true) : jobsB l.reverse = true := by
  unfold jobsB at h ⊢
  simp only [Bool.and_eq_true, decide_eq_true_eq] at h ⊢
  obtain ⟨h8, hp⟩ := h
  refine ⟨by simpa using h8, ?_⟩
  rw [pairs_iff] at hp ⊢
  intro i hi
  have hi' : i < l.length := by simpa using hi
  refine ⟨?_, fun k hk => ?_⟩
  · rw [List.getElem_reverse]
    exact (hp _ (by omega)).1
  · rw [List.getElem_reverse, List.getElem_reverse]
    have h2 := (hp (l.length - 1 - k) (by omega)).2 (l.length - 1 - i) (by omega)
    rw [Bool.not_eq_true'] at h2 ⊢
    rw [Bool.eq_false_iff] at h2 ⊢
    intro e
    rw [sameName_iff] at e
    exact h2 ((sameName_iff _ _).2 e.symm)
theorem okB_rev (s : TSet) (l : List TJob) : okB s l.reverse = okB s l := by
  unfold okB
  congr 1
  cases h : jobsB l with
  | true => exact jobs_rev1 h
  | false =>
    cases h2 : jobsB l.reverse with
    | false => rfl
    | true =>
      have := jobs_rev1 h2
      rw [List.reverse_reverse, h] at this; cases this
theorem sum_rev (f : TJob → Int) (l : List TJob) : sumTo f l.reverse l.reverse.length = sumTo f l l.length := by
  rw [sumTo_all, sumTo_all, List.map_reverse, List.sum_reverse]
theorem jobs_one {l : List TJob} (h : jobsB l = true) {x : TJob} (hx : x ∈ l) : jobsB [x] = true := by
  unfold jobsB at h ⊢
  simp only [Bool.and_eq_true, decide_eq_true_eq] at h ⊢
  refine ⟨by simp, ?_⟩
  have h1 := pairs_one h.2 x hx
  rw [pairs_iff]
  intro i hi
  rw [List.length_singleton] at hi
  obtain rfl : i = 0 := by omega
  exact ⟨h1, fun k hk => absurd hk (by omega)⟩
def fP (x : TJob) : Int := bif x.pipe then x.weight else 0
def fA (x : TJob) : Int := bif x.pipe then 0 else x.weight
theorem ch_lin (s : TSet) (l : List TJob) : ∀ k, k ≤ l.length → sumTo (chI s) l k = s.purchase * sumTo fP l k - sumTo fA l k := by
  intro k
  induction k with
  | zero => intro _; rw [sumTo_zero, sumTo_zero, sumTo_zero]; omega
  | succ k ih =>
    intro hk
    rw [sumTo_succ _ _ _ (by omega), sumTo_succ _ _ _ (by omega), sumTo_succ _ _ _ (by omega), ih (by omega), Int.mul_add]
    unfold chI fP fA
    cases l[k].pipe with
    | true => simp only [cond_true]; omega
    | false => simp only [cond_false]; omega
theorem main_BrakeOrder (x0 : TSet) (x1 : List TJob) (w0 : W_Set x0) (w1 : W_l_Job x1) : F_law27_BrakeOrder x0 x1 = some true := by
  unfold F_law27_BrakeOrder
  rw [f_awake27, f_few27]
  simp only [Option.bind_some, Bool.not_true, cond_false]
  cases hs : few27 x0 x1 with
  | false => rfl
  | true =>
    obtain ⟨hf, hl, hn⟩ := few_ok hs
    simp only [Bool.not_true, cond_false]
    rw [f_path x0 x1 hf hn, f_clone_job x1 (by omega)]
    simp only [Option.bind_some]
    rw [iter_rev x1 (by omega)]
    simp only [Option.bind_some]
    rw [f_path x0 x1.reverse hf (fun x hx => hn x (List.mem_reverse.1 hx)), f_balance x0 hf]
    simp only [Option.bind_some]
    unfold pathP
    rw [okB_rev]
    cases ho : okB x0 x1 with
    | false => rfl
    | true =>
      obtain ⟨hg, hj, hv⟩ := okB_ok ho
      have e0 : ((0 : Int) != 0) = false := rfl
      have hjl := jobs_len hj
      have hlen := path_len (balanceI x0) (chI x0) x1
      have hlenR := path_len (balanceI x0) (chI x0) x1.reverse
      rw [List.length_reverse] at hlenR
      have hb := bal_bound hg
      rw [hv]
      simp only [cond_true, e0, cond_false, Option.bind_some, if_true]
      have hfirst : ∀ (p q : List Int) (n : Int), p.length = x1.length + 1 → q.length = x1.length + 1 → p[0]? = some n → q[0]? = some n → ((bif (((p.length : Nat) : Int) != (IntKind.i64.wrap (((x1.length : Nat) : Int) + 1))) then some (true, ()) else (bif (((q.length : Nat) : Int) != ((p.length : Nat) : Int)) then some (true, ()) else (idx p 0).bind fun _x36 => (p[(Int.toNat 0)]?).bind fun x37 => (bif (x37 != n) then some (true, ()) else (idx q 0).bind fun _x38 => (q[(Int.toNat 0)]?).bind fun x39 => some ((x39 != n), ())))) : Option (Bool × Unit)) = some (false, ()) := by
        intro p q n hp hq h1 h2
        rw [wrap64 (by omega) (by omega)]
        have e1 : (((p.length : Nat) : Int) != ((x1.length : Nat) : Int) + 1) = false := by rw [bne_eq_false_iff_eq]; omega
        have e2 : (((q.length : Nat) : Int) != ((p.length : Nat) : Int)) = false := by rw [bne_eq_false_iff_eq]; omega
        have i1 : idx p 0 = some (p[0]'(by omega)) := idx_at (k := 0) (by omega)
        have i2 : idx q 0 = some (q[0]'(by omega)) := idx_at (k := 0) (by omega)
        have t0 : Int.toNat 0 = 0 := rfl
        rw [e1, e2, i1, i2, t0, h1, h2]
        simp only [cond_false, Option.bind_some, bne_self_eq_false]
      have hp0 : (pathL (balanceI x0) (chI x0) x1)[0]? = some (balanceI x0) := by
        rw [List.getElem?_eq_getElem (by omega), path_at, sumTo_zero, Int.add_zero]
      have hq0 : (pathL (balanceI x0) (chI x0) x1.reverse)[0]? = some (balanceI x0) := by
        rw [List.getElem?_eq_getElem (by omega), path_at, sumTo_zero, Int.add_zero]
      rw [hfirst _ _ _ hlen hlenR hp0 hq0]
      simp only [Option.bind_some, cond_false]
      have hPb : ∀ k, k ≤ x1.length → -104857600 ≤ sumTo fP x1 k ∧ sumTo fP x1 k ≤ 104857600 := fun k hk => by
        have := sum_two fP x1 1048576 (by decide) (fun x hx => by have := jobs_good hj x hx; unfold fP; cases x.pipe <;> simp only [cond_true, cond_false] <;> omega) k hk
        omega
      have hAb : ∀ k, k ≤ x1.length → -104857600 ≤ sumTo fA x1 k ∧ sumTo fA x1 k ≤ 104857600 := fun k hk => by
        have := sum_two fA x1 1048576 (by decide) (fun x hx => by have := jobs_good hj x hx; unfold fA; cases x.pipe <;> simp only [cond_true, cond_false] <;> omega) k hk
        omega
      have hloop : iterF (σ := Int × Int × Int × Unit) (ρ := (Bool × Unit) ⊕ (Int × Int × Unit)) (fun s62 => (bif (decide (s62.2.2.1 < ((x1.length : Nat) : Int))) then ((idx x1 s62.2.2.1).bind fun x63 => (F_brake_Change x0 x63).bind fun r64 => ((bif (r64.2 != 0) then some (true, ()) else (idx (pathL (balanceI x0) (chI x0) x1) (IntKind.i64.wrap (s62.2.2.1 + 1))).bind fun _x65 => ((pathL (balanceI x0) (chI x0) x1)[(Int.toNat (IntKind.i64.wrap (s62.2.2.1 + 1)))]?).bind fun x66 => (idx (pathL (balanceI x0) (chI x0) x1) s62.2.2.1).bind fun _x67 => ((pathL (balanceI x0) (chI x0) x1)[(Int.toNat s62.2.2.1)]?).bind fun x68 => some ((x66 != (IntKind.i64.wrap (x68 + r64.1))), ())) : Option (Bool × Unit)).bind fun y69 => (bif y69.1 then some (.inl (false, ())) else (bif x63.pipe then some (.inr (((IntKind.i64.wrap (s62.1 + x63.weight)), s62.2.1, ()))) else some (.inr ((s62.1, (IntKind.i64.wrap (s62.2.1 + x63.weight)), ()))))) : Option ((Bool × Unit) ⊕ (Int × Int × Unit))).bind fun y70 => (match y70 with | .inl y71 => some (.inr (.inl (y71.1, ()))) | .inr y72 => some (.inl (y72.1, y72.2.1, (IntKind.i64.wrap (s62.2.2.1 + 1)), ()))) else some (.inr (.inr ((s62.1, s62.2.1, ())))))) big (0, 0, 0, ()) = some (.inr (sumTo fP x1 x1.length, sumTo fA x1 x1.length, ())) := by
        obtain ⟨r, g1, g2⟩ := iter_inv (F := fun s62 : Int × Int × Int × Unit => (bif (decide (s62.2.2.1 < ((x1.length : Nat) : Int))) then ((idx x1 s62.2.2.1).bind fun x63 => (F_brake_Change x0 x63).bind fun r64 => ((bif (r64.2 != 0) then some (true, ()) else (idx (pathL (balanceI x0) (chI x0) x1) (IntKind.i64.wrap (s62.2.2.1 + 1))).bind fun _x65 => ((pathL (balanceI x0) (chI x0) x1)[(Int.toNat (IntKind.i64.wrap (s62.2.2.1 + 1)))]?).bind fun x66 => (idx (pathL (balanceI x0) (chI x0) x1) s62.2.2.1).bind fun _x67 => ((pathL (balanceI x0) (chI x0) x1)[(Int.toNat s62.2.2.1)]?).bind fun x68 => some ((x66 != (IntKind.i64.wrap (x68 + r64.1))), ())) : Option (Bool × Unit)).bind fun y69 => (bif y69.1 then some (.inl (false, ())) else (bif x63.pipe then some (.inr (((IntKind.i64.wrap (s62.1 + x63.weight)), s62.2.1, ()))) else some (.inr ((s62.1, (IntKind.i64.wrap (s62.2.1 + x63.weight)), ()))))) : Option ((Bool × Unit) ⊕ (Int × Int × Unit))).bind fun y70 => (match y70 with | .inl y71 => some (.inr (.inl (y71.1, ()))) | .inr y72 => some (.inl (y72.1, y72.2.1, (IntKind.i64.wrap (s62.2.2.1 + 1)), ()))) else some (.inr (.inr ((s62.1, s62.2.1, ())))) : Option ((Int × Int × Int × Unit) ⊕ ((Bool × Unit) ⊕ (Int × Int × Unit)))))
          (Q := fun r => r = .inr (sumTo fP x1 x1.length, sumTo fA x1 x1.length, ())) (fun k z => z = (sumTo fP x1 k, sumTo fA x1 k, (k : Int), ())) x1.length (by unfold big; omega) (fun k z hk hz => by
            subst hz
            by_cases hlt : k < x1.length
            · have hx := List.getElem_mem hlt
              have hw := jobs_good hj _ hx
              have b1 := hPb (k + 1) (by omega)
              have b2 := hAb (k + 1) (by omega)
              have b3 := ch_sums hg hj k hk
              have b4 := ch_bound hg hw
              have hok1 : okB x0 [x1[k]] = true := by unfold okB; rw [hv, jobs_one hj hx]; rfl
              have hk1 : k < (pathL (balanceI x0) (chI x0) x1).length := by omega
              have hk2 : k + 1 < (pathL (balanceI x0) (chI x0) x1).length := by omega
              have ek : IntKind.i64.wrap ((k : Int) + 1) = ((k + 1 : Nat) : Int) := by rw [wrap64 (by omega) (by omega)]; omega
              refine .inl ⟨(sumTo fP x1 (k + 1), sumTo fA x1 (k + 1), ((k + 1 : Nat) : Int), ()), ?_, hlt, rfl⟩
              rw [sumTo_succ _ _ _ hlt] at b1 b2
              simp only [lt_yes hlt, cond_true, idx_at hlt, Option.bind_some, ek, idx_at hk1, idx_at hk2, at_some hk1, at_some hk2, f_Change x0 x1[k] hf (hn _ hx)]
              unfold changeP
              rw [hok1]
              simp only [cond_true, e0, cond_false, path_at, Option.bind_some]
              rw [wrap64 (n := balanceI x0 + sumTo (chI x0) x1 k + chI x0 x1[k]) (by omega) (by omega), sumTo_succ _ _ _ hlt, ← Int.add_assoc, bne_self_eq_false, sumTo_succ _ _ _ hlt, sumTo_succ _ _ _ hlt]
              simp only [cond_false]
              have q1 : fP x1[k] = bif x1[k].pipe then x1[k].weight else 0 := rfl
              have q2 : fA x1[k] = bif x1[k].pipe then 0 else x1[k].weight := rfl
              rw [q1] at b1 ⊢
              rw [q2] at b2 ⊢
              cases hpp : x1[k].pipe with
              | true =>
                rw [hpp] at b1 b2
                simp only [cond_true, Option.bind_some, Int.add_zero] at b1 b2 ⊢
                rw [wrap64 (by omega) (by omega)]
              | false =>
                rw [hpp] at b1 b2
                simp only [cond_false, Option.bind_some, Int.add_zero] at b1 b2 ⊢
                rw [wrap64 (by omega) (by omega)]
            · obtain rfl : k = x1.length := by omega
              simp only [lt_no, cond_false]
              exact .inr ⟨_, rfl, rfl⟩) (s := (0, 0, 0, ())) rfl
        subst g2
        exact g1
      have hB : ∀ (o : Option ((Bool × Unit) ⊕ (Int × Int × Unit))) (K : ((Bool × Unit) ⊕ (Int × Int × Unit)) → Option Bool), o = some (.inr (sumTo fP x1 x1.length, sumTo fA x1 x1.length, ())) → K (.inr (sumTo fP x1 x1.length, sumTo fA x1 x1.length, ())) = some true → o.bind K = some true := by
        intro o K h1 h2
        rw [h1]
        exact h2
      refine hB _ _ hloop ?_
      dsimp only
      rw [f_State x0 _ _ hf]
      have c1 := hPb x1.length (Nat.le_refl _)
      have c2 := hAb x1.length (Nat.le_refl _)
      have hst : stateP x0 (sumTo fP x1 x1.length) (sumTo fA x1 x1.length) = (balanceI x0 + sumTo (chI x0) x1 x1.length, 0) := by
        unfold stateP farB
        rw [hv, decide_eq_false (show ¬ sumTo fP x1 x1.length < -1073741824 by omega), decide_eq_false (show ¬ sumTo fP x1 x1.length > 1073741824 by omega), decide_eq_false (show ¬ sumTo fA x1 x1.length < -1073741824 by omega), decide_eq_false (show ¬ sumTo fA x1 x1.length > 1073741824 by omega), ch_lin x0 x1 _ (Nat.le_refl _)]
        simp only [Bool.or_self, cond_false, cond_true, Prod.mk.injEq, and_true]
        omega
      rw [hst]
      have hk1 : x1.length < (pathL (balanceI x0) (chI x0) x1).length := by omega
      have hk2 : x1.length < (pathL (balanceI x0) (chI x0) x1.reverse).length := by omega
      have hrev : sumTo (chI x0) x1.reverse x1.length = sumTo (chI x0) x1 x1.length := by
        have := sum_rev (chI x0) x1
        rwa [List.length_reverse] at this
      simp only [Option.bind_some, idx_at hk1, idx_at hk2, at_some hk1, at_some hk2, path_at, hrev, beq_self_eq_true, cond_true]
end Go.Proofs.Ytmdghocpelkcoaa

/- Loading in: checked orders, and paths over the jobs of an order. -/
namespace Go.Proofs.Ytmdghocpelkcoaa
set_option linter.unusedSimpArgs false
set_option linter.unusedVariables false

theorem f_right (s : TSet) (l : List TJob) : F_law28_right s l = some (!longB s l && (okB s l && !decide (12 < l.length))) := by
  unfold F_law28_right
  rw [f_long28]
  cases hl : longB s l with
  | true => rfl
  | false =>
    simp only [Option.bind_some, Bool.not_false, cond_true]
    rw [f_Given hl]
    unfold resP
    cases okB s l with
    | false => rfl
    | true =>
      cases decide (12 < l.length) <;> rfl
theorem right_ok {s : TSet} {l : List TJob} (h : (!longB s l && (okB s l && !decide (12 < l.length))) = true) : longB s l = false ∧ Few s l := by
  simp only [Bool.and_eq_true, Bool.not_eq_true', decide_eq_false_iff_not] at h
  exact ⟨h.1, few_of h.1 h.2.1 h.2.2⟩
theorem res_few {α : Type} {s : TSet} {l : List TJob} (h : Few s l) (e : Int → α) (k : α) : resP s l e k = k := by
  have h7 := h.n7
  unfold resP okB
  rw [h.valid, h.jobs, decide_eq_false (show ¬ 12 < l.length by omega)]
  rfl
/-- Are all states on the way held? -/
def prefB (h : Nat → Bool) (o : List Nat) : Bool := (List.range (o.length + 1)).all fun k => h (st (o.take k))
theorem prefB_iff (h : Nat → Bool) (o : List Nat) : prefB h o = true ↔ ∀ a, a <+: o → h (st a) = true := by
  unfold prefB
  rw [List.all_eq_true]
  constructor
  · intro hk a ha
    have := hk a.length (List.mem_range.2 (by have := ha.length_le; omega))
    rwa [← List.prefix_iff_eq_take.1 ha] at this
  · intro ha k hk
    exact ha _ (List.take_prefix k o)
theorem st_lt {n : Nat} (hn : n ≤ 7) {o : List Nat} (h1 : o.Nodup) (h2 : ∀ i ∈ o, i < n) : st o < 128 := by
  have := (st_bits hn h1 h2).1
  have := pow_le7 hn
  omega
theorem ck_run {n : Nat} (hn : n ≤ 7) (h : Nat → Bool) : ∀ (rest done : List Nat) (safe : Bool), (done ++ rest).Nodup → (∀ i ∈ done ++ rest, i < n) →
    runL (ρ := (Bool × Int × Unit) ⊕ (Bool × Unit)) (fun (t : Nat × Bool) (x : Int) => bif t.1.testBit x.toNat then .inr (.inl (false, 10, ())) else .inl (t.1 + 2 ^ x.toNat, t.2 && h (t.1 + 2 ^ x.toNat))) (fun t => .inr (t.2, ())) (ints rest) (st done, safe) = .inr (safe && (List.range rest.length).all (fun k => h (st (done ++ rest.take (k + 1)))), ())
  | [], done, safe, _, _ => by simp [ints, runL]
  | i :: rest, done, safe, hd, hl => by
    have hi := hl i (by simp)
    have hnd : done.Nodup := (List.nodup_append.1 hd).1
    have hni : i ∉ done := fun hmem => (List.nodup_append.1 hd).2.2 i hmem i List.mem_cons_self rfl
    have hb := (st_bits hn hnd (fun j hj => hl j (by simp [hj]))).2 i (by omega)
    rw [decide_eq_false hni] at hb
    show runL _ _ ((i : Int) :: ints rest) _ = _
    unfold runL
    simp only [Int.toNat_natCast, hb, cond_false]
    have est : st done + 2 ^ i = st (done ++ [i]) := by rw [st_append]; rfl
    rw [est, ck_run hn h rest (done ++ [i]) _ (by rw [List.append_assoc]; exact hd) (by rw [List.append_assoc]; exact hl)]
    congr 2
    rw [List.length_cons, List.range_succ_eq_map, List.all_cons, List.all_map, Bool.and_assoc]
    congr 2
    congr 1
    funext k
    simp [Function.comp, List.append_assoc]
theorem ck_ok {n : Nat} (hn : n ≤ 7) (h : Nat → Bool) {o : List Nat} (hd : o.Nodup) (hl : ∀ i ∈ o, i < n) : ckR h (ints o) = .inr (prefB h o, ()) := by
  unfold ckR
  have := ck_run hn h o [] (h 0) (by simpa using hd) (by simpa using hl)
  rw [show st [] = 0 from rfl] at this
  rw [this]
  congr 2
  unfold prefB
  rw [List.range_succ_eq_map, List.all_cons, List.all_map]
  rfl
theorem ck_conv {n : Nat} (hn : n ≤ 7) (h : Nat → Bool) : ∀ (rest done : List Nat) (safe b : Bool), done.Nodup → (∀ i ∈ done ++ rest, i < n) →
    runL (ρ := (Bool × Int × Unit) ⊕ (Bool × Unit)) (fun (t : Nat × Bool) (x : Int) => bif t.1.testBit x.toNat then .inr (.inl (false, 10, ())) else .inl (t.1 + 2 ^ x.toNat, t.2 && h (t.1 + 2 ^ x.toNat))) (fun t => .inr (t.2, ())) (ints rest) (st done, safe) = .inr (b, ()) → (done ++ rest).Nodup
  | [], done, safe, b, hd, _, _ => by simpa using hd
  | i :: rest, done, safe, b, hd, hl, he => by
    have hi := hl i (by simp)
    have hb := (st_bits hn hd (fun j hj => hl j (by simp [hj]))).2 i (by omega)
    have he' : runL (ρ := (Bool × Int × Unit) ⊕ (Bool × Unit)) (fun (t : Nat × Bool) (x : Int) => bif t.1.testBit x.toNat then .inr (.inl (false, 10, ())) else .inl (t.1 + 2 ^ x.toNat, t.2 && h (t.1 + 2 ^ x.toNat))) (fun t => .inr (t.2, ())) ((i : Int) :: ints rest) (st done, safe) = .inr (b, ()) := he
    unfold runL at he'
    simp only [Int.toNat_natCast] at he'
    by_cases hmem : i ∈ done
    · rw [decide_eq_true hmem] at hb
      rw [hb] at he'
      simp only [cond_true] at he'
      cases he'
    · rw [decide_eq_false hmem] at hb
      rw [hb] at he'
      simp only [cond_false] at he'
      have est : st done + 2 ^ i = st (done ++ [i]) := by rw [st_append]; rfl
      rw [est] at he'
      have hd2 : (done ++ [i]).Nodup := by
        rw [List.nodup_append]
        refine ⟨hd, by simp, fun a ha b hb2 e => ?_⟩
        simp only [List.mem_singleton] at hb2
        subst hb2; subst e
        exact hmem ha
      have := ck_conv hn h rest (done ++ [i]) _ b hd2 (by rw [List.append_assoc]; exact hl) he'
      rwa [List.append_assoc] at this
theorem ints_of {n : Nat} : ∀ {order : List Int}, order.any (badI n) = false → ∃ o : List Nat, order = ints o ∧ ∀ i ∈ o, i < n
  | [], _ => ⟨[], rfl, fun i hi => by cases hi⟩
  | x :: order, h => by
    rw [List.any_cons, Bool.or_eq_false_iff] at h
    obtain ⟨o, rfl, h2⟩ := ints_of h.2
    obtain ⟨i, rfl, hi⟩ := bad_no h.1
    exact ⟨i :: o, rfl, fun j hj => by
      rcases List.mem_cons.1 hj with rfl | hj
      · exact hi
      · exact h2 j hj⟩
theorem bad_ints {n : Nat} {o : List Nat} (h : ∀ i ∈ o, i < n) : (ints o).any (badI n) = false := by
  rw [List.any_eq_false]
  intro x hx
  obtain ⟨i, hi, rfl⟩ := List.mem_map.1 hx
  have := h i hi
  unfold badI
  rw [decide_eq_false (by omega), decide_eq_false (by omega)]
  decide
/-- What Check says of an order that is right. -/
theorem check_ok {n : Nat} (hn : n ≤ 7) (h : Nat → Bool) {o : List Nat} (hd : o.Nodup) (hl : ∀ i ∈ o, i < n) (hlen : o.length = n) : checkP n h (ints o) = (prefB h o, 0) := by
  unfold checkP ckP
  rw [ints_len, hlen, bne_self_eq_false, bad_ints hl, ck_ok hn h hd hl]
  rfl
theorem check_conv {n : Nat} (hn : n ≤ 7) (h : Nat → Bool) {order : List Int} (he : (checkP n h order).2 = 0) : ∃ o : List Nat, order = ints o ∧ o.Nodup ∧ (∀ i ∈ o, i < n) ∧ o.length = n := by
  unfold checkP at he
  cases hlen : (((order.length : Nat) : Int) != ((n : Nat) : Int)) with
  | true => rw [hlen] at he; cases he
  | false =>
    rw [hlen] at he
    simp only [cond_false] at he
    cases hb : order.any (badI n) with
    | true => rw [hb] at he; cases he
    | false =>
      rw [hb] at he
      simp only [cond_false] at he
      obtain ⟨o, rfl, hl⟩ := ints_of hb
      have hlen2 : o.length = n := by
        have : (((ints o).length : Nat) : Int) = ((n : Nat) : Int) := by simpa using hlen
        rw [ints_len] at this
        omega
      refine ⟨o, rfl, ?_, hl, hlen2⟩
      unfold ckP at he
      cases hr : ckR h (ints o) with
      | inl y =>
        exfalso
        have key : ∀ (rest : List Int) (t : Nat × Bool) (y : Bool × Int × Unit), runL (ρ := (Bool × Int × Unit) ⊕ (Bool × Unit)) (fun (t : Nat × Bool) (x : Int) => bif t.1.testBit x.toNat then .inr (.inl (false, 10, ())) else .inl (t.1 + 2 ^ x.toNat, t.2 && h (t.1 + 2 ^ x.toNat))) (fun t => .inr (t.2, ())) rest t = .inl y → y = (false, 10, ()) := by
          intro rest
          induction rest with
          | nil => intro t y h; unfold runL at h; cases h
          | cons x rest ih =>
            intro t y h
            unfold runL at h
            cases hb2 : t.1.testBit x.toNat <;> rw [hb2] at h
            · exact ih _ _ h
            · cases h; rfl
        rw [hr, key _ _ _ hr] at he
        cases he
      | inr y =>
        obtain ⟨b, ⟨⟩⟩ := y
        have := ck_conv hn h o [] (h 0) b List.nodup_nil (by simpa using hl) hr
        simpa using this
theorem safe_iff {n : Nat} (hn : n ≤ 7) {h : Nat → Bool} {o : List Nat} (hd : o.Nodup) (hl : ∀ i ∈ o, i < n) (hlen : o.length = n) : Safe n h o ↔ prefB h o = true := by
  rw [prefB_iff]
  constructor
  · intro hs; exact hs.2.2.2
  · intro ha
    refine ⟨hd, hl, ?_, ha⟩
    obtain ⟨h1, h2⟩ := st_bits hn hd hl
    have hp := Nat.two_pow_pos n
    refine bit_ext n (by omega) _ h1 _ (by omega) fun i hi => ?_
    have h3 := bit_flip n (by omega) 0 hp i hi
    rw [Nat.sub_zero, Nat.zero_testBit] at h3
    rw [h3, h2 i (by omega)]
    refine decide_eq_true ?_
    have hsub : o ⊆ List.range n := fun j hj => List.mem_range.2 (hl j hj)
    have hperm := (List.perm_ext_iff_of_nodup hd List.nodup_range).2 fun a => ⟨fun ha => hsub ha, fun ha => by
      apply Classical.byContradiction
      intro hna
      have h4 : (a :: o).Nodup := List.nodup_cons.2 ⟨hna, hd⟩
      have h5 := h4.length_le_of_subset (l₂ := List.range n) fun j hj => by
        rcases List.mem_cons.1 hj with rfl | hj
        · exact ha
        · exact hsub hj
      rw [List.length_cons, List.length_range] at h5
      omega⟩
    exact hperm.mem_iff.2 (List.mem_range.2 hi)
end Go.Proofs.Ytmdghocpelkcoaa

/- Loading in: the path over the jobs of an order; orders compared. -/
namespace Go.Proofs.Ytmdghocpelkcoaa
set_option linter.unusedSimpArgs false
set_option linter.unusedVariables false

def job0 : TJob := TJob.mk ByteArray.empty false 0
def jobsOf (l : List TJob) (o : List Nat) : List TJob := o.map fun i => l.getD i job0
theorem getD_job {l : List TJob} {i : Nat} (h : i < l.length) : l.getD i job0 = l[i] := by rw [List.getD_eq_getElem?_getD, List.getElem?_eq_getElem h]; rfl
theorem jobsOf_len (l : List TJob) (o : List Nat) : (jobsOf l o).length = o.length := by unfold jobsOf; rw [List.length_map]
theorem jobsOf_at {l : List TJob} {o : List Nat} {i : Nat} (hi : i < (jobsOf l o).length) : (jobsOf l o)[i] = l.getD (o[i]'(by rwa [jobsOf_len] at hi)) job0 := List.getElem_map (f := fun i => l.getD i job0)
theorem iter_jobs {l : List TJob} {o : List Nat} (hl : ∀ i ∈ o, i < l.length) (hlen : o.length ≤ 1000) {ρ : Type} {F : Int × List TJob × Unit → Option ((Int × List TJob × Unit) ⊕ (ρ ⊕ (List TJob × Unit)))}
    (hin : ∀ (k : Nat) (hk : k < o.length) (L : List TJob), L.length = k → F ((k : Int), L, ()) = some (.inl ((k : Int) + 1, L ++ [l.getD o[k] job0], ())))
    (hout : ∀ L, F ((o.length : Int), L, ()) = some (.inr (.inr (L, ())))) : iterF F big (0, [], ()) = some (.inr (jobsOf l o, ())) := by
  refine iter_go (F := F) o.length (fun k => ((k : Int), (jobsOf l o).take k, ())) (Sum.inr (jobsOf l o, ())) (by omega) (by simp) ?_ ?_
  · intro k hk
    have hk2 : k < (jobsOf l o).length := by unfold jobsOf; rw [List.length_map]; exact hk
    rw [hin k hk _ (by rw [List.length_take]; omega), List.take_succ_eq_append_getElem hk2]
    rw [jobsOf_at hk2]; rfl
  · have e : (jobsOf l o).take o.length = jobsOf l o := by
      rw [List.take_of_length_le]; unfold jobsOf; rw [List.length_map]; exact Nat.le_refl _
    simp only [e]
    exact hout _
section
variable {s : TSet} {l : List TJob} {o : List Nat}
theorem jobs_of (h : jobsB l = true) (hd : o.Nodup) (hl : ∀ i ∈ o, i < l.length) : jobsB (jobsOf l o) = true := by
  have hlen := nodup_len hd hl
  have h100 := jobs_len h
  unfold jobsB at h ⊢
  simp only [Bool.and_eq_true] at h ⊢
  refine ⟨decide_eq_true (by unfold jobsOf; rw [List.length_map]; omega), ?_⟩
  rw [pairs_iff] at h ⊢
  have h2 := h.2
  have hat : ∀ (i : Nat) (hi : i < (jobsOf l o).length), ∃ hi' : i < o.length, ∃ hq : o[i] < l.length, (jobsOf l o)[i] = l[o[i]] := fun i hi => by
    have hi' : i < o.length := by unfold jobsOf at hi; rwa [List.length_map] at hi
    have hq := hl _ (List.getElem_mem hi')
    refine ⟨hi', hq, ?_⟩
    rw [jobsOf_at hi, getD_job hq]
  intro i hi
  obtain ⟨hi', hq, e⟩ := hat i hi
  refine ⟨by rw [e]; exact (h2 _ hq).1, fun k hk => ?_⟩
  obtain ⟨hk', hqk, ek⟩ := hat k (Nat.lt_trans hk hi)
  rw [e, ek]
  have hne : o[k] ≠ o[i] := List.pairwise_iff_getElem.1 hd k i hk' hi' hk
  have sym : ∀ a b : ByteArray, sameName a b = sameName b a := fun a b => by
    rw [Bool.eq_iff_iff, sameName_iff, sameName_iff]
    exact ⟨Eq.symm, Eq.symm⟩
  rcases Nat.lt_trichotomy o[k] o[i] with hlt | heq | hgt
  · exact (h2 _ hq).2 _ hlt
  · exact absurd heq hne
  · rw [sym]; exact (h2 _ hqk).2 _ hgt
theorem jobs_names (h : ∀ x ∈ l, x.name.size ≤ 60) (hl : ∀ i ∈ o, i < l.length) : ∀ x ∈ jobsOf l o, x.name.size ≤ 60 := by
  intro x hx
  unfold jobsOf at hx
  obtain ⟨i, hi, rfl⟩ := List.mem_map.1 hx
  rw [getD_job (hl i hi)]
  exact h _ (List.getElem_mem _)
theorem sum_of (f : TJob → Int) (hl : ∀ i ∈ o, i < l.length) (k : Nat) : sumTo f (jobsOf l o) k = ((o.take k).map ((l.map f).getD · 0)).sum := by
  unfold sumTo jobsOf
  rw [← List.map_take, List.map_map]
  congr 1
  apply List.map_congr_left
  intro i hi
  have hq := hl i (List.mem_of_mem_take hi)
  rw [Function.comp_apply, getD_job hq, List.getD_eq_getElem?_getD, List.getElem?_map, List.getElem?_eq_getElem hq]
  rfl
theorem path_held (h : Few s l) (hd : o.Nodup) (hl : ∀ i ∈ o, i < l.length) : decide (firstI s (pathL (balanceI s) (chI s) (jobsOf l o)) < 0) = prefB (heldM s l) o := by
  have h7 := h.n7
  have hat : ∀ k, k ≤ o.length → balanceI s + sumTo (chI s) (jobsOf l o) k = imbM s l (st (o.take k)) := fun k hk => by
    unfold imbM
    rw [bsum_st h7 _ (List.Nodup.sublist (List.take_sublist k o) hd) (fun i hi => hl i (List.mem_of_mem_take hi)), sum_of (chI s) hl k]
  have hlen : (pathL (balanceI s) (chI s) (jobsOf l o)).length = o.length + 1 := by rw [path_len]; unfold jobsOf; rw [List.length_map]
  rw [Bool.eq_iff_iff, decide_eq_true_eq]
  unfold prefB
  rw [List.all_eq_true]
  rcases first_spec s (pathL (balanceI s) (chI s) (jobsOf l o)) with ⟨e, hall⟩ | ⟨i, hi, e, hno, _⟩
  · rw [e]
    refine ⟨fun _ k hk => ?_, fun _ => by omega⟩
    have hk := List.mem_range.1 hk
    have := hall k (by omega)
    rw [path_at, hat k (by omega)] at this
    exact this
  · rw [e]
    refine ⟨fun hlt => by omega, fun hall => ?_⟩
    have := hall i (List.mem_range.2 (by omega))
    rw [path_at, hat i (by omega)] at hno
    rw [show heldM s l (st (o.take i)) = heldB s (imbM s l (st (o.take i))) from rfl, hno] at this
    cases this
theorem f_path28 (h : Few s l) (hd : o.Nodup) (hl : ∀ i ∈ o, i < l.length) : F_brake_Path s (jobsOf l o) = some (pathL (balanceI s) (chI s) (jobsOf l o), 0) := by
  rw [f_path s _ h.fits (jobs_names h.names hl)]
  unfold pathP okB
  rw [h.valid, jobs_of h.jobs hd hl]; rfl
theorem f_first28 (h : Few s l) (hd : o.Nodup) (hl : ∀ i ∈ o, i < l.length) : ∃ r, F_brake_First s (jobsOf l o) = some r ∧ (r.2 == 12) = prefB (heldM s l) o := by
  rw [f_first s _ h.fits (jobs_names h.names hl)]
  refine ⟨_, rfl, ?_⟩
  unfold firstP okB
  rw [h.valid, jobs_of h.jobs hd hl, path_held h hd hl]
  cases prefB (heldM s l) o <;> rfl
end
theorem safe_facts {n : Nat} {h : Nat → Bool} {o : List Nat} (hs : Safe n h o) : o.Nodup ∧ (∀ i ∈ o, i < n) ∧ prefB h o = true := ⟨hs.1, hs.2.1, (prefB_iff h o).2 hs.2.2.2⟩
theorem order_safe {n : Nat} (hn : n ≤ 7) {h : Nat → Bool} (hr : reachV n (flip n h) (2 ^ n - 1) = true) : Safe n h (dnM n (reachV n (flip n h)) (2 ^ n - 1)) :=
  (safe_up hn h _).1 (dn_mem _ _ (Nat.lt_succ_self _) hr)
theorem out_safe {n : Nat} (hn : n ≤ 7) {h : Nat → Bool} (hr : reachV n h (2 ^ n - 1) = true) : Safe n h (dnM n (reachV n h) (2 ^ n - 1)).reverse := by
  rw [← safe_dn hn, List.reverse_reverse]
  exact dn_mem _ _ (Nat.lt_succ_self _) hr
theorem ints_reverse (o : List Nat) : (ints o).reverse = ints o.reverse := by unfold ints; rw [List.map_reverse]
/-- What a list of the law does with an order: the jobs in this order. -/
theorem idx_ints {o : List Nat} {k : Nat} (hk : k < o.length) : idx (ints o) (k : Int) = some ((o[k] : Nat) : Int) ∧ (ints o)[Int.toNat (k : Int)]? = some ((o[k] : Nat) : Int) := by
  have hk2 : k < (ints o).length := by rw [ints_len]; exact hk
  have e : (ints o)[k] = ((o[k] : Nat) : Int) := List.getElem_map (f := fun i : Nat => (i : Int))
  rw [idx_at hk2, Int.toNat_natCast, List.getElem?_eq_getElem hk2, e]
  exact ⟨rfl, rfl⟩
theorem main_LoadinBack (x0 : TSet) (x1 : List TJob) (w0 : W_Set x0) (w1 : W_l_Job x1) : F_law28_LoadinBack x0 x1 = some true := by
  unfold F_law28_LoadinBack
  rw [f_awake28, f_right]
  simp only [Option.bind_some, Bool.not_true, cond_false]
  cases hr0 : (!longB x0 x1 && (okB x0 x1 && !decide (12 < x1.length))) with
  | false => rfl
  | true =>
    obtain ⟨hl, hf⟩ := right_ok hr0
    have h7 := hf.n7
    simp only [Bool.not_true, cond_false]
    rw [f_Order hl, f_Out hl, res_few hf, res_few hf]
    simp only [Option.bind_some]
    unfold orderP outP
    rw [reach_flip h7]
    cases hr : reachV x1.length (heldM x0 x1) (2 ^ x1.length - 1) with
    | false => rfl
    | true =>
      have e0 : ((0 : Int) != 0) = false := rfl
      simp only [cond_true, e0, cond_false]
      have hs := out_safe h7 hr
      obtain ⟨o, ho⟩ : ∃ o, o = (dnM x1.length (reachV x1.length (heldM x0 x1)) (2 ^ x1.length - 1)).reverse := ⟨_, rfl⟩
      rw [← ho] at hs
      obtain ⟨g1, g2, g3⟩ := safe_facts hs
      have g4 := safe_len h7 hs
      refine bind_of (iter_rev (ints (dnM x1.length (reachV x1.length (heldM x0 x1)) (2 ^ x1.length - 1))) (dn_small h7 _)) ?_
      simp only [ints_reverse, ← ho]
      rw [f_Check hl, res_few hf, check_ok h7 _ g1 g2 g4, g3]
      refine bind_of rfl ?_
      refine bind_of (iter_jobs (l := x1) (o := o) g2 (by omega) ?_ ?_) ?_
      · intro k hk L hL
        obtain ⟨e1, e2⟩ := idx_ints hk
        have hq := g2 _ (List.getElem_mem hk)
        simp only [ints_len, lt_yes hk, cond_true, e1, e2, Option.bind_some]
        rw [decide_eq_false (show ¬ ((o[k] : Nat) : Int) < 0 by omega), decide_eq_false (show ¬ ((o[k] : Nat) : Int) ≥ ((x1.length : Nat) : Int) by omega)]
        simp only [cond_false, Option.bind_some, idx_at hq]
        rw [if_pos (by simp; omega), wrap64 (n := (k : Int) + 1) (by omega) (by omega), getD_job hq]
      · intro L
        simp only [ints_len, lt_no, cond_false]
      · obtain ⟨r, hr1, hr2⟩ := f_first28 hf g1 g2
        simp only [f_path28 hf g1 g2, hr1, Option.bind_some, hr2, g3, beq_self_eq_true, cond_true, ints_len, g4]
end Go.Proofs.Ytmdghocpelkcoaa

/- Loading in: no safe order comes before the first one. -/
namespace Go.Proofs.Ytmdghocpelkcoaa
set_option linter.unusedSimpArgs false
set_option linter.unusedVariables false

theorem ck_inl {h : Nat → Bool} : ∀ (rest : List Int) (t : Nat × Bool) (y : Bool × Int × Unit), runL (ρ := (Bool × Int × Unit) ⊕ (Bool × Unit)) (fun (t : Nat × Bool) (x : Int) => bif t.1.testBit x.toNat then .inr (.inl (false, 10, ())) else .inl (t.1 + 2 ^ x.toNat, t.2 && h (t.1 + 2 ^ x.toNat))) (fun t => .inr (t.2, ())) rest t = .inl y → y = (false, 10, ())
  | [], t, y, h => by unfold runL at h; cases h
  | x :: rest, t, y, h => by
    unfold runL at h
    cases hb2 : t.1.testBit x.toNat <;> rw [hb2] at h
    · exact ck_inl rest _ _ h
    · cases h; rfl
theorem check_bad {n : Nat} {h : Nat → Bool} {order : List Int} (he : (checkP n h order).2 ≠ 0) : (checkP n h order).1 = false := by
  unfold checkP at he ⊢
  cases hlen : (((order.length : Nat) : Int) != ((n : Nat) : Int)) with
  | true => rfl
  | false =>
    rw [hlen] at he
    simp only [cond_false] at he ⊢
    cases hb : order.any (badI n) with
    | true => rfl
    | false =>
      rw [hb] at he
      simp only [cond_false] at he ⊢
      unfold ckP at he ⊢
      cases hr : ckR h order with
      | inl y => rw [ck_inl _ _ _ hr]
      | inr y => rw [hr] at he; exact absurd rfl he
theorem f_cmp (x y : Int) : F_cmp_Compare_int x y = some (if x < y then -1 else if x > y then 1 else 0) := by
  unfold F_cmp_Compare_int
  have hn : ∀ z : Int, F_cmp_isNaN_int z = some false := fun z => by unfold F_cmp_isNaN_int; simp
  rw [hn, hn]
  simp only [Option.bind_some, cond_false]
  by_cases h1 : x < y
  · rw [decide_eq_true h1, if_pos h1]; rfl
  · rw [decide_eq_false h1, if_neg h1]
    by_cases h2 : x > y
    · rw [decide_eq_true h2, if_pos h2]; rfl
    · rw [decide_eq_false h2, if_neg h2]; rfl
theorem f_compare {a b : List Nat} (hl : a.length = b.length) (ha : a.length ≤ 1000) (hle : lexLe a b = true) : ∃ r, F_slices_Compare_int (ints a) (ints b) = some r ∧ r ≤ 0 := by
  unfold F_slices_Compare_int
  simp only [ints_len]
  obtain ⟨r, g1, g2⟩ := iter_inv (F := fun s4 : Int × Unit => (bif (decide (s4.1 < ((a.length : Nat) : Int))) then (idx (ints a) s4.1).bind fun x5 => (bif (decide (s4.1 ≥ ((b.length : Nat) : Int))) then some (.inr (.inl (1, ()))) else (idx (ints b) s4.1).bind fun x6 => (F_cmp_Compare_int x5 x6).bind fun r7 => (bif (r7 != 0) then some (.inr (.inl (r7, ()))) else some (.inl ((IntKind.i64.wrap (s4.1 + 1)), ())))) else some (.inr (.inr ((())))) : Option ((Int × Unit) ⊕ ((Int × Unit) ⊕ Unit))))
    (Q := fun r => r = .inl (-1, ()) ∨ r = .inr ()) (fun k s => s = ((k : Int), ()) ∧ lexLe (a.drop k) (b.drop k) = true) a.length (by unfold big; omega) (fun k s hk hs => by
      obtain ⟨rfl, hle⟩ := hs
      rcases Nat.lt_or_ge k a.length with hlt | hge
      · have hlb : k < b.length := by omega
        obtain ⟨e1, _⟩ := idx_ints hlt
        obtain ⟨e2, _⟩ := idx_ints hlb
        rw [List.drop_eq_getElem_cons hlt, List.drop_eq_getElem_cons hlb] at hle
        simp only [lexLe, Bool.or_eq_true, decide_eq_true_eq, Bool.and_eq_true, beq_iff_eq] at hle
        simp only [lt_yes hlt, cond_true, e1, e2, Option.bind_some]
        rw [decide_eq_false (show ¬ (k : Int) ≥ ((b.length : Nat) : Int) by omega), f_cmp]
        simp only [cond_false, Option.bind_some]
        rcases hle with h1 | ⟨h1, h2⟩
        · rw [if_pos (by omega)]
          exact .inr ⟨_, rfl, .inl rfl⟩
        · rw [if_neg (by omega), if_neg (by omega)]
          refine .inl ⟨((k : Int) + 1, ()), ?_, hlt, rfl, h2⟩
          rw [wrap64 (n := (k : Int) + 1) (by omega) (by omega)]
          rfl
      · obtain rfl : k = a.length := by omega
        simp only [lt_no, cond_false]
        exact .inr ⟨_, rfl, .inr rfl⟩) (s := (0, ())) ⟨rfl, by simpa using hle⟩
  rcases g2 with rfl | rfl
  · exact ⟨-1, bind_of g1 rfl, by omega⟩
  · refine ⟨0, bind_of g1 ?_, by omega⟩
    simp only [hl, lt_no, cond_false]
theorem main_LoadinFirst (x0 : TSet) (x1 : List TJob) (x2 : List Int) (w0 : W_Set x0) (w1 : W_l_Job x1) (w2 : W_l_int1 x2) : F_law28_LoadinFirst x0 x1 x2 = some true := by
  unfold F_law28_LoadinFirst
  rw [f_awake28, f_right]
  simp only [Option.bind_some, Bool.not_true, cond_false]
  cases hr0 : (!longB x0 x1 && (okB x0 x1 && !decide (12 < x1.length))) with
  | false => rfl
  | true =>
    obtain ⟨hl, hf⟩ := right_ok hr0
    have h7 := hf.n7
    simp only [Bool.not_true, cond_false, Option.bind_some]
    cases decide (((x2.length : Nat) : Int) > 20) with
    | true => rfl
    | false =>
      simp only [cond_false]
      rw [f_Check hl, res_few hf]
      simp only [Option.bind_some]
      by_cases he : (checkP x1.length (heldM x0 x1) x2).2 = 0
      · obtain ⟨o, rfl, g1, g2, g4⟩ := check_conv h7 _ he
        rw [check_ok h7 _ g1 g2 g4]
        have e0 : ((0 : Int) != 0) = false := rfl
        simp only [e0, cond_false]
        refine bind_of (iter_jobs (l := x1) (o := o) g2 (by omega) ?_ ?_) ?_
        · intro k hk L hL
          obtain ⟨e1, e2⟩ := idx_ints hk
          have hq := g2 _ (List.getElem_mem hk)
          simp only [ints_len, lt_yes hk, cond_true, e1, e2, Option.bind_some]
          rw [decide_eq_false (show ¬ ((o[k] : Nat) : Int) < 0 by omega), decide_eq_false (show ¬ ((o[k] : Nat) : Int) ≥ ((x1.length : Nat) : Int) by omega)]
          simp only [cond_false, Option.bind_some, idx_at hq]
          rw [if_pos (by simp; omega), wrap64 (n := (k : Int) + 1) (by omega) (by omega), getD_job hq]
        · intro L
          simp only [ints_len, lt_no, cond_false]
        · obtain ⟨r, hr1, hr2⟩ := f_first28 hf g1 g2
          have e12 : (((ints o).length : Int) == ((x1.length : Nat) : Int)) = true := by rw [ints_len, g4]; simp
          simp only [f_path28 hf g1 g2, hr1, Option.bind_some, hr2, e12, beq_self_eq_true, cond_true]
          have eh : ((bif prefB (heldM x0 x1) o then some (true, ()) else some (false, ())) : Option (Bool × Unit)) = some (prefB (heldM x0 x1) o, ()) := by cases prefB (heldM x0 x1) o <;> rfl
          rw [eh]
          simp only [Option.bind_some, beq_self_eq_true, Bool.not_true, cond_false]
          cases hp : prefB (heldM x0 x1) o with
          | false => rfl
          | true =>
            have hs := (safe_iff h7 g1 g2 g4).2 hp
            have hmem := (safe_up h7 (heldM x0 x1) o).2 hs
            have hr : reachV x1.length (flip x1.length (heldM x0 x1)) (2 ^ x1.length - 1) = true := (reach_iff _ _ _ _ (Nat.lt_succ_self _)).2 ⟨o, hmem⟩
            simp only [Bool.not_true, cond_false]
            rw [f_Order hl, f_Count hl, res_few hf, res_few hf]
            unfold orderP
            rw [hr]
            simp only [Option.bind_some, cond_true, beq_self_eq_true]
            have hs2 := order_safe h7 hr
            have hlen2 := safe_len h7 hs2
            obtain ⟨r, hc1, hc2⟩ := f_compare (a := dnM x1.length (reachV x1.length (flip x1.length (heldM x0 x1))) (2 ^ x1.length - 1)) (b := o) (by omega) (by omega) (dn_min _ _ o (Nat.lt_succ_self _) hmem)
            rw [hc1]
            simp only [Option.bind_some, decide_eq_true hc2, cond_true]
            cases hd : decide (waysV x1.length (heldM x0 x1) (2 ^ x1.length - 1) > 1) with
            | true => rfl
            | false =>
              have hle := of_decide_eq_false hd
              rw [← ways_flip h7, ways_len _ _ _ _ (Nat.lt_succ_self _)] at hle
              have hmem2 := (safe_up h7 (heldM x0 x1) _).2 hs2
              have heq : dnM x1.length (reachV x1.length (flip x1.length (heldM x0 x1))) (2 ^ x1.length - 1) = o := by
                generalize pathsV x1.length (flip x1.length (heldM x0 x1)) (2 ^ x1.length - 1) = L at *
                match L, hmem, hmem2, hle with
                | [], hm, _, _ => cases hm
                | [p], hm, hm2, _ => rw [List.mem_singleton] at hm hm2; rw [hm, hm2]
                | p :: q :: L, _, _, hle => simp at hle; omega
              rw [heq, f_equal_refl _ (by rw [ints_len]; omega)]
              rfl
      · have e : ((checkP x1.length (heldM x0 x1) x2).2 != 0) = true := by simpa using he
        rw [e, check_bad he]
        rfl
end Go.Proofs.Ytmdghocpelkcoaa

/- Loading in: there is a safe order, or a proof that there is none. -/
namespace Go.Proofs.Ytmdghocpelkcoaa
set_option linter.unusedSimpArgs false
set_option linter.unusedVariables false

theorem proves_true {n : Nat} {h : Nat → Bool} {states : List Int} (hp : (provesP n h states).1 = true) : states.any (badI (2 ^ n)) = false ∧ inS states (2 ^ n - 1) = false ∧ (h 0 = true → inS states 0 = true) ∧ exB n h states = false := by
  unfold provesP at hp
  cases hb : states.any (badI (2 ^ n)) with
  | true => rw [hb] at hp; cases hp
  | false =>
    rw [hb] at hp
    simp only [cond_false] at hp
    cases ha : ascTo states states.length with
    | false => rw [ha] at hp; cases hp
    | true =>
      rw [ha] at hp
      simp only [Bool.not_true, cond_false] at hp
      cases hc : inS states (2 ^ n - 1) || (h 0 && !inS states 0) with
      | true => rw [hc] at hp; cases hp
      | false =>
        rw [hc] at hp
        simp only [cond_false] at hp
        rw [Bool.or_eq_false_iff, Bool.and_eq_false_iff] at hc
        refine ⟨rfl, hc.1, fun h0 => ?_, ?_⟩
        · rcases hc.2 with h1 | h1
          · rw [h0] at h1; cases h1
          · simpa using h1
        · cases he : exB n h states with
          | true => rw [he] at hp; cases hp
          | false => rfl
theorem proves_sound {n : Nat} (hn : n ≤ 7) {h : Nat → Bool} {states : List Int} {o : List Nat} (hs : Safe n h o) : (provesP n h states).1 = false := by
  cases hp : (provesP n h states).1 with
  | false => rfl
  | true =>
    exfalso
    obtain ⟨hb, hw, h0, he⟩ := proves_true hp
    obtain ⟨g1, g2, g3, g4⟩ := hs
    have key : ∀ k, k ≤ o.length → inS states (st (o.take k)) = true := by
      intro k
      induction k with
      | zero => intro _; rw [List.take_zero]; exact h0 (g4 [] (List.nil_prefix))
      | succ k ih =>
        intro hk
        have hlt : k < o.length := by omega
        have h1 := ih (by omega)
        have hd : (o.take k).Nodup := List.Nodup.sublist (List.take_sublist k o) g1
        have hl : ∀ i ∈ o.take k, i < n := fun i hi => g2 i (List.mem_of_mem_take hi)
        have hi := g2 _ (List.getElem_mem hlt)
        have hni : o[k] ∉ o.take k := fun hmem => by
          obtain ⟨j, hj, e⟩ := List.mem_take_iff_getElem.1 hmem
          have := List.pairwise_iff_getElem.1 g1 j k (by omega) hlt (by omega)
          exact this e
        have hbit := (st_bits hn hd hl).2 o[k] (by omega)
        rw [decide_eq_false hni] at hbit
        have e1 : orB (st (o.take k)) o[k] = st (o.take (k + 1)) := by
          unfold orB
          rw [hbit, List.take_succ_eq_append_getElem hlt, st_append]
          rfl
        unfold exB at he
        rw [List.any_eq_false] at he
        have h2 := he ((st (o.take k) : Nat) : Int) (by unfold inS at h1; simpa using h1)
        rw [Bool.not_eq_true, List.any_eq_false] at h2
        have h3 := h2 o[k] (List.mem_range.2 hi)
        rw [Int.toNat_natCast, e1, g4 _ (List.take_prefix _ _), Bool.true_and] at h3
        simpa using h3
    have := key o.length (Nat.le_refl _)
    rw [List.take_length, g3, hw] at this
    cases this
theorem proves_closed {n : Nat} (hn : n ≤ 7) {h : Nat → Bool} (hr : reachV n h (2 ^ n - 1) = false) : provesP n h (ints ((List.range (2 ^ n)).filter (reachV n h))) = (true, 0) := by
  have hp := Nat.two_pow_pos n
  have h7 := pow_le7 hn
  obtain ⟨c, hc⟩ : ∃ c, c = (List.range (2 ^ n)).filter (reachV n h) := ⟨_, rfl⟩
  have hmem : ∀ m, inS (ints c) m = (decide (m < 2 ^ n) && reachV n h m) := fun m => by
    unfold inS ints
    rw [Bool.eq_iff_iff, List.contains_iff_mem, List.mem_map, hc]
    simp only [List.mem_filter, List.mem_range, Bool.and_eq_true, decide_eq_true_eq]
    constructor
    · rintro ⟨j, hj, e⟩
      obtain rfl : j = m := by omega
      exact hj
    · intro hm; exact ⟨m, hm, rfl⟩
  have hbad : (ints c).any (badI (2 ^ n)) = false := bad_ints fun i hi => by
    rw [hc, List.mem_filter, List.mem_range] at hi
    exact hi.1
  have hasc : ascTo (ints c) (ints c).length = true := by
    rw [asc_iff]
    intro k hk1 hk hle
    have hk2 : k < c.length := by rwa [ints_len] at hk
    have e1 : (ints c)[k] = ((c[k] : Nat) : Int) := List.getElem_map (f := fun i : Nat => (i : Int))
    have e2 : (ints c)[k - 1] = ((c[k - 1] : Nat) : Int) := List.getElem_map (f := fun i : Nat => (i : Int))
    rw [e1, e2] at hle
    have hpw : c.Pairwise (· < ·) := by rw [hc]; exact List.Pairwise.filter _ List.pairwise_lt_range
    have := List.pairwise_iff_getElem.1 hpw (k - 1) k (by omega) hk2 (by omega)
    omega
  rw [← hc]
  unfold provesP
  rw [hbad, hasc, hmem, hmem, hr, Bool.and_false, decide_eq_true hp]
  simp only [cond_false, Bool.not_true, Bool.false_or, Bool.true_and]
  have h0 : (h 0 && !reachV n h 0) = false := by
    have e := reach_eq n h 0
    rw [e]
    cases h 0 <;> rfl
  rw [h0]
  simp only [cond_false]
  have he : exB n h (ints c) = false := by
    unfold exB
    rw [List.any_eq_false]
    intro x hx
    obtain ⟨m, hm, rfl⟩ := List.mem_map.1 hx
    rw [Int.toNat_natCast, Bool.not_eq_true, List.any_eq_false]
    intro i hi
    have hi := List.mem_range.1 hi
    rw [hc, List.mem_filter, List.mem_range] at hm
    have hlt := orB_lt hn hm.1 hi
    rw [hmem, decide_eq_true hlt, Bool.true_and]
    cases hh : h (orB m i) with
    | false => simp
    | true =>
      have : reachV n h (orB m i) = true := by
        cases hb : m.testBit i with
        | true =>
          have e : orB m i = m := by unfold orB; rw [hb]; rfl
          rw [e]; exact hm.2
        | false =>
          have e : orB m i = m + 2 ^ i := by unfold orB; rw [hb]; rfl
          rw [e] at hh ⊢
          rw [reach_eq, hh, Bool.true_and, Bool.or_eq_true]
          refine .inr (List.any_eq_true.2 ⟨i, List.mem_range.2 hi, ?_⟩)
          rw [bit_add m (by omega) i (by omega) i (by omega) hb, Nat.add_sub_cancel, hm.2]
          simp
      rw [this]; simp
  rw [he]; rfl
theorem count_pos {n : Nat} (hn : n ≤ 7) (h : Nat → Bool) : decide (waysV n h (2 ^ n - 1) > 0) = reachV n h (2 ^ n - 1) := by
  have hp := Nat.two_pow_pos n
  have h1 := ways_pos n h (2 ^ n - 1)
  have h2 := ways_bound hn h (2 ^ n - 1) (by omega)
  cases hr : reachV n h (2 ^ n - 1) with
  | true =>
    rw [hr] at h1
    have : waysV n h (2 ^ n - 1) ≠ 0 := by simpa using h1
    exact decide_eq_true (by omega)
  | false =>
    rw [hr] at h1
    have : waysV n h (2 ^ n - 1) = 0 := by simpa using h1
    exact decide_eq_false (by omega)
theorem main_LoadinEither (x0 : TSet) (x1 : List TJob) (x2 : List Int) (w0 : W_Set x0) (w1 : W_l_Job x1) (w2 : W_l_int1 x2) : F_law28_LoadinEither x0 x1 x2 = some true := by
  unfold F_law28_LoadinEither
  rw [f_awake28, f_right]
  simp only [Option.bind_some, Bool.not_true, cond_false]
  cases hr0 : (!longB x0 x1 && (okB x0 x1 && !decide (12 < x1.length))) with
  | false => rfl
  | true =>
    obtain ⟨hl, hf⟩ := right_ok hr0
    have h7 := hf.n7
    have hN := hf.N
    simp only [Bool.not_true, cond_false, Option.bind_some]
    by_cases h200 : ((x2.length : Nat) : Int) > 200
    · rw [decide_eq_true h200]; rfl
    · rw [decide_eq_false h200]
      simp only [cond_false]
      rw [f_Order hl, f_Closed hl, f_Count hl, f_Proves hl x2 (by omega), res_few hf, res_few hf, res_few hf, res_few hf]
      simp only [Option.bind_some]
      rw [count_pos h7]
      unfold orderP closedP
      rw [reach_flip h7]
      have e0 : ((0 : Int) != 0) = false := rfl
      have e00 : ((0 : Int) == 0) = true := rfl
      have e22 : ((22 : Int) == 0) = false := rfl
      have e12 : ((12 : Int) == 0) = false := rfl
      have e1212 : ((12 : Int) == 12) = true := rfl
      cases hr : reachV x1.length (heldM x0 x1) (2 ^ x1.length - 1) with
      | true =>
        simp only [cond_true, e0, cond_false, e00, e12, beq_self_eq_true, Bool.not_true, Option.bind_some, show (true == false) = false from rfl]
        have hr2 : reachV x1.length (flip x1.length (heldM x0 x1)) (2 ^ x1.length - 1) = true := by rw [reach_flip h7]; exact hr
        have hs := order_safe h7 hr2
        obtain ⟨o, ho⟩ : ∃ o, o = dnM x1.length (reachV x1.length (flip x1.length (heldM x0 x1))) (2 ^ x1.length - 1) := ⟨_, rfl⟩
        rw [← ho] at hs ⊢
        obtain ⟨g1, g2, g3⟩ := safe_facts hs
        have g4 := safe_len h7 hs
        rw [f_Check hl, res_few hf, check_ok h7 _ g1 g2 g4, g3]
        refine bind_of rfl ?_
        refine bind_of (iter_jobs (l := x1) (o := o) g2 (by omega) ?_ ?_) ?_
        · intro k hk L hL
          obtain ⟨e1, e2⟩ := idx_ints hk
          have hq := g2 _ (List.getElem_mem hk)
          simp only [ints_len, lt_yes hk, cond_true, e1, e2, Option.bind_some]
          rw [decide_eq_false (show ¬ ((o[k] : Nat) : Int) < 0 by omega), decide_eq_false (show ¬ ((o[k] : Nat) : Int) ≥ ((x1.length : Nat) : Int) by omega)]
          simp only [cond_false, Option.bind_some, idx_at hq]
          rw [if_pos (by simp; omega), wrap64 (n := (k : Int) + 1) (by omega) (by omega), getD_job hq]
        · intro L
          simp only [ints_len, lt_no, cond_false]
        · obtain ⟨r, hr1, hr3⟩ := f_first28 hf g1 g2
          have elen : (((ints o).length : Int) == ((x1.length : Nat) : Int)) = true := by rw [ints_len, g4]; simp
          simp only [f_path28 hf g1 g2, hr1, Option.bind_some, hr3, g3, elen, e00, e1212, cond_true]
          rw [proves_sound h7 hs]
          cases ((provesP x1.length (heldM x0 x1) x2).2 != 0) <;> rfl
      | false =>
        simp only [cond_false, e0, e22, e00, Bool.not_true, Option.bind_some, beq_self_eq_true, show (false == true) = false from rfl]
        rw [f_Proves hl _ (by rw [ints_len]; have := filter_len (p := reachV x1.length (heldM x0 x1)) (2 ^ x1.length); omega), res_few hf, proves_closed h7 hr]
        have hw := ways_pos x1.length (heldM x0 x1) (2 ^ x1.length - 1)
        rw [hr] at hw
        simp only [Option.bind_some, e00, cond_true, show ((22 : Int) == 22) = true from rfl, hw, Bool.not_false]
end Go.Proofs.Ytmdghocpelkcoaa

/- Loading in: a greater brake, the jobs in the opposite order, and a job that changes nothing. -/
namespace Go.Proofs.Ytmdghocpelkcoaa
set_option linter.unusedSimpArgs false
set_option linter.unusedVariables false

def sumO (cs : List Int) (a : List Nat) : Int := (a.map (cs.getD · 0)).sum
theorem sumO_append (cs : List Int) (a b : List Nat) : sumO cs (a ++ b) = sumO cs a + sumO cs b := by unfold sumO; rw [List.map_append, List.sum_append]
/-- A safe order, told by sums. -/
def SafeS (n : Nat) (p : List Nat → Bool) (o : List Nat) : Prop := o.Nodup ∧ (∀ i ∈ o, i < n) ∧ o.length = n ∧ ∀ a, a <+: o → p a = true
theorem safe_safeS {n : Nat} (hn : n ≤ 7) {h : Nat → Bool} {p : List Nat → Bool} (hp : ∀ a : List Nat, a.Nodup → (∀ i ∈ a, i < n) → h (st a) = p a) (o : List Nat) : Safe n h o ↔ SafeS n p o := by
  have sub : ∀ a, a <+: o → o.Nodup → (∀ i ∈ o, i < n) → h (st a) = p a := fun a ha hd hl => hp a (List.Nodup.sublist ha.sublist hd) fun i hi => hl i (ha.subset hi)
  constructor
  · intro hs
    obtain ⟨g1, g2, g3⟩ := safe_facts hs
    exact ⟨g1, g2, safe_len hn hs, fun a ha => by rw [← sub a ha g1 g2]; exact hs.2.2.2 a ha⟩
  · rintro ⟨g1, g2, g3, g4⟩
    rw [safe_iff hn g1 g2 g3, prefB_iff]
    exact fun a ha => by rw [sub a ha g1 g2]; exact g4 a ha
section
variable {s : TSet} {l : List TJob}
def heldS (s : TSet) (l : List TJob) (a : List Nat) : Bool := heldB s (balanceI s + sumO (l.map (chI s)) a)
theorem held_S (h7 : l.length ≤ 7) (a : List Nat) (hd : a.Nodup) (hl : ∀ i ∈ a, i < l.length) : heldM s l (st a) = heldS s l a := by
  unfold heldM heldS imbM sumO
  rw [bsum_st h7 _ hd hl]
/-- All safe orders. -/
def allS (s : TSet) (l : List TJob) : List (List Nat) := pathsV l.length (flip l.length (heldM s l)) (2 ^ l.length - 1)
theorem allS_mem (h7 : l.length ≤ 7) (o : List Nat) : o ∈ allS s l ↔ SafeS l.length (heldS s l) o := by
  unfold allS
  rw [safe_up h7, safe_safeS h7 (held_S h7)]
theorem allS_nodup : (allS s l).Nodup := paths_nodup _ _ _ _ (Nat.lt_succ_self _)
theorem ways_S (h7 : l.length ≤ 7) : waysV l.length (heldM s l) (2 ^ l.length - 1) = ((allS s l).length : Int) := by
  rw [← ways_flip h7, ways_len _ _ _ _ (Nat.lt_succ_self _)]; rfl
theorem more_ways {s' : TSet} (h7 : l.length ≤ 7) (hh : ∀ a, heldS s l a = true → heldS s' l a = true) : (allS s l).length ≤ (allS s' l).length := by
  refine allS_nodup.length_le_of_subset fun o ho => ?_
  rw [allS_mem h7] at ho ⊢
  exact ⟨ho.1, ho.2.1, ho.2.2.1, fun a ha => hh a (ho.2.2.2 a ha)⟩
def rev1 (n i : Nat) : Nat := n - 1 - i
theorem rev_safe {o : List Nat} (ho : SafeS l.length (heldS s l) o) : SafeS l.reverse.length (heldS s l.reverse) (o.map (rev1 l.length)) := by
  obtain ⟨g1, g2, g3, g4⟩ := ho
  have hsum : ∀ a : List Nat, (∀ i ∈ a, i < l.length) → sumO (l.reverse.map (chI s)) (a.map (rev1 l.length)) = sumO (l.map (chI s)) a := by
    intro a ha
    unfold sumO
    rw [List.map_map]
    congr 1
    apply List.map_congr_left
    intro i hi
    have := ha i hi
    rw [Function.comp_apply, List.getD_eq_getElem?_getD, List.getD_eq_getElem?_getD, List.getElem?_map, List.getElem?_map]
    unfold rev1
    rw [List.getElem?_reverse (by omega), show l.length - 1 - (l.length - 1 - i) = i from by omega]
  rw [List.length_reverse]
  refine ⟨?_, fun j hj => ?_, by rw [List.length_map]; exact g3, fun a ha => ?_⟩
  · rw [List.Nodup, List.pairwise_map]
    refine List.Pairwise.imp_of_mem (fun {x y} hx hy hne => ?_) g1
    have := g2 x hx
    have := g2 y hy
    unfold rev1
    omega
  · obtain ⟨i, hi, rfl⟩ := List.mem_map.1 hj
    have := g2 i hi
    unfold rev1; omega
  · have e : a = (o.take a.length).map (rev1 l.length) := by
      rw [List.map_take]
      exact List.prefix_iff_eq_take.1 ha
    have h1 := g4 _ (List.take_prefix a.length o)
    rw [e]
    unfold heldS at h1 ⊢
    rw [hsum _ fun i hi => g2 i (List.mem_of_mem_take hi)]
    exact h1
theorem rev_ways (h7 : l.length ≤ 7) : (allS s l.reverse).length = (allS s l).length := by
  have key : ∀ l : List TJob, l.length ≤ 7 → (allS s l).length ≤ (allS s l.reverse).length := by
    intro l h7
    have hn : ((allS s l).map fun o => o.map (rev1 l.length)).Nodup := by
      rw [List.Nodup, List.pairwise_map]
      refine List.Pairwise.imp_of_mem (fun {x y} hx hy hne e => hne ?_) allS_nodup
      rw [allS_mem h7] at hx hy
      have inv : ∀ z : List Nat, (∀ i ∈ z, i < l.length) → (z.map (rev1 l.length)).map (rev1 l.length) = z := fun z hz => by
        rw [List.map_map]
        conv => rhs; rw [← List.map_id z]
        apply List.map_congr_left
        intro i hi
        have := hz i hi
        rw [Function.comp_apply]
        unfold rev1
        show _ = i
        omega
      rw [← inv x hx.2.1, ← inv y hy.2.1, e]
    have := hn.length_le_of_subset (l₂ := allS s l.reverse) fun p hp => by
      obtain ⟨o, ho, rfl⟩ := List.mem_map.1 hp
      rw [allS_mem h7] at ho
      rw [allS_mem (by rw [List.length_reverse]; exact h7)]
      exact rev_safe ho
    rwa [List.length_map] at this
  have h1 := key l h7
  have h2 := key l.reverse (by rw [List.length_reverse]; exact h7)
  rw [List.reverse_reverse] at h2
  omega
/-- A job more, at any place. -/
def insL (n : Nat) (o : List Nat) : List (List Nat) := (List.range (n + 1)).map fun k => o.take k ++ n :: o.drop k
theorem idle_sum {x : TJob} (hx : chI s x = 0) (a : List Nat) (ha : ∀ i ∈ a, i ≤ l.length) : sumO ((l ++ [x]).map (chI s)) a = sumO (l.map (chI s)) (a.filter (· != l.length)) := by
  induction a with
  | nil => rfl
  | cons i a ih =>
    have hi := ha i List.mem_cons_self
    have ih := ih fun j hj => ha j (List.mem_cons_of_mem _ hj)
    have e1 : ∀ (cs : List Int) (i : Nat) (a : List Nat), sumO cs (i :: a) = cs.getD i 0 + sumO cs a := fun cs i a => by unfold sumO; rw [List.map_cons, List.sum_cons]
    rw [e1, ih, List.map_append]
    by_cases he : i = l.length
    · rw [List.filter_cons_of_neg (by simp [he]), he]
      have : (l.map (chI s) ++ [x].map (chI s)).getD l.length 0 = 0 := by
        rw [List.getD_eq_getElem?_getD, List.getElem?_append_right (by simp)]
        simp [hx]
      rw [this]; omega
    · rw [List.filter_cons_of_pos (by simpa using he), e1]
      congr 1
      rw [List.getD_eq_getElem?_getD, List.getD_eq_getElem?_getD, List.getElem?_append_left (by simp; omega)]
theorem filter_ne {n : Nat} {o : List Nat} (h : ∀ i ∈ o, i < n) : o.filter (· != n) = o := by
  rw [List.filter_eq_self]
  intro i hi
  have := h i hi
  simp; omega
theorem filter_ins {n : Nat} {o : List Nat} (h : ∀ i ∈ o, i < n) (k : Nat) : (o.take k ++ n :: o.drop k).filter (· != n) = o := by
  rw [List.filter_append, List.filter_cons_of_neg (by simp), ← List.filter_append, List.take_append_drop, filter_ne h]
theorem ins_nodup {n : Nat} {o : List Nat} (h : ∀ i ∈ o, i < n) (hlen : o.length = n) : (insL n o).Nodup := by
  unfold insL
  rw [List.Nodup, List.pairwise_map]
  refine List.Pairwise.imp_of_mem (fun {a b} ha hb hne e => ?_) (List.nodup_range (n := n + 1))
  have ha := List.mem_range.1 ha
  have hb := List.mem_range.1 hb
  have at_ : ∀ k, k ≤ n → (o.take k ++ n :: o.drop k)[k]? = some n := fun k hk => by
    rw [List.getElem?_append_right (by rw [List.length_take]; omega), List.length_take, show k - min k o.length = 0 by omega]; rfl
  have not_ : ∀ k j, k ≤ n → j ≤ n → j ≠ k → (o.take k ++ n :: o.drop k)[j]? ≠ some n := fun k j hk hj hne he => by
    have hmem : n ∈ o := by
      rcases Nat.lt_or_ge j k with hlt | hge
      · rw [List.getElem?_append_left (by rw [List.length_take]; omega)] at he
        exact List.mem_of_mem_take (List.mem_of_getElem? he)
      · rw [List.getElem?_append_right (by rw [List.length_take]; omega), List.length_take] at he
        obtain ⟨q, hq⟩ : ∃ q, j - min k o.length = q + 1 := ⟨j - min k o.length - 1, by omega⟩
        rw [hq, List.getElem?_cons_succ] at he
        exact List.mem_of_mem_drop (List.mem_of_getElem? he)
    have := h n hmem
    omega
  have h1 := at_ a (by omega)
  rw [e] at h1
  exact not_ b a (by omega) (by omega) (fun e => hne e) h1
theorem idle_mem {x : TJob} (hx : chI s x = 0) (p : List Nat) : SafeS (l ++ [x]).length (heldS s (l ++ [x])) p ↔ ∃ o, SafeS l.length (heldS s l) o ∧ p ∈ insL l.length o := by
  have hlen : (l ++ [x]).length = l.length + 1 := by simp
  have hh : ∀ a : List Nat, (∀ i ∈ a, i ≤ l.length) → heldS s (l ++ [x]) a = heldS s l (a.filter (· != l.length)) := fun a ha => by
    unfold heldS; rw [idle_sum hx a ha]
  rw [hlen]
  constructor
  · rintro ⟨g1, g2, g3, g4⟩
    have hmem : l.length ∈ p := by
      apply Classical.byContradiction
      intro hna
      have h5 := g1.length_le_of_subset (l₂ := List.range l.length) fun j hj => List.mem_range.2 (by
        have := g2 j hj
        have : j ≠ l.length := fun e => hna (e ▸ hj)
        omega)
      rw [List.length_range] at h5
      omega
    obtain ⟨u, v, rfl⟩ := List.append_of_mem hmem
    have hd2 := List.nodup_append.1 g1
    have hd3 := List.nodup_cons.1 hd2.2.1
    have hlu : ∀ i ∈ u, i < l.length := fun i hi => by
      have := g2 i (by simp [hi])
      have : i ≠ l.length := fun e => hd2.2.2 i hi l.length List.mem_cons_self e
      omega
    have hlv : ∀ i ∈ v, i < l.length := fun i hi => by
      have := g2 i (by simp [hi])
      have : i ≠ l.length := fun e => hd3.1 (e ▸ hi)
      omega
    have hluv : ∀ i ∈ u ++ v, i < l.length := fun i hi => by
      rcases List.mem_append.1 hi with h | h
      · exact hlu i h
      · exact hlv i h
    have hl3 : (u ++ v).length = l.length := by
      rw [List.length_append, List.length_cons] at g3
      rw [List.length_append]; omega
    refine ⟨u ++ v, ⟨?_, hluv, hl3, fun a ha => ?_⟩, ?_⟩
    · rw [List.nodup_append]
      exact ⟨hd2.1, hd3.2, fun a ha b hb => hd2.2.2 a ha b (List.mem_cons_of_mem _ hb)⟩
    · have hea : a.filter (· != l.length) = a := filter_ne fun i hi => hluv i (ha.subset hi)
      rcases Nat.lt_or_ge u.length a.length with hlt | hge
      · -- beyond the place
        have e : a = u ++ v.take (a.length - u.length) := by
          have h1 := List.prefix_iff_eq_take.1 ha
          rw [List.take_append] at h1
          rw [List.take_of_length_le (by omega)] at h1
          exact h1
        have h2 := g4 (u ++ l.length :: v.take (a.length - u.length)) (by
          have : l.length :: v.take (a.length - u.length) <+: l.length :: v := List.cons_prefix_cons.2 ⟨rfl, List.take_prefix _ _⟩
          exact (List.prefix_append_right_inj u).2 this)
        rw [hh _ fun i hi => by
          rcases List.mem_append.1 hi with h | h
          · have := hlu i h; omega
          · rcases List.mem_cons.1 h with h | h
            · omega
            · have := hlv i (List.mem_of_mem_take h); omega] at h2
        rw [List.filter_append, List.filter_cons_of_neg (by simp), ← List.filter_append, ← e, hea] at h2
        exact h2
      · have e : a = u.take a.length := by
          have h1 := List.prefix_iff_eq_take.1 ha
          rw [List.take_append_of_le_length hge] at h1
          exact h1
        have h2 := g4 a (by rw [e]; exact (List.take_prefix _ u).trans (List.prefix_append u _))
        rw [hh _ fun i hi => by have := hluv i (ha.subset hi); omega, hea] at h2
        exact h2
    · unfold insL
      refine List.mem_map.2 ⟨u.length, List.mem_range.2 (by rw [List.length_append] at hl3; omega), ?_⟩
      rw [List.take_left, List.drop_left]
  · rintro ⟨o, ⟨g1, g2, g3, g4⟩, hp⟩
    unfold insL at hp
    obtain ⟨k, hk, rfl⟩ := List.mem_map.1 hp
    have hk := List.mem_range.1 hk
    have hno : l.length ∉ o := fun h => by have := g2 _ h; omega
    have hall : ∀ i ∈ o.take k ++ l.length :: o.drop k, i ≤ l.length := fun i hi => by
      rcases List.mem_append.1 hi with h | h
      · have := g2 i (List.mem_of_mem_take h); omega
      · rcases List.mem_cons.1 h with h | h
        · omega
        · have := g2 i (List.mem_of_mem_drop h); omega
    refine ⟨?_, fun i hi => by have := hall i hi; omega, by simp; omega, fun a ha => ?_⟩
    · rw [List.nodup_append]
      have hd : (o.take k ++ o.drop k).Nodup := by rw [List.take_append_drop]; exact g1
      have hd2 := List.nodup_append.1 hd
      refine ⟨hd2.1, List.nodup_cons.2 ⟨fun h => hno (List.mem_of_mem_drop h), hd2.2.1⟩, fun a ha b hb e => ?_⟩
      rcases List.mem_cons.1 hb with h | h
      · subst h; subst e; exact hno (List.mem_of_mem_take ha)
      · exact hd2.2.2 a ha b h e
    · rw [hh a fun i hi => hall i (ha.subset hi)]
      apply g4
      have h1 := List.IsPrefix.filter (· != l.length) ha
      rwa [filter_ins g2] at h1
theorem idle_ways {x : TJob} (hx : chI s x = 0) (h6 : l.length ≤ 6) : (allS s (l ++ [x])).length = (allS s l).length * (l.length + 1) := by
  have h7 : (l ++ [x]).length ≤ 7 := by simp; omega
  have hlen2 : ∀ L : List (List Nat), (∀ o ∈ L, o.length = l.length) → (L.flatMap (insL l.length)).length = L.length * (l.length + 1) := by
    intro L
    induction L with
    | nil => intro _; simp
    | cons o L ih =>
      intro h
      rw [List.flatMap_cons, List.length_append, ih fun p hp => h p (List.mem_cons_of_mem _ hp), List.length_cons, Nat.succ_mul]
      have : (insL l.length o).length = l.length + 1 := by unfold insL; simp
      omega
  have hS : ∀ o ∈ allS s l, SafeS l.length (heldS s l) o := fun o ho => (allS_mem (by omega) o).1 ho
  have hn : ((allS s l).flatMap (insL l.length)).Nodup := by
    rw [List.Nodup, List.pairwise_flatMap]
    refine ⟨fun o ho => ins_nodup (hS o ho).2.1 (hS o ho).2.2.1, List.Pairwise.imp_of_mem (fun {a b} ha hb hne x hx y hy e => hne ?_) allS_nodup⟩
    subst e
    unfold insL at hx hy
    obtain ⟨k, _, rfl⟩ := List.mem_map.1 hx
    obtain ⟨j, _, e⟩ := List.mem_map.1 hy
    rw [← filter_ins (hS a ha).2.1 k, ← e, filter_ins (hS b hb).2.1 j]
  have hperm := (List.perm_ext_iff_of_nodup allS_nodup hn).2 fun p => by
    rw [allS_mem h7, idle_mem hx, List.mem_flatMap]
    constructor
    · rintro ⟨o, ho, hp⟩
      exact ⟨o, (allS_mem (by omega) o).2 ho, hp⟩
    · rintro ⟨o, ho, hp⟩
      exact ⟨o, hS o ho, hp⟩
  rw [hperm.length_eq, hlen2 _ fun o ho => (hS o ho).2.2.1]
end
end Go.Proofs.Ytmdghocpelkcoaa

/- Loading in: with a greater brake no safe order is lost; the order of the jobs in the list does not change the number of safe orders; a job that changes nothing can be done at any time. -/
namespace Go.Proofs.Ytmdghocpelkcoaa
set_option linter.unusedSimpArgs false
set_option linter.unusedVariables false

theorem valid_more {s : TSet} {b : Int} (h : validB s = true) (h0 : 0 ≤ b) (h1 : b ≤ 67108864) : validB (moreS s b) = true := by
  unfold validB headB weightsB moreS at *
  simp only [Bool.and_eq_true] at h ⊢
  obtain ⟨g1, g2, ⟨g3, g4, g5, g6, _⟩, g7⟩ := h
  exact ⟨g1, g2, ⟨g3, g4, g5, g6, by rw [between_iff]; exact ⟨h0, h1⟩⟩, g7⟩
theorem main_LoadinMore (x0 : TSet) (x1 : List TJob) (x2 : Int) (w0 : W_Set x0) (w1 : W_l_Job x1) (w2 : W_u32 x2) : F_law28_LoadinMore x0 x1 x2 = some true := by
  have hx2 : 0 ≤ x2 ∧ x2 ≤ 4294967295 := by
    have h : (Lit.int .u32 x2).wf = true := w2
    unfold Lit.wf at h
    have h2 : IntKind.u32.min ≤ x2 ∧ x2 ≤ IntKind.u32.max := by simpa using h
    exact h2
  unfold F_law28_LoadinMore
  rw [f_awake28, f_right]
  simp only [Option.bind_some, Bool.not_true, cond_false]
  cases hr0 : (!longB x0 x1 && (okB x0 x1 && !decide (12 < x1.length))) with
  | false => rfl
  | true =>
    obtain ⟨hl, hf⟩ := right_ok hr0
    have h7 := hf.n7
    have hN := hf.N
    have hp := Nat.two_pow_pos x1.length
    have hb0 := hf.good.b0
    have hb1 := hf.good.b1
    simp only [Bool.not_true, cond_false, Option.bind_some]
    by_cases h6 : ((x1.length : Nat) : Int) > 6
    · rw [decide_eq_true h6]; rfl
    rw [decide_eq_false h6]
    simp only [cond_false]
    rw [f_Count hl, res_few hf, f_rcopy x0 hf.fits]
    refine bind_of rfl ?_
    refine bind_of rfl ?_
    -- the greater brake
    obtain ⟨b, hb⟩ : ∃ b, b = minZ 67108864 (IntKind.i64.wrap (x0.brake + ((IntKind.i64.wrap x2).tmod 67108864))) := ⟨_, rfl⟩
    have hbb : x0.brake ≤ b ∧ b ≤ 67108864 := by
      have hm : 0 ≤ x2.tmod 67108864 ∧ x2.tmod 67108864 < 67108864 := ⟨Int.tmod_nonneg _ hx2.1, Int.tmod_lt_of_pos _ (by decide)⟩
      rw [hb, minZ_eq, wrap64 (n := x2) (by omega) (by omega), wrap64 (by omega) (by omega)]
      omega
    rw [← hb]
    have hl' : longB (moreS x0 b) x1 = false := hl
    have hv' := valid_more hf.valid (show 0 ≤ b by omega) hbb.2
    have ho' : okB (moreS x0 b) x1 = true := by unfold okB; rw [hv', hf.jobs]; rfl
    have hf' : Few (moreS x0 b) x1 := few_of hl' ho' (by omega)
    show (F_loadin_Count (moreS x0 b) x1).bind _ = _
    rw [f_Count hl', res_few hf']
    refine bind_of rfl ?_
    rw [f_clone_job x1 (by omega)]
    refine bind_of rfl ?_
    refine bind_of (iter_rev x1 (by omega)) ?_
    have hlr : longB x0 x1.reverse = false := by
      unfold longB at hl ⊢
      rw [List.length_reverse, List.any_reverse]
      exact hl
    have hor : okB x0 x1.reverse = true := by
      rw [okB_rev]
      unfold okB; rw [hf.valid, hf.jobs]; rfl
    have hfr : Few x0 x1.reverse := few_of hlr hor (by rw [List.length_reverse]; omega)
    simp only
    rw [f_Count hlr, res_few hfr]
    refine bind_of rfl ?_
    have e0 : ((0 : Int) != 0) = false := rfl
    simp only [e0, cond_false]
    have hle : (allS x0 x1).length ≤ (allS (moreS x0 b) x1).length := more_ways h7 fun a ha => by
      unfold heldS at ha ⊢
      rw [held_iff] at ha ⊢
      show -b ≤ balanceI x0 + sumO (x1.map (chI x0)) a ∧ balanceI x0 + sumO (x1.map (chI x0)) a ≤ b
      omega
    have hwb := ways_bound h7 (heldM x0 x1) (2 ^ x1.length - 1) (by omega)
    rw [ways_S (s := x0) h7, ways_S (s := moreS x0 b) h7, ways_S (s := x0) (l := x1.reverse) (by rw [List.length_reverse]; exact h7), rev_ways h7]
    rw [ways_S (s := x0) h7] at hwb
    rw [decide_eq_false (by omega), bne_self_eq_false]
    simp only [cond_false, Option.bind_some]
    rw [if_pos (by simp; omega)]
    obtain ⟨x, hx⟩ : ∃ x, x = TJob.mk (⟨#[110, 111, 116, 104, 105, 110, 103, 65, 116, 65, 108, 108]⟩ : ByteArray) false 0 := ⟨_, rfl⟩
    rw [← hx]
    have hxs : x.name.size = 12 := by rw [hx]; rfl
    have hnames : ∀ y ∈ x1 ++ [x], y.name.size ≤ 60 := fun y hy => by
      rcases List.mem_append.1 hy with h | h
      · exact hf.names y h
      · rw [List.mem_singleton] at h; subst h; omega
    rw [f_rjobs (x1 ++ [x]) fun y hy => by have := hnames y hy; omega]
    simp only [Option.bind_some]
    cases hj : jobsB (x1 ++ [x]) with
    | false => rfl
    | true =>
      simp only [Bool.not_true, cond_false]
      have hli : longB x0 (x1 ++ [x]) = false := by
        unfold longB at hl ⊢
        simp only [Bool.or_eq_false_iff] at hl ⊢
        obtain ⟨q1, q2, q3, q4, q5⟩ := hl
        refine ⟨q1, q2, ?_, ?_, ?_⟩
        · rw [List.length_append, List.length_singleton, decide_eq_false (by omega)]; rfl
        · rw [List.length_append, List.length_singleton]; exact decide_eq_false (by omega)
        · rw [List.any_append, q5]
          simp [hxs]
      have hoi : okB x0 (x1 ++ [x]) = true := by unfold okB; rw [hf.valid, hj]; rfl
      have hfi : Few x0 (x1 ++ [x]) := few_of hli hoi (by rw [List.length_append, List.length_singleton]; omega)
      have hch : chI x0 x = 0 := by rw [hx]; rfl
      rw [f_Count hli, res_few hfi]
      refine bind_of rfl ?_
      rw [ways_S (s := x0) (l := x1 ++ [x]) hfi.n7, idle_ways hch (by omega)]
      simp only [beq_self_eq_true, cond_true, Option.bind_some]
      have hmul : (((allS x0 x1).length * (x1.length + 1) : Nat) : Int) ≤ 7000000 := by
        have h1 : (allS x0 x1).length ≤ 1000000 := by omega
        have := Nat.mul_le_mul h1 (show x1.length + 1 ≤ 7 by omega)
        omega
      rw [wrap64 (n := ((x1.length : Nat) : Int) + 1) (by omega) (by omega)]
      have e : (((allS x0 x1).length : Nat) : Int) * (((x1.length : Nat) : Int) + 1) = (((allS x0 x1).length * (x1.length + 1) : Nat) : Int) := by rw [Int.natCast_mul]; rfl
      rw [e, wrap64 (by omega) (by omega), beq_self_eq_true]
end Go.Proofs.Ytmdghocpelkcoaa
