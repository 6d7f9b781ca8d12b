/- Brakes: jobs, their check, the imbalance by the reference. -/
import Derived.Test.YtmdghocpelkcoaaPl13
namespace Go.Proofs.Ytmdghocpelkcoaa
set_option linter.unusedSimpArgs false
set_option linter.unusedVariables false

theorem at_some {α : Type} {l : List α} {k : Nat} (h : k < l.length) : l[Int.toNat (k : Int)]? = some l[k] := by
  rw [Int.toNat_natCast, List.getElem?_eq_getElem h]
theorem sumTo_all {α : Type} (f : α → Int) (l : List α) : sumTo f l l.length = (l.map f).sum := by unfold sumTo; rw [List.take_length]
def jobB (x : TJob) : Bool := nameB x.name && betweenB x.weight (-1048576) 1048576
def jobsB (l : List TJob) : Bool := decide (l.length ≤ 100) && pairsB jobB (fun x y => !sameName x.name y.name) l
theorem keysM_true {α : Type} (f : α → ByteArray) (s : ByteArray) (l : List α) : (findM s (keysM f l)).getD false = (findM s (keysM f l)).isSome := by
  have key : ∀ (l : List α) (m : List (ByteArray × Bool)), (findM s m).getD false = (findM s m).isSome → (findM s (l.foldl (fun m x => setM (f x) true m) m)).getD false = (findM s (l.foldl (fun m x => setM (f x) true m) m)).isSome := by
    intro l
    induction l with
    | nil => intro m h; exact h
    | cons x l ih =>
      intro m h
      refine ih _ ?_
      by_cases e : s = f x
      · subst e; rw [find_set_same]; rfl
      · rw [find_set_other e]; exact h
  exact key l [] rfl
theorem keysM_before {l : List TJob} {k : Nat} (hk : k < l.length) : (findM l[k].name (keysM (·.name) (l.take k))).getD false = !(l.take k).all fun y => !sameName y.name l[k].name := by
  rw [keysM_true, Bool.eq_iff_iff, keysM_find (·.name) _ l k (by omega), Bool.not_eq_true', List.all_eq_false]
  constructor
  · rintro ⟨x, hx, e⟩
    exact ⟨x, hx, by rw [(sameName_iff _ _).2 e]; decide⟩
  · rintro ⟨x, hx, e⟩
    refine ⟨x, hx, ?_⟩
    rw [← sameName_iff]
    simpa using e
theorem job_eq (x : TJob) : jobB x = (nameB x.name && (!decide (x.weight < -1048576) && !decide (x.weight > 1048576))) := by
  unfold jobB betweenB
  congr 1
  by_cases h1 : x.weight < -1048576 <;> by_cases h2 : x.weight > 1048576 <;> simp [h1, h2] <;> omega
theorem f_bvalid (l : List TJob) (hn : ∀ x ∈ l, x.name.size ≤ 2147483648) : F_brake_Valid l = some (jobsB l) := by
  unfold F_brake_Valid jobsB
  by_cases h8 : l.length ≤ 100
  case neg =>
    have e1 : decide (((l.length : Nat) : Int) > 100) = true := decide_eq_true (by omega)
    rw [e1, decide_eq_false h8]; rfl
  have e1 : decide (((l.length : Nat) : Int) > 100) = false := decide_eq_false (by omega)
  rw [e1, decide_eq_true h8]
  simp only [cond_false, Bool.true_and]
  obtain ⟨r, g1, g2⟩ := iter_inv (F := fun s9 : Int × List (ByteArray × Bool) × Unit => (bif (decide (s9.1 < ((l.length : Nat) : Int))) then (idx l s9.1).bind fun x10 => ((F_decimal_IsName x10.name).bind fun r11 => (bif (!r11) then some (true, ()) else (if x10.name.size ≤ 2147483648 then (bif ((findM x10.name s9.2.1).getD false) then some (true, ()) else (bif (decide (x10.weight < (-1048576))) then some (true, ()) else some ((decide (x10.weight > 1048576)), ()))) else none)) : Option (Bool × Unit)).bind fun y12 => (bif y12.1 then some (.inr (.inl (false, s9.2.1, ()))) else (if x10.name.size ≤ 2147483648 ∧ s9.2.1.length ≤ 2147483648 then some (.inl ((IntKind.i64.wrap (s9.1 + 1)), (setM x10.name true s9.2.1), ())) else none)) else some (.inr (.inr ((s9.2.1, ())))) : Option ((Int × List (ByteArray × Bool) × Unit) ⊕ ((Bool × List (ByteArray × Bool) × Unit) ⊕ (List (ByteArray × Bool) × Unit)))))
    (Q := fun r => bif pairsB jobB (fun x y => !sameName x.name y.name) l then ∃ m, r = .inr (m, ()) else ∃ m, r = .inl (false, m, ())) (fun k s => s = ((k : Int), keysM (·.name) (l.take k), ()) ∧ okTo jobB (fun x y => !sameName x.name y.name) l k) l.length (by unfold big; omega) (fun k s hk hs => by
      obtain ⟨rfl, hok⟩ := hs
      by_cases hlt : k < l.length
      · have hna := hn l[k] (List.getElem_mem hlt)
        have g3 := (keysM_length (·.name) l k (by omega)).1
        have hat : okAt jobB (fun x y => !sameName x.name y.name) l k = (jobB l[k] && (l.take k).all fun y => !sameName y.name l[k].name) := okAt_eq hlt
        simp only [lt_yes hlt, cond_true, idx_at hlt, Option.bind_some, f_name l[k].name (by omega), keysM_before hlt]
        rw [if_pos hna]
        rw [job_eq] at hat
        cases ho : okAt jobB (fun x y => !sameName x.name y.name) l k with
        | false =>
          rw [ho] at hat
          refine .inr ⟨.inl (false, keysM (·.name) (l.take k), ()), ?_, by rw [pairs_no hlt ho]; exact ⟨_, rfl⟩⟩
          cases h1 : nameB l[k].name <;> cases h2 : (l.take k).all (fun y => !sameName y.name l[k].name) <;> cases h3 : decide (l[k].weight < -1048576) <;> cases h4 : decide (l[k].weight > 1048576) <;> first | rfl | (rw [h1, h2, h3, h4] at hat; cases hat)
        | true =>
          rw [ho] at hat
          have hb := hat.symm
          simp only [Bool.and_eq_true, Bool.not_eq_true'] at hb
          obtain ⟨⟨b1, b2, b3⟩, b4⟩ := hb
          refine .inl ⟨((k : Int) + 1, setM l[k].name true (keysM (·.name) (l.take k)), ()), ?_, hlt, ?_, okTo_succ hok ho⟩
          · rw [b1, b2, b3, b4]
            simp only [Bool.not_true, cond_false, Option.bind_some]
            rw [if_pos ⟨hna, by omega⟩, wrap64 (by omega) (by omega)]
          · rw [List.take_succ_eq_append_getElem hlt, keysM_snoc]; rfl
      · obtain rfl : k = l.length := by omega
        simp only [lt_no, cond_false]
        exact .inr ⟨_, rfl, by rw [pairs_yes hok]; exact ⟨_, rfl⟩⟩) (s := (0, ([] : List (ByteArray × Bool)), ())) ⟨rfl, okTo_zero⟩
  rw [g1]
  cases hp : pairsB jobB (fun x y => !sameName x.name y.name) l with
  | true => rw [hp] at g2; obtain ⟨m, rfl⟩ := g2; rfl
  | false => rw [hp] at g2; obtain ⟨m, rfl⟩ := g2; rfl
theorem f_btw27 (n lo hi : Int) : F_ref27_between n lo hi = some (betweenB n lo hi) := f_rbetween n lo hi
theorem f_rjobs (l : List TJob) (hn : ∀ x ∈ l, x.name.size ≤ 2147483648) : F_ref27_Valid l = some (jobsB l) := by
  unfold F_ref27_Valid jobsB
  by_cases h8 : l.length ≤ 100
  case neg =>
    have e1 : decide (((l.length : Nat) : Int) > 100) = true := decide_eq_true (by omega)
    rw [e1, decide_eq_false h8]; rfl
  have e1 : decide (((l.length : Nat) : Int) > 100) = false := decide_eq_false (by omega)
  rw [e1, decide_eq_true h8]
  simp only [cond_false, Bool.true_and]
  rw [iter_pairs0 jobB (fun x y => !sameName x.name y.name) l (by omega) (.inl (false, ())) (.inr ()) ?hin ?hout]
  · cases pairsB jobB (fun x y => !sameName x.name y.name) l <;> rfl
  case hout => intro _; simp only [lt_no, cond_false]
  case hin =>
    intro k hk hok
    have hna := hn l[k] (List.getElem_mem hk)
    simp only [lt_yes hk, cond_true, idx_at hk, Option.bind_some, f_rname l[k].name (by omega), f_btw27]
    rw [okAt_eq hk]
    unfold jobB
    cases nameB l[k].name with
    | false => rfl
    | true =>
      cases betweenB l[k].weight (-1048576) 1048576 with
      | false => rfl
      | true =>
        simp only [Bool.not_true, cond_false, Option.bind_some, Bool.true_and]
        rw [iter_before l k (by omega) (by omega) (fun x => !sameName x.name l[k].name) (.inl (false, ())) (.inr ()) ?h1 ?h2]
        · cases (l.take k).all (fun x => !sameName x.name l[k].name) with
          | false => rfl
          | true =>
            simp only [cond_true, Option.bind_some, Bool.and_self]
            rw [wrap64 (by omega) (by omega)]
        case h1 =>
          intro j hj
          simp only [lt_yes hj, cond_true, idx_at (show j < l.length by omega), idx_at hk, Option.bind_some]
          rw [wrap64 (by omega) (by omega)]
          unfold sameName
          cases (l[j].name.toList == l[k].name.toList) <;> rfl
        case h2 => simp only [lt_no, cond_false]
def shortB (l : List TJob) (most : Int) : Bool := !decide ((l.length : Int) > most) && l.all fun x => decide (x.name.size ≤ 60)
theorem f_short (l : List TJob) (most : Int) (hm : most ≤ 1000) : F_ref27_Short l most = some (shortB l most) := by
  unfold F_ref27_Short shortB
  by_cases h : (l.length : Int) > most
  · rw [decide_eq_true h]; rfl
  · rw [decide_eq_false h]
    simp only [cond_false, Bool.not_false, Bool.true_and]
    rw [iter_no l (by omega) (fun x => decide (x.name.size ≤ 60)) (.inl (false, ())) (.inr ()) (fun k hk => by
      simp only [lt_yes hk, cond_true, idx_at hk, Option.bind_some]
      rw [wrap64 (by omega) (by omega)]
      by_cases h : l[k].name.size ≤ 60
      · rw [decide_eq_false (show ¬ (((l[k].name.size : Nat) : Int) > 60) by omega), decide_eq_true h]; rfl
      · rw [decide_eq_true (show (((l[k].name.size : Nat) : Int) > 60) by omega), decide_eq_false h]; rfl) (by simp only [lt_no, cond_false])]
    cases l.all (fun x => decide (x.name.size ≤ 60)) <;> rfl
def few27 (s : TSet) (l : List TJob) : Bool := smallB s 12 && (shortB l 30 || (decide ((l.length : Int) > 100) && shortB l 110))
theorem f_few27 (s : TSet) (l : List TJob) : F_law27_few s l = some (few27 s l) := by
  unfold F_law27_few few27
  rw [f_small, f_short l 30 (by omega), f_short l 110 (by omega)]
  simp only [Option.bind_some]
  cases smallB s 12 <;> cases shortB l 30 <;> cases decide ((l.length : Int) > 100) <;> rfl
theorem few_ok {s : TSet} {l : List TJob} (h : few27 s l = true) : Fits s ∧ l.length ≤ 110 ∧ ∀ x ∈ l, x.name.size ≤ 60 := by
  unfold few27 shortB at h
  simp only [Bool.and_eq_true, Bool.or_eq_true, Bool.not_eq_true', decide_eq_false_iff_not, decide_eq_true_eq, List.all_eq_true] at h
  obtain ⟨h1, h2⟩ := h
  refine ⟨small_fits h1, ?_, ?_⟩
  · rcases h2 with h2 | h2 <;> omega
  · rcases h2 with h2 | h2
    · exact h2.2
    · exact h2.2.2
theorem f_rweight (s : TSet) (h : Good s) : F_ref21_Weight s = some (weightI s) := f_weight s h
theorem f_rneeded (s : TSet) (h : Good s) : F_ref25_Needed s = some (neededI s) := by
  unfold F_ref25_Needed
  rw [f_rweight s h, Option.bind_some]
  have b1 := weight_bound h
  have b2 := needed_bound h
  have b3 : 0 ≤ weightI s * s.purchase := Int.mul_nonneg b1.1 (by have := h.u0; omega)
  have b4 : weightI s * s.purchase ≤ 1099553570816 * 2 := Int.mul_le_mul b1.2 h.u1 (by have := h.u0; omega) (by decide)
  rw [Int.mul_comm s.purchase, wrap64 (n := weightI s * s.purchase) (by omega) (by omega)]
  show some (IntKind.i64.wrap (neededI s)) = _
  rw [wrap64 (by omega) (by omega)]
theorem f_rsum (l : List TBrick) (hl : l.length ≤ 8) (hg : ∀ x ∈ l, GoodBrick x) : F_ref25_Sum l (l.map (·.count)) = some (thereW l) := by
  unfold F_ref25_Sum
  rw [iter_sum (fun b : TBrick => b.weight * b.count) l (by omega) 503316480 (by decide) (by decide) 0 (by decide) (fun k hk => thereW_bound hl hg k hk) (fun k hk z hz => by
    have hk2 : k < (l.map (·.count)).length := by rw [List.length_map]; exact hk
    have b := brick_mul (hg _ (List.getElem_mem hk))
    simp only [lt_yes hk, cond_true, idx_at hk, idx_at hk2, Option.bind_some, List.getElem_map]
    rw [wrap64 (n := l[k].weight * l[k].count) (by omega) (by omega), wrap64 (n := (k : Int) + 1) (by omega) (by omega)]) (fun z => by simp only [lt_no, cond_false])]
  rw [Int.zero_add]
  rfl
theorem bal_bound {s : TSet} (h : Good s) : -504365056 ≤ balanceI s ∧ balanceI s ≤ 2199107141632 := by
  have b1 := needed_bound h
  have b2 := thereW_bound h.nb h.bricks s.bricks.length (Nat.le_refl _)
  have e : balanceI s = neededI s - thereW s.bricks := rfl
  unfold thereW at e
  omega
theorem f_rbalance (s : TSet) (h : Good s) : F_ref25_Balance s = some (balanceI s) := by
  unfold F_ref25_Balance
  have hnb := h.nb
  rw [f_rneeded s h, f_counts s.bricks (by omega)]
  simp only [Option.bind_some]
  rw [f_rsum s.bricks h.nb h.bricks]
  simp only [Option.bind_some]
  show some (IntKind.i64.wrap (balanceI s)) = _
  have := bal_bound h
  rw [wrap64 (by omega) (by omega)]
end Go.Proofs.Ytmdghocpelkcoaa
