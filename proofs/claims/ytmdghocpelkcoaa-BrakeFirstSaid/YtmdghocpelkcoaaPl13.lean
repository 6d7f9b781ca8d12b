/- The reference's check of a set comes to the same. -/
import Derived.Test.YtmdghocpelkcoaaPl12
namespace Go.Proofs.Ytmdghocpelkcoaa
set_option linter.unusedSimpArgs false
set_option linter.unusedVariables false

theorem iter_pairs {α ρ : Type} {F : Int × Int × Unit → Option ((Int × Int × Unit) ⊕ ρ)} (one : α → Bool) (two : α → α → Bool) (l : List α) (hl : l.length < 9223372036854775807) (f : α → Int) (bad : ρ) (fin : Int → ρ)
    (hin : ∀ (k : Nat) (h : k < l.length), okTo one two l k → F (sumTo f l k, (k : Int), ()) = some (bif okAt one two l k then .inl (sumTo f l k + f l[k], (k : Int) + 1, ()) else .inr bad))
    (hout : okTo one two l l.length → F (sumTo f l l.length, (l.length : Int), ()) = some (.inr (fin (sumTo f l l.length)))) :
    iterF F big (0, 0, ()) = some (bif pairsB one two l then fin (sumTo f l l.length) else bad) := by
  obtain ⟨r, h1, h2⟩ := iter_inv (F := F) (Q := fun r => r = (bif pairsB one two l then fin (sumTo f l l.length) else bad)) (fun k s => s = (sumTo f l k, (k : Int), ()) ∧ okTo one two l k) l.length (by unfold big; omega) (fun k s hk hs => by
    obtain ⟨rfl, hok⟩ := hs
    by_cases hlt : k < l.length
    · have h := hin k hlt hok
      cases ho : okAt one two l k with
      | true =>
        rw [ho] at h
        exact .inl ⟨_, h, hlt, by rw [sumTo_succ _ _ _ hlt]; rfl, okTo_succ hok ho⟩
      | false =>
        rw [ho] at h
        exact .inr ⟨_, h, by rw [pairs_no hlt ho]; rfl⟩
    · obtain rfl : k = l.length := by omega
      exact .inr ⟨_, hout hok, by rw [pairs_yes hok]; rfl⟩) (s := (0, 0, ())) ⟨rfl, okTo_zero⟩
  rw [h1, h2]
theorem iter_pairs0 {α ρ : Type} {F : Int × Unit → Option ((Int × Unit) ⊕ ρ)} (one : α → Bool) (two : α → α → Bool) (l : List α) (hl : l.length < 9223372036854775807) (bad fin : ρ)
    (hin : ∀ (k : Nat) (h : k < l.length), okTo one two l k → F ((k : Int), ()) = some (bif okAt one two l k then .inl ((k : Int) + 1, ()) else .inr bad))
    (hout : okTo one two l l.length → F ((l.length : Int), ()) = some (.inr fin)) :
    iterF F big (0, ()) = some (bif pairsB one two l then fin else bad) := by
  obtain ⟨r, h1, h2⟩ := iter_inv (F := F) (Q := fun r => r = (bif pairsB one two l then fin else bad)) (fun k s => s = ((k : Int), ()) ∧ okTo one two l k) l.length (by unfold big; omega) (fun k s hk hs => by
    obtain ⟨rfl, hok⟩ := hs
    by_cases hlt : k < l.length
    · have h := hin k hlt hok
      cases ho : okAt one two l k with
      | true =>
        rw [ho] at h
        exact .inl ⟨_, h, hlt, rfl, okTo_succ hok ho⟩
      | false =>
        rw [ho] at h
        exact .inr ⟨_, h, by rw [pairs_no hlt ho]; rfl⟩
    · obtain rfl : k = l.length := by omega
      exact .inr ⟨_, hout hok, by rw [pairs_yes hok]; rfl⟩) (s := (0, ())) ⟨rfl, okTo_zero⟩
  rw [h1, h2]
/-- The inner loop: over the elements before one. -/
theorem iter_before {α ρ : Type} {F : Int × Unit → Option ((Int × Unit) ⊕ ρ)} (l : List α) (n : Nat) (hn : n ≤ l.length) (hl : l.length < 9223372036854775807) (p : α → Bool) (a d : ρ)
    (hin : ∀ (k : Nat) (h : k < n), F ((k : Int), ()) = some (bif p (l[k]'(by omega)) then .inl ((k : Int) + 1, ()) else .inr a)) (hout : F ((n : Int), ()) = some (.inr d)) :
    iterF F big (0, ()) = some (bif (l.take n).all p then d else a) := by
  have hlen : (l.take n).length = n := by rw [List.length_take]; omega
  exact iter_no (l.take n) (by omega) p a d (fun k hk => by rw [hin k (by omega), List.getElem_take]) (by rw [hlen]; exact hout)
theorem okTo_one {α : Type} {one : α → Bool} {two : α → α → Bool} {l : List α} {k : Nat} (h : okTo one two l k) (hk : k ≤ l.length) : ∀ x ∈ l.take k, one x = true := by
  intro x hx
  obtain ⟨j, hj, rfl⟩ := List.mem_take_iff_getElem.1 hx
  have := h j (by omega)
  rw [okAt_eq (by omega), Bool.and_eq_true] at this
  exact this.1
theorem counts_to {l : List TBrick} {two : TBrick → TBrick → Bool} {k : Nat} (h : okTo brickB two l k) (hk : k ≤ l.length) : 0 ≤ sumTo (·.count) l k ∧ sumTo (·.count) l k ≤ k * 60 := by
  have h1 := sumTo_bound (·.count) (l.take k) 60 (fun x hx => by
    have := GoodBrick.of (okTo_one h hk x hx)
    exact ⟨this.c0, this.c1⟩) k (by rw [List.length_take]; omega)
  have e : sumTo (·.count) (l.take k) k = sumTo (·.count) l k := by unfold sumTo; rw [List.take_take, Nat.min_self]
  rw [e] at h1
  exact h1
theorem f_rbricks (l : List TBrick) (hl : l.length ≤ 2147483648) (hn : ∀ x ∈ l, x.name.size ≤ 2147483648) : F_ref21_Bricks l = some (bricksB l) := by
  unfold F_ref21_Bricks bricksB
  by_cases h8 : l.length ≤ 8
  · have e1 : decide (((l.length : Nat) : Int) > 8) = false := decide_eq_false (by omega)
    rw [e1, decide_eq_true h8]
    simp only [cond_false, Bool.true_and]
    rw [iter_pairs brickB (fun x y => !sameName x.name y.name) l (by omega) (·.count) (.inl (false, ())) (fun t => .inr (t, ())) ?hin ?hout]
    · cases pairsB brickB (fun x y => !sameName x.name y.name) l <;> rfl
    case hout => intro _; simp only [lt_no, cond_false]
    case hin =>
      intro k hk hok
      have hna := hn l[k] (List.getElem_mem hk)
      have hsum := counts_to hok (by omega)
      simp only [lt_yes hk, cond_true, idx_at hk, Option.bind_some, f_rname l[k].name (by omega), f_rbetween]
      rw [okAt_eq hk]
      cases hb : brickB l[k] with
      | false =>
        unfold brickB at hb
        cases ha : nameB l[k].name <;> cases hc : betweenB l[k].weight 1 1048576 <;> cases hd' : betweenB l[k].count 0 60 <;> first | rfl | (rw [ha, hc, hd'] at hb; cases hb)
      | true =>
        have hg := GoodBrick.of hb
        have hc0 := hg.c0
        have hc1 := hg.c1
        unfold brickB at hb
        simp only [Bool.and_eq_true] at hb
        rw [hb.1, hb.2.1, hb.2.2]
        simp only [Bool.not_true, cond_false, cond_true, Option.bind_some, Bool.true_and]
        rw [iter_before l k (by omega) (by omega) (fun x => !sameName x.name l[k].name) (.inl (false, ())) (.inr ()) ?h1 ?h2]
        · cases (l.take k).all (fun x => !sameName x.name l[k].name) with
          | false => rfl
          | true =>
            simp only [cond_true, Option.bind_some]
            rw [wrap64 (by omega) (by omega), wrap64 (by omega) (by omega)]
        case h1 =>
          intro j hj
          simp only [lt_yes hj, cond_true, idx_at (show j < l.length by omega), idx_at hk, Option.bind_some]
          rw [wrap64 (by omega) (by omega)]
          unfold sameName
          cases (l[j].name.toList == l[k].name.toList) <;> rfl
        case h2 => simp only [lt_no, cond_false]
  · have e1 : decide (((l.length : Nat) : Int) > 8) = true := decide_eq_true (by omega)
    rw [e1, decide_eq_false h8]
    rfl
theorem f_ralone (x : TItem) (len : Int) (hx : x.name.size ≤ 9223372036854775806) (h1 : -4611686018427387904 ≤ len) (h2 : len ≤ 4611686018427387904) : F_ref21_alone x len = some (aloneB x && insideB x len) := by
  unfold F_ref21_alone aloneB insideB
  rw [f_rname _ hx]
  simp only [f_rbetween, Option.bind_some]
  cases nameB x.name with
  | false => rfl
  | true =>
    cases hb : betweenB x.width 1 1048576 with
    | false => simp only [cond_true, cond_false, Option.bind_some, Bool.false_and, Bool.and_false]
    | true =>
      have hb' := hb
      rw [between_iff] at hb'
      rw [wrap64 (by omega) (by omega)]
      have e : betweenB x.at_ 0 (len - x.width) = (decide (0 ≤ x.at_) && decide (x.at_ ≤ len - x.width)) := by
        unfold betweenB
        rw [Bool.eq_iff_iff]; simp
      rw [e]
      simp only [cond_true, Option.bind_some, Bool.true_and]
      cases decide (0 ≤ x.at_) <;> cases decide (x.at_ ≤ len - x.width) <;> cases betweenB x.weight 0 1048576 <;> cases betweenB x.hang 0 1048576 <;> cases betweenB x.front 0 1048576 <;> cases betweenB x.back 0 1048576 <;> rfl
theorem f_ritems (s : TSet) (hl : s.items.length ≤ 2147483648) (hn : ∀ x ∈ s.items, x.name.size ≤ 2147483648) (h1 : -4611686018427387904 ≤ s.length) (h2 : s.length ≤ 4611686018427387904) : F_ref21_items s = some (itemsB s.items s.length) := by
  unfold F_ref21_items itemsB
  have hp : (pairsB (fun x => aloneB x && insideB x s.length) apartB s.items && pairsB (fun _ => true) (fun x y => !sameName x.name y.name) s.items) = pairsB (fun x => aloneB x && insideB x s.length) (fun x y => apartB x y && !sameName x.name y.name) s.items := by rw [pairs_and]
  rw [hp]
  by_cases h40 : s.items.length ≤ 40
  · have e1 : decide (((s.items.length : Nat) : Int) > 40) = false := decide_eq_false (by omega)
    rw [e1, decide_eq_true h40]
    simp only [cond_false, Bool.true_and]
    rw [iter_pairs0 (fun x => aloneB x && insideB x s.length) (fun x y => apartB x y && !sameName x.name y.name) s.items (by omega) (.inl (false, ())) (.inr ()) ?hin ?hout]
    · cases pairsB (fun x => aloneB x && insideB x s.length) (fun x y => apartB x y && !sameName x.name y.name) s.items <;> rfl
    case hout => intro _; simp only [lt_no, cond_false]
    case hin =>
      intro k hk hok
      have hna := hn s.items[k] (List.getElem_mem hk)
      simp only [lt_yes hk, cond_true, idx_at hk, Option.bind_some, f_ralone s.items[k] s.length (by omega) h1 h2]
      rw [okAt_eq hk]
      cases hb : (aloneB s.items[k] && insideB s.items[k] s.length) with
      | false => rfl
      | true =>
        have hxs := inside_sum (Bool.and_eq_true _ _ ▸ hb).2 h2
        simp only [Bool.not_true, cond_false, Bool.true_and]
        rw [iter_before s.items k (by omega) (by omega) (fun x => apartB x s.items[k] && !sameName x.name s.items[k].name) (.inl (false, ())) (.inr ()) ?g1 ?g2]
        · cases (s.items.take k).all (fun x => apartB x s.items[k] && !sameName x.name s.items[k].name) with
          | false => rfl
          | true =>
            simp only [cond_true, Option.bind_some]
            rw [wrap64 (by omega) (by omega)]
        case g1 =>
          intro j hj
          have hj' := hok j hj
          rw [okAt_eq (by omega)] at hj'
          simp only [Bool.and_eq_true] at hj'
          have hys := inside_sum hj'.1.2 h2
          simp only [lt_yes hj, cond_true, idx_at (show j < s.items.length by omega), idx_at hk, Option.bind_some, f_rapart _ _ hys hxs]
          rw [wrap64 (by omega) (by omega)]
          unfold sameName
          cases (s.items[j].name.toList == s.items[k].name.toList) <;> cases apartB s.items[j] s.items[k] <;> rfl
        case g2 => simp only [lt_no, cond_false]
  · have e1 : decide (((s.items.length : Nat) : Int) > 40) = true := decide_eq_true (by omega)
    rw [e1, decide_eq_false h40]
    rfl
theorem f_rvalid (s : TSet) (h : Fits s) : F_ref21_Valid s = some (validB s) := by
  unfold F_ref21_Valid validB headB weightsB
  rw [f_rname s.name (by have := h.name; omega), f_rbricks s.bricks h.bricks h.bnames]
  simp only [f_rbetween, Option.bind_some]
  cases nameB s.name <;> try rfl
  cases betweenB s.depth 0 1048576 <;> try rfl
  have e1 : betweenB s.low 0 s.high = (decide (0 ≤ s.low) && decide (s.low ≤ s.high)) := by
    unfold betweenB
    rw [Bool.eq_iff_iff]; simp
  have e2 : (betweenB s.low 0 s.high && betweenB s.high 0 1048576) = (decide (0 ≤ s.low) && (decide (s.low ≤ s.high) && decide (s.high ≤ 1048576))) := by
    unfold betweenB
    rw [Bool.eq_iff_iff]; simp only [Bool.and_eq_true, decide_eq_true_eq]; omega
  have e3 : ∀ t : Bool, (decide (0 ≤ s.low) && (decide (s.low ≤ s.high) && (decide (s.high ≤ 1048576) && t))) = (betweenB s.low 0 s.high && (betweenB s.high 0 1048576 && t)) := by
    intro t
    rw [← Bool.and_assoc (betweenB _ _ _), e2]
    simp only [Bool.and_assoc]
  rw [e3]
  cases betweenB s.low 0 s.high <;> try rfl
  cases betweenB s.high 0 1048576 <;> try rfl
  cases hl : betweenB s.length 1000 1048576 <;> try rfl
  rw [between_iff] at hl
  have hm : ((s.length.tmod 1000) != 0) = !decide (s.length % 1000 = 0) := by
    rw [Int.tmod_eq_emod_of_nonneg (by omega)]
    by_cases hz : s.length % 1000 = 0
    · rw [decide_eq_true hz, hz]; rfl
    · rw [decide_eq_false hz]; simp [hz]
  rw [hm, f_ritems s h.items h.inames (by omega) (by omega)]
  cases decide (s.length % 1000 = 0) <;> try rfl
  simp only [cond_false, Bool.not_true, Option.bind_some, Bool.true_and]
  have hlines : linesB s.lines s.length = (betweenB ((s.lines.length : Nat) : Int) 2 10 && (List.range s.lines.length).all (lineAt s.lines s.length)) := by
    unfold linesB betweenB
    congr 1
    by_cases h : 2 ≤ s.lines.length ∧ s.lines.length ≤ 10
    · rw [decide_eq_true h, decide_eq_true (by omega)]
    · rw [decide_eq_false h, decide_eq_false (by omega)]
  rw [hlines]
  cases hb : betweenB ((s.lines.length : Nat) : Int) 2 10 with
  | false => rfl
  | true =>
    rw [between_iff] at hb
    cases betweenB s.pipe 0 1048576 <;> try (simp only [Bool.not_true, Bool.not_false, cond_false, cond_true, Option.bind_some, Bool.false_and, Bool.and_false]; done)
    cases betweenB s.arbor 0 1048576 <;> try (simp only [Bool.not_true, Bool.not_false, cond_false, cond_true, Option.bind_some, Bool.false_and, Bool.and_false]; done)
    cases betweenB s.purchase 1 2 <;> try (simp only [Bool.not_true, Bool.not_false, cond_false, cond_true, Option.bind_some, Bool.false_and, Bool.and_false]; done)
    cases betweenB s.most 1 67108864 <;> try (simp only [Bool.not_true, Bool.not_false, cond_false, cond_true, Option.bind_some, Bool.false_and, Bool.and_false]; done)
    cases betweenB s.brake 0 67108864 <;> try (simp only [Bool.not_true, Bool.not_false, cond_false, cond_true, Option.bind_some, Bool.false_and, Bool.and_false]; done)
    simp only [Bool.not_true, cond_false, Option.bind_some, Bool.true_and]
    have hrange : ∀ (p : Nat → Bool), (List.range s.lines.length).all p = (s.lines.zipIdx.all fun x => p x.2) := by
      intro p
      rw [Bool.eq_iff_iff, List.all_eq_true, List.all_eq_true]
      constructor
      · intro e x hx
        obtain ⟨i, hi, rfl⟩ := List.mem_iff_getElem.1 hx
        rw [List.length_zipIdx] at hi
        exact e _ (List.mem_range.2 (by simpa using hi))
      · intro e i hi
        have hi := List.mem_range.1 hi
        exact e (s.lines[i], i) (by rw [List.mem_iff_getElem]; exact ⟨i, by simpa using hi, by simp⟩)
    rw [hrange, iter_find s.lines (by have := h.lines; omega) (fun k _ => bif lineAt s.lines s.length k then none else some (.inl (false, ()))) (.inr ()) ?hin ?hout]
    · cases ha : (s.lines.zipIdx.all fun x => lineAt s.lines s.length x.2) with
      | true =>
        have e : (s.lines.zipIdx.findSome? fun x => bif lineAt s.lines s.length x.2 then (none : Option ((Bool × Unit) ⊕ Unit)) else some (.inl (false, ()))) = none := by
          rw [List.findSome?_eq_none_iff]
          intro x hx
          rw [List.all_eq_true.1 ha x hx]; rfl
        rw [e]
        simp only [Option.getD_none, Option.bind_some, Bool.true_and]
        cases itemsB s.items s.length <;> rfl
      | false =>
        have e : (s.lines.zipIdx.findSome? fun x => bif lineAt s.lines s.length x.2 then (none : Option ((Bool × Unit) ⊕ Unit)) else some (.inl (false, ()))) = some (.inl (false, ())) := by
          rw [List.all_eq_false] at ha
          obtain ⟨x, hx, hp⟩ := ha
          cases hf : (s.lines.zipIdx.findSome? fun x => bif lineAt s.lines s.length x.2 then (none : Option ((Bool × Unit) ⊕ Unit)) else some (.inl (false, ()))) with
          | none =>
            rw [List.findSome?_eq_none_iff] at hf
            have := hf x hx
            rw [show lineAt s.lines s.length x.2 = false from by simpa using hp] at this
            cases this
          | some r =>
            obtain ⟨y, _, hy⟩ := List.exists_of_findSome?_eq_some hf
            cases hq : lineAt s.lines s.length y.2 with
            | true => rw [hq] at hy; cases hy
            | false => rw [hq] at hy; cases hy; rfl
        rw [e]
        rfl
    case hin =>
      intro k hk
      simp only [lt_yes hk, cond_true, idx_at hk, Option.bind_some]
      rw [lineAt_eq _ _ _ hk]
      cases betweenB s.lines[k] 0 s.length with
      | false => rfl
      | true =>
        simp only [Bool.not_true, cond_false, Bool.true_and]
        rcases Nat.eq_zero_or_pos k with h0 | h0
        · subst h0
          rfl
        · rw [decide_eq_true (show ((k : Nat) : Int) > 0 by omega)]
          have i2 : idx s.lines (IntKind.i64.wrap (((k : Nat) : Int) - 1)) = some (s.lines[k - 1]'(by omega)) := by
            rw [wrap64 (by omega) (by omega), show ((k : Nat) : Int) - 1 = ((k - 1 : Nat) : Int) from by omega]
            exact idx_at (by omega)
          rw [i2, wrap64 (by omega) (by omega), decide_eq_false (show ¬ k = 0 by omega)]
          simp only [cond_true, Option.bind_some, Bool.false_or]
          by_cases hle : s.lines[k] ≤ s.lines[k - 1]'(by omega)
          · rw [decide_eq_true hle, decide_eq_false (by omega)]; rfl
          · rw [decide_eq_false hle, decide_eq_true (by omega)]; rfl
    case hout => simp only [lt_no, cond_false]
end Go.Proofs.Ytmdghocpelkcoaa
