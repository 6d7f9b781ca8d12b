/- Equal sets; weights of bricks; numbers. -/
import Derived.Test.YtlaplbkekfnldaaPl15
namespace Go.Proofs.Ytlaplbkekfnldaa
set_option linter.unusedSimpArgs false
set_option linter.unusedVariables false

theorem runL_gsum {α ρ : Type} (p : α → Bool) (f : α → Int) (a : ρ) (fin : Int → ρ) (l : List α) (t : Int) : runL (fun t x => bif p x then .inr a else .inl (t + f x)) fin l t = bif l.any p then a else fin (t + (l.map f).sum) := by
  induction l generalizing t with
  | nil => simp [runL]
  | cons x l ih =>
    unfold runL
    rw [List.any_cons, List.map_cons, List.sum_cons]
    cases p x with
    | true => rfl
    | false => simp only [cond_false, Bool.false_or]; rw [ih, Int.add_assoc]
theorem runL_guard {α τ ρ : Type} (p : α → Bool) (a : ρ) (fin : τ → ρ) (l : List α) (t : τ) : runL (fun t x => bif p x then .inr a else .inl t) fin l t = bif l.any p then a else fin t := by
  induction l generalizing t with
  | nil => rfl
  | cons x l ih =>
    unfold runL
    rw [List.any_cons]
    cases p x with
    | true => rfl
    | false => simp only [cond_false, Bool.false_or]; rw [ih]
/-- A set is the same as itself. -/
theorem f_same_refl (a : TSet) (h : Fits a) : F_ref21_Same a a = some true := by
  have h1 := h.lines
  have h2 := h.items
  have h3 := h.bricks
  unfold F_ref21_Same
  simp only [beq_self_eq_true, bne_self_eq_false, Bool.not_true, cond_false, cond_true, Option.bind_some]
  rw [iter_no a.lines (by omega) (fun _ => true) (.inl (false, ())) (.inr ()) (fun k hk => by
      simp only [lt_yes hk, cond_true, idx_at hk, Option.bind_some, bne_self_eq_false, cond_false]
      rw [wrap64 (by omega) (by omega)]) (by simp only [lt_no, cond_false]),
    iter_no a.items (by omega) (fun _ => true) (.inl (false, ())) (.inr ()) (fun k hk => by
      simp only [lt_yes hk, cond_true, idx_at hk, Option.bind_some, beq_self_eq_true, Bool.and_self, Bool.not_true, cond_false]
      rw [wrap64 (by omega) (by omega)]) (by simp only [lt_no, cond_false]),
    iter_no a.bricks (by omega) (fun _ => true) (.inl (false, ())) (.inr ()) (fun k hk => by
      simp only [lt_yes hk, cond_true, idx_at hk, Option.bind_some, beq_self_eq_true, Bool.and_self, Bool.not_true, cond_false]
      rw [wrap64 (by omega) (by omega)]) (by simp only [lt_no, cond_false])]
  have e : ∀ {α : Type} (l : List α), l.all (fun _ => true) = true := fun l => by rw [List.all_eq_true]; intros; rfl
  rw [e, e, e]
  rfl
theorem zero_fits : Fits zeroS := by
  unfold zeroS
  refine ⟨by decide, by simp, by simp, by simp, by simp, by simp⟩
theorem f_rnumber (cs : List Int) (hl : cs.length ≤ 2147483648) (hc : ∀ c ∈ cs, 0 ≤ c ∧ c ≤ 60) : F_ref25_Number cs = some cs.sum := by
  unfold F_ref25_Number
  have e : cs.sum = 0 + sumTo (fun c : Int => c) cs cs.length := by rw [sumTo_all, List.map_id']; omega
  rw [iter_sum (fun c : Int => c) cs hl 128849018880 (by decide) (by decide) 0 (by decide) (fun k hk => by
    have := sumTo_bound (fun c : Int => c) cs 60 hc k hk
    omega) (fun k hk z _ => by
      simp only [lt_yes hk, cond_true, idx_at hk, Option.bind_some]
      rw [wrap64 (n := (k : Int) + 1) (by omega) (by omega)]) (fun z => by simp only [lt_no, cond_false])]
  rw [← e]
  rfl
theorem f_avalid (l : List TBrick) (hl : l.length ≤ 2147483648) (hn : ∀ x ∈ l, x.name.size ≤ 2147483648) : F_arbor_Valid l = some (bricksB l) := by
  unfold F_arbor_Valid bricksB
  by_cases h8 : l.length ≤ 8
  · have e1 : decide (((l.length : Nat) : Int) > 8) = false := decide_eq_false (by omega)
    rw [e1, decide_eq_true h8]
    simp only [cond_false, Bool.true_and]
    rw [iter_pairs brickB (fun x y => !sameName x.name y.name) l (by omega) (·.count) (.inl (false, ())) (fun t => .inr (t, ())) ?hin ?hout]
    · cases pairsB brickB (fun x y => !sameName x.name y.name) l <;> rfl
    case hout => intro _; simp only [lt_no, cond_false]
    case hin =>
      intro k hk hok
      have hna := hn l[k] (List.getElem_mem hk)
      have hsum := counts_to hok (by omega)
      simp only [lt_yes hk, cond_true, idx_at hk, Option.bind_some, f_name l[k].name (by omega)]
      rw [okAt_eq hk]
      have hbr : brickB l[k] = (nameB l[k].name && (!decide (l[k].weight < 1) && (!decide (l[k].weight > 1048576) && (!decide (l[k].count < 0) && !decide (l[k].count > 60))))) := by
        unfold brickB betweenB
        cases nameB l[k].name <;> by_cases h1 : l[k].weight < 1 <;> by_cases h2 : l[k].weight > 1048576 <;> by_cases h3 : l[k].count < 0 <;> by_cases h4 : l[k].count > 60 <;> simp [h1, h2, h3, h4] <;> omega
      cases hb : brickB l[k] with
      | false =>
        rw [hb] at hbr
        cases ha : nameB l[k].name <;> cases h1 : decide (l[k].weight < 1) <;> cases h2 : decide (l[k].weight > 1048576) <;> cases h3 : decide (l[k].count < 0) <;> cases h4 : decide (l[k].count > 60) <;> first | rfl | (rw [ha, h1, h2, h3, h4] at hbr; cases hbr)
      | true =>
        have hg := GoodBrick.of hb
        have hc0 := hg.c0
        have hc1 := hg.c1
        have hw0 := hg.w0
        have hw1 := hg.w1
        rw [hg.name, decide_eq_false (show ¬ l[k].weight < 1 by omega), decide_eq_false (show ¬ l[k].weight > 1048576 by omega), decide_eq_false (show ¬ l[k].count < 0 by omega), decide_eq_false (show ¬ l[k].count > 60 by omega)]
        simp only [Bool.not_true, cond_false, Option.bind_some, Bool.true_and, Int.toNat_natCast]
        rw [if_pos ⟨by omega, by omega, by omega⟩]
        have hdr : (l.take k).drop (Int.toNat 0) = l.take k := by simp
        rw [hdr, f_slices_ContainsFunc_api_Brick (l.take k) (by rw [List.length_take]; omega) (fun z11 => F_arbor_Valid_1 z11 l[k]) (fun z => sameName z.name l[k].name) (fun z _ => rfl)]
        have hall : ((l.take k).any fun z => sameName z.name l[k].name) = !(l.take k).all fun x => !sameName x.name l[k].name := by
          rw [List.not_all_eq_any_not]; congr 1; funext z; rw [Bool.not_not]
        rw [hall, wrap64 (by omega) (by omega), wrap64 (by omega) (by omega)]
        cases (l.take k).all fun x => !sameName x.name l[k].name <;> rfl
  · have e1 : decide (((l.length : Nat) : Int) > 8) = true := decide_eq_true (by omega)
    rw [e1, decide_eq_false h8]
    rfl
def outC (x : TBrick × Int) : Bool := decide (x.2 < 0) || decide (x.2 > x.1.count)
def weightP (l : List TBrick) (cs : List Int) : Int × Int := bif !bricksB l then (0, 1) else bif !decide (cs.length = l.length) then (0, 3) else bif (l.zip cs).any outC then (0, 2) else (wsum l cs, 0)
theorem bricks_good {l : List TBrick} (h : bricksB l = true) : l.length ≤ 8 ∧ ∀ x ∈ l, GoodBrick x := by
  unfold bricksB at h
  simp only [Bool.and_eq_true, decide_eq_true_eq] at h
  exact ⟨h.1, fun x hx => GoodBrick.of (pairs_one h.2.1 x hx)⟩
theorem outC_no {x : TBrick × Int} (h : outC x = false) (hg : GoodBrick x.1) : 0 ≤ x.2 * x.1.weight ∧ x.2 * x.1.weight ≤ 62914560 := by
  simp only [outC, Bool.or_eq_false_iff, decide_eq_false_iff_not] at h
  have h1 := hg.w0
  have h2 := hg.c1
  have h3 := hg.w1
  refine ⟨Int.mul_nonneg (by omega) (by omega), ?_⟩
  have := Int.mul_le_mul (show x.2 ≤ 60 by omega) h3 (by omega) (by decide)
  exact Int.le_trans this (by decide)
theorem wsum_zip (l : List TBrick) (cs : List Int) : ((l.zip cs).map fun x => x.2 * x.1.weight).sum = wsum l cs := by
  unfold wsum
  induction l generalizing cs with
  | nil => rfl
  | cons b l ih => cases cs with
    | nil => rfl
    | cons c cs => simp only [List.zip_cons_cons, List.map_cons, List.zipWith_cons_cons, List.sum_cons]; rw [ih, Int.mul_comm]
theorem f_aweight (l : List TBrick) (cs : List Int) (hl : l.length ≤ 2147483648) (hn : ∀ x ∈ l, x.name.size ≤ 2147483648) (hc : cs.length ≤ 2147483648) : F_arbor_Weight l cs = some (weightP l cs) := by
  unfold F_arbor_Weight weightP
  rw [f_avalid l hl hn]
  cases hb : bricksB l with
  | false => rfl
  | true =>
    obtain ⟨h8, hg⟩ := bricks_good hb
    simp only [Option.bind_some, Bool.not_true, cond_false]
    by_cases hlen : cs.length = l.length
    case neg =>
      have e : (((cs.length : Nat) : Int) != ((l.length : Nat) : Int)) = true := by rw [bne_iff_ne]; omega
      rw [e, decide_eq_false hlen]; rfl
    have e : (((cs.length : Nat) : Int) != ((l.length : Nat) : Int)) = false := by rw [bne_eq_false_iff_eq]; omega
    rw [e, decide_eq_true hlen]
    simp only [cond_false, Bool.not_true]
    have hzl : (l.zip cs).length = cs.length := by rw [List.length_zip]; omega
    have hloop := iter_ak (F := fun s7 : Int × Int × Unit => (bif (decide (s7.2.1 < ((cs.length : Nat) : Int))) then (idx cs s7.2.1).bind fun x8 => ((bif (decide (x8 < 0)) then some (true, ()) else (idx l s7.2.1).bind fun x9 => some ((decide (x8 > x9.count)), ())) : Option (Bool × Unit)).bind fun y10 => (bif y10.1 then some (.inr (.inl (0, 2, ()))) else (idx l s7.2.1).bind fun x11 => some (.inl ((IntKind.i64.wrap (s7.1 + (IntKind.i64.wrap (x8 * x11.weight)))), (IntKind.i64.wrap (s7.2.1 + 1)), ()))) else some (.inr (.inr ((s7.1, ())))) : Option ((Int × Int × Unit) ⊕ ((Int × Int × Unit) ⊕ (Int × Unit)))))
      (l.zip cs) (by omega) (fun t x => bif outC x then .inr (.inl (0, 2, ())) else .inl (t + x.2 * x.1.weight)) (fun t => .inr (t, ())) (fun k t => 0 ≤ t ∧ t ≤ k * 62914560) 0 (by omega) (fun k hk t ht => by
        have hk1 : k < cs.length := by omega
        have hk2 : k < l.length := by omega
        have hz : (l.zip cs)[k] = (l[k], cs[k]) := List.getElem_zip
        rw [hz]
        simp only [lt_yes hk1, cond_true, idx_at hk1, idx_at hk2, Option.bind_some]
        cases ho : outC (l[k], cs[k]) with
        | true =>
          refine ⟨?_, fun t' h' => by cases h'⟩
          simp only [outC, Bool.or_eq_true, decide_eq_true_eq] at ho
          by_cases h1 : cs[k] < 0
          · rw [decide_eq_true h1]; rfl
          · rw [decide_eq_false h1, decide_eq_true (show cs[k] > l[k].count by omega)]; rfl
        | false =>
          have hm := outC_no ho (hg _ (List.getElem_mem hk2))
          simp only [outC, Bool.or_eq_false_iff, decide_eq_false_iff_not] at ho hm
          refine ⟨?_, fun t' h' => by cases h'; omega⟩
          rw [decide_eq_false ho.1, decide_eq_false ho.2]
          simp only [cond_false, Option.bind_some]
          rw [wrap64 (n := cs[k] * l[k].weight) (by omega) (by omega), wrap64 (by omega) (by omega), wrap64 (by omega) (by omega)]) (fun t _ => by rw [hzl]; simp only [lt_no, cond_false])
    rw [hloop, runL_gsum, Int.zero_add, wsum_zip]
    cases (l.zip cs).any outC <;> rfl

theorem main_ArborLoads (x0 : TSet) (x1 : List Int) (w0 : W_Set x0) (w1 : W_l_int1 x1) : F_law25_ArborLoads x0 x1 = some true := by
  unfold F_law25_ArborLoads
  have haw : F_law25_awake = some true := by kernel_rfl
  rw [haw]
  simp only [Option.bind_some, Bool.not_true, cond_false]
  unfold F_law25_large
  rw [f_small]
  cases hs : smallB x0 8 with
  | false => rfl
  | true =>
    have hf := small_fits hs
    simp only [Option.bind_some, Bool.not_true, cond_false]
    by_cases hx : x1.length > 20
    · rw [decide_eq_true (show ((x1.length : Nat) : Int) > 20 by omega)]; rfl
    rw [decide_eq_false (show ¬ ((x1.length : Nat) : Int) > 20 by omega), f_loaded x0 x1 hf (by omega), f_rvalid x0 hf]
    simp only [Option.bind_some, cond_false]
    unfold loadedP
    cases hv : validB x0 with
    | false =>
      simp only [Bool.not_false, cond_true]
      rw [show (TSet.mk (⟨#[]⟩ : ByteArray) 0 0 0 0 ([] : List Int) 0 0 0 0 0 ([] : List TItem) ([] : List TBrick)) = zeroS from rfl, f_same_refl _ zero_fits]
      rfl
    | true =>
      have hg := Good.of hv
      simp only [Bool.not_true, cond_false]
      by_cases hlen : x1.length = x0.bricks.length
      case neg =>
        have e : (((x1.length : Nat) : Int) != ((x0.bricks.length : Nat) : Int)) = true := by rw [bne_iff_ne]; omega
        rw [e, decide_eq_false hlen]
        simp only [Bool.not_false, cond_true]
        rw [show (TSet.mk (⟨#[]⟩ : ByteArray) 0 0 0 0 ([] : List Int) 0 0 0 0 0 ([] : List TItem) ([] : List TBrick)) = zeroS from rfl, f_same_refl _ zero_fits]
        rfl
      have e : (((x1.length : Nat) : Int) != ((x0.bricks.length : Nat) : Int)) = false := by rw [bne_eq_false_iff_eq]; omega
      rw [e, decide_eq_true hlen]
      simp only [Bool.not_true, cond_false]
      rw [show (TSet.mk (⟨#[]⟩ : ByteArray) 0 0 0 0 ([] : List Int) 0 0 0 0 0 ([] : List TItem) ([] : List TBrick)) = zeroS from rfl]
      rw [iter_ka x1 (by omega) (fun t x => bif badC x then .inr (.inl (2, zeroS, ())) else .inl t) (fun t => .inr (t, ())) (fun _ _ => True) zeroS trivial (fun k hk t _ => ⟨by
          simp only [lt_yes hk, cond_true, idx_at hk, Option.bind_some]
          rw [wrap64 (by omega) (by omega)]
          unfold badC
          cases decide (x1[k] < 0) <;> cases decide (x1[k] > 60) <;> rfl, fun _ _ => trivial⟩) (fun t _ => by simp only [lt_no, cond_false]), runL_guard]
      cases hb : x1.any badC with
      | true =>
        simp only [cond_true, Option.bind_some]
        rw [f_same_refl _ zero_fits]
        rfl
      | false =>
        have hr := badC_no hb
        simp only [cond_false, Option.bind_some]
        rw [f_rnumber x1 (by omega) hr]
        simp only [Option.bind_some]
        by_cases h60 : x1.sum > 60
        · rw [decide_eq_true h60]
          simp only [cond_true]
          rw [f_same_refl _ zero_fits]
          rfl
        · rw [decide_eq_false h60]
          simp only [cond_false]
          rw [f_rcopy x0 hf]
          simp only [Option.bind_some]
          rw [iter_set x1 x0.bricks hlen (by omega) (fun b c => TBrick.mk b.name b.weight c) (fun t => (t, ())) (fun k hk t ht hget => by
            have hkt : k < t.length := by omega
            simp only [lt_yes hk, cond_true, idx_at hk, idx_at hkt, Option.bind_some, Int.toNat_natCast, hget]
            rw [wrap64 (by omega) (by omega)]) (fun t _ => by simp only [lt_no, cond_false])]
          simp only [Option.bind_some]
          have hS := f_same_refl (setC x0 x1) (setC_fits hf hlen)
          unfold setC withC at hS
          unfold setC withC
          rw [hS]
          rfl
theorem setC_own (s : TSet) : setC s (s.bricks.map (·.count)) = s := by unfold setC; rw [withC_same]
theorem main_ArborSame (x0 : TSet) (w0 : W_Set x0) : F_law25_ArborSame x0 = some true := by
  unfold F_law25_ArborSame
  have haw : F_law25_awake = some true := by kernel_rfl
  rw [haw]
  simp only [Option.bind_some, Bool.not_true, cond_false]
  unfold F_law25_large
  rw [f_small]
  cases hs : smallB x0 8 with
  | false => rfl
  | true =>
    have hf := small_fits hs
    simp only [Option.bind_some, Bool.not_true, cond_false]
    rw [f_needed x0 hf, f_valid x0 hf]
    cases hv : validB x0 with
    | false => rfl
    | true =>
      have hg := Good.of hv
      have hnb := hg.nb
      have e0 : ((0 : Int) != 0) = false := rfl
      have bn := needed_bound hg
      simp only [if_true, Option.bind_some, cond_false, e0]
      rw [f_counts _ (by omega)]
      have hold := counts_old hg
      have hlenC : (x0.bricks.map (·.count)).length = x0.bricks.length := by rw [List.length_map]
      have hbad : (x0.bricks.map (·.count)).any badC = false := by
        rw [List.any_eq_false]
        intro c hc
        have := hold c hc
        simp only [badC, Bool.or_eq_true, decide_eq_true_eq]
        omega
      have hsum : ¬ (x0.bricks.map (·.count)).sum > 60 := by
        have := hg.bsum
        rw [sumTo_all] at this
        omega
      have hl1 : loadedP x0 (x0.bricks.map (·.count)) = (x0, 0) := by
        unfold loadedP
        rw [hv, decide_eq_true hlenC, hbad, decide_eq_false hsum, setC_own]
        rfl
      simp only [Option.bind_some]
      rw [f_loaded x0 _ hf (by omega), hl1]
      simp only [Option.bind_some, hlenC, Int.toNat_natCast]
      rw [if_pos ⟨by omega, by omega⟩]
      have hlenZ : (List.replicate x0.bricks.length (0 : Int)).length = x0.bricks.length := List.length_replicate
      have hbadZ : (List.replicate x0.bricks.length (0 : Int)).any badC = false := by
        rw [List.any_eq_false]
        intro c hc
        rw [List.eq_of_mem_replicate hc]
        decide
      have hsumZ : (List.replicate x0.bricks.length (0 : Int)).sum = 0 := by
        rw [List.sum_replicate_int]
        omega
      have hl2 : loadedP x0 (List.replicate x0.bricks.length 0) = (setC x0 (List.replicate x0.bricks.length 0), 0) := by
        unfold loadedP
        rw [hv, decide_eq_true hlenZ, hbadZ, hsumZ]
        rfl
      rw [f_loaded x0 _ hf (by omega), hl2]
      simp only [Option.bind_some]
      have hv2 := valid_setC hv hlenZ hbadZ (by omega)
      rw [f_balance _ (setC_fits hf hlenZ), hv2, f_balance x0 hf, hv, f_aweight x0.bricks _ (by omega) hf.bnames (by omega)]
      simp only [if_true, Option.bind_some]
      have hb := (valid_parts hv).2
      have hout : (x0.bricks.zip (x0.bricks.map (·.count))).any outC = false := by
        rw [List.any_eq_false]
        intro x hx
        obtain ⟨i, hi, rfl⟩ := List.mem_iff_getElem.1 hx
        rw [List.length_zip] at hi
        rw [List.getElem_zip, List.getElem_map]
        have := hg.bricks _ (List.getElem_mem (show i < x0.bricks.length by omega))
        have h0 := this.c0
        simp only [outC, Bool.or_eq_true, decide_eq_true_eq]
        omega
      have hwp : weightP x0.bricks (x0.bricks.map (·.count)) = (thereW x0.bricks, 0) := by
        unfold weightP
        rw [hb, decide_eq_true hlenC, hout, wsum_own]
        rfl
      rw [hwp, f_same_refl x0 hf]
      have hbz : balanceI (setC x0 (List.replicate x0.bricks.length 0)) = neededI x0 := by
        unfold balanceI
        show neededI x0 - thereW (withC x0.bricks (List.replicate x0.bricks.length 0)) = _
        rw [wsum_with, wsum_zero]
        omega
      have bw := thereW_bound hg.nb hg.bricks x0.bricks.length (Nat.le_refl _)
      have hW : thereW x0.bricks = sumTo (fun b : TBrick => b.weight * b.count) x0.bricks x0.bricks.length := rfl
      rw [hbz, wrap64 (n := neededI x0 - thereW x0.bricks) (by omega) (by omega)]
      have e1 : (neededI x0 == neededI x0) = true := beq_self_eq_true _
      have e2 : (balanceI x0 == neededI x0 - thereW x0.bricks) = true := by rw [beq_iff_eq]; rfl
      rw [e1, e2]
      rfl
end Go.Proofs.Ytlaplbkekfnldaa
