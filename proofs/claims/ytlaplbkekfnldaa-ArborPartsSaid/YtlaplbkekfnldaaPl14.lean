/- A further item, other counts of bricks: what batten.Put and arbor.Loaded come to. -/
import Derived.Test.YtlaplbkekfnldaaPl13
namespace Go.Proofs.Ytlaplbkekfnldaa
set_option linter.unusedSimpArgs false
set_option linter.unusedVariables false

def zeroS : TSet := TSet.mk (⟨#[]⟩ : ByteArray) 0 0 0 0 ([] : List Int) 0 0 0 0 0 ([] : List TItem) ([] : List TBrick)
def withC (bs : List TBrick) (cs : List Int) : List TBrick := List.zipWith (fun b c => TBrick.mk b.name b.weight c) bs cs
def setC (s : TSet) (cs : List Int) : TSet := TSet.mk s.name s.depth s.low s.high s.length s.lines s.pipe s.arbor s.purchase s.most s.brake s.items (withC s.bricks cs)
def addI (s : TSet) (x : TItem) : TSet := TSet.mk s.name s.depth s.low s.high s.length s.lines s.pipe s.arbor s.purchase s.most s.brake (s.items ++ [x]) s.bricks
def badC (n : Int) : Bool := decide (n < 0) || decide (n > 60)
def loadedP (s : TSet) (cs : List Int) : TSet × Int := bif !validB s then (zeroS, 1) else bif !decide (cs.length = s.bricks.length) then (zeroS, 3) else bif cs.any badC then (zeroS, 2) else bif decide (cs.sum > 60) then (zeroS, 4) else (setC s cs, 0)
def putP (s : TSet) (x : TItem) : TSet × Int := bif !validB s then (zeroS, 1) else bif s.items.any (fun y => sameName y.name x.name) then (zeroS, 15) else bif decide (s.items.length = 40) then (zeroS, 4) else bif !(aloneB x && insideB x s.length) then (zeroS, 1) else bif s.items.any (fun y => !apartB x y) then (zeroS, 22) else (addI s x, 0)

theorem iter_set {α β ρ : Type} {F : Int × List β × Unit → Option ((Int × List β × Unit) ⊕ ρ)} (l : List α) (l0 : List β) (hlen : l.length = l0.length) (hl : l.length < 9223372036854775807) (g : β → α → β) (fin : List β → ρ)
    (hin : ∀ (k : Nat) (h : k < l.length) (t : List β), t.length = l0.length → t[k]? = some (l0[k]'(by omega)) → F ((k : Int), t, ()) = some (.inl ((k : Int) + 1, t.set k (g (l0[k]'(by omega)) l[k]), ())))
    (hout : ∀ t : List β, t.length = l0.length → F ((l.length : Int), t, ()) = some (.inr (fin t))) :
    iterF F big (0, l0, ()) = some (fin (List.zipWith g l0 l)) := by
  obtain ⟨r, h1, h2⟩ := iter_inv (F := F) (Q := fun r => r = fin (List.zipWith g l0 l)) (fun k s => s = ((k : Int), (List.zipWith g l0 l).take k ++ l0.drop k, ())) l.length (by unfold big; omega) (fun k s hk hs => by
    subst hs
    have hz : (List.zipWith g l0 l).length = l0.length := by rw [List.length_zipWith]; omega
    have hlen2 : ((List.zipWith g l0 l).take k ++ l0.drop k).length = l0.length := by rw [List.length_append, List.length_take, List.length_drop]; omega
    by_cases hlt : k < l.length
    · have hk0 : k < l0.length := by omega
      have hget : ((List.zipWith g l0 l).take k ++ l0.drop k)[k]? = some (l0[k]'hk0) := by
        rw [List.getElem?_append_right (by rw [List.length_take]; omega), List.length_take, List.getElem?_drop, show k + (k - min k (List.zipWith g l0 l).length) = k from by omega, List.getElem?_eq_getElem hk0]
      refine .inl ⟨_, hin k hlt _ hlen2 hget, hlt, ?_⟩
      have e : ((List.zipWith g l0 l).take k ++ l0.drop k).set k (g (l0[k]'hk0) l[k]) = (List.zipWith g l0 l).take (k + 1) ++ l0.drop (k + 1) := by
        rw [List.set_append_right _ _ (by rw [List.length_take]; omega), List.length_take, show k - min k (List.zipWith g l0 l).length = 0 from by omega, List.drop_eq_getElem_cons hk0, List.set_cons_zero, List.take_succ_eq_append_getElem (by omega), List.getElem_zipWith, List.append_assoc]
        rfl
      rw [e]
      rfl
    · obtain rfl : k = l.length := by omega
      refine .inr ⟨_, hout _ hlen2, ?_⟩
      rw [List.take_of_length_le (by omega), List.drop_of_length_le (by omega), List.append_nil]) (s := (0, l0, ())) (by simp)
  rw [h1, h2]

theorem sumTo_all {α : Type} (f : α → Int) (l : List α) : sumTo f l l.length = (l.map f).sum := by unfold sumTo; rw [List.take_length]
theorem withC_len {bs : List TBrick} {cs : List Int} (h : cs.length = bs.length) : (withC bs cs).length = bs.length := by unfold withC; rw [List.length_zipWith]; omega
theorem withC_counts {bs : List TBrick} {cs : List Int} (h : cs.length = bs.length) : (withC bs cs).map (·.count) = cs := by
  unfold withC
  rw [List.map_zipWith]
  induction bs generalizing cs with
  | nil => cases cs with
    | nil => rfl
    | cons => simp at h
  | cons b bs ih => cases cs with
    | nil => simp at h
    | cons c cs => simp only [List.zipWith_cons_cons]; rw [ih (by simpa using h)]
theorem withC_get {bs : List TBrick} {cs : List Int} (h : cs.length = bs.length) (i : Nat) (hi : i < bs.length) : (withC bs cs)[i]'(by rw [withC_len h]; exact hi) = TBrick.mk bs[i].name bs[i].weight (cs[i]'(by omega)) := by unfold withC; rw [List.getElem_zipWith]
theorem withC_same (bs : List TBrick) : withC bs (bs.map (·.count)) = bs := by
  unfold withC
  induction bs with
  | nil => rfl
  | cons b bs ih => simp only [List.map_cons, List.zipWith_cons_cons]; rw [ih]
theorem badC_no {cs : List Int} (h : cs.any badC = false) : ∀ c ∈ cs, 0 ≤ c ∧ c ≤ 60 := by
  intro c hc
  have := List.any_eq_false.1 h c hc
  simp only [badC, Bool.or_eq_true, decide_eq_true_eq, not_or] at this
  omega
theorem withC_good {bs : List TBrick} {cs : List Int} (h : cs.length = bs.length) (hg : ∀ x ∈ bs, GoodBrick x) (hc : ∀ c ∈ cs, 0 ≤ c ∧ c ≤ 60) : ∀ x ∈ withC bs cs, GoodBrick x := by
  intro x hx
  obtain ⟨i, hi, rfl⟩ := List.mem_iff_getElem.1 hx
  rw [withC_len h] at hi
  rw [withC_get h i hi]
  have h1 := hg _ (List.getElem_mem hi)
  have h2 := hc _ (List.getElem_mem (show i < cs.length by omega))
  exact ⟨h1.name, h1.w0, h1.w1, h2.1, h2.2⟩
theorem thereC_with {bs : List TBrick} {cs : List Int} (h : cs.length = bs.length) : thereC (withC bs cs) = cs.sum := by unfold thereC; rw [sumTo_all, withC_counts h]
theorem f_loaded (s : TSet) (cs : List Int) (hf : Fits s) (hc : cs.length ≤ 2147483648) : F_arbor_Loaded s cs = some (loadedP s cs) := by
  unfold F_arbor_Loaded loadedP
  rw [f_valid s hf]
  cases hv : validB s with
  | false => rfl
  | true =>
    have hg := Good.of hv
    simp only [Option.bind_some, Bool.not_true, cond_false]
    by_cases hlen : cs.length = s.bricks.length
    case neg =>
      have e : (((cs.length : Nat) : Int) != ((s.bricks.length : Nat) : Int)) = true := by rw [bne_iff_ne]; omega
      rw [e, decide_eq_false hlen]; rfl
    have e : (((cs.length : Nat) : Int) != ((s.bricks.length : Nat) : Int)) = false := by rw [bne_eq_false_iff_eq]; omega
    rw [e, decide_eq_true hlen]
    simp only [cond_false, Bool.not_true]
    rw [f_slices_ContainsFunc_int cs (by omega) _ badC (fun x _ => by unfold F_arbor_Loaded_1 badC; cases decide (x < 0) <;> rfl)]
    simp only [Option.bind_some]
    cases hb : cs.any badC with
    | true => rfl
    | false =>
      have hr := badC_no hb
      have hnb := hg.nb
      rw [f_clone_int _ hf.lines, f_clone_item _ hf.items, f_clone_brick _ hf.bricks]
      simp only [cond_false, Option.bind_some]
      rw [iter_set cs s.bricks hlen (by omega) (fun b c => TBrick.mk b.name b.weight c) (fun t => (t, ())) ?hin ?hout]
      · simp only [Option.bind_some]
        have hw : List.zipWith (fun b c => TBrick.mk b.name b.weight c) s.bricks cs = withC s.bricks cs := rfl
        rw [hw, f_there (TSet.mk s.name s.depth s.low s.high s.length s.lines s.pipe s.arbor s.purchase s.most s.brake s.items (withC s.bricks cs)) (by show (withC s.bricks cs).length ≤ 8; rw [withC_len hlen]; exact hnb) (withC_good hlen hg.bricks hr)]
        simp only [Option.bind_some]
        have e2 : thereC (withC s.bricks cs) = cs.sum := thereC_with hlen
        rw [e2]
        cases decide (cs.sum > 60) <;> rfl
      case hin =>
        intro k hk t ht hget
        have hkt : k < t.length := by omega
        simp only [lt_yes hk, cond_true, idx_at hk, idx_at hkt, Option.bind_some, Int.toNat_natCast, hget]
        rw [wrap64 (by omega) (by omega)]
      case hout => intro t _; simp only [lt_no, cond_false]
theorem pairs_snoc {α : Type} {one : α → Bool} {two : α → α → Bool} {l : List α} {x : α} : pairsB one two (l ++ [x]) = (pairsB one two l && (one x && l.all fun y => two y x)) := by
  rw [Bool.eq_iff_iff, Bool.and_eq_true, Bool.and_eq_true, pairs_iff, pairs_iff, List.all_eq_true]
  constructor
  · intro e
    refine ⟨fun i hi => ?_, ?_, fun y hy => ?_⟩
    · obtain ⟨e1, e2⟩ := e i (by simp; omega)
      rw [List.getElem_append_left hi] at e1 e2
      refine ⟨e1, fun k hk => ?_⟩
      have := e2 k hk
      rwa [List.getElem_append_left (by omega)] at this
    · have := (e l.length (by simp)).1
      simpa using this
    · obtain ⟨k, hk, rfl⟩ := List.mem_iff_getElem.1 hy
      have := (e l.length (by simp)).2 k hk
      rw [List.getElem_append_left hk] at this
      simpa using this
  · rintro ⟨e1, e2, e3⟩ i hi
    rw [List.length_append, List.length_singleton] at hi
    by_cases h : i < l.length
    · obtain ⟨g1, g2⟩ := e1 i h
      rw [List.getElem_append_left h]
      exact ⟨g1, fun k hk => by rw [List.getElem_append_left (by omega)]; exact g2 k hk⟩
    · obtain rfl : i = l.length := by omega
      refine ⟨by simpa using e2, fun k hk => ?_⟩
      rw [List.getElem_append_left hk]
      simpa using e3 _ (List.getElem_mem hk)
theorem f_put (s : TSet) (x : TItem) (hf : Fits s) (hx : x.name.size ≤ 2147483648) : F_batten_Put s x = some (putP s x) := by
  unfold F_batten_Put putP
  rw [f_valid s hf]
  cases hv : validB s with
  | false => rfl
  | true =>
    have hg := Good.of hv
    have hit := hf.items
    simp only [Option.bind_some, Bool.not_true, cond_false]
    rw [f_slices_ContainsFunc_api_Item s.items (by omega) (fun z2 => F_batten_Put_1 z2 x) (fun y => sameName y.name x.name) (fun y _ => rfl)]
    simp only [Option.bind_some]
    cases hb : s.items.any (fun y => sameName y.name x.name) with
    | true => rfl
    | false =>
      simp only [cond_false]
      by_cases h40 : s.items.length = 40
      · have e : (((s.items.length : Nat) : Int) == 40) = true := by rw [beq_iff_eq]; omega
        rw [e, decide_eq_true h40]; rfl
      have e : (((s.items.length : Nat) : Int) == 40) = false := by rw [beq_eq_false_iff_ne]; omega
      have hl0 := hg.n0
      have hl1 := hg.n1
      rw [e, decide_eq_false h40, f_alone x (by omega), f_inside x s.length (by omega) (by omega)]
      simp only [cond_false, Option.bind_some]
      cases ha : aloneB x with
      | false => rfl
      | true =>
        cases hi : insideB x s.length with
        | false => rfl
        | true =>
          simp only [Bool.not_true, cond_false, Option.bind_some, Bool.and_true]
          have hxs := inside_sum hi (by omega)
          rw [f_slices_ContainsFunc_api_Item s.items (by omega) _ (fun y => !apartB x y) (fun y hy => by
            have hy' := hg.items y hy
            unfold F_batten_Put_2
            rw [f_apart x y hxs ⟨by have := hy'.p0; have := hy'.w1; omega, by have := hy'.pw; omega⟩]
            rfl)]
          simp only [Option.bind_some]
          cases s.items.any (fun y => !apartB x y) with
          | true => rfl
          | false =>
            simp only [cond_false]
            rw [f_copy s hf]
            simp only [Option.bind_some]
            have hni := hg.ni
            rw [if_pos (by simp; omega)]
            rfl
theorem valid_head (s t : TSet) (h1 : t.name = s.name) (h2 : t.depth = s.depth) (h3 : t.low = s.low) (h4 : t.high = s.high) (h5 : t.length = s.length) (h6 : t.lines = s.lines) (h7 : t.pipe = s.pipe) (h8 : t.arbor = s.arbor) (h9 : t.purchase = s.purchase) (h10 : t.most = s.most) (h11 : t.brake = s.brake) (hv : validB s = true) :
    validB t = (itemsB t.items s.length && bricksB t.bricks) := by
  unfold validB headB weightsB at hv ⊢
  simp only [Bool.and_eq_true] at hv
  obtain ⟨⟨a1, a2, a3, a4, a5, a6, a7⟩, b, ⟨c1, c2, c3, c4, c5⟩, _, _⟩ := hv
  rw [h1, h2, h3, h4, h5, h6, h7, h8, h9, h10, h11, a1, a2, a3, a4, a5, a6, a7, b, c1, c2, c3, c4, c5]
  simp
theorem valid_parts {s : TSet} (hv : validB s = true) : itemsB s.items s.length = true ∧ bricksB s.bricks = true := by
  unfold validB at hv
  simp only [Bool.and_eq_true] at hv
  exact ⟨hv.2.2.2.1, hv.2.2.2.2⟩
theorem valid_setC {s : TSet} {cs : List Int} (hv : validB s = true) (hlen : cs.length = s.bricks.length) (hb : cs.any badC = false) (hs : ¬ cs.sum > 60) : validB (setC s cs) = true := by
  rw [valid_head s (setC s cs) rfl rfl rfl rfl rfl rfl rfl rfl rfl rfl rfl hv]
  obtain ⟨h1, h2⟩ := valid_parts hv
  have hr := badC_no hb
  have hg := Good.of hv
  rw [Bool.and_eq_true]
  refine ⟨h1, ?_⟩
  show bricksB (withC s.bricks cs) = true
  unfold bricksB at h2 ⊢
  simp only [Bool.and_eq_true, decide_eq_true_eq] at h2 ⊢
  refine ⟨by rw [withC_len hlen]; exact h2.1, ?_, by show thereC (withC s.bricks cs) ≤ 60; rw [thereC_with hlen]; omega⟩
  have h3 := h2.2.1
  rw [pairs_iff] at h3 ⊢
  intro i hi
  rw [withC_len hlen] at hi
  obtain ⟨g1, g2⟩ := h3 i hi
  rw [withC_get hlen i hi]
  have hc := hr _ (List.getElem_mem (show i < cs.length by omega))
  refine ⟨?_, fun k hk => ?_⟩
  · unfold brickB at g1 ⊢
    simp only [Bool.and_eq_true, between_iff] at g1 ⊢
    exact ⟨g1.1, g1.2.1, hc⟩
  · rw [withC_get hlen k (by omega)]
    exact g2 k hk
theorem valid_addI {s : TSet} {x : TItem} (hv : validB s = true) (h1 : s.items.any (fun y => sameName y.name x.name) = false) (h2 : s.items.length ≠ 40) (h3 : (aloneB x && insideB x s.length) = true) (h4 : s.items.any (fun y => !apartB x y) = false) : validB (addI s x) = true := by
  rw [valid_head s (addI s x) rfl rfl rfl rfl rfl rfl rfl rfl rfl rfl rfl hv]
  obtain ⟨g1, g2⟩ := valid_parts hv
  rw [Bool.and_eq_true]
  refine ⟨?_, g2⟩
  show itemsB (s.items ++ [x]) s.length = true
  unfold itemsB at g1 ⊢
  simp only [Bool.and_eq_true, decide_eq_true_eq] at g1
  rw [pairs_snoc, pairs_snoc, g1.2.1, g1.2.2, h3]
  have e1 : (s.items.all fun y => apartB y x) = true := by
    rw [List.all_eq_true]
    intro y hy
    have := List.any_eq_false.1 h4 y hy
    rw [apart_comm]
    simpa using this
  have e2 : (s.items.all fun y => !sameName y.name x.name) = true := by
    rw [List.all_eq_true]
    intro y hy
    have := List.any_eq_false.1 h1 y hy
    simpa using this
  rw [e1, e2, decide_eq_true (by rw [List.length_append, List.length_singleton]; omega)]
  rfl
theorem setC_fits {s : TSet} {cs : List Int} (h : Fits s) (hlen : cs.length = s.bricks.length) : Fits (setC s cs) := by
  refine ⟨h.name, h.lines, h.items, by show (withC s.bricks cs).length ≤ _; rw [withC_len hlen]; exact h.bricks, h.inames, fun x hx => ?_⟩
  have hx : x ∈ withC s.bricks cs := hx
  obtain ⟨i, hi, rfl⟩ := List.mem_iff_getElem.1 hx
  have hi' : i < s.bricks.length := by rw [← withC_len hlen]; exact hi
  rw [withC_get hlen i hi']
  exact h.bnames s.bricks[i] (List.getElem_mem hi')
theorem addI_fits {s : TSet} {x : TItem} (h : Fits s) (hx : x.name.size ≤ 2147483648) (hl : s.items.length ≤ 2147483647) : Fits (addI s x) := by
  refine ⟨h.name, h.lines, by show (s.items ++ [x]).length ≤ _; rw [List.length_append, List.length_singleton]; omega, h.bricks, fun y hy => ?_, h.bnames⟩
  have hy : y ∈ s.items ++ [x] := hy
  rcases List.mem_append.1 hy with hy | hy
  · exact h.inames y hy
  · rw [List.mem_singleton] at hy
    subst hy
    exact hx
theorem balance_bound {s : TSet} (h : Good s) : -504365056 ≤ balanceI s ∧ balanceI s ≤ 2199107141632 := by
  have h1 := needed_bound h
  have h2 := thereW_bound h.nb h.bricks s.bricks.length (Nat.le_refl _)
  have e : balanceI s = neededI s - thereW s.bricks := rfl
  unfold thereW at e
  omega
end Go.Proofs.Ytlaplbkekfnldaa
