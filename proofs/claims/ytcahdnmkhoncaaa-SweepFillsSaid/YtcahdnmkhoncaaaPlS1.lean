/- Sweeps: how far a set reaches, boxes and ranges. -/
import Derived.Test.YtcahdnmkhoncaaaPl13
namespace Go.Proofs.Ytcahdnmkhoncaaa
set_option linter.unusedSimpArgs false
set_option linter.unusedVariables false

theorem maxZ_eq (x y : Int) : maxZ x y = max x y := by unfold maxZ; split <;> omega
theorem minZ_eq (x y : Int) : minZ x y = min x y := by unfold minZ; split <;> omega
theorem runL_fold {α τ ρ : Type} (f : τ → α → τ) (fin : τ → ρ) (l : List α) (t : τ) : runL (fun t x => .inl (f t x)) fin l t = fin (l.foldl f t) := by
  induction l generalizing t with
  | nil => rfl
  | cons x l ih => unfold runL; simp only [ih, List.foldl_cons]
theorem fold_inv {α τ : Type} {P : τ → Prop} {f : τ → α → τ} {l : List α} {t : τ} (h0 : P t) (h : ∀ t x, x ∈ l → P t → P (f t x)) : P (l.foldl f t) := by
  induction l generalizing t with
  | nil => exact h0
  | cons x l ih => exact ih (h t x List.mem_cons_self h0) fun t y hy => h t y (List.mem_cons_of_mem _ hy)
theorem wf64 {n : Int} (h : (Lit.int .i64 n).wf = true) : -9223372036854775808 ≤ n ∧ n ≤ 9223372036854775807 := by
  unfold Lit.wf at h
  have h2 : IntKind.i64.min ≤ n ∧ n ≤ IntKind.i64.max := by simpa using h
  exact h2
theorem wfU32 {n : Int} (h : (Lit.int .u32 n).wf = true) : 0 ≤ n ∧ n ≤ 4294967295 := by
  unfold Lit.wf at h
  have h2 : IntKind.u32.min ≤ n ∧ n ≤ IntKind.u32.max := by simpa using h
  exact h2
def rStep (r : Treach) (x : TItem) : Treach := Treach.mk (min r.left x.at_) (max r.right (x.at_ + x.width)) (max r.hang x.hang) (max r.front x.front) (max r.back x.back)
def rOf (s : TSet) : Treach := bif decide (s.items.length = 0) then Treach.mk 0 s.length 0 0 0 else s.items.foldl rStep (Treach.mk s.length 0 0 0 0)
def rR (r : Treach) : TReach := TReach.mk r.left r.right r.hang r.front r.back
theorem f_of (s : TSet) (h : Good s) : F_sweep_of s = some (rOf s) := by
  unfold F_sweep_of rOf
  have hni := h.ni
  by_cases h0 : s.items.length = 0
  · have e : (((s.items.length : Nat) : Int) == 0) = true := by rw [beq_iff_eq]; omega
    rw [e, decide_eq_true h0]; rfl
  have e : (((s.items.length : Nat) : Int) == 0) = false := by rw [beq_eq_false_iff_ne]; omega
  rw [e, decide_eq_false h0]
  simp only [cond_false]
  rw [iter_ka s.items (by omega) (fun t x => .inl (rStep t x)) (fun t => (t, ())) (fun _ _ => True) (Treach.mk s.length 0 0 0 0) trivial (fun k hk t _ => ⟨by
      have hg := h.items _ (List.getElem_mem hk)
      have h1 := hg.p0
      have h2 := hg.w1
      have h3 := hg.pw
      have h4 := h.n1
      simp only [lt_yes hk, cond_true, idx_at hk, Option.bind_some]
      rw [wrap64 (n := (k : Int) + 1) (by omega) (by omega), wrap64 (by omega) (by omega)]
      simp only [maxZ_eq, minZ_eq]
      rfl, fun _ _ => trivial⟩) (fun t _ => by simp only [lt_no, cond_false]), runL_fold]
  rfl
theorem f_rof (s : TSet) (h : Good s) : F_ref39_Of s = some (rR (rOf s)) := by
  unfold F_ref39_Of rOf
  have hni := h.ni
  by_cases h0 : s.items.length = 0
  · have e : (((s.items.length : Nat) : Int) == 0) = true := by rw [beq_iff_eq]; omega
    rw [e, decide_eq_true h0]; rfl
  have e : (((s.items.length : Nat) : Int) == 0) = false := by rw [beq_eq_false_iff_ne]; omega
  rw [e, decide_eq_false h0]
  simp only [cond_false]
  have hrun := iter_run (F := fun s3 : Int × TReach × Unit => (bif (decide (s3.1 < ((s.items.length : Nat) : Int))) then (idx s.items s3.1).bind fun x4 => some (.inl ((IntKind.i64.wrap (s3.1 + 1)), (TReach.mk (minZ s3.2.1.left x4.at_) (maxZ s3.2.1.right (IntKind.i64.wrap (x4.at_ + x4.width))) (maxZ s3.2.1.hang x4.hang) (maxZ s3.2.1.front x4.front) (maxZ s3.2.1.back x4.back)), ())) else some (.inr (s3.2.1, ())) : Option ((Int × TReach × Unit) ⊕ (TReach × Unit))))
    (fun (t : Treach) k => (k, rR t, ())) s.items (by omega) (fun t x => .inl (rStep t x)) (fun t => (rR t, ())) (fun _ _ => True) (fun k hk t _ => ⟨by
      have hg := h.items _ (List.getElem_mem hk)
      have h1 := hg.p0
      have h2 := hg.w1
      have h3 := hg.pw
      have h4 := h.n1
      simp only [lt_yes hk, cond_true, idx_at hk, Option.bind_some]
      rw [wrap64 (n := (k : Int) + 1) (by omega) (by omega), wrap64 (by omega) (by omega)]
      simp only [maxZ_eq, minZ_eq]
      rfl, fun _ _ => trivial⟩) (fun t _ => by simp only [lt_no, cond_false]) (Treach.mk s.length 0 0 0 0) trivial
  have e0 : rR (Treach.mk s.length 0 0 0 0) = TReach.mk s.length 0 0 0 0 := rfl
  simp only [e0] at hrun
  rw [hrun, runL_fold]
  rfl
structure RB (s : TSet) : Prop where
  l0 : 0 ≤ (rOf s).left
  lr : (rOf s).left ≤ (rOf s).right
  r1 : (rOf s).right ≤ s.length
  h0 : 0 ≤ (rOf s).hang
  h1 : (rOf s).hang ≤ 1048576
  f0 : 0 ≤ (rOf s).front
  f1 : (rOf s).front ≤ 1048576
  b0 : 0 ≤ (rOf s).back
  b1 : (rOf s).back ≤ 1048576
theorem rb (s : TSet) (h : Good s) : RB s := by
  have hn0 := h.n0
  have hn1 := h.n1
  have key : 0 ≤ (rOf s).left ∧ (rOf s).left ≤ (rOf s).right ∧ (rOf s).right ≤ s.length ∧ 0 ≤ (rOf s).hang ∧ (rOf s).hang ≤ 1048576 ∧ 0 ≤ (rOf s).front ∧ (rOf s).front ≤ 1048576 ∧ 0 ≤ (rOf s).back ∧ (rOf s).back ≤ 1048576 := by
    unfold rOf
    by_cases h0 : s.items.length = 0
    · rw [decide_eq_true h0]
      simp only [cond_true]
      omega
    rw [decide_eq_false h0]
    simp only [cond_false]
    cases hi : s.items with
    | nil => rw [hi] at h0; simp at h0
    | cons x l =>
      rw [List.foldl_cons]
      have hx := h.items x (by rw [hi]; exact List.mem_cons_self)
      have hl : ∀ y ∈ l, GoodItem s.length y := fun y hy => h.items y (by rw [hi]; exact List.mem_cons_of_mem _ hy)
      refine fold_inv (P := fun r : Treach => 0 ≤ r.left ∧ r.left ≤ r.right ∧ r.right ≤ s.length ∧ 0 ≤ r.hang ∧ r.hang ≤ 1048576 ∧ 0 ≤ r.front ∧ r.front ≤ 1048576 ∧ 0 ≤ r.back ∧ r.back ≤ 1048576) ?_ ?_
      · have a1 := hx.p0; have a2 := hx.w1; have a3 := hx.pw; have a4 := hx.h0; have a5 := hx.h1; have a6 := hx.f0; have a7 := hx.f1; have a8 := hx.b0; have a9 := hx.b1
        simp only [rStep]
        omega
      · intro r y hy hp
        have hy := hl y hy
        have a1 := hy.p0; have a2 := hy.w1; have a3 := hy.pw; have a4 := hy.h0; have a5 := hy.h1; have a6 := hy.f0; have a7 := hy.f1; have a8 := hy.b0; have a9 := hy.b1
        simp only [rStep]
        omega
  obtain ⟨k1, k2, k3, k4, k5, k6, k7, k8, k9⟩ := key
  exact ⟨k1, k2, k3, k4, k5, k6, k7, k8, k9⟩
def trimB (s : TSet) (z : Int) : Bool := decide (s.low ≤ z) && decide (z ≤ s.high)
theorem trim_iff (s : TSet) (z : Int) : trimB s z = true ↔ s.low ≤ z ∧ z ≤ s.high := by simp [trimB]
theorem f_trim (s : TSet) (z : Int) : F_ref39_Trim s z = some (trimB s z) := by
  unfold F_ref39_Trim trimB
  have e : decide (z ≥ s.low) = decide (s.low ≤ z) := rfl
  rw [e]
  cases decide (s.low ≤ z) <;> rfl
def givenP (s : TSet) (l : List Int) : Int := bif !validB s then 1 else bif l.all (trimB s) then 0 else 2
theorem f_given (s : TSet) (l : List Int) (hf : Fits s) (hl : l.length ≤ 2147483648) : F_sweep_given s l = some (givenP s l) := by
  unfold F_sweep_given givenP
  rw [f_valid s hf]
  cases validB s with
  | false => rfl
  | true =>
    simp only [Option.bind_some, Bool.not_true, cond_false]
    rw [iter_no l (by omega) (trimB s) (.inl (2, ())) (.inr ()) (fun k hk => by
      simp only [lt_yes hk, cond_true, idx_at hk, Option.bind_some]
      rw [wrap64 (by omega) (by omega)]
      unfold trimB
      by_cases h1 : l[k] < s.low
      · rw [decide_eq_true h1, decide_eq_false (show ¬ s.low ≤ l[k] by omega)]; rfl
      · rw [decide_eq_false h1, decide_eq_true (show s.low ≤ l[k] by omega)]
        by_cases h2 : l[k] > s.high
        · rw [decide_eq_true h2, decide_eq_false (show ¬ l[k] ≤ s.high by omega)]; rfl
        · rw [decide_eq_false h2, decide_eq_true (show l[k] ≤ s.high by omega)]; rfl) (by simp only [lt_no, cond_false])]
    cases l.all (trimB s) <;> rfl
theorem f_rgiven (s : TSet) (x y : Int) (hf : Fits s) : F_ref39_Given s x y = some (givenP s [x, y]) := by
  unfold F_ref39_Given givenP
  rw [f_rvalid s hf]
  cases validB s with
  | false => rfl
  | true =>
    simp only [Option.bind_some, Bool.not_true, cond_false, f_trim, List.all_cons, List.all_nil, Bool.and_true]
    cases trimB s x <;> cases trimB s y <;> rfl
theorem given_ok {s : TSet} {l : List Int} (h : givenP s l = 0) : validB s = true ∧ ∀ z ∈ l, s.low ≤ z ∧ z ≤ s.high := by
  unfold givenP at h
  cases hv : validB s with
  | false => rw [hv] at h; cases h
  | true =>
    rw [hv] at h
    cases ha : l.all (trimB s) with
    | false => rw [ha] at h; cases h
    | true => exact ⟨rfl, fun z hz => (trim_iff s z).1 (List.all_eq_true.1 ha z hz)⟩
def boxP (s : TSet) (z : Int) : TPoint × TPoint × Int := bif (givenP s [z] != 0) then (TPoint.mk 0 0 0, TPoint.mk 0 0 0, givenP s [z]) else (TPoint.mk (rOf s).left (s.depth - (rOf s).back) (z - (rOf s).hang), TPoint.mk (rOf s).right (s.depth + (rOf s).front) z, 0)
def rangeP (s : TSet) (x y : Int) : TSpan × Int := bif (givenP s [x, y] != 0) then (TSpan.mk 0 0, givenP s [x, y]) else (TSpan.mk (min x y - (rOf s).hang) (max x y), 0)
theorem f_box (s : TSet) (z : Int) (hf : Fits s) : F_sweep_Box s z = some (boxP s z) := by
  unfold F_sweep_Box boxP
  rw [f_given s _ hf (by simp)]
  simp only [Option.bind_some]
  cases hg : (givenP s [z] != 0) with
  | true => rfl
  | false =>
    have h0 : givenP s [z] = 0 := by simpa using hg
    obtain ⟨hv, hz⟩ := given_ok h0
    have hgd := Good.of hv
    have b := rb s hgd
    have b1 := b.h0; have b2 := b.h1; have b3 := b.f0; have b4 := b.f1; have b5 := b.b0; have b6 := b.b1
    have c1 := hgd.d0; have c2 := hgd.d1; have c3 := hgd.l0; have c4 := hgd.l1; have c5 := hgd.h1
    have c6 := hz z (by simp)
    simp only [cond_false]
    rw [f_of s hgd]
    simp only [Option.bind_some]
    rw [wrap64 (n := s.depth - (rOf s).back) (by omega) (by omega), wrap64 (n := z - (rOf s).hang) (by omega) (by omega), wrap64 (by omega) (by omega)]
theorem f_range (s : TSet) (x y : Int) (hf : Fits s) : F_sweep_Range s x y = some (rangeP s x y) := by
  unfold F_sweep_Range rangeP
  rw [f_given s _ hf (by simp)]
  simp only [Option.bind_some]
  cases hg : (givenP s [x, y] != 0) with
  | true => rfl
  | false =>
    have h0 : givenP s [x, y] = 0 := by simpa using hg
    obtain ⟨hv, hz⟩ := given_ok h0
    have hgd := Good.of hv
    have b := rb s hgd
    have b1 := b.h0; have b2 := b.h1
    have c3 := hgd.l0; have c4 := hgd.l1; have c5 := hgd.h1
    have c6 := hz x (by simp)
    have c7 := hz y (by simp)
    simp only [cond_false]
    rw [f_of s hgd]
    simp only [Option.bind_some, maxZ_eq, minZ_eq]
    rw [wrap64 (by omega) (by omega)]
theorem f_few1 (s : TSet) : F_law39_few [s] = some (smallB s 12) := by
  unfold F_law39_few
  rw [f_slices_ContainsFunc_api_Set [s] (by simp) (fun z1 => F_law39_few_1 z1) (fun s => !smallB s 12) (fun x _ => by unfold F_law39_few_1; rw [f_small]; rfl)]
  simp
theorem f_few2 (a b : TSet) : F_law39_few [a, b] = some (smallB a 12 && smallB b 12) := by
  unfold F_law39_few
  rw [f_slices_ContainsFunc_api_Set [a, b] (by simp) (fun z1 => F_law39_few_1 z1) (fun s => !smallB s 12) (fun x _ => by unfold F_law39_few_1; rw [f_small]; rfl)]
  simp
theorem f_awake39 : F_law39_awake = some true := by kernel_rfl
theorem main_SweepBoxes (x0 : TSet) (x1 : Int) (x2 : Int) (w0 : W_Set x0) (w1 : W_int1 x1) (w2 : W_int1 x2) : F_law39_SweepBoxes x0 x1 x2 = some true := by
  unfold F_law39_SweepBoxes
  rw [f_awake39, f_few1]
  simp only [Option.bind_some, Bool.not_true, cond_false]
  cases hs : smallB x0 12 with
  | false => rfl
  | true =>
    have hf := small_fits hs
    simp only [Bool.not_true, cond_false]
    rw [f_box x0 x1 hf, f_range x0 x1 x2 hf, f_rgiven x0 x1 x1 hf, f_rgiven x0 x1 x2 hf]
    have hgg : givenP x0 [x1, x1] = givenP x0 [x1] := by unfold givenP; simp
    rw [hgg]
    simp only [Option.bind_some]
    have hfirst : ((bif (givenP x0 [x1] != 0) then ((bif (!(((boxP x0 x1).1.x == 0) && (((boxP x0 x1).1.y == 0) && ((boxP x0 x1).1.z == 0)))) then some (true, ()) else (bif (!(((boxP x0 x1).2.1.x == 0) && (((boxP x0 x1).2.1.y == 0) && ((boxP x0 x1).2.1.z == 0)))) then some (true, ()) else some (((boxP x0 x1).2.2 != givenP x0 [x1]), ()))) : Option (Bool × Unit)).bind fun y10 => (bif y10.1 then some (.inl (false, ())) else some (.inr ((())))) else (F_ref39_Box x0 x1).bind fun r11 => ((bif (!(((boxP x0 x1).1.x == r11.1.x) && (((boxP x0 x1).1.y == r11.1.y) && ((boxP x0 x1).1.z == r11.1.z)))) then some (true, ()) else (bif (!(((boxP x0 x1).2.1.x == r11.2.x) && (((boxP x0 x1).2.1.y == r11.2.y) && ((boxP x0 x1).2.1.z == r11.2.z)))) then some (true, ()) else some (((boxP x0 x1).2.2 != 0), ()))) : Option (Bool × Unit)).bind fun y12 => (bif y12.1 then some (.inl (false, ())) else some (.inr ((()))))) : Option ((Bool × Unit) ⊕ (Unit))) = some (.inr ()) := by
      unfold boxP
      cases hg : (givenP x0 [x1] != 0) with
      | true => simp only [cond_true, beq_self_eq_true, Bool.and_self, Bool.not_true, cond_false, bne_self_eq_false, Option.bind_some]
      | false =>
        obtain ⟨hv, hz⟩ := given_ok (show givenP x0 [x1] = 0 by simpa using hg)
        have hgd := Good.of hv
        have b := rb x0 hgd
        have b1 := b.h0; have b2 := b.h1; have b3 := b.f0; have b4 := b.f1; have b5 := b.b0; have b6 := b.b1
        have c1 := hgd.d0; have c2 := hgd.d1; have c3 := hgd.l0; have c4 := hgd.l1; have c5 := hgd.h1
        have c6 := hz x1 (by simp)
        unfold F_ref39_Box
        rw [f_rof x0 hgd]
        simp only [cond_false, Option.bind_some, rR]
        rw [wrap64 (n := x0.depth - (rOf x0).back) (by omega) (by omega), wrap64 (n := x1 - (rOf x0).hang) (by omega) (by omega), wrap64 (by omega) (by omega)]
        simp only [cond_true, beq_self_eq_true, Bool.and_self, Bool.not_true, cond_false, bne_self_eq_false, Option.bind_some]
    rw [hfirst]
    simp only [Option.bind_some]
    unfold rangeP
    cases hg : (givenP x0 [x1, x2] != 0) with
    | true => simp only [cond_true, beq_self_eq_true, Bool.and_self, Bool.not_true, cond_false, bne_self_eq_false, Option.bind_some]
    | false =>
      obtain ⟨hv, hz⟩ := given_ok (show givenP x0 [x1, x2] = 0 by simpa using hg)
      have hgd := Good.of hv
      have b := rb x0 hgd
      have b1 := b.h0; have b2 := b.h1
      have c3 := hgd.l0; have c4 := hgd.l1; have c5 := hgd.h1
      have c6 := hz x1 (by simp)
      have c7 := hz x2 (by simp)
      unfold F_ref39_Range
      rw [f_rof x0 hgd]
      simp only [cond_false, Option.bind_some, rR, maxZ_eq, minZ_eq]
      rw [wrap64 (by omega) (by omega)]
      simp only [cond_true, beq_self_eq_true, Bool.and_self, Bool.not_true, cond_false, bne_self_eq_false, Option.bind_some]
end Go.Proofs.Ytcahdnmkhoncaaa
