/- Brakes: paths, the first too far, the widest. -/
import Derived.Test.YtmdghocpelkcoaaPlB1
namespace Go.Proofs.Ytmdghocpelkcoaa
set_option linter.unusedSimpArgs false
set_option linter.unusedVariables false

theorem maxZ_eq (x y : Int) : maxZ x y = max x y := by unfold maxZ; split <;> omega
theorem minZ_eq (x y : Int) : minZ x y = min x y := by unfold minZ; split <;> omega
theorem jobs_len {l : List TJob} (h : jobsB l = true) : l.length ≤ 100 := by
  unfold jobsB at h
  simp only [Bool.and_eq_true, decide_eq_true_eq] at h
  exact h.1
theorem jobs_good {l : List TJob} (h : jobsB l = true) : ∀ x ∈ l, -1048576 ≤ x.weight ∧ x.weight ≤ 1048576 := fun x hx => by
  unfold jobsB at h
  simp only [Bool.and_eq_true, decide_eq_true_eq] at h
  have := pairs_one h.2 x hx
  unfold jobB at this
  simp only [Bool.and_eq_true, between_iff] at this
  exact this.2
def chI (s : TSet) (x : TJob) : Int := bif x.pipe then s.purchase * x.weight else -x.weight
theorem ch_bound {s : TSet} {x : TJob} (h : Good s) (hx : -1048576 ≤ x.weight ∧ x.weight ≤ 1048576) : -2097152 ≤ chI s x ∧ chI s x ≤ 2097152 := by
  unfold chI
  have h1 := h.u0
  have h2 := h.u1
  cases x.pipe with
  | false => simp only [cond_false]; omega
  | true =>
    simp only [cond_true]
    have : s.purchase = 1 ∨ s.purchase = 2 := by omega
    rcases this with e | e <;> rw [e] <;> omega
theorem f_change (s : TSet) (x : TJob) (h : Good s) (hx : -1048576 ≤ x.weight ∧ x.weight ≤ 1048576) : F_brake_change s x = some (chI s x) := by
  have hb := ch_bound h hx
  unfold F_brake_change
  unfold chI at hb ⊢
  cases hp : x.pipe with
  | false => rw [hp] at hb; simp only [cond_false] at hb ⊢; rw [Int.zero_sub, wrap64 (by omega) (by omega)]
  | true => rw [hp] at hb; simp only [cond_true] at hb ⊢; rw [wrap64 (by omega) (by omega)]
theorem f_rchange (s : TSet) (x : TJob) (h : Good s) (hx : -1048576 ≤ x.weight ∧ x.weight ≤ 1048576) : F_ref27_Change s x = some (chI s x) := f_change s x h hx
def pathL (b : Int) (f : TJob → Int) (l : List TJob) : List Int := (List.range (l.length + 1)).map fun i => b + sumTo f l i
theorem path_len (b : Int) (f : TJob → Int) (l : List TJob) : (pathL b f l).length = l.length + 1 := by simp [pathL]
theorem path_at (b : Int) (f : TJob → Int) (l : List TJob) (i : Nat) (h : i < (pathL b f l).length) : (pathL b f l)[i] = b + sumTo f l i := by simp [pathL]
theorem sum_two (f : TJob → Int) (l : List TJob) (M : Int) (hM : 0 ≤ M) (h : ∀ x ∈ l, -M ≤ f x ∧ f x ≤ M) : ∀ k, k ≤ l.length → -(k * M) ≤ sumTo f l k ∧ sumTo f l k ≤ k * M := by
  intro k
  induction k with
  | zero => intro _; rw [sumTo_zero]; simp
  | succ k ih =>
    intro hk
    have := ih (by omega)
    have hx := h l[k] (List.getElem_mem (by omega))
    rw [sumTo_succ _ _ _ (by omega)]
    have e : ((k + 1 : Nat) : Int) * M = k * M + M := by rw [Int.natCast_add, Int.add_mul, Int.natCast_one, Int.one_mul]
    rw [e]
    omega
theorem ch_sums {s : TSet} {l : List TJob} (h : Good s) (hl : jobsB l = true) (k : Nat) (hk : k ≤ l.length) : -209715200 ≤ sumTo (chI s) l k ∧ sumTo (chI s) l k ≤ 209715200 := by
  have h1 := sum_two (chI s) l 2097152 (by decide) (fun x hx => ch_bound h (jobs_good hl x hx)) k hk
  have h2 := jobs_len hl
  omega
theorem path_bound {s : TSet} {l : List TJob} (h : Good s) (hl : jobsB l = true) : ∀ x ∈ pathL (balanceI s) (chI s) l, -2199316856832 ≤ x ∧ x ≤ 2199316856832 := by
  intro x hx
  obtain ⟨i, hi, rfl⟩ := List.mem_iff_getElem.1 hx
  rw [path_at]
  rw [path_len] at hi
  have h1 := ch_sums h hl i (by omega)
  have h2 := bal_bound h
  omega
theorem iter_path (ch : TJob → Option Int) (s : TSet) (l : List TJob) (h : Good s) (hl : jobsB l = true) (hc : ∀ x ∈ l, ch x = some (chI s x)) :
    iterF (σ := Int × Int × List Int × Unit) (ρ := List Int × Unit) (fun s9 => (bif (decide (s9.2.1 < ((l.length : Nat) : Int))) then (idx l s9.2.1).bind fun x10 => (ch x10).bind fun r11 => (if s9.2.2.1.length + ([(IntKind.i64.wrap (s9.1 + r11))] : List Int).length ≤ 2147483648 then some (.inl ((IntKind.i64.wrap (s9.1 + r11)), (IntKind.i64.wrap (s9.2.1 + 1)), (s9.2.2.1 ++ ([(IntKind.i64.wrap (s9.1 + r11))] : List Int)), ())) else none) else some (.inr (s9.2.2.1, ())))) big (balanceI s, 0, ([balanceI s] : List Int), ()) = some (pathL (balanceI s) (chI s) l, ()) := by
  have hlen := jobs_len hl
  obtain ⟨r, g1, g2⟩ := iter_inv (F := fun s9 : Int × Int × List Int × Unit => (bif (decide (s9.2.1 < ((l.length : Nat) : Int))) then (idx l s9.2.1).bind fun x10 => (ch x10).bind fun r11 => (if s9.2.2.1.length + ([(IntKind.i64.wrap (s9.1 + r11))] : List Int).length ≤ 2147483648 then some (.inl ((IntKind.i64.wrap (s9.1 + r11)), (IntKind.i64.wrap (s9.2.1 + 1)), (s9.2.2.1 ++ ([(IntKind.i64.wrap (s9.1 + r11))] : List Int)), ())) else none) else some (.inr (s9.2.2.1, ())) : Option ((Int × Int × List Int × Unit) ⊕ (List Int × Unit))))
    (Q := fun r => r = (pathL (balanceI s) (chI s) l, ())) (fun k z => z = (balanceI s + sumTo (chI s) l k, (k : Int), (List.range (k + 1)).map (fun i => balanceI s + sumTo (chI s) l i), ())) l.length (by unfold big; omega) (fun k z hk hz => by
      subst hz
      by_cases hlt : k < l.length
      · have b1 := ch_sums h hl (k + 1) (by omega)
        have b2 := bal_bound h
        rw [sumTo_succ _ _ _ hlt] at b1
        refine .inl ⟨(balanceI s + sumTo (chI s) l (k + 1), ((k + 1 : Nat) : Int), (List.range (k + 2)).map (fun i => balanceI s + sumTo (chI s) l i), ()), ?_, hlt, rfl⟩
        simp only [lt_yes hlt, cond_true, idx_at hlt, Option.bind_some, hc _ (List.getElem_mem hlt)]
        rw [if_pos (by simp; omega), wrap64 (n := balanceI s + sumTo (chI s) l k + chI s l[k]) (by omega) (by omega), wrap64 (by omega) (by omega), List.range_succ (n := k + 1), List.map_append, sumTo_succ _ _ _ hlt, Int.add_assoc]
        simp only [List.map_cons, List.map_nil, sumTo_succ _ _ _ hlt]
        rfl
      · obtain rfl : k = l.length := by omega
        simp only [lt_no, cond_false]
        exact .inr ⟨_, rfl, rfl⟩) (s := (balanceI s, 0, [balanceI s], ())) (by simp [sumTo_zero])
  subst g2
  exact g1
def okB (s : TSet) (l : List TJob) : Bool := validB s && jobsB l
def pathP (s : TSet) (l : List TJob) : List Int × Int := bif okB s l then (pathL (balanceI s) (chI s) l, 0) else ([], 1)
theorem okB_ok {s : TSet} {l : List TJob} (h : okB s l = true) : Good s ∧ jobsB l = true ∧ validB s = true := by
  unfold okB at h
  rw [Bool.and_eq_true] at h
  exact ⟨Good.of h.1, h.2, h.1⟩
theorem f_path (s : TSet) (l : List TJob) (hf : Fits s) (hn : ∀ x ∈ l, x.name.size ≤ 60) : F_brake_Path s l = some (pathP s l) := by
  unfold F_brake_Path pathP okB
  rw [f_balance s hf, f_bvalid l (fun x hx => by have := hn x hx; omega)]
  cases hv : validB s with
  | false => rfl
  | true =>
    cases hj : jobsB l with
    | false => rfl
    | true =>
      have e0 : ((0 : Int) != 0) = false := rfl
      simp only [if_true, Option.bind_some, e0, cond_false, Bool.not_true, Bool.and_self, cond_true]
      rw [iter_path (fun x => F_brake_change s x) s l (Good.of hv) hj (fun x hx => f_change s x (Good.of hv) (jobs_good hj x hx))]
      rfl
theorem f_rpath (s : TSet) (l : List TJob) (h : Good s) (hj : jobsB l = true) : F_ref27_Path s l = some (pathL (balanceI s) (chI s) l) := by
  unfold F_ref27_Path
  rw [f_rbalance s h]
  simp only [Option.bind_some]
  rw [iter_path (fun x => F_ref27_Change s x) s l h hj (fun x hx => f_rchange s x h (jobs_good hj x hx))]
  rfl
def heldB (s : TSet) (n : Int) : Bool := decide (-s.brake ≤ n) && decide (n ≤ s.brake)
theorem held_iff (s : TSet) (n : Int) : heldB s n = true ↔ -s.brake ≤ n ∧ n ≤ s.brake := by simp [heldB]
theorem f_held (s : TSet) (n : Int) (h : Good s) : F_brake_held s n = some (heldB s n) := by
  have h1 := h.b0
  have h2 := h.b1
  unfold F_brake_held heldB
  rw [Int.zero_sub, wrap64 (by omega) (by omega)]
  have e : decide (n ≥ -s.brake) = decide (-s.brake ≤ n) := rfl
  rw [e]
  cases decide (-s.brake ≤ n) <;> rfl
theorem f_rheld (s : TSet) (n : Int) (h : Good s) : F_ref27_Held s n = some (heldB s n) := by
  have h1 := h.b0
  have h2 := h.b1
  unfold F_ref27_Held heldB
  rw [f_btw27, Int.zero_sub, wrap64 (by omega) (by omega), Option.bind_some]
  congr 1
  rw [Bool.eq_iff_iff, between_iff]
  simp
def firstI (s : TSet) (p : List Int) : Int := match p.findIdx? (fun z => !heldB s z) with | some i => (i : Int) | none => -1
theorem f_first1 (s : TSet) (z : Int) (h : Good s) : F_brake_First_1 z s = some (!heldB s z) := by unfold F_brake_First_1; rw [f_held s z h]; rfl
theorem f_rfirst (s : TSet) (p : List Int) (h : Good s) (hp : p.length < 9223372036854775807) : F_ref27_First s p = some (firstI s p) := by
  have e := f_slices_IndexFunc_int p hp (fun z => some (!heldB s z)) (fun z => !heldB s z) (fun x _ => rfl)
  unfold F_slices_IndexFunc_int at e
  unfold F_ref27_First
  simp only [f_rheld s _ h, Option.bind_some] at e ⊢
  exact e
def firstP (s : TSet) (l : List TJob) : Int × Int := bif okB s l then (bif decide (firstI s (pathL (balanceI s) (chI s) l) < 0) then (0, 12) else (firstI s (pathL (balanceI s) (chI s) l), 0)) else (0, 1)
theorem f_first (s : TSet) (l : List TJob) (hf : Fits s) (hn : ∀ x ∈ l, x.name.size ≤ 60) : F_brake_First s l = some (firstP s l) := by
  unfold F_brake_First firstP
  rw [f_path s l hf hn]
  unfold pathP
  cases ho : okB s l with
  | false => rfl
  | true =>
    obtain ⟨hg, hj, -⟩ := okB_ok ho
    have hl := jobs_len hj
    have e0 : ((0 : Int) != 0) = false := rfl
    simp only [cond_true, Option.bind_some, e0, cond_false]
    rw [f_slices_IndexFunc_int _ (by rw [path_len]; omega) (fun z2 => F_brake_First_1 z2 s) (fun z => !heldB s z) (fun x _ => f_first1 s x hg)]
    show (some (firstI s (pathL (balanceI s) (chI s) l))).bind _ = _
    simp only [Option.bind_some]
    cases decide (firstI s (pathL (balanceI s) (chI s) l) < 0) <;> rfl
def widestI (p : List Int) : Int := p.foldl (fun t x => max (max t x) (-x)) 0
theorem runL_fold {α τ ρ : Type} (f : τ → α → τ) (fin : τ → ρ) (l : List α) (t : τ) : runL (fun t x => .inl (f t x)) fin l t = fin (l.foldl f t) := by
  induction l generalizing t with
  | nil => rfl
  | cons x l ih => unfold runL; simp only [ih, List.foldl_cons]
theorem f_rwidest (p : List Int) (hl : p.length ≤ 2147483648) (hp : ∀ x ∈ p, -2199316856832 ≤ x ∧ x ≤ 2199316856832) : F_ref27_Widest p = some (widestI p) := by
  unfold F_ref27_Widest
  rw [iter_ak p (by omega) (fun t x => .inl (max (max t x) (-x))) (fun t => (t, ())) (fun _ _ => True) 0 trivial (fun k hk t _ => ⟨by
    have := hp _ (List.getElem_mem hk)
    simp only [lt_yes hk, cond_true, idx_at hk, Option.bind_some, maxZ_eq, Int.zero_sub]
    rw [wrap64 (n := -p[k]) (by omega) (by omega), wrap64 (by omega) (by omega)], fun _ _ => trivial⟩) (fun t _ => by simp only [lt_no, cond_false]), runL_fold]
  rfl
theorem f_max (x : Int) (l : List Int) (hl : l.length ≤ 2147483648) : F_slices_Max_int (x :: l) = some (l.foldl max x) := by
  unfold F_slices_Max_int
  rw [decide_eq_false (show ¬ ((((x :: l).length : Nat) : Int) < 1) by rw [List.length_cons]; omega), show idx (x :: l) 0 = some x from idx_at (k := 0) (by simp)]
  simp only [cond_false, Option.bind_some]
  have h := iter_run (F := fun s4 : Int × Int × Unit => (bif (decide (s4.2.1 < (((x :: l).length : Nat) : Int))) then (idx (x :: l) s4.2.1).bind fun x5 => some (.inl ((maxZ s4.1 x5), (IntKind.i64.wrap (s4.2.1 + 1)), ())) else some (.inr (s4.1, ())) : Option ((Int × Int × Unit) ⊕ (Int × Unit)))) (fun (t : Int) k => (t, k + 1, ())) l (by omega) (fun t x => .inl (max t x)) (fun t => (t, ())) (fun _ _ => True) (fun k hk t _ => ⟨by
    have hk2 : k + 1 < (x :: l).length := by rw [List.length_cons]; omega
    have e : (k : Int) + 1 = ((k + 1 : Nat) : Int) := by omega
    rw [e]
    simp only [lt_yes hk2, cond_true, idx_at hk2, Option.bind_some, maxZ_eq, List.getElem_cons_succ]
    rw [wrap64 (by omega) (by omega)], fun _ _ => trivial⟩) (fun t _ => by
    have e : (l.length : Int) + 1 = (((x :: l).length : Nat) : Int) := by rw [List.length_cons]; omega
    rw [e]
    simp only [lt_no, cond_false]) x trivial
  have e1 : ((x, (0 : Int) + 1, ()) : Int × Int × Unit) = (x, 1, ()) := rfl
  rw [e1] at h
  rw [h, runL_fold]
  rfl
theorem f_min (x : Int) (l : List Int) (hl : l.length ≤ 2147483648) : F_slices_Min_int (x :: l) = some (l.foldl min x) := by
  unfold F_slices_Min_int
  rw [decide_eq_false (show ¬ ((((x :: l).length : Nat) : Int) < 1) by rw [List.length_cons]; omega), show idx (x :: l) 0 = some x from idx_at (k := 0) (by simp)]
  simp only [cond_false, Option.bind_some]
  have h := iter_run (F := fun s4 : Int × Int × Unit => (bif (decide (s4.2.1 < (((x :: l).length : Nat) : Int))) then (idx (x :: l) s4.2.1).bind fun x5 => some (.inl ((minZ s4.1 x5), (IntKind.i64.wrap (s4.2.1 + 1)), ())) else some (.inr (s4.1, ())) : Option ((Int × Int × Unit) ⊕ (Int × Unit)))) (fun (t : Int) k => (t, k + 1, ())) l (by omega) (fun t x => .inl (min t x)) (fun t => (t, ())) (fun _ _ => True) (fun k hk t _ => ⟨by
    have hk2 : k + 1 < (x :: l).length := by rw [List.length_cons]; omega
    have e : (k : Int) + 1 = ((k + 1 : Nat) : Int) := by omega
    rw [e]
    simp only [lt_yes hk2, cond_true, idx_at hk2, Option.bind_some, minZ_eq, List.getElem_cons_succ]
    rw [wrap64 (by omega) (by omega)], fun _ _ => trivial⟩) (fun t _ => by
    have e : (l.length : Int) + 1 = (((x :: l).length : Nat) : Int) := by rw [List.length_cons]; omega
    rw [e]
    simp only [lt_no, cond_false]) x trivial
  have e1 : ((x, (0 : Int) + 1, ()) : Int × Int × Unit) = (x, 1, ()) := rfl
  rw [e1] at h
  rw [h, runL_fold]
  rfl
theorem widest_split (l : List Int) (a b : Int) : l.foldl (fun t x => max (max t x) (-x)) (max a (-b)) = max (l.foldl max a) (-(l.foldl min b)) := by
  induction l generalizing a b with
  | nil => rfl
  | cons x l ih =>
    rw [List.foldl_cons, List.foldl_cons, List.foldl_cons, ← ih]
    congr 1
    omega
theorem widest_cons (x : Int) (l : List Int) : widestI (x :: l) = max (l.foldl max x) (-(l.foldl min x)) := by
  unfold widestI
  rw [List.foldl_cons, ← widest_split]
  congr 1
  omega
theorem fold_min_bound (l : List Int) (a M : Int) (h : ∀ x ∈ l, -M ≤ x ∧ x ≤ M) (ha : -M ≤ a ∧ a ≤ M) : -M ≤ l.foldl min a ∧ l.foldl min a ≤ M := by
  induction l generalizing a with
  | nil => exact ha
  | cons x l ih =>
    have := h x List.mem_cons_self
    exact ih _ (fun y hy => h y (List.mem_cons_of_mem _ hy)) (by omega)
def widestP (s : TSet) (l : List TJob) : Int × Int := bif okB s l then (widestI (pathL (balanceI s) (chI s) l), 0) else (0, 1)
theorem f_widest (s : TSet) (l : List TJob) (hf : Fits s) (hn : ∀ x ∈ l, x.name.size ≤ 60) : F_brake_Widest s l = some (widestP s l) := by
  unfold F_brake_Widest widestP
  rw [f_path s l hf hn]
  unfold pathP
  cases ho : okB s l with
  | false => rfl
  | true =>
    obtain ⟨hg, hj, -⟩ := okB_ok ho
    have hl := jobs_len hj
    have e0 : ((0 : Int) != 0) = false := rfl
    simp only [cond_true, Option.bind_some, e0, cond_false]
    have hb := path_bound hg hj
    have hlen := path_len (balanceI s) (chI s) l
    generalize pathL (balanceI s) (chI s) l = p at hb hlen
    cases p with
    | nil => simp at hlen
    | cons x p =>
      rw [List.length_cons] at hlen
      rw [f_max x p (by omega), f_min x p (by omega)]
      have := fold_min_bound p x 2199316856832 (fun y hy => hb y (List.mem_cons_of_mem _ hy)) (hb x List.mem_cons_self)
      simp only [Option.bind_some, maxZ_eq, Int.zero_sub]
      rw [wrap64 (by omega) (by omega), widest_cons]
theorem f_equal_refl (l : List Int) (h : l.length ≤ 2147483648) : F_slices_Equal_int l l = some true := by
  unfold F_slices_Equal_int
  rw [bne_self_eq_false]
  simp only [cond_false]
  rw [iter_no l (by omega) (fun _ => true) (.inl (false, ())) (.inr ()) (fun k hk => by
    simp only [lt_yes hk, cond_true, idx_at hk, Option.bind_some, bne_self_eq_false, cond_false]
    rw [wrap64 (by omega) (by omega)]) (by simp only [lt_no, cond_false])]
  have e : l.all (fun _ => true) = true := by rw [List.all_eq_true]; intros; rfl
  rw [e]
  rfl
end Go.Proofs.Ytmdghocpelkcoaa
