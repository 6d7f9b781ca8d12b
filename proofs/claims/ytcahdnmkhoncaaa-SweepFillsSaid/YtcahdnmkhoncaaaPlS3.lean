/- Sweeps: cells. -/
import Derived.Test.YtcahdnmkhoncaaaPlS2
namespace Go.Proofs.Ytcahdnmkhoncaaa
set_option linter.unusedSimpArgs false
set_option linter.unusedVariables false

theorem ediv_bound {n d A : Int} (hd : 1 ≤ d) (hA : 0 ≤ A) (h1 : -A ≤ n) (h2 : n ≤ A) : -A ≤ n / d ∧ n / d ≤ A := by
  have hm : A * 1 ≤ A * d := Int.mul_le_mul_of_nonneg_left hd hA
  constructor
  · rw [Int.le_ediv_iff_mul_le (by omega), Int.neg_mul]; omega
  · have : n / d < A + 1 := by rw [Int.ediv_lt_iff_lt_mul (by omega), Int.add_mul]; omega
    omega
theorem floor_core {n d : Int} (hd : 1 ≤ d) (h1 : -4294967296 ≤ n) (h2 : n ≤ 4294967296) :
    (if d = 0 then none else ((if d = 0 then none else (bif (decide ((n.tmod d) < 0)) then some ((IntKind.i64.wrap ((IntKind.i64.wrap (n.tdiv d)) - 1)), ()) else some ((IntKind.i64.wrap (n.tdiv d)), ()))) : Option (Int × Unit)).bind fun y1 => some y1.1) = some (n / d) := by
  have hb := ediv_bound hd (by omega) h1 h2
  have hm0 := Int.emod_nonneg n (show d ≠ 0 by omega)
  have hm1 := Int.emod_lt_of_pos n (show 0 < d by omega)
  rw [if_neg (by omega), if_neg (by omega), Int.tdiv_eq_ediv, Int.tmod_eq_emod, Int.sign_eq_one_of_pos (by omega)]
  by_cases hc : 0 ≤ n ∨ d ∣ n
  · rw [if_pos hc, if_pos hc, decide_eq_false (by omega), Int.add_zero, wrap64 (n := n / d) (by omega) (by omega)]
    simp only [cond_false, Option.bind_some]
  · rw [if_neg hc, if_neg hc, decide_eq_true (by omega), wrap64 (n := n / d + 1) (by omega) (by omega), wrap64 (by omega) (by omega)]
    simp only [cond_true, Option.bind_some]
    congr 1; omega
theorem f_floor (n d : Int) (hd : 1 ≤ d) (h1 : -4294967296 ≤ n) (h2 : n ≤ 4294967296) : F_sweep_floor n d = some (n / d) := floor_core hd h1 h2
theorem f_rfloor (n d : Int) (hd : 1 ≤ d) (h1 : -4294967296 ≤ n) (h2 : n ≤ 4294967296) : F_ref39_floor n d = some (n / d) := floor_core hd h1 h2
def upto (a : Int) (n : Nat) : List Int := (List.range n).map fun (k : Nat) => a + (k : Int)
theorem upto_len (a : Int) (n : Nat) : (upto a n).length = n := by simp [upto]
theorem upto_succ (a : Int) (n : Nat) : upto a (n + 1) = upto a n ++ [a + (n : Int)] := by simp [upto, List.range_succ]
theorem upto_at (a : Int) (n k : Nat) (h : k < (upto a n).length) : (upto a n)[k] = a + (k : Int) := by simp [upto]
def topI (lo hi : Int) : Int := if lo = hi then lo else hi - 1
def sizeB (d : Int) : Bool := decide (d < 1) || decide (d > 1048576)
theorem f_size (d : Int) : ((bif (decide (d < 1)) then some (true, ()) else some ((decide (d > 1048576)), ())) : Option (Bool × Unit)) = some (sizeB d, ()) := by
  unfold sizeB
  cases decide (d < 1) <;> rfl
def cellsI (lo hi d : Int) : List Int × Int := bif decide (topI lo hi / d - lo / d ≥ 1000) then ([], 4) else (upto (lo / d) (topI lo hi / d - lo / d + 1).toNat, 0)
def cellsP (s : TSet) (x y d : Int) : List Int × Int := bif ((rangeP s x y).2 != 0) then ([], (rangeP s x y).2) else bif sizeB d then ([], 2) else cellsI (rangeP s x y).1.lo (rangeP s x y).1.hi d
structure RO (lo hi : Int) : Prop where
  l0 : -1048576 ≤ lo
  lh : lo ≤ hi
  h1 : hi ≤ 1048576
theorem range_ok {s : TSet} {x y : Int} (h : ((rangeP s x y).2 != 0) = false) : givenP s [x, y] = 0 ∧ (rangeP s x y) = (TSpan.mk (min x y - (rOf s).hang) (max x y), 0) ∧ RO (min x y - (rOf s).hang) (max x y) := by
  cases hg : (givenP s [x, y] != 0) with
  | true =>
    have e : rangeP s x y = (TSpan.mk 0 0, givenP s [x, y]) := by unfold rangeP; rw [hg]; rfl
    rw [e] at h
    rw [h] at hg; cases hg
  | false =>
    have h0 : givenP s [x, y] = 0 := by simpa using hg
    obtain ⟨hv, hz⟩ := given_ok h0
    have hgd := Good.of hv
    have b := rb s hgd
    have b1 := b.h0; have b2 := b.h1
    have c3 := hgd.l0; have c4 := hgd.l1; have c5 := hgd.h1
    have c6 := hz x (by simp)
    have c7 := hz y (by simp)
    exact ⟨h0, by unfold rangeP; rw [hg]; rfl, by omega, by omega, by omega⟩
structure TO (lo hi d : Int) : Prop where
  d1 : 1 ≤ d
  f0 : -4294967296 ≤ lo / d
  f1 : lo / d ≤ 4294967296
  t0 : lo / d ≤ topI lo hi / d
  t1 : topI lo hi / d ≤ 4294967296
theorem top_ok {lo hi d : Int} (h : RO lo hi) (hd : 1 ≤ d) : TO lo hi d ∧ lo ≤ topI lo hi ∧ topI lo hi ≤ hi := by
  have h1 := h.l0; have h2 := h.lh; have h3 := h.h1
  have ht : lo ≤ topI lo hi ∧ topI lo hi ≤ hi := by unfold topI; split <;> omega
  have b1 := ediv_bound (n := lo) hd (show (0 : Int) ≤ 1048576 by omega) (by omega) (by omega)
  have b2 := ediv_bound (n := topI lo hi) hd (show (0 : Int) ≤ 1048576 by omega) (by omega) (by omega)
  exact ⟨⟨hd, by omega, by omega, Int.ediv_le_ediv (by omega) ht.1, by omega⟩, ht⟩
theorem f_cells (s : TSet) (x y d : Int) (hf : Fits s) : F_sweep_Cells s x y d = some (cellsP s x y d) := by
  unfold F_sweep_Cells cellsP
  rw [f_range s x y hf]
  simp only [Option.bind_some]
  cases hr : ((rangeP s x y).2 != 0) with
  | true => rfl
  | false =>
    obtain ⟨-, -, ho⟩ := range_ok hr
    have e := (range_ok hr).2.1
    simp only [cond_false, f_size, Option.bind_some]
    cases hz : sizeB d with
    | true => rfl
    | false =>
      have hd : 1 ≤ d ∧ d ≤ 1048576 := by simp [sizeB] at hz; omega
      rw [e]
      simp only [cond_false]
      generalize min x y - (rOf s).hang = lo at ho
      generalize max x y = hi at ho
      obtain ⟨ht, ht1, ht2⟩ := top_ok ho hd.1
      have h1 := ho.l0; have h2 := ho.lh; have h3 := ho.h1
      have k1 := ht.f0; have k2 := ht.f1; have k3 := ht.t0; have k4 := ht.t1
      rw [f_floor lo d hd.1 (by omega) (by omega), wrap64 (n := hi - 1) (by omega) (by omega), f_floor (hi - 1) d hd.1 (by omega) (by omega)]
      have ey : ((bif (lo == hi) then some (lo / d, ()) else some ((hi - 1) / d, ())) : Option (Int × Unit)) = some (topI lo hi / d, ()) := by
        unfold topI
        by_cases hc : lo = hi
        · rw [if_pos hc, show (lo == hi) = true by simpa using hc]; rfl
        · rw [if_neg hc, show (lo == hi) = false by simpa using hc]; rfl
      simp only [Option.bind_some, ey]
      unfold cellsI
      generalize topI lo hi / d = b at k3 k4
      generalize lo / d = a at k1 k2 k3
      rw [wrap64 (n := b - a) (by omega) (by omega)]
      by_cases hb : b - a ≥ 1000
      · rw [decide_eq_true hb]; rfl
      · rw [decide_eq_false hb]
        simp only [cond_false]
        obtain ⟨r, g1, g2⟩ := iter_inv (F := fun s6 : Int × List Int × Unit => (bif (decide (s6.1 ≤ b)) then (if s6.2.1.length + ([s6.1] : List Int).length ≤ 2147483648 then some (.inl ((IntKind.i64.wrap (s6.1 + 1)), (s6.2.1 ++ ([s6.1] : List Int)), ())) else none) else some (.inr (s6.2.1, ())) : Option ((Int × List Int × Unit) ⊕ (List Int × Unit))))
          (Q := fun r => r = (upto a (b - a + 1).toNat, ())) (fun k t => t = (a + (k : Int), upto a k, ())) (b - a + 1).toNat (by unfold big; omega) (fun k t hk ht => by
            subst ht
            by_cases hlt : a + (k : Int) ≤ b
            · refine .inl ⟨(a + ((k + 1 : Nat) : Int), upto a (k + 1), ()), ?_, by omega, rfl⟩
              simp only [decide_eq_true hlt, cond_true]
              rw [if_pos (by rw [upto_len]; simp; omega), wrap64 (by omega) (by omega), upto_succ, Int.natCast_add, Int.natCast_one, Int.add_assoc]
            · obtain rfl : k = (b - a + 1).toNat := by omega
              refine .inr ⟨_, ?_, rfl⟩
              simp only [decide_eq_false hlt, cond_false]) (s := (a, [], ())) (by simp [upto])
        subst g2
        rw [g1]
        rfl
theorem cells_len {lo hi d : Int} (h : TO lo hi d) (hb : ¬ topI lo hi / d - lo / d ≥ 1000) : ((upto (lo / d) (topI lo hi / d - lo / d + 1).toNat).length : Int) = topI lo hi / d - lo / d + 1 := by
  rw [upto_len]
  have := h.t0
  omega
theorem at_some {α : Type} {l : List α} {k : Nat} (h : k < l.length) : l[Int.toNat (k : Int)]? = some l[k] := by
  rw [Int.toNat_natCast, List.getElem?_eq_getElem h]
theorem iter_all {ρ : Type} {F : Int × Unit → Option ((Int × Unit) ⊕ ρ)} (n : Nat) (hn : n < 9223372036854775807) (d : ρ) (hin : ∀ (k : Nat), k < n → F ((k : Int), ()) = some (.inl ((k : Int) + 1, ()))) (hout : F ((n : Int), ()) = some (.inr d)) : iterF F big (0, ()) = some d := by
  obtain ⟨r, g1, g2⟩ := iter_inv (F := F) (Q := fun r => r = d) (fun k t => t = ((k : Int), ())) n (by unfold big; omega) (fun k t hk ht => by
    subst ht
    by_cases hlt : k < n
    · exact .inl ⟨_, hin k hlt, hlt, by simp⟩
    · obtain rfl : k = n := by omega
      exact .inr ⟨_, hout, rfl⟩) (s := (0, ())) rfl
  rw [g1, g2]
theorem f_rrange {s : TSet} {x y : Int} (h : givenP s [x, y] = 0) : F_ref39_Range s x y = some (TSpan.mk (min x y - (rOf s).hang) (max x y)) := by
  obtain ⟨hv, hz⟩ := given_ok h
  have hgd := Good.of hv
  have b := rb s hgd
  have b1 := b.h0; have b2 := b.h1
  have c3 := hgd.l0; have c4 := hgd.l1; have c5 := hgd.h1
  have c6 := hz x (by simp)
  have c7 := hz y (by simp)
  unfold F_ref39_Range
  rw [f_rof s hgd]
  simp only [cond_false, Option.bind_some, rR, maxZ_eq, minZ_eq]
  rw [wrap64 (by omega) (by omega)]
theorem f_rcells {lo hi d : Int} (ho : RO lo hi) (hd : 1 ≤ d) : F_ref39_Cells (TSpan.mk lo hi) d = some (lo / d, topI lo hi / d) := by
  have h1 := ho.l0; have h2 := ho.lh; have h3 := ho.h1
  unfold F_ref39_Cells
  simp only
  rw [f_rfloor lo d hd (by omega) (by omega)]
  unfold topI
  by_cases hc : lo = hi
  · rw [if_pos hc, show (lo == hi) = true by simpa using hc]; rfl
  · rw [if_neg hc, show (lo == hi) = false by simpa using hc, wrap64 (by omega) (by omega), f_rfloor (hi - 1) d hd (by omega) (by omega)]; rfl
theorem range_no {s : TSet} {x y : Int} (h : (givenP s [x, y] != 0) = true) : rangeP s x y = (TSpan.mk 0 0, givenP s [x, y]) := by unfold rangeP; rw [h]; rfl
theorem main_SweepCells (x0 : TSet) (x1 : Int) (x2 : Int) (x3 : Int) (w0 : W_Set x0) (w1 : W_int1 x1) (w2 : W_int1 x2) (w3 : W_int1 x3) : F_law39_SweepCells x0 x1 x2 x3 = some true := by
  unfold F_law39_SweepCells
  rw [f_awake39, f_few1]
  simp only [Option.bind_some, Bool.not_true, cond_false]
  cases hs : smallB x0 12 with
  | false => rfl
  | true =>
    have hf := small_fits hs
    simp only [Bool.not_true, cond_false]
    rw [f_cells x0 x1 x2 x3 hf, f_rgiven x0 x1 x2 hf]
    simp only [Option.bind_some]
    have e0 : ((0 : Int) != 0) = false := rfl
    cases hg : (givenP x0 [x1, x2] != 0) with
    | true =>
      have e : cellsP x0 x1 x2 x3 = ([], givenP x0 [x1, x2]) := by unfold cellsP; rw [range_no hg]; simp only [hg, cond_true]
      rw [e]
      simp
    | false =>
      have h0 : givenP x0 [x1, x2] = 0 := by simpa using hg
      have hr : ((rangeP x0 x1 x2).2 != 0) = false := by unfold rangeP; rw [hg]; rfl
      obtain ⟨-, er, ho⟩ := range_ok hr
      simp only [cond_false, f_size, Option.bind_some]
      have e : cellsP x0 x1 x2 x3 = bif sizeB x3 then ([], 2) else cellsI (min x1 x2 - (rOf x0).hang) (max x1 x2) x3 := by unfold cellsP; rw [er]; rfl
      rw [e, f_rrange h0]
      simp only [Option.bind_some]
      cases hz : sizeB x3 with
      | true => rfl
      | false =>
        have hd : 1 ≤ x3 ∧ x3 ≤ 1048576 := by simp [sizeB] at hz; omega
        obtain ⟨ht, ht1, ht2⟩ := top_ok ho hd.1
        rw [f_rcells ho hd.1]
        have k1 := ht.f0; have k2 := ht.f1; have k3 := ht.t0; have k4 := ht.t1
        have hlen := cells_len ht
        simp only [Option.bind_some, cond_false]
        by_cases hb : topI (min x1 x2 - (rOf x0).hang) (max x1 x2) / x3 - (min x1 x2 - (rOf x0).hang) / x3 ≥ 1000
        · have ec : cellsI (min x1 x2 - (rOf x0).hang) (max x1 x2) x3 = ([], 4) := by unfold cellsI; rw [decide_eq_true hb]; rfl
          rw [ec, wrap64 (by omega) (by omega), decide_eq_true hb]; rfl
        · have ec : cellsI (min x1 x2 - (rOf x0).hang) (max x1 x2) x3 = (upto ((min x1 x2 - (rOf x0).hang) / x3) (topI (min x1 x2 - (rOf x0).hang) (max x1 x2) / x3 - (min x1 x2 - (rOf x0).hang) / x3 + 1).toNat, 0) := by unfold cellsI; rw [decide_eq_false hb]; rfl
          have hlen := hlen hb
          rw [ec]
          generalize topI (min x1 x2 - (rOf x0).hang) (max x1 x2) / x3 = b at *
          generalize (min x1 x2 - (rOf x0).hang) / x3 = a at *
          rw [wrap64 (n := b - a) (by omega) (by omega), decide_eq_false hb]
          simp only [cond_false, e0]
          have hne : (((upto a (b - a + 1).toNat).length : Int) != IntKind.i64.wrap (b - a + 1)) = false := by rw [hlen, wrap64 (by omega) (by omega), bne_self_eq_false]
          rw [hne]
          simp only [cond_false, Option.bind_some]
          rw [iter_all (upto a (b - a + 1).toNat).length (by omega) (.inr ()) (fun k hk => by
            simp only [lt_yes hk, cond_true, idx_at hk, at_some hk, Option.bind_some, upto_at]
            rw [wrap64 (n := a + (k : Int)) (by omega) (by omega), wrap64 (by omega) (by omega)]
            simp only [bne_self_eq_false, cond_false]) (by simp only [lt_no, cond_false])]
          rfl
end Go.Proofs.Ytcahdnmkhoncaaa
