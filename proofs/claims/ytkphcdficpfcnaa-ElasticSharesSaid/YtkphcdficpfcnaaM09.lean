/- Joined by merge.py: PlE7, PlE8, PlE9, PlE10, PlE11, PlE12, PlE13, PlRev, PlE14. -/
import Derived.Test.YtkphcdficpfcnaaM08
/- Share, Stretch, Energy: the program and the reference; ElasticShares. -/
namespace Go.Proofs.Ytkphcdficpfcnaa
set_option linter.unusedVariables false
set_option linter.unusedSimpArgs false

theorem mk_div (n : Int) {d : Int} (hd : 0 < d) : mkRat n d.toNat = (n : Rat) / (d : Rat) := by
  rw [Rat.mkRat_eq_div]
  congr 1
  rw [← Rat.intCast_natCast]
  congr 1
  omega
theorem mk_div' (n : Int) {d : Int} (hd : 0 < d) : mkRat n d.natAbs = (n : Rat) / (d : Rat) := by
  rw [show d.natAbs = d.toNat from by omega, mk_div n hd]
def shareR (w : Int) (l : List TSpring) : Rat := (w : Rat) / (stiffI l : Rat)
def shareQ (w : Int) (l : List TSpring) : List Rat := l.map fun x => (x.stiff : Rat) * shareR w l
theorem zip_zero (l : List TSpring) : zipS l (List.replicate l.length 0) = l.map fun x => (x.stiff, (0 : Int)) := by
  apply List.ext_getElem
  · simp [zipS]
  · intro i h1 h2
    simp [zipS]
theorem sumL_cons {α : Type} (f : α → Int) (x : α) (l : List α) : sumTo f (x :: l) (x :: l).length = f x + sumTo f l l.length := by
  unfold sumTo
  simp
theorem pl_const (d : Rat) (g : Int) : ∀ l : List TSpring, plQ d (l.map fun x => (x.stiff, g)) = (stiffI l : Rat) * posQ (d - (g : Rat))
  | [] => by simp [plQ, stiffI, sumTo]
  | x :: l => by
    have h := pl_const d g l
    have e : stiffI (x :: l) = x.stiff + stiffI l := sumL_cons _ x l
    simp only [List.map_cons, plQ, h, e, Rat.intCast_add]
    grind
theorem K_pos {l : List TSpring} (h : Spr l) : 0 < stiffI l ∧ stiffI l ≤ 100000 := by
  have := stiff_bound h l.length (Nat.le_refl _)
  have := h.n1
  unfold stiffI
  omega
theorem share_e (w : Int) (l : List TSpring) : slackE w l (List.replicate l.length 0) = givenP w l := by
  unfold slackE
  rw [List.length_replicate]
  by_cases h : givenP w l ≠ 0
  · rw [if_pos h]
  · rw [if_neg h, if_neg (by simp), if_neg]
    · omega
    · rw [Bool.not_eq_true, List.any_eq_false]
      intro g hg
      rw [List.mem_replicate] at hg
      rw [hg.2]
      decide
theorem mul_cancel_pos {a b c : Rat} (hc : 0 < c) (h : c * a = b) : a = b / c := by
  have e : b / c * c = b := Rat.div_mul_cancel (by grind)
  have h3 : c * a = c * (b / c) := by grind
  have h4 : c⁻¹ * (c * a) = c⁻¹ * (c * (b / c)) := by rw [h3]
  have h5 : c * c⁻¹ = 1 := Rat.mul_inv_cancel _ (by grind)
  grind
theorem f_share {w : Int} {l : List TSpring} (hl : l.length ≤ 14) (hn : ∀ x ∈ l, x.name.size ≤ 60) : F_elastic_Share w l = some (if givenP w l = 0 then ((shareQ w l).map fracQ, 0) else ([], givenP w l)) ∧ (givenP w l = 0 → ∀ q ∈ shareQ w l, fitQ q) := by
  unfold F_elastic_Share
  rw [if_pos (by omega), Int.toNat_natCast]
  by_cases h : givenP w l = 0
  · rw [if_pos h]
    obtain ⟨d, hp, e⟩ := f_slack (w := w) (l := l) (gaps := List.replicate l.length 0) (by omega) (fun x hx => by have := hn x hx; omega) (by rw [share_e, h])
    rw [zip_zero] at hp e
    have hs := (given_ok h).1
    have hK := K_pos hs
    have heq := hp.eq
    rw [pl_const] at heq
    have hd : posQ (d - ((0 : Int) : Rat)) = shareR w l := mul_cancel_pos (cast_pos hK.1) heq
    rw [e]
    simp only [Option.bind_some, List.map_map, shareQ, Function.comp_def, hd]
    refine ⟨trivial, fun _ q hq => ?_⟩
    obtain ⟨x, hx, rfl⟩ := List.mem_map.1 hq
    have := hp.fit (x.stiff, 0) (List.mem_map.2 ⟨x, hx, rfl⟩)
    dsimp only at this
    rw [hd] at this
    exact this
  · rw [if_neg h, f_slack_err (by omega) (fun x hx => by have := hn x hx; omega) (by simp; omega) (by rw [share_e]; exact h), share_e]
    exact ⟨rfl, fun h' => absurd h' h⟩
theorem fit_div {n d : Int} (hn : n.natAbs ≤ 1152921504606846976) (hd : 0 < d) (hd2 : d ≤ 1152921504606846976) : fitQ ((n : Rat) / (d : Rat)) := by
  rw [← mk_div n hd]
  exact fit_mk hn (by omega) (by omega)
theorem f_stretch {w : Int} {l : List TSpring} (hl : l.length ≤ 14) (hn : ∀ x ∈ l, x.name.size ≤ 60) : F_elastic_Stretch w l = some (if givenP w l = 0 then (fracQ (shareR w l), 0) else (⟨0, 0⟩, givenP w l)) ∧ (givenP w l = 0 → fitQ (shareR w l)) := by
  unfold F_elastic_Stretch
  rw [f_egiven w l (by omega) (fun x hx => by have := hn x hx; omega)]
  simp only [Option.bind_some]
  by_cases h : givenP w l = 0
  · obtain ⟨hs, _, w0, w1⟩ := given_ok h
    have hK := K_pos hs
    have hf : fitQ (shareR w l) := fit_div (by omega) hK.1 (by omega)
    rw [if_pos h, h]
    simp only [bne_self_eq_false, cond_false]
    rw [f_estiff hs]
    simp only [Option.bind_some]
    rw [f_rmake (by omega) (by omega) (by omega) (by omega), if_neg (by omega), if_neg (by omega), mk_div' w hK.1]
    show (some ((outQ (shareR w l)).1, (outQ (shareR w l)).2) : Option (TFrac × Int)) = _ ∧ _
    rw [out_fit hf]
    exact ⟨rfl, fun _ => hf⟩
  · rw [if_neg h, show (givenP w l != 0) = true from by simp [h], cond_true]
    exact ⟨rfl, fun h' => absurd h' h⟩
def energyR (w : Int) (l : List TSpring) : Rat := ((w * w : Int) : Rat) / ((2 * stiffI l : Int) : Rat)
theorem sq_bd {w : Int} (h0 : 0 ≤ w) (h1 : w ≤ 67108864) : 0 ≤ w * w ∧ w * w ≤ 4503599627370496 := ⟨Int.mul_nonneg h0 h0, Int.le_trans (Int.mul_le_mul h1 h1 h0 (by omega)) (by decide)⟩
theorem f_energy {w : Int} {l : List TSpring} (hl : l.length ≤ 14) (hn : ∀ x ∈ l, x.name.size ≤ 60) : F_elastic_Energy w l = some (if givenP w l = 0 then (fracQ (energyR w l), 0) else (⟨0, 0⟩, givenP w l)) ∧ (givenP w l = 0 → fitQ (energyR w l)) := by
  unfold F_elastic_Energy
  rw [f_egiven w l (by omega) (fun x hx => by have := hn x hx; omega)]
  simp only [Option.bind_some]
  by_cases h : givenP w l = 0
  · obtain ⟨hs, _, w0, w1⟩ := given_ok h
    have hK := K_pos hs
    have hsq := sq_bd w0 w1
    have hf : fitQ (energyR w l) := fit_div (by omega) (by omega) (by omega)
    rw [if_pos h, h]
    simp only [bne_self_eq_false, cond_false]
    rw [f_estiff hs]
    simp only [Option.bind_some]
    rw [wrap64 (n := w * w) (by omega) (by omega), wrap64 (n := 2 * stiffI l) (by omega) (by omega), f_rmake (by omega) (by omega) (by omega) (by omega), if_neg (by omega), if_neg (by omega), mk_div' _ (by omega)]
    show (some ((outQ (energyR w l)).1, (outQ (energyR w l)).2) : Option (TFrac × Int)) = _ ∧ _
    rw [out_fit hf]
    exact ⟨rfl, fun _ => hf⟩
  · rw [if_neg h, show (givenP w l != 0) = true from by simp [h], cond_true]
    exact ⟨rfl, fun h' => absurd h' h⟩
theorem r_stretch {w : Int} {l : List TSpring} (h : givenP w l = 0) : F_ref17_Stretch w l = some (fracQ (shareR w l)) := by
  obtain ⟨hs, _, w0, w1⟩ := given_ok h
  have hK := K_pos hs
  unfold F_ref17_Stretch
  rw [f_rall hs]
  simp only [Option.bind_some]
  rw [g_make (by omega) (by omega) (by omega) (by omega), if_neg (by omega), if_neg (by omega), mk_div' w hK.1]
  show (some (outQ (shareR w l)).1 : Option TFrac) = _
  rw [out_fit (show fitQ (shareR w l) from fit_div (by omega) hK.1 (by omega))]
theorem r_energy {w : Int} {l : List TSpring} (h : givenP w l = 0) : F_ref17_Energy w l = some (fracQ (energyR w l)) := by
  obtain ⟨hs, _, w0, w1⟩ := given_ok h
  have hK := K_pos hs
  have hsq := sq_bd w0 w1
  unfold F_ref17_Energy
  rw [f_rall hs]
  simp only [Option.bind_some]
  rw [wrap64 (n := w * w) (by omega) (by omega), wrap64 (n := 2 * stiffI l) (by omega) (by omega), g_make (by omega) (by omega) (by omega) (by omega), if_neg (by omega), if_neg (by omega), mk_div' _ (by omega)]
  show (some (outQ (energyR w l)).1 : Option TFrac) = _
  rw [out_fit (show fitQ (energyR w l) from fit_div (by omega) (by omega) (by omega))]
theorem div_assoc' (a b c : Rat) : a * b / c = a * (b / c) := by rw [Rat.div_def, Rat.div_def, Rat.mul_assoc]
theorem r_share {w : Int} {l : List TSpring} (h : givenP w l = 0) (hl : l.length ≤ 14) (hfit : ∀ q ∈ shareQ w l, fitQ q) : F_ref17_Share w l = some ((shareQ w l).map fracQ) := by
  obtain ⟨hs, _, w0, w1⟩ := given_ok h
  have hK := K_pos hs
  unfold F_ref17_Share
  refine bind_eq' (iter_ka l (by omega) (fun (t : List TFrac) (x : TSpring) => .inl (t ++ [fracQ ((x.stiff : Rat) * shareR w l)])) (fun t => (t, ())) (fun k t => t.length = k) [] rfl ?kin ?kout) ?_
  rotate_left 2
  · rw [runL_map (fun x : TSpring => fracQ ((x.stiff : Rat) * shareR w l))]
    simp [shareQ]
  · intro k hk t ht
    refine ⟨?_, fun t' ht' => by cases ht'; simp [ht]⟩
    dsimp only
    have hx := List.getElem_mem hk
    have k1 := hs.k1 _ hx
    have k2 := hs.k2 _ hx
    have hwk : 0 ≤ w * l[k].stiff ∧ w * l[k].stiff ≤ 671088640000 := ⟨Int.mul_nonneg w0 (by omega), Int.le_trans (Int.mul_le_mul w1 k2 (by omega) (by omega)) (by decide)⟩
    rw [lt_yes hk, idx_at hk, f_rall hs]
    simp only [cond_true, Option.bind_some]
    rw [wrap64 (n := w * l[k].stiff) (by omega) (by omega), g_make (by omega) (by omega) (by omega) (by omega), if_neg (by omega), if_neg (by omega), mk_div' _ hK.1]
    rw [Rat.intCast_mul, Rat.mul_comm, div_assoc']
    have hf := hfit ((l[k].stiff : Rat) * shareR w l) (List.mem_map.2 ⟨_, hx, rfl⟩)
    rw [show outQ ((l[k].stiff : Rat) * ((w : Rat) / (stiffI l : Rat))) = (fracQ ((l[k].stiff : Rat) * shareR w l), 0) from out_fit hf]
    simp only [Option.bind_some]
    rw [if_pos (by simp; omega), wrap64 (by omega) (by omega)]
  · intro t _
    dsimp only
    rw [lt_no, cond_false]
theorem main_ElasticShares (x0 : Int) (x1 : List TSpring) (w0 : W_int1 x0) (w1 : W_l_Spring x1) : F_law17_ElasticShares x0 x1 = some true := by
  unfold F_law17_ElasticShares
  rw [awake17, f_large]
  simp only [Option.bind_some, Bool.not_true, cond_false]
  cases hL : largeB x1 with
  | true => rfl
  | false =>
    obtain ⟨hl, hn⟩ := large_ok hL
    obtain ⟨e1, f1⟩ := f_share (w := x0) hl hn
    obtain ⟨e2, f2⟩ := f_stretch (w := x0) hl hn
    obtain ⟨e3, f3⟩ := f_energy (w := x0) hl hn
    by_cases h : givenP x0 x1 = 0
    · rw [if_pos h] at e1 e2 e3
      rw [e1, e2, e3, f_rgiven x0 x1 (by omega) (fun x hx => by have := hn x hx; omega), h]
      simp only [Option.bind_some, cond_false, bne_self_eq_false, beq_self_eq_true, cond_true]
      rw [r_share h hl (f1 h), r_stretch h, r_energy h]
      simp only [Option.bind_some]
      rw [(f_eqF _ _ (by simp [shareQ]; omega)).2 rfl]
      simp
    · rw [if_neg h] at e1 e2 e3
      rw [e1, e2, e3, f_rgiven x0 x1 (by omega) (fun x hx => by have := hn x hx; omega)]
      simp only [Option.bind_some, cond_false]
      rw [show (givenP x0 x1 != 0) = true from by simp [h]]
      simp
end Go.Proofs.Ytkphcdficpfcnaa

/- Series; the reference's Slack; ElasticSlack. -/
namespace Go.Proofs.Ytkphcdficpfcnaa
set_option linter.unusedVariables false
set_option linter.unusedSimpArgs false

theorem rv_unit {k : Int} (h1 : 1 ≤ k) (h2 : k ≤ 10000) : RV ⟨1, k⟩ ∧ qOf ⟨1, k⟩ = 1 / (k : Rat) := by
  refine ⟨⟨by dsimp only; omega, by dsimp only; omega, by dsimp only; omega, by dsimp only; omega, by simp⟩, ?_⟩
  unfold qOf
  dsimp only
  rw [mk_div 1 (by omega)]
  rfl
theorem rv_zero : RV ⟨0, 1⟩ ∧ qOf ⟨0, 1⟩ = 0 := by
  have := rv_int (n := 0) (by decide)
  exact ⟨this.1, by rw [this.2]; rfl⟩
theorem frac_zero : fracQ 0 = ⟨0, 1⟩ := rfl
theorem add_fit {a b : Rat} (ha : fitQ a) (hb : fitQ b) : F_ratio_Add (fracQ a) (fracQ b) = some (outQ (a + b)) := by
  rw [f_radd (rv_frac ha).1 (rv_frac hb).1, (rv_frac ha).2, (rv_frac hb).2]
theorem fit_unit {k : Int} (h1 : 1 ≤ k) (h2 : k ≤ 10000) : fitQ (1 / (k : Rat)) ∧ fracQ (1 / (k : Rat)) = ⟨1, k⟩ := by
  obtain ⟨h, e⟩ := rv_unit h1 h2
  rw [← e]
  exact ⟨fit_of h, frac_of h⟩
/-- The sum of the yields, as long as it fits. -/
def serL : List TSpring → Rat → Option Rat
  | [], q => some q
  | x :: l, q => if fitQ (q + 1 / (x.stiff : Rat)) then serL l (q + 1 / (x.stiff : Rat)) else none
def serP (l : List TSpring) : TFrac × Int := match serL l 0 with
  | none => (⟨0, 0⟩, 5)
  | some q => outQ (1 / q)
theorem inv_pos' {k : Int} (h : 1 ≤ k) : (0 : Rat) < 1 / (k : Rat) := by
  have := cast_pos (show 0 < k by omega)
  rw [Rat.div_def, Rat.one_mul]
  exact Rat.inv_pos.2 this
theorem ser_ge : ∀ (l : List TSpring) (q r : Rat), (∀ x ∈ l, 1 ≤ x.stiff) → serL l q = some r → q ≤ r ∧ (l ≠ [] → q < r)
  | [], q, r, _, h => by cases h; exact ⟨Rat.le_refl, fun h => absurd rfl h⟩
  | x :: l, q, r, hk, h => by
    unfold serL at h
    split at h
    · have h1 := inv_pos' (hk x List.mem_cons_self)
      have h2 := (ser_ge l _ r (fun y hy => hk y (List.mem_cons_of_mem _ hy)) h).1
      exact ⟨by grind, fun _ => by grind⟩
    · cases h
theorem ser_fit : ∀ (l : List TSpring) (q r : Rat), fitQ q → serL l q = some r → fitQ r
  | [], q, r, hq, h => by cases h; exact hq
  | x :: l, q, r, hq, h => by
    unfold serL at h
    split at h
    · rename_i hf; exact ser_fit l _ r hf h
    · cases h
theorem fit_zero : fitQ 0 := by decide
theorem fit_one : fitQ 1 := by decide
theorem frac_one : fracQ 1 = ⟨1, 1⟩ := rfl
theorem frac_num_pos {q : Rat} (h : 0 < q) : 0 < (fracQ q).num := by
  show 0 < q.num
  rw [Rat.lt_iff] at h
  simpa using h
theorem f_series {l : List TSpring} (hl : l.length ≤ 14) (hn : ∀ x ∈ l, x.name.size ≤ 60) : F_elastic_Series l = some (if springsB l = true then serP l else (⟨0, 0⟩, 1)) := by
  unfold F_elastic_Series
  rw [f_evalid l (by omega) (fun x hx => by have := hn x hx; omega)]
  simp only [Option.bind_some]
  cases hv : springsB l with
  | false => simp
  | true =>
    have hs := Spr.of hv
    simp only [Bool.not_true, cond_false, if_true]
    refine bind_eq' (iter_run (τ := Rat) (fun q k => (k, TFrac.mk 0 0, fracQ q, ())) l (by omega) (fun q x => if fitQ (q + 1 / (x.stiff : Rat)) then .inl (q + 1 / (x.stiff : Rat)) else .inr (.inl (5, ⟨0, 0⟩, ⟨0, 0⟩, ()))) (fun q => .inr (⟨0, 0⟩, fracQ q, ())) (fun _ q => fitQ q) ?kin ?kout 0 fit_zero) ?_
    rotate_left 2
    · have hrun : ∀ (l : List TSpring) (q : Rat), runL (ρ := (Int × TFrac × TFrac × Unit) ⊕ (TFrac × TFrac × Unit)) (fun (q : Rat) (x : TSpring) => if fitQ (q + 1 / (x.stiff : Rat)) then .inl (q + 1 / (x.stiff : Rat)) else .inr (.inl (5, ⟨0, 0⟩, ⟨0, 0⟩, ()))) (fun q => .inr (⟨0, 0⟩, fracQ q, ())) l q = match serL l q with | none => .inl (5, ⟨0, 0⟩, ⟨0, 0⟩, ()) | some r => .inr (⟨0, 0⟩, fracQ r, ()) := by
        intro l
        induction l with
        | nil => intro q; rfl
        | cons x l ih =>
          intro q
          unfold serL
          simp only [runL]
          by_cases hf : fitQ (q + 1 / (x.stiff : Rat))
          · rw [if_pos hf, if_pos hf]; exact ih _
          · rw [if_neg hf, if_neg hf]
      rw [hrun]
      unfold serP
      cases hr : serL l 0 with
      | none => rfl
      | some r =>
        have hr1 := ser_fit l 0 r fit_zero hr
        have hr2 := (ser_ge l 0 r hs.k1 hr).2 (by intro h; have := hs.n1; rw [h] at this; simp at this)
        dsimp only
        rw [← frac_one, f_rdiv (rv_frac fit_one).1 (rv_frac hr1).1, (rv_frac fit_one).2, (rv_frac hr1).2, if_neg (by have := frac_num_pos hr2; omega)]
        rfl
    · intro k hk q hq
      have hx := List.getElem_mem hk
      obtain ⟨f1, e1⟩ := fit_unit (hs.k1 _ hx) (hs.k2 _ hx)
      refine ⟨?_, fun t' ht' => by split at ht' <;> cases ht'; assumption⟩
      dsimp only
      rw [lt_yes hk, idx_at hk]
      simp only [cond_true, Option.bind_some]
      rw [← e1, add_fit hq f1]
      simp only [Option.bind_some]
      by_cases hf : fitQ (q + 1 / (l[k].stiff : Rat))
      · rw [out_fit hf, if_pos hf]
        simp only [bne_self_eq_false, cond_false]
        rw [wrap64 (by omega) (by omega)]
      · rw [out_big hf, if_neg hf]
        rfl
    · intro q _
      dsimp only
      rw [lt_no, cond_false]
theorem r_series {l : List TSpring} (hl : l.length ≤ 14) (hv : springsB l = true) : ∃ r, F_ref17_Series l = some r ∧ r = serP l := by
  have hs := Spr.of hv
  unfold F_ref17_Series F_ref02_Of
  simp only [Option.bind_some]
  refine ⟨_, ?_, rfl⟩
  rw [← frac_zero]
  obtain ⟨R, hR, hQ⟩ := iter_run_inv (F := (fun s11 : Int × TFrac × TFrac × Unit => (bif (decide (s11.1 < ((l.length : Nat) : Int))) then (idx l s11.1).bind fun x12 => (F_ref02_Make 1 x12.stiff).bind fun r13 => (F_ref02_Add s11.2.2.1 r13.1).bind fun r14 => (bif (r14.2 != 0) then some (.inr (.inl (r14.2, (TFrac.mk 0 0), s11.2.2.1, ()))) else some (.inl ((IntKind.i64.wrap (s11.1 + 1)), s11.2.1, r14.1, ()))) else some (.inr (.inr ((s11.2.1, s11.2.2.1, ())))))))
    (Q := fun R : (Int × TFrac × TFrac × Unit) ⊕ (TFrac × TFrac × Unit) => match serL l 0 with | none => ∃ z, R = .inl (5, ⟨0, 0⟩, z, ()) | some r => R = .inr (⟨0, 0⟩, fracQ r, ()))
    (fun k s => k ≤ l.length ∧ ∃ q, s = ((k : Int), ⟨0, 0⟩, fracQ q, ()) ∧ fitQ q ∧ serL l 0 = serL (l.drop k) q) l.length (by unfold big; omega) (by
    rintro k s ⟨hk, q, rfl, hq, he⟩
    dsimp only
    by_cases hlt : k < l.length
    · have hx := List.getElem_mem hlt
      obtain ⟨f1, e1⟩ := fit_unit (hs.k1 _ hx) (hs.k2 _ hx)
      have k1 := hs.k1 _ hx
      have k2 := hs.k2 _ hx
      rw [lt_yes hlt, idx_at hlt]
      simp only [cond_true, Option.bind_some]
      rw [g_make (by omega) (by omega) (by omega) (by omega), if_neg (by omega), if_neg (by omega), mk_div' 1 (by omega)]
      simp only [Option.bind_some]
      rw [show (((1 : Int) : Rat) / (l[k].stiff : Rat)) = 1 / (l[k].stiff : Rat) from rfl, out_fit f1]
      dsimp only
      rw [g_add (rv_frac hq).1 (rv_frac f1).1, (rv_frac hq).2, (rv_frac f1).2]
      simp only [Option.bind_some]
      rw [List.drop_eq_getElem_cons hlt, show serL (l[k] :: l.drop (k + 1)) q = if fitQ (q + 1 / (l[k].stiff : Rat)) then serL (l.drop (k + 1)) (q + 1 / (l[k].stiff : Rat)) else none from rfl] at he
      by_cases hf : fitQ (q + 1 / (l[k].stiff : Rat))
      · rw [if_pos hf] at he
        rw [out_fit hf]
        simp only [bne_self_eq_false, cond_false]
        rw [wrap64 (by omega) (by omega)]
        exact .inl ⟨_, rfl, hlt, hlt, _, rfl, hf, he⟩
      · rw [if_neg hf] at he
        rw [out_big hf]
        refine .inr ⟨_, rfl, ?_⟩
        rw [he]
        exact ⟨_, rfl⟩
    · obtain rfl : k = l.length := by omega
      rw [lt_no, cond_false]
      refine .inr ⟨_, rfl, ?_⟩
      rw [List.drop_length] at he
      rw [he]
      rfl) (s := (0, ⟨0, 0⟩, fracQ 0, ())) ⟨by omega, 0, rfl, fit_zero, rfl⟩
  rw [hR]
  simp only [Option.bind_some]
  unfold serP
  cases hr : serL l 0 with
  | none =>
    rw [hr] at hQ
    obtain ⟨z, rfl⟩ := hQ
    rfl
  | some r =>
    rw [hr] at hQ
    dsimp only at hQ
    subst hQ
    have hr1 := ser_fit l 0 r fit_zero hr
    have hr2 := (ser_ge l 0 r hs.k1 hr).2 (by intro h; have := hs.n1; rw [h] at this; simp at this)
    dsimp only
    rw [← frac_one, g_over (rv_frac fit_one).1 (rv_frac hr1).1, (rv_frac fit_one).2, (rv_frac hr1).2, if_neg (by have := frac_num_pos hr2; omega)]
    rfl
end Go.Proofs.Ytkphcdficpfcnaa

/- The reference's Slack; ElasticSlack. -/
namespace Go.Proofs.Ytkphcdficpfcnaa
set_option linter.unusedVariables false
set_option linter.unusedSimpArgs false

def psK (l : List TSpring) (gaps : List Int) (k : Nat) : List (Int × Int) := (intsN k).map fun z => (stG l z, keyG gaps z)
theorem psK_succ (l : List TSpring) (gaps : List Int) (k : Nat) : psK l gaps (k + 1) = psK l gaps k ++ [(stG l (k : Int), keyG gaps (k : Int))] := by
  simp [psK, intsN, List.range_succ]
def plI (d : Int) : List (Int × Int) → Int
  | [] => 0
  | p :: ps => (if d > p.2 then p.1 * (d - p.2) else 0) + plI d ps
theorem plI_append (d : Int) (ps qs : List (Int × Int)) : plI d (ps ++ qs) = plI d ps + plI d qs := by
  induction ps with
  | nil => simp [plI]
  | cons p ps ih => simp only [List.cons_append, plI, ih]; omega
theorem plI_cast (d : Int) : ∀ ps : List (Int × Int), plQ (d : Rat) ps = (plI d ps : Rat)
  | [] => rfl
  | p :: ps => by
    simp only [plQ, plI, plI_cast d ps, Rat.intCast_add]
    congr 1
    by_cases h : d > p.2
    · have : (p.2 : Rat) < (d : Rat) := Rat.intCast_lt_intCast.2 h
      rw [if_pos h, pos_ge (by grind), Rat.intCast_mul, Rat.intCast_sub]
    · have : (d : Rat) ≤ (p.2 : Rat) := Rat.intCast_le_intCast.2 (by omega)
      rw [if_neg h, pos_le (by grind)]
      simp
theorem plI_bd {d : Int} (hd : d ≤ 1048576) : ∀ {ps : List (Int × Int)}, (∀ p ∈ ps, 1 ≤ p.1 ∧ p.1 ≤ 10000 ∧ 0 ≤ p.2 ∧ p.2 ≤ 1048576) → 0 ≤ plI d ps ∧ plI d ps ≤ ps.length * 10485760000
  | [], _ => by simp [plI]
  | p :: ps, h => by
    have h1 := plI_bd hd fun q hq => h q (List.mem_cons_of_mem _ hq)
    obtain ⟨a, b, c, e⟩ := h p List.mem_cons_self
    simp only [plI, List.length_cons]
    split
    · have e1 : p.1 * (d - p.2) ≤ 10000 * 1048576 := Int.mul_le_mul b (by omega) (by omega) (by omega)
      have e2 : 0 ≤ p.1 * (d - p.2) := Int.mul_nonneg (by omega) (by omega)
      omega
    · omega
structure Pts (l : List TSpring) (gaps : List Int) : Prop where
  n : gaps.length = l.length
  n10 : l.length ≤ 10
  k : ∀ p ∈ zipS l gaps, 1 ≤ p.1 ∧ p.1 ≤ 10000 ∧ 0 ≤ p.2 ∧ p.2 ≤ 1048576
theorem psK_all {l : List TSpring} {gaps : List Int} (h : Pts l gaps) : psK l gaps l.length = zipS l gaps := (zip_key l gaps h.n).symm
theorem psK_mem {l : List TSpring} {gaps : List Int} (h : Pts l gaps) {k : Nat} (hk : k ≤ l.length) : ∀ p ∈ psK l gaps k, p ∈ zipS l gaps := by
  intro p hp
  rw [← psK_all h]
  unfold psK intsN at *
  obtain ⟨z, hz, rfl⟩ := List.mem_map.1 hp
  obtain ⟨m, hm, rfl⟩ := List.mem_map.1 hz
  exact List.mem_map.2 ⟨(m : Int), List.mem_map.2 ⟨m, List.mem_range.2 (by have := List.mem_range.1 hm; omega), rfl⟩, rfl⟩
theorem psK_at {l : List TSpring} {gaps : List Int} (h : Pts l gaps) {k : Nat} (hk : k < l.length) : idx gaps (k : Int) = some (keyG gaps k) ∧ ∃ x, idx l (k : Int) = some x ∧ x.stiff = stG l k ∧ (stG l (k : Int), keyG gaps (k : Int)) ∈ zipS l gaps := by
  have hv : validG gaps (k : Int) := ⟨k, rfl, by have := h.n; omega⟩
  obtain ⟨x, e1, _, e2⟩ := valid_st h.n hv
  refine ⟨idx_key hv, x, e1, e2, psK_mem h (k := k + 1) hk _ ?_⟩
  rw [psK_succ]
  simp
theorem psK_bd {l : List TSpring} {gaps : List Int} (h : Pts l gaps) {d : Int} (hd : d ≤ 1048576) {k : Nat} (hk : k ≤ l.length) : 0 ≤ plI d (psK l gaps k) ∧ plI d (psK l gaps k) ≤ 104857600000 := by
  have := plI_bd hd fun p hp => h.k p (psK_mem h hk p hp)
  have h2 : (psK l gaps k).length = k := by simp [psK, intsN]
  rw [h2] at this
  have := h.n10
  omega
theorem r_pull {l : List TSpring} {gaps : List Int} (h : Pts l gaps) {d : Int} (hd0 : 0 ≤ d) (hd : d ≤ 1048576) : F_ref17_pull l gaps d = some (plI d (zipS l gaps)) := by
  unfold F_ref17_pull
  have hn := h.n10
  refine bind_eq' (x := (plI d (zipS l gaps), ())) ?_ rfl
  obtain ⟨r, e, rfl⟩ := iter_run_inv (F := (fun s8 : Int × Int × Unit => (bif (decide (s8.2.1 < ((l.length : Nat) : Int))) then ((idx gaps s8.2.1).bind fun x9 => (bif (decide (d > x9)) then (idx l s8.2.1).bind fun x10 => (idx gaps s8.2.1).bind fun x11 => some ((IntKind.i64.wrap (s8.1 + (IntKind.i64.wrap (x10.stiff * (IntKind.i64.wrap (d - x11)))))), ()) else some (s8.1, ())) : Option (Int × Unit)).bind fun y12 => some (.inl (y12.1, (IntKind.i64.wrap (s8.2.1 + 1)), ())) else some (.inr (s8.1, ())))))
    (Q := fun r : Int × Unit => r = (plI d (zipS l gaps), ())) (fun k s => k ≤ l.length ∧ s = (plI d (psK l gaps k), (k : Int), ())) l.length (by unfold big; omega) (by
    rintro k s ⟨hk, rfl⟩
    dsimp only
    by_cases hlt : k < l.length
    · obtain ⟨e1, x, e2, e3, e4⟩ := psK_at h hlt
      have b0 := psK_bd h hd hk
      have b1 := psK_bd h hd hlt
      obtain ⟨c1, c2, c3, c4⟩ := h.k _ e4
      dsimp only at c1 c2 c3 c4
      rw [lt_yes hlt, e1, e2]
      simp only [cond_true, Option.bind_some]
      rw [psK_succ, plI_append] at b1
      simp only [plI] at b1
      by_cases hc : d > keyG gaps (k : Int)
      · rw [decide_eq_true hc]
        rw [if_pos hc] at b1
        simp only [cond_true, Option.bind_some, e3]
        refine .inl ⟨_, rfl, hlt, hlt, ?_⟩
        have hm : 0 ≤ stG l (k : Int) * (d - keyG gaps (k : Int)) := Int.mul_nonneg (by omega) (by omega)
        rw [wrap64 (n := d - keyG gaps (k : Int)) (by omega) (by omega), wrap64 (n := stG l (k : Int) * (d - keyG gaps (k : Int))) (by omega) (by omega), wrap64 (n := plI d (psK l gaps k) + stG l (k : Int) * (d - keyG gaps (k : Int))) (by omega) (by omega), wrap64 (by omega) (by omega), psK_succ, plI_append]
        simp only [plI, if_pos hc]
        rw [Int.add_zero]
        rfl
      · rw [decide_eq_false hc]
        simp only [cond_false, Option.bind_some]
        refine .inl ⟨_, rfl, hlt, hlt, ?_⟩
        rw [wrap64 (by omega) (by omega), psK_succ, plI_append]
        simp only [plI, if_neg hc]
        rw [Int.add_zero, Int.add_zero]
        rfl
    · obtain rfl : k = l.length := by omega
      rw [lt_no, cond_false]
      exact .inr ⟨_, rfl, by rw [psK_all h]⟩) (s := (0, 0, ())) ⟨by omega, rfl⟩
  exact e
/-- The plain law: the greatest gap at which the springs do not pull more than the weight tells which of them bear. -/
theorem bear_law {w : Int} {ps : List (Int × Int)} {d : Rat} (hw : 0 < w) (hk : ∀ p ∈ ps, 1 ≤ p.1 ∧ p.1 ≤ 10000 ∧ 0 ≤ p.2 ∧ p.2 ≤ 1048576) (hd : plQ d ps = (w : Rat)) (g : Int) : plI g ps ≤ w ↔ (g : Rat) ≤ d := by
  have hk0 : ∀ p ∈ ps, 0 ≤ p.1 := fun p hp => by have := (hk p hp).1; omega
  constructor
  · intro h
    refine Classical.byContradiction fun hn => ?_
    have hlt := Rat.not_le.1 hn
    have h1 := pl_mono hk0 (Rat.le_of_lt hlt)
    rw [hd, plI_cast] at h1
    have h2 : (plI g ps : Rat) ≤ (w : Rat) := Rat.intCast_le_intCast.2 h
    have heq : plQ (g : Rat) ps ≤ plQ d ps := by rw [hd, plI_cast]; exact h2
    have hsame := pl_same hk0 (Rat.le_of_lt hlt) heq
    have hz : plQ d ps = 0 := by
      have key : ∀ p ∈ ps, (p.1 : Rat) * posQ (d - p.2) = 0 := by
        intro p hp
        have h3 := hsame p hp
        have hkp := cast_pos (show 0 < p.1 by have := (hk p hp).1; omega)
        by_cases hc : (0 : Rat) ≤ d - p.2
        · have h4 : posQ (d - p.2) = posQ (g - p.2) := by
            have := Rat.mul_inv_cancel (p.1 : Rat) (by grind)
            have h5 : (p.1 : Rat)⁻¹ * ((p.1 : Rat) * posQ (d - p.2)) = (p.1 : Rat)⁻¹ * ((p.1 : Rat) * posQ (g - p.2)) := by rw [h3]
            grind
          rw [pos_ge hc, pos_ge (by grind)] at h4
          grind
        · rw [pos_le (by grind)]
          grind
      clear hsame heq h1 hd h2
      induction ps with
      | nil => rfl
      | cons p ps ih =>
        simp only [plQ]
        rw [key p List.mem_cons_self, ih (fun q hq => hk q (List.mem_cons_of_mem _ hq)) (fun q hq => hk0 q (List.mem_cons_of_mem _ hq)) (by
          simp only [plI] at h
          have : 0 ≤ (if g > p.2 then p.1 * (g - p.2) else 0) := by
            split
            · exact Int.mul_nonneg (hk0 p List.mem_cons_self) (by omega)
            · exact Int.le_refl _
          omega) (fun q hq => key q (List.mem_cons_of_mem _ hq))]
        grind
    rw [hz] at hd
    have := cast_pos hw
    grind
  · intro h
    have h1 := pl_mono hk0 h
    rw [hd, plI_cast] at h1
    exact Rat.intCast_le_intCast.1 h1
def selK (ps : List (Int × Int)) (at_ : Int) : List (Int × Int) := ps.filter fun p => decide (p.2 ≤ at_)
/-- The depth out of those that bear. -/
theorem depth_law {w : Int} {ps : List (Int × Int)} {d : Rat} (hd : plQ d ps = (w : Rat)) (at_ : Int) (h1 : ∀ p ∈ ps, p.2 ≤ at_ → (p.2 : Rat) ≤ d) (h2 : ∀ p ∈ ps, at_ < p.2 → d ≤ (p.2 : Rat)) : d * (skI (selK ps at_) : Rat) = ((w + sgI (selK ps at_) : Int) : Rat) := by
  have hperm : (selK ps at_ ++ ps.filter fun p => !decide (p.2 ≤ at_)).Perm ps := List.filter_append_perm _ _
  rw [← pl_perm d hperm, pl_append, pl_ge (ps := selK ps at_), pl_le] at hd
  · rw [Rat.intCast_add]
    grind
  · intro p hp
    obtain ⟨hm, hc⟩ := List.mem_filter.1 hp
    exact h2 p hm (by simpa using hc)
  · intro p hp
    obtain ⟨hm, hc⟩ := List.mem_filter.1 hp
    exact h1 p hm (by simpa using hc)
end Go.Proofs.Ytkphcdficpfcnaa

/- The reference's Slack is the program's; ElasticSlack. -/
namespace Go.Proofs.Ytkphcdficpfcnaa
set_option linter.unusedVariables false
set_option linter.unusedSimpArgs false

theorem pl_zero {d : Rat} : ∀ {ps : List (Int × Int)}, (∀ p ∈ ps, 0 ≤ p.1) → plQ d ps ≤ 0 → ∀ p ∈ ps, (p.1 : Rat) * posQ (d - p.2) = 0
  | [], _, _, p, hp => by cases hp
  | q :: ps, hk, h, p, hp => by
    have h1 := pl_nonneg (fun q hq => hk q (List.mem_cons_of_mem _ hq)) d
    have h2 := Rat.mul_nonneg (cast_nonneg (hk q List.mem_cons_self)) (pos_nonneg (d - q.2))
    simp only [plQ] at h
    rcases List.mem_cons.1 hp with rfl | hp
    · grind
    · exact pl_zero (fun q hq => hk q (List.mem_cons_of_mem _ hq)) (by grind) p hp
theorem sel_succ (l : List TSpring) (gaps : List Int) (k : Nat) (a : Int) : selK (psK l gaps (k + 1)) a = selK (psK l gaps k) a ++ (if keyG gaps (k : Int) ≤ a then [(stG l (k : Int), keyG gaps (k : Int))] else []) := by
  unfold selK
  rw [psK_succ, List.filter_append]
  congr 1
  by_cases h : keyG gaps (k : Int) ≤ a
  · rw [if_pos h]; simp [h]
  · rw [if_neg h]; simp [h]
theorem sel_bd {l : List TSpring} {gaps : List Int} (h : Pts l gaps) (a : Int) {k : Nat} (hk : k ≤ l.length) : 0 ≤ sgI (selK (psK l gaps k) a) ∧ sgI (selK (psK l gaps k) a) ≤ 104857600000 ∧ 0 ≤ skI (selK (psK l gaps k) a) ∧ skI (selK (psK l gaps k) a) ≤ 100000 := by
  have h1 := sg_bd (qs := selK (psK l gaps k) a) fun p hp => h.k p (psK_mem h hk p (List.mem_filter.1 hp).1)
  have h2 : (selK (psK l gaps k) a).length ≤ k := by
    have h3 : (psK l gaps k).length = k := by simp [psK, intsN]
    have h4 : (selK (psK l gaps k) a).length ≤ (psK l gaps k).length := List.length_filter_le _ _
    omega
  have := h.n10
  omega
structure AtOk (w : Int) (l : List TSpring) (gaps : List Int) (k : Nat) (a : Int) : Prop where
  a0 : -1 ≤ a
  a1 : a ≤ 1048576
  is : a = -1 ∨ plI a (zipS l gaps) ≤ w
  most : ∀ j : Nat, j < k → plI (keyG gaps (j : Int)) (zipS l gaps) ≤ w → keyG gaps (j : Int) ≤ a
theorem r_slack {w : Int} {l : List TSpring} {gaps : List Int} {d : Rat} (h : Pts l gaps) (w0 : 0 ≤ w) (w1 : w ≤ 67108864) (hp : Pulls w (zipS l gaps) d) : F_ref17_Slack w l gaps = some ((zipS l gaps).map (fun p => fracQ ((p.1 : Rat) * posQ (d - p.2)))) := by
  have hn := h.n10
  unfold F_ref17_Slack
  refine bindT (T := fun o => o = some ((zipS l gaps).map (fun p => fracQ ((p.1 : Rat) * posQ (d - p.2))))) (Q := fun r => ∃ a, r = (a, ()) ∧ AtOk w l gaps l.length a) ?_ ?_
  · refine iter_run_inv (fun k s => k ≤ l.length ∧ ∃ a, s = (a, (k : Int), ()) ∧ AtOk w l gaps k a) l.length (by unfold big; omega) ?_ ⟨by omega, -1, rfl, ⟨by omega, by omega, .inl rfl, fun j hj => by omega⟩⟩
    rintro k s ⟨hk, a, rfl, ha⟩
    dsimp only
    rw [h.n]
    by_cases hlt : k < l.length
    · obtain ⟨e1, x, e2, e3, e4⟩ := psK_at h hlt
      obtain ⟨c1, c2, c3, c4⟩ := h.k _ e4
      dsimp only at c1 c2 c3 c4
      rw [lt_yes hlt, e1]
      simp only [cond_true, Option.bind_some]
      rw [r_pull h c3 c4]
      simp only [Option.bind_some]
      have hmost : ∀ a' : Int, a ≤ a' → (plI (keyG gaps (k : Int)) (zipS l gaps) ≤ w → keyG gaps (k : Int) ≤ a') → ∀ j : Nat, j < k + 1 → plI (keyG gaps (j : Int)) (zipS l gaps) ≤ w → keyG gaps (j : Int) ≤ a' := by
        intro a' haa hka j hj hpl
        rcases Nat.lt_or_ge j k with h1 | h1
        · have := ha.most j h1 hpl; omega
        · obtain rfl : j = k := by omega
          exact hka hpl
      by_cases hc : plI (keyG gaps (k : Int)) (zipS l gaps) ≤ w
      · rw [decide_eq_true hc]
        simp only [cond_true, Option.bind_some]
        by_cases hg : keyG gaps (k : Int) > a
        · rw [decide_eq_true hg]
          simp only [cond_true, Option.bind_some]
          exact .inl ⟨_, rfl, hlt, hlt, _, by rw [wrap64 (by omega) (by omega)]; rfl, ⟨by omega, c4, .inr hc, hmost _ (by omega) (fun _ => by omega)⟩⟩
        · rw [decide_eq_false hg]
          simp only [cond_false, Option.bind_some]
          exact .inl ⟨_, rfl, hlt, hlt, _, by rw [wrap64 (by omega) (by omega)]; rfl, ⟨ha.a0, ha.a1, ha.is, hmost _ (by omega) (fun _ => by omega)⟩⟩
      · rw [decide_eq_false hc]
        simp only [cond_false, Option.bind_some]
        exact .inl ⟨_, rfl, hlt, hlt, _, by rw [wrap64 (by omega) (by omega)]; rfl, ⟨ha.a0, ha.a1, ha.is, hmost _ (by omega) (fun h' => absurd h' hc)⟩⟩
    · obtain rfl : k = l.length := by omega
      rw [lt_no, cond_false]
      exact .inr ⟨_, rfl, a, rfl, ha⟩
  · rintro r ⟨a, rfl, ha⟩
    dsimp only
    refine bindT (T := fun o => o = some ((zipS l gaps).map (fun p => fracQ ((p.1 : Rat) * posQ (d - p.2))))) (Q := fun r => r = (skI (selK (zipS l gaps) a), w + sgI (selK (zipS l gaps) a), ())) ?_ ?_
    · refine iter_run_inv (fun k s => k ≤ l.length ∧ s = (skI (selK (psK l gaps k) a), w + sgI (selK (psK l gaps k) a), (k : Int), ())) l.length (by unfold big; omega) ?_ ⟨by omega, by simp [psK, intsN, selK, skI, sgI]⟩
      rintro k s ⟨hk, rfl⟩
      dsimp only
      by_cases hlt : k < l.length
      · obtain ⟨e1, x, e2, e3, e4⟩ := psK_at h hlt
        obtain ⟨c1, c2, c3, c4⟩ := h.k _ e4
        dsimp only at c1 c2 c3 c4
        have b0 := sel_bd h a hk
        have b1 := sel_bd h a hlt
        rw [lt_yes hlt, e1, e2]
        simp only [cond_true, Option.bind_some]
        rw [sel_succ, sk_append, sg_append] at b1
        by_cases hc : keyG gaps (k : Int) ≤ a
        · rw [decide_eq_true hc]
          simp only [if_pos hc, skI, sgI] at b1
          simp only [cond_true, Option.bind_some, e3]
          refine .inl ⟨_, rfl, hlt, hlt, ?_⟩
          have hm : 0 ≤ stG l (k : Int) * keyG gaps (k : Int) := Int.mul_nonneg (by omega) c3
          rw [wrap64 (n := stG l (k : Int) * keyG gaps (k : Int)) (by omega) (by omega), wrap64 (n := skI (selK (psK l gaps k) a) + stG l (k : Int)) (by omega) (by omega), wrap64 (n := w + sgI (selK (psK l gaps k) a) + stG l (k : Int) * keyG gaps (k : Int)) (by omega) (by omega), wrap64 (by omega) (by omega), sel_succ, sk_append, sg_append]
          simp only [if_pos hc, skI, sgI, Int.add_zero, Int.add_assoc]
          rfl
        · rw [decide_eq_false hc]
          simp only [cond_false, Option.bind_some]
          refine .inl ⟨_, rfl, hlt, hlt, ?_⟩
          rw [wrap64 (by omega) (by omega), sel_succ, if_neg hc, List.append_nil]
          rfl
      · obtain rfl : k = l.length := by omega
        rw [lt_no, cond_false]
        exact .inr ⟨_, rfl, by rw [psK_all h]⟩
    · rintro r rfl
      dsimp only
      have hb := sel_bd h a (k := l.length) (Nat.le_refl _)
      rw [psK_all h] at hb
      refine bind_eq' (iter_ka (ρ := List TFrac × Unit) l (by omega) (fun (t : List TFrac) (_ : TSpring) => .inl (t ++ [fracQ ((stG l (t.length : Int) : Rat) * posQ (d - (keyG gaps (t.length : Int) : Rat)))])) (fun t => (t, ())) (fun k t => t.length = k) [] rfl ?kin ?kout) ?_
      rotate_left 2
      · have hrun : ∀ (l' : List TSpring) (t : List TFrac), runL (ρ := List TFrac × Unit) (fun (t : List TFrac) (_ : TSpring) => .inl (t ++ [fracQ ((stG l (t.length : Int) : Rat) * posQ (d - (keyG gaps (t.length : Int) : Rat)))])) (fun t => (t, ())) l' t = (t ++ (List.range' t.length l'.length).map (fun m : Nat => fracQ ((stG l (m : Int) : Rat) * posQ (d - (keyG gaps (m : Int) : Rat)))), ()) := by
          intro l'
          induction l' with
          | nil => intro t; simp [runL]
          | cons x l' ih =>
            intro t
            simp only [runL]
            rw [ih]
            simp [List.range'_succ]
        rw [hrun]
        simp only [List.nil_append, List.length_nil]
        rw [zip_key l gaps h.n]
        simp [intsN, List.range_eq_range', Function.comp_def]
      · intro k hk t ht
        refine ⟨?_, fun t' ht' => by cases ht'; simp [ht]⟩
        obtain ⟨e1, x, e2, e3, e4⟩ := psK_at h hk
        obtain ⟨c1, c2, c3, c4⟩ := h.k _ e4
        have hfit := hp.fit _ e4
        dsimp only at c1 c2 c3 c4 hfit ⊢
        unfold F_ref02_Of
        rw [lt_yes hk, e1, e2, ht]
        simp only [cond_true, Option.bind_some]
        have fin : ∀ y : TFrac, y = fracQ ((stG l (k : Int) : Rat) * posQ (d - (keyG gaps (k : Int) : Rat))) → (if k + ([y] : List TFrac).length ≤ 2147483648 then some (.inl ((IntKind.i64.wrap ((k : Int) + 1)), (t ++ ([y] : List TFrac)), ())) else none : Option ((Int × List TFrac × Unit) ⊕ (List TFrac × Unit))) = some (.inl ((k : Int) + 1, t ++ [fracQ ((stG l (k : Int) : Rat) * posQ (d - (keyG gaps (k : Int) : Rat)))], ())) := by
          rintro y rfl
          rw [if_pos (by simp; omega), wrap64 (by omega) (by omega)]
        by_cases hw : w > 0
        · have hbear := fun g => bear_law hw hp.k hp.eq g
          have k1 : ∀ p ∈ zipS l gaps, p.2 ≤ a → (p.2 : Rat) ≤ d := by
            intro p hpm hpa
            rcases ha.is with h1 | h1
            · have := (hp.k p hpm).2.2.1; omega
            · have h2 := (hbear a).1 h1
              have h3 : (p.2 : Rat) ≤ (a : Rat) := Rat.intCast_le_intCast.2 hpa
              grind
          have k2 : ∀ p ∈ zipS l gaps, a < p.2 → d ≤ (p.2 : Rat) := by
            intro p hpm hpa
            rw [← psK_all h] at hpm
            obtain ⟨z, hz, rfl⟩ := List.mem_map.1 hpm
            obtain ⟨m, hm, rfl⟩ := List.mem_map.1 hz
            have hnot : ¬ plI (keyG gaps (m : Int)) (zipS l gaps) ≤ w := fun h1 => by
              have := ha.most m (List.mem_range.1 hm) h1
              dsimp only at hpa
              omega
            have := mt (hbear (keyG gaps (m : Int))).2 hnot
            exact Rat.le_of_lt (Rat.not_le.1 this)
          by_cases hc : keyG gaps (k : Int) ≤ a
          · rw [decide_eq_true hc, decide_eq_true hw]
            simp only [cond_true, Option.bind_some, e3]
            have hmem : (stG l (k : Int), keyG gaps (k : Int)) ∈ selK (zipS l gaps) a := List.mem_filter.2 ⟨e4, by simpa using hc⟩
            have hsk : 0 < skI (selK (zipS l gaps) a) := by
              have h1 := sk_pos (ps := selK (zipS l gaps) a) fun p hp' => (h.k p (List.mem_filter.1 hp').1).1
              have h2 : 0 < (selK (zipS l gaps) a).length := List.length_pos_of_mem hmem
              omega
            have hdep := depth_law hp.eq a k1 k2
            have hd2 : d = ((w + sgI (selK (zipS l gaps) a) : Int) : Rat) / (skI (selK (zipS l gaps) a) : Rat) := mul_cancel_pos (cast_pos hsk) (by rw [← hdep, Rat.mul_comm])
            have hge : keyG gaps (k : Int) * skI (selK (zipS l gaps) a) ≤ w + sgI (selK (zipS l gaps) a) := by
              have := k1 _ e4 hc
              rw [hd2] at this
              exact (div_le' hsk).1 this
            generalize skI (selK (zipS l gaps) a) = D at *
            generalize sgI (selK (zipS l gaps) a) = S at *
            have hmul : 0 ≤ keyG gaps (k : Int) * D := Int.mul_nonneg c3 (by omega)
            have hmulb : keyG gaps (k : Int) * D ≤ 104857600000 := Int.le_trans (Int.mul_le_mul c4 hb.2.2.2 (by omega) (by omega)) (by decide)
            have hcm : D * keyG gaps (k : Int) = keyG gaps (k : Int) * D := Int.mul_comm _ _
            have hpr : 0 ≤ stG l (k : Int) * (w + S - keyG gaps (k : Int) * D) ∧ stG l (k : Int) * (w + S - keyG gaps (k : Int) * D) ≤ 1100000000000000 := ⟨Int.mul_nonneg (by omega) (by omega), Int.le_trans (Int.mul_le_mul c2 (show w + S - keyG gaps (k : Int) * D ≤ 110000000000 by omega) (by omega) (by omega)) (by decide)⟩
            rw [hcm, wrap64 (n := keyG gaps (k : Int) * D) (by omega) (by omega), wrap64 (n := w + S - keyG gaps (k : Int) * D) (by omega) (by omega), wrap64 (n := stG l (k : Int) * (w + S - keyG gaps (k : Int) * D)) (by omega) (by omega), g_make (by omega) (by omega) (by omega) (by omega), if_neg (by omega), if_neg (by omega)]
            simp only [Option.bind_some]
            refine fin _ ?_
            have hmx : w + S - keyG gaps (k : Int) * D = maxZ 0 (w + S - keyG gaps (k : Int) * D) := by unfold maxZ; split <;> omega
            rw [hmx, show D.natAbs = D.toNat from by omega, mk_pos c1 hsk, ← hd2, out_fit hfit]
          · rw [decide_eq_false hc]
            simp only [cond_false, Option.bind_some]
            refine fin _ ?_
            have := k2 _ e4 (by dsimp only; omega)
            dsimp only at this
            rw [pos_le (by grind), Rat.mul_zero]
            rfl
        · have hz := pl_zero (fun p hp' => by have := (hp.k p hp').1; omega) (show plQ d (zipS l gaps) ≤ 0 by
            rw [hp.eq, show w = 0 by omega]
            exact Rat.le_refl) _ e4
          dsimp only at hz
          rw [decide_eq_false hw]
          have hsel : (((bif decide (keyG gaps (k : Int) ≤ a) then some (false, ()) else some (false, ())) : Option (Bool × Unit))) = some (false, ()) := by cases decide (keyG gaps (k : Int) ≤ a) <;> rfl
          rw [hsel]
          simp only [cond_false, Option.bind_some]
          refine fin _ ?_
          rw [hz]
          rfl
      · intro t _
        dsimp only
        rw [lt_no, cond_false]
theorem r_gaps {w : Int} {l : List TSpring} {gaps : List Int} (hl : l.length ≤ 2147483648) (hg : gaps.length ≤ 2147483648) (hv : givenP w l = 0) : F_ref17_Gaps l gaps = some (slackE w l gaps) := by
  unfold F_ref17_Gaps slackE
  rw [if_neg (by omega)]
  by_cases h2 : gaps.length ≠ l.length
  · rw [if_pos h2, show (((gaps.length : Nat) : Int) != ((l.length : Nat) : Int)) = true from by simp; omega, cond_true]
  · rw [if_neg h2, show (((gaps.length : Nat) : Int) != ((l.length : Nat) : Int)) = false from by simp; omega, cond_false]
    rw [iter_no gaps (by omega) (fun g => !badG g) (.inl (2, ())) (.inr ()) ?hin ?hout]
    · have : (gaps.all fun g => !badG g) = !gaps.any badG := by rw [List.all_eq_not_any_not]; simp
      rw [this]
      cases gaps.any badG <;> rfl
    case hin =>
      intro k hk
      simp only [lt_yes hk, cond_true, idx_at hk, Option.bind_some]
      unfold badG
      rw [wrap64 (by omega) (by omega)]
      cases decide (gaps[k] < 0) <;> cases decide (gaps[k] > 1048576) <;> rfl
    case hout => simp only [lt_no, cond_false]
theorem given_bad {w : Int} {l : List TSpring} (h : springsB l = false) : givenP w l = 1 := by unfold givenP; rw [h]; rfl
theorem main_ElasticSlack (x0 : Int) (x1 : List TSpring) (x2 : List Int) (w0 : W_int x0) (w1 : W_l_Spring x1) (w2 : W_l_int1 x2) : F_law17_ElasticSlack x0 x1 x2 = some true := by
  unfold F_law17_ElasticSlack
  rw [awake17, f_large]
  simp only [Option.bind_some, Bool.not_true, cond_false]
  cases hL : largeB x1 with
  | true => rfl
  | false =>
    obtain ⟨hl, hn⟩ := large_ok hL
    simp only [cond_false, Option.bind_some]
    by_cases hg : ((x2.length : Nat) : Int) > 20
    · rw [decide_eq_true hg]; rfl
    · rw [decide_eq_false hg, f_series hl hn]
      simp only [cond_false, Option.bind_some]
      have hn' : ∀ x ∈ x1, x.name.size ≤ 2147483648 := fun x hx => by have := hn x hx; omega
      rw [f_revalid x1 (by omega) hn']
      cases hv : springsB x1 with
      | false =>
        rw [f_slack_err (by omega) hn' (by omega) (by unfold slackE; rw [given_bad hv]; simp)]
        unfold slackE
        rw [given_bad hv]
        rfl
      | true =>
        obtain ⟨sp, e1, rfl⟩ := r_series hl hv
        simp only [if_true, Bool.not_true, cond_false, Option.bind_some]
        by_cases he : slackE x0 x1 x2 = 0
        · obtain ⟨d, hp, e⟩ := f_slack (by omega) hn' he
          have ho := slack_ok he
          rw [e]
          simp only [Option.bind_some, Bool.not_true, cond_false]
          rw [e1, f_rgiven x0 x1 (by omega) hn', ho.g, r_gaps (w := x0) (by omega) (by omega) ho.g, he]
          simp only [Option.bind_some, cond_false, feq_same, Bool.not_true, bne_self_eq_false, beq_self_eq_true, cond_true]
          rw [r_slack ⟨ho.n, ho.s.n10, hp.k⟩ ho.w0 ho.w1 hp]
          simp only [Option.bind_some]
          rw [(f_eqF _ _ (by simp [zipS]; omega)).2 rfl]
          rfl
        · rw [f_slack_err (by omega) hn' (by omega) he]
          simp only [Option.bind_some, Bool.not_true, cond_false]
          rw [e1, f_rgiven x0 x1 (by omega) hn']
          simp only [Option.bind_some, cond_false, feq_same, Bool.not_true, bne_self_eq_false]
          by_cases hgv : givenP x0 x1 = 0
          · rw [hgv, r_gaps (w := x0) (by omega) (by omega) hgv]
            simp only [beq_self_eq_true, cond_true, Option.bind_some]
            rw [show (slackE x0 x1 x2 != 0) = true from by simp [he]]
            simp
          · have he2 : slackE x0 x1 x2 = givenP x0 x1 := by unfold slackE; rw [if_pos hgv]
            rw [show (givenP x0 x1 == 0) = false from by simp [hgv]]
            simp only [cond_false, Option.bind_some]
            rw [show (givenP x0 x1 != 0) = true from by simp [hgv], he2]
            simp
end Go.Proofs.Ytkphcdficpfcnaa

/- Sums of fractions; ElasticBears. -/
namespace Go.Proofs.Ytkphcdficpfcnaa
set_option linter.unusedVariables false
set_option linter.unusedSimpArgs false

theorem iter_all' {ρ : Type} {F : Int × Unit → Option ((Int × Unit) ⊕ ρ)} (n : Nat) (hn : n < 9223372036854775807) (d : ρ) (hin : ∀ (k : Nat), k < n → F ((k : Int), ()) = some (.inl ((k : Int) + 1, ()))) (hout : F ((n : Int), ()) = some (.inr d)) : iterF F big (0, ()) = some d := by
  obtain ⟨r, e, rfl⟩ := iter_run_inv (F := F) (Q := fun r => r = d) (fun k s => k ≤ n ∧ s = ((k : Int), ())) n (by unfold big; omega) (by
    rintro k s ⟨hk, rfl⟩
    by_cases hlt : k < n
    · exact .inl ⟨_, hin k hlt, hlt, hlt, rfl⟩
    · obtain rfl : k = n := by omega
      exact .inr ⟨_, hout, rfl⟩) (s := (0, ())) ⟨by omega, rfl⟩
  exact e
def sumF : List Rat → Rat → Option Rat
  | [], q => some q
  | x :: l, q => if fitQ (q + x) then sumF l (q + x) else none
def sumR : List Rat → Rat
  | [] => 0
  | x :: l => x + sumR l
theorem sumF_eq : ∀ (l : List Rat) (q r : Rat), sumF l q = some r → r = q + sumR l
  | [], q, r, h => by cases h; simp only [sumR]; grind
  | x :: l, q, r, h => by
    unfold sumF at h
    split at h
    · have := sumF_eq l _ r h
      simp only [sumR]
      grind
    · cases h
def sumP (l : List Rat) : TFrac × Int := match sumF l 0 with
  | none => (⟨0, 0⟩, 5)
  | some q => (fracQ q, 0)
theorem f_rsum {l : List Rat} (hl : l.length ≤ 1000) (hf : ∀ q ∈ l, fitQ q) : F_ratio_Sum (l.map fracQ) = some (sumP l) := by
  unfold F_ratio_Sum
  rw [f_slices_ContainsFunc_api_Frac (l.map fracQ) (by rw [List.length_map]; omega) (fun z2 => F_ratio_Sum_1 z2) (fun _ => false) (fun x hx => by
    obtain ⟨q, hq, rfl⟩ := List.mem_map.1 hx
    unfold F_ratio_Sum_1
    rw [rv_true (rv_frac (hf q hq)).1]
    rfl)]
  have hany : ((l.map fracQ).any fun _ => false) = false := by simp
  rw [hany]
  simp only [Option.bind_some, cond_false, List.length_map]
  rw [decide_eq_false (show ¬ ((l.length : Nat) : Int) > 1000 by omega), cond_false, ← frac_zero]
  obtain ⟨R, hR, hQ⟩ := iter_run_inv (F := (fun s10 : Int × TFrac × TFrac × Unit => (bif (decide (s10.1 < ((l.length : Nat) : Int))) then (idx (l.map fracQ) s10.1).bind fun x11 => (F_ratio_Add s10.2.2.1 x11).bind fun r12 => (bif (r12.2 != 0) then some (.inr (.inl (r12.2, (TFrac.mk 0 0), r12.1, ()))) else some (.inl ((IntKind.i64.wrap (s10.1 + 1)), s10.2.1, r12.1, ()))) else some (.inr (.inr ((s10.2.1, s10.2.2.1, ())))))))
    (Q := fun R : (Int × TFrac × TFrac × Unit) ⊕ (TFrac × TFrac × Unit) => match sumF l 0 with | none => ∃ z, R = .inl (5, ⟨0, 0⟩, z, ()) | some r => R = .inr (⟨0, 0⟩, fracQ r, ()))
    (fun k s => k ≤ l.length ∧ ∃ q, s = ((k : Int), ⟨0, 0⟩, fracQ q, ()) ∧ fitQ q ∧ sumF l 0 = sumF (l.drop k) q) l.length (by unfold big; omega) (by
    rintro k s ⟨hk, q, rfl, hq, he⟩
    dsimp only
    by_cases hlt : k < l.length
    · have hx := hf _ (List.getElem_mem hlt)
      rw [lt_yes hlt, idx_at (show k < (l.map fracQ).length by rw [List.length_map]; exact hlt), List.getElem_map]
      simp only [cond_true, Option.bind_some]
      rw [add_fit hq hx]
      simp only [Option.bind_some]
      rw [List.drop_eq_getElem_cons hlt, show sumF (l[k] :: l.drop (k + 1)) q = if fitQ (q + l[k]) then sumF (l.drop (k + 1)) (q + l[k]) else none from rfl] at he
      by_cases hfit : fitQ (q + l[k])
      · rw [if_pos hfit] at he
        rw [out_fit hfit]
        simp only [bne_self_eq_false, cond_false]
        rw [wrap64 (by omega) (by omega)]
        exact .inl ⟨_, rfl, hlt, hlt, _, rfl, hfit, he⟩
      · rw [if_neg hfit] at he
        rw [out_big hfit]
        refine .inr ⟨_, rfl, ?_⟩
        rw [he]
        exact ⟨_, rfl⟩
    · obtain rfl : k = l.length := by omega
      rw [lt_no, cond_false]
      refine .inr ⟨_, rfl, ?_⟩
      rw [List.drop_length] at he
      rw [he]
      rfl) (s := (0, ⟨0, 0⟩, fracQ 0, ())) ⟨by omega, 0, rfl, fit_zero, rfl⟩
  rw [hR]
  simp only [Option.bind_some]
  unfold sumP
  cases hr : sumF l 0 with
  | none =>
    rw [hr] at hQ
    obtain ⟨z, rfl⟩ := hQ
    rfl
  | some r =>
    rw [hr] at hQ
    dsimp only at hQ
    subst hQ
    rfl
theorem sum_share {w : Int} {l : List TSpring} (h : Spr l) : sumR (shareQ w l) = (w : Rat) := by
  have hK := K_pos h
  have key : ∀ l : List TSpring, sumR (l.map fun x => (x.stiff : Rat) * shareR w l) = sumR (l.map fun x => (x.stiff : Rat) * shareR w l) := fun _ => rfl
  have gen : ∀ (r : Rat) (l : List TSpring), sumR (l.map fun x => (x.stiff : Rat) * r) = (stiffI l : Rat) * r := by
    intro r l
    induction l with
    | nil => simp [sumR, stiffI, sumTo]
    | cons x l ih =>
      have e : stiffI (x :: l) = x.stiff + stiffI l := sumL_cons _ x l
      simp only [List.map_cons, sumR, ih, e, Rat.intCast_add]
      grind
  unfold shareQ
  rw [gen, Rat.mul_comm]
  exact div_mul' hK.1
theorem share_nonneg {w : Int} {l : List TSpring} (h : Spr l) (w0 : 0 ≤ w) : 0 ≤ shareR w l := by
  have hK := K_pos h
  have := (div_le' (n := w) (g := 0) hK.1).2 (by omega)
  exact this
theorem frac_num_nonneg {q : Rat} (h : 0 ≤ q) : 0 ≤ (fracQ q).num := by
  show 0 ≤ q.num
  exact Rat.num_nonneg.2 h
theorem f_lsum {l : List Rat} (hl : l.length ≤ 1000) (hf : ∀ q ∈ l, fitQ q) : F_law17_sum (l.map fracQ) = some ((sumP l).1, (sumP l).2 == 0) := by
  unfold F_law17_sum
  rw [f_rsum hl hf]
  rfl
theorem sum_is {l : List Rat} (h : ((sumP l).2 == 0) = true) : (sumP l).1 = fracQ (sumR l) := by
  unfold sumP at *
  cases hs : sumF l 0 with
  | none => rw [hs] at h; cases h
  | some r =>
    have := sumF_eq l 0 r hs
    dsimp only
    congr 1
    grind
theorem mul_fit {a b : Rat} (ha : fitQ a) (hb : fitQ b) : F_ratio_Mul (fracQ a) (fracQ b) = some (outQ (a * b)) := by
  rw [f_rmul (rv_frac ha).1 (rv_frac hb).1, (rv_frac ha).2, (rv_frac hb).2]
theorem f_int (n : Int) : F_law17_f n = some ⟨n, 1⟩ := rfl
theorem fit_int {n : Int} (h : n.natAbs ≤ 1152921504606846976) : fitQ (n : Rat) := by
  unfold fitQ
  rw [Rat.num_intCast, Rat.den_intCast]
  omega
theorem main_ElasticBears (x0 : Int) (x1 : Int) (x2 : List TSpring) (w0 : W_int x0) (w1 : W_int x1) (w2 : W_l_Spring x2) : F_law17_ElasticBears x0 x1 x2 = some true := by
  unfold F_law17_ElasticBears
  rw [awake17, f_large]
  simp only [Option.bind_some, Bool.not_true, cond_false]
  cases hL : largeB x2 with
  | true => rfl
  | false =>
    obtain ⟨hl, hn⟩ := large_ok hL
    simp only [cond_false, Option.bind_some]
    by_cases hb0 : x1 < 0
    · rw [decide_eq_true hb0]; rfl
    rw [decide_eq_false hb0, cond_false]
    by_cases hb1 : x1 > 67108864
    · rw [decide_eq_true hb1]; rfl
    rw [decide_eq_false hb1]
    simp only [cond_false, Option.bind_some]
    obtain ⟨e1, f1⟩ := f_share (w := x0) hl hn
    obtain ⟨e2, f2⟩ := f_stretch (w := x0) hl hn
    obtain ⟨e3, f3⟩ := f_share (w := x1) hl hn
    rw [e1, e2]
    by_cases h : givenP x0 x2 = 0
    · obtain ⟨hs, hv, a0, a1⟩ := given_ok h
      have f1 := f1 h
      have f2 := f2 h
      have hgb : givenP x1 x2 = 0 := by unfold givenP; rw [hv, decide_eq_true (show 0 ≤ x1 ∧ x1 ≤ 67108864 by omega)]; rfl
      have f3 := f3 hgb
      have hsl : (shareQ x0 x2).length = x2.length := by simp [shareQ]
      have hsl1 : (shareQ x1 x2).length = x2.length := by simp [shareQ]
      rw [if_pos h] at e1
      rw [if_pos h, if_pos h]
      rw [e3, if_pos hgb]
      simp only [Option.bind_some, bne_self_eq_false, cond_false]
      rw [f_lsum (by rw [hsl]; omega) f1]
      simp only [Option.bind_some, List.length_map, hsl, bne_self_eq_false, cond_false, f_int]
      have hjoin : ((bif ((sumP (shareQ x0 x2)).2 == 0) then some ((!(((sumP (shareQ x0 x2)).1.num == x0) && ((sumP (shareQ x0 x2)).1.den == 1))), ()) else some (false, ()) : Option (Bool × Unit))) = some (false, ()) := by
        cases hc : ((sumP (shareQ x0 x2)).2 == 0) with
        | false => rfl
        | true => rw [sum_is hc, sum_share hs, frac_int]; simp
      rw [hjoin]
      simp only [Option.bind_some, cond_false]
      have hat : ∀ (w : Int) (k : Nat) (hk : k < x2.length), idx ((shareQ w x2).map fracQ) (k : Int) = some (fracQ ((x2[k].stiff : Rat) * shareR w x2)) ∧ ((shareQ w x2).map fracQ)[Int.toNat (k : Int)]? = some (fracQ ((x2[k].stiff : Rat) * shareR w x2)) := by
        intro w k hk
        have hk2 : k < ((shareQ w x2).map fracQ).length := by simp [shareQ]; exact hk
        have e : ((shareQ w x2).map fracQ)[k] = fracQ ((x2[k].stiff : Rat) * shareR w x2) := by simp [shareQ]
        refine ⟨by rw [idx_at hk2, e], ?_⟩
        rw [Int.toNat_natCast, List.getElem?_eq_getElem hk2, e]
      refine bind_eq' (x := .inr ()) (iter_all' x2.length (by omega) _ ?_ ?_) ?_
      · intro k hk
        have hx := List.getElem_mem hk
        have k1 := hs.k1 _ hx
        have k2 := hs.k2 _ hx
        have hfx := f1 ((x2[k].stiff : Rat) * shareR x0 x2) (List.mem_map.2 ⟨_, hx, rfl⟩)
        dsimp only
        rw [lt_yes hk, idx_at hk]
        simp only [cond_true, Option.bind_some]
        rw [← frac_int, mul_fit f2 (fit_int (by omega)), (hat x0 k hk).1, (hat x0 k hk).2, Rat.mul_comm, out_fit hfx]
        simp only [Option.bind_some, bne_self_eq_false, cond_false, feq_same, Bool.not_true]
        rw [decide_eq_false (show ¬ (fracQ ((x2[k].stiff : Rat) * shareR x0 x2)).num < 0 by
          have := frac_num_nonneg (Rat.mul_nonneg (cast_nonneg (show 0 ≤ x2[k].stiff by omega)) (share_nonneg hs a0))
          omega), wrap64 (by omega) (by omega)]
        rfl
      · dsimp only
        rw [lt_no, cond_false]
      · dsimp only
        rw [wrap64 (n := x0 + x1) (by omega) (by omega)]
        obtain ⟨e4, f4⟩ := f_share (w := x0 + x1) hl hn
        rw [e4]
        by_cases hg : givenP (x0 + x1) x2 = 0
        · have f4 := f4 hg
          rw [if_pos hg]
          simp only [Option.bind_some, bne_self_eq_false, cond_false]
          refine bind_eq' (x := .inr ()) (iter_all' x2.length (by omega) _ ?_ ?_) rfl
          · intro k hk
            have hx := List.getElem_mem hk
            have hfx := f1 ((x2[k].stiff : Rat) * shareR x0 x2) (List.mem_map.2 ⟨_, hx, rfl⟩)
            have hfy := f3 ((x2[k].stiff : Rat) * shareR x1 x2) (List.mem_map.2 ⟨_, hx, rfl⟩)
            have hfz := f4 ((x2[k].stiff : Rat) * shareR (x0 + x1) x2) (List.mem_map.2 ⟨_, hx, rfl⟩)
            dsimp only
            rw [lt_yes hk, (hat x0 k hk).1, (hat x0 k hk).2, (hat x1 k hk).1, (hat x1 k hk).2, (hat (x0 + x1) k hk).1, (hat (x0 + x1) k hk).2]
            simp only [cond_true, Option.bind_some]
            have hsum : (x2[k].stiff : Rat) * shareR x0 x2 + (x2[k].stiff : Rat) * shareR x1 x2 = (x2[k].stiff : Rat) * shareR (x0 + x1) x2 := by
              unfold shareR
              rw [Rat.intCast_add, Rat.div_def, Rat.div_def, Rat.div_def]
              grind
            rw [add_fit hfx hfy, hsum, out_fit hfz]
            simp only [Option.bind_some, bne_self_eq_false, cond_false, feq_same, Bool.not_true]
            rw [wrap64 (by omega) (by omega)]
          · dsimp only
            rw [lt_no, cond_false]
        · rw [if_neg hg]
          simp only [Option.bind_some, bne_self_eq_false, cond_false]
          rw [show (givenP (x0 + x1) x2 != 0) = true from by simp [hg], cond_true]
          congr 1
          apply decide_eq_true
          unfold givenP at hg
          rw [hv] at hg
          simp only [Bool.not_true, cond_false] at hg
          by_cases hr : 0 ≤ x0 + x1 ∧ x0 + x1 ≤ 67108864
          · rw [decide_eq_true hr] at hg; exact absurd rfl hg
          · omega
    · rw [if_neg h]
      simp only [Option.bind_some]
      rw [show (givenP x0 x2 != 0) = true from by simp [h]]
      rfl
end Go.Proofs.Ytkphcdficpfcnaa

/- ElasticStiffer. -/
namespace Go.Proofs.Ytkphcdficpfcnaa
set_option linter.unusedVariables false
set_option linter.unusedSimpArgs false

theorem stiffer_law {A B : List (Int × Int)} {p p' : Int × Int} {d d' : Rat} (h1 : p.1 ≤ p'.1) (h2 : p'.2 ≤ p.2) (hk : ∀ q ∈ A ++ p :: B, 0 ≤ q.1) (he : plQ d (A ++ p :: B) = plQ d' (A ++ p' :: B)) :
    (∀ q ∈ A ++ B, (q.1 : Rat) * posQ (d' - q.2) ≤ (q.1 : Rat) * posQ (d - q.2)) ∧ (p.1 : Rat) * posQ (d - p.2) ≤ (p'.1 : Rat) * posQ (d' - p'.2) := by
  have hkp : 0 ≤ p.1 := hk p (by simp)
  have hk' : ∀ q ∈ A ++ p' :: B, 0 ≤ q.1 := by
    intro q hq
    rcases List.mem_append.1 hq with hq | hq
    · exact hk q (List.mem_append_left _ hq)
    · rcases List.mem_cons.1 hq with rfl | hq
      · omega
      · exact hk q (List.mem_append_right _ (List.mem_cons_of_mem _ hq))
  have hkAB : ∀ q ∈ A ++ B, 0 ≤ q.1 := by
    intro q hq
    rcases List.mem_append.1 hq with hq | hq
    · exact hk q (List.mem_append_left _ hq)
    · exact hk q (List.mem_append_right _ (List.mem_cons_of_mem _ hq))
  have split : ∀ (e : Rat) (r : Int × Int), plQ e (A ++ r :: B) = plQ e (A ++ B) + (r.1 : Rat) * posQ (e - r.2) := by
    intro e r
    rw [pl_append, pl_append]
    simp only [plQ]
    grind
  have hterm : (p.1 : Rat) * posQ (d - p.2) ≤ (p'.1 : Rat) * posQ (d - p'.2) := by
    have a1 : (p.2 : Rat) ≥ (p'.2 : Rat) := Rat.intCast_le_intCast.2 h2
    have a2 := mul_mono hkp (pos_mono (show d - (p.2 : Rat) ≤ d - (p'.2 : Rat) by grind))
    have a3 : (p.1 : Rat) ≤ (p'.1 : Rat) := Rat.intCast_le_intCast.2 h1
    have a4 := Rat.mul_le_mul_of_nonneg_right a3 (pos_nonneg (d - p'.2))
    grind
  have first : ∀ q ∈ A ++ B, (q.1 : Rat) * posQ (d' - q.2) ≤ (q.1 : Rat) * posQ (d - q.2) := by
    intro q hq
    rcases Rat.le_total (a := d') (b := d) with h | h
    · exact mul_mono (hkAB q hq) (pos_mono (by grind))
    · have hle : plQ d' (A ++ p' :: B) ≤ plQ d (A ++ p' :: B) := by
        rw [← he, split, split]
        grind
      have := pl_same hk' h hle q (by
        rcases List.mem_append.1 hq with hq | hq
        · exact List.mem_append_left _ hq
        · exact List.mem_append_right _ (List.mem_cons_of_mem _ hq))
      rw [this]
      exact Rat.le_refl
  refine ⟨first, ?_⟩
  have hsum : ∀ C : List (Int × Int), (∀ q ∈ C, (q.1 : Rat) * posQ (d' - q.2) ≤ (q.1 : Rat) * posQ (d - q.2)) → plQ d' C ≤ plQ d C := by
    intro C
    induction C with
    | nil => intro _; exact Rat.le_refl
    | cons q C ih =>
      intro h
      have a1 := ih fun r hr => h r (List.mem_cons_of_mem _ hr)
      have a2 := h q List.mem_cons_self
      simp only [plQ]
      grind
  have := hsum (A ++ B) first
  rw [split, split] at he
  grind
theorem rcmp_fit {a b : Rat} (ha : fitQ a) (hb : fitQ b) : F_ratio_Cmp (fracQ a) (fracQ b) = some (if a < b then -1 else if b < a then 1 else 0, 0) := by
  rw [f_rcmp (rv_frac ha).1 (rv_frac hb).1, (rv_frac ha).2, (rv_frac hb).2]
theorem given_cases (w : Int) (l : List TSpring) : givenP w l = 0 ∨ givenP w l = 1 ∨ givenP w l = 2 := by
  unfold givenP
  cases springsB l <;> cases decide (0 ≤ w ∧ w ≤ 67108864) <;> simp
/-- What is asked of other springs, or other gaps. -/
theorem stiff_1 {w : Int} {m : List TSpring} {h : List Int} {X : List Rat} {i : Nat} (hl : m.length ≤ 14) (hn : ∀ x ∈ m, x.name.size ≤ 60) (hh : h.length = m.length) (hX : X.length = m.length) (hfX : ∀ q ∈ X, fitQ q)
    (hlaw : ∀ d, Pulls w (zipS m h) d → ∀ (j : Nat) (p : Int × Int) (x : Rat), (zipS m h)[j]? = some p → X[j]? = some x → (j = i → x ≤ (p.1 : Rat) * posQ (d - p.2)) ∧ (j ≠ i → (p.1 : Rat) * posQ (d - p.2) ≤ x)) :
    F_law17_ElasticStiffer_1 m h w (X.map fracQ) (i : Int) = some true := by
  unfold F_law17_ElasticStiffer_1
  have hn' : ∀ x ∈ m, x.name.size ≤ 2147483648 := fun x hx => by have := hn x hx; omega
  by_cases he : slackE w m h = 0
  · obtain ⟨d, hp, e⟩ := f_slack (by omega) hn' he
    rw [e]
    simp only [Option.bind_some, bne_self_eq_false, cond_false, List.length_map]
    have hz : (zipS m h).length = m.length := by simp [zipS, hh]
    refine bind_eq' (x := .inr ()) (iter_all' (zipS m h).length (by omega) _ ?_ ?_) ?_
    · intro k hk
      have hkX : k < X.length := by omega
      obtain ⟨l1, l2⟩ := hlaw d hp k _ _ (List.getElem?_eq_getElem hk) (List.getElem?_eq_getElem hkX)
      have hk2 : k < ((zipS m h).map fun p => fracQ ((p.1 : Rat) * posQ (d - p.2))).length := by rw [List.length_map]; exact hk
      have hk3 : k < (X.map fracQ).length := by rw [List.length_map]; exact hkX
      dsimp only
      rw [lt_yes hk, idx_at hk2, Int.toNat_natCast, List.getElem?_eq_getElem hk2, idx_at hk3, List.getElem_map, List.getElem_map]
      simp only [cond_true, Option.bind_some]
      rw [rcmp_fit (hp.fit _ (List.getElem_mem hk)) (hfX _ (List.getElem_mem hkX))]
      simp only [Option.bind_some, bne_self_eq_false, cond_false]
      by_cases hki : k = i
      · have := l1 hki
        subst hki
        rw [if_neg (Rat.not_lt.2 this)]
        simp only [beq_self_eq_true, cond_true, bne_self_eq_false, cond_false]
        rw [decide_eq_false (by split <;> omega)]
        simp only [cond_false, Option.bind_some]
        rw [wrap64 (by omega) (by omega)]
      · have := l2 hki
        have hne : ((k : Int) == (i : Int)) = false := by simp; omega
        have hne2 : ((k : Int) != (i : Int)) = true := by simp; omega
        rw [hne, hne2]
        simp only [cond_false, cond_true]
        rw [decide_eq_false (by
          split
          · omega
          · rw [if_neg (Rat.not_lt.2 this)]; omega)]
        simp only [cond_false, Option.bind_some]
        rw [wrap64 (by omega) (by omega)]
    · dsimp only
      rw [lt_no, cond_false]
    · dsimp only
      rw [hz, hX]
      simp
  · rw [f_slack_err (by omega) hn' (by omega) he]
    simp only [Option.bind_some]
    rw [show (slackE w m h != 0) = true from by simp [he]]
    simp only [cond_true]
    have hcase : slackE w m h = 1 ∨ slackE w m h = 2 := by
      unfold slackE at *
      by_cases h1 : givenP w m ≠ 0
      · rw [if_pos h1]
        have := given_cases w m
        omega
      · rw [if_neg h1] at he ⊢
        rw [if_neg (by omega)] at he ⊢
        by_cases h3 : h.any badG = true
        · rw [if_pos h3]; exact .inr rfl
        · rw [if_neg h3] at he; exact absurd rfl he
    rcases hcase with h1 | h1 <;> rw [h1] <;> rfl
theorem set_split {α : Type} {l : List α} {i : Nat} (h : i < l.length) (x : α) : l.set i x = l.take i ++ x :: l.drop (i + 1) := List.set_eq_take_append_cons_drop.trans (if_pos h)
theorem self_split {α : Type} {l : List α} {i : Nat} (h : i < l.length) : l = l.take i ++ l[i] :: l.drop (i + 1) := by
  rw [← set_split h, List.set_getElem_self]
theorem stiff_rows {w : Int} {ps : List (Int × Int)} {d d' : Rat} {i : Nat} (hi : i < ps.length) {p' : Int × Int} (h1 : ps[i].1 ≤ p'.1) (h2 : p'.2 ≤ ps[i].2) (hk : ∀ q ∈ ps, 0 ≤ q.1) (e1 : plQ d ps = (w : Rat)) (e2 : plQ d' (ps.set i p') = (w : Rat))
    (j : Nat) (p : Int × Int) (x : Rat) (hp : (ps.set i p')[j]? = some p) (hx : (ps.map fun p => (p.1 : Rat) * posQ (d - p.2))[j]? = some x) : (j = i → x ≤ (p.1 : Rat) * posQ (d' - p.2)) ∧ (j ≠ i → (p.1 : Rat) * posQ (d' - p.2) ≤ x) := by
  have hs := self_split hi
  have hl := stiffer_law (A := ps.take i) (B := ps.drop (i + 1)) (p := ps[i]) (p' := p') (d := d) (d' := d') h1 h2 (by rw [← hs]; exact hk) (by rw [← hs, e1, ← set_split hi, e2])
  rw [List.getElem?_map] at hx
  rw [List.getElem?_set] at hp
  constructor
  · rintro rfl
    rw [if_pos rfl, if_pos hi] at hp
    cases hp
    rw [List.getElem?_eq_getElem hi] at hx
    cases hx
    exact hl.2
  · intro hne
    rw [if_neg (fun h => hne h.symm)] at hp
    rw [hp] at hx
    cases hx
    refine hl.1 p ?_
    obtain ⟨hj, rfl⟩ := List.getElem?_eq_some_iff.1 hp
    rcases Nat.lt_or_ge j i with h | h
    · exact List.mem_append_left _ (List.mem_take_iff_getElem.2 ⟨j, by omega, rfl⟩)
    · refine List.mem_append_right _ (List.mem_drop_iff_getElem.2 ⟨j - (i + 1), by omega, ?_⟩)
      congr 1
      omega
theorem zip_setl {l : List TSpring} {gaps : List Int} {i : Nat} (hg : gaps.length = l.length) (hi : i < l.length) (x : TSpring) : zipS (l.set i x) gaps = (zipS l gaps).set i (x.stiff, gaps[i]'(by omega)) := by
  apply List.ext_getElem
  · simp [zipS]
  · intro j h1 h2
    simp only [zipS, List.getElem_zip, List.getElem_map, List.getElem_set]
    by_cases h : i = j
    · subst h; simp
    · simp [h]
theorem zip_setg {l : List TSpring} {gaps : List Int} {i : Nat} (hg : gaps.length = l.length) (hi : i < l.length) (x : Int) : zipS l (gaps.set i x) = (zipS l gaps).set i (l[i].stiff, x) := by
  apply List.ext_getElem
  · simp [zipS]
  · intro j h1 h2
    simp only [zipS, List.getElem_zip, List.getElem_map, List.getElem_set]
    by_cases h : i = j
    · subst h; simp
    · simp [h]
theorem wf_u8 {n : Int} (h : (Lit.int .u8 n).wf = true) : 0 ≤ n ∧ n ≤ 255 := by
  unfold Lit.wf at h
  simpa [IntKind.min, IntKind.max, IntKind.signed, IntKind.bits] using h
theorem cl_spring (l : List TSpring) (h : l.length ≤ 2147483648) : F_slices_Clone_api_Spring l = some l := by unfold F_slices_Clone_api_Spring; rw [if_pos (by simpa using h)]; rfl
theorem main_ElasticStiffer (x0 : Int) (x1 : List TSpring) (x2 : List Int) (x3 : Int) (x4 : Int) (w0 : W_int x0) (w1 : W_l_Spring x1) (w2 : W_l_int1 x2) (w3 : W_u8 x3) (w4 : W_u8 x4) : F_law17_ElasticStiffer x0 x1 x2 x3 x4 = some true := by
  unfold F_law17_ElasticStiffer
  rw [awake17, f_large]
  simp only [Option.bind_some, Bool.not_true, cond_false]
  cases hL : largeB x1 with
  | true => rfl
  | false =>
    obtain ⟨hl, hn⟩ := large_ok hL
    have hn' : ∀ x ∈ x1, x.name.size ≤ 2147483648 := fun x hx => by have := hn x hx; omega
    simp only [cond_false, Option.bind_some]
    by_cases hg : ((x2.length : Nat) : Int) > 20
    · rw [decide_eq_true hg]; rfl
    rw [decide_eq_false hg, cond_false]
    by_cases he : slackE x0 x1 x2 = 0
    · obtain ⟨d, hp, e⟩ := f_slack (by omega) hn' he
      have ho := slack_ok he
      have n1 := ho.s.n1
      obtain ⟨k0, k1⟩ := wf_u8 w3
      obtain ⟨m0, m1⟩ := wf_u8 w4
      rw [e]
      simp only [Option.bind_some, bne_self_eq_false, cond_false]
      rw [show (((x1.length : Nat) : Int) == 0) = false from by simp; intro h; rw [h] at n1; simp at n1, cond_false, if_neg (by omega), cl_spring x1 (by omega), wrap64 (n := x3) (by omega) (by omega)]
      obtain ⟨i, hi, hil⟩ : ∃ i : Nat, x3.tmod ((x1.length : Nat) : Int) = (i : Int) ∧ i < x1.length := by
        obtain ⟨k, rfl⟩ := Int.eq_ofNat_of_zero_le k0
        refine ⟨k % x1.length, rfl, Nat.mod_lt _ (by omega)⟩
      rw [hi]
      have hig : i < x2.length := by have := ho.n; omega
      have hx := List.getElem_mem hil
      have hkx1 := ho.s.k1 _ hx
      have hkx2 := ho.s.k2 _ hx
      have hgx := ho.b _ (List.getElem_mem hig)
      simp only [Option.bind_some, idx_at hil, Int.toNat_natCast, List.getElem?_eq_getElem hil]
      rw [f_clone_int x2 (by omega)]
      simp only [Option.bind_some, idx_at hig, List.getElem?_eq_getElem hig]
      rw [wrap64 (n := x4) (by omega) (by omega), wrap64 (n := x1[i].stiff + x4) (by omega) (by omega), wrap64 (n := x2[i] - x4) (by omega) (by omega)]
      have hmap : (zipS x1 x2).map (fun p => fracQ ((p.1 : Rat) * posQ (d - p.2))) = ((zipS x1 x2).map fun p => (p.1 : Rat) * posQ (d - p.2)).map fracQ := by rw [List.map_map]; rfl
      have hzl : (zipS x1 x2).length = x1.length := by simp [zipS, ho.n]
      have hzi : (zipS x1 x2)[i]'(by omega) = (x1[i].stiff, x2[i]) := by simp [zipS]
      have hfX : ∀ q ∈ (zipS x1 x2).map (fun p => (p.1 : Rat) * posQ (d - p.2)), fitQ q := by
        intro q hq
        obtain ⟨p, hpm, rfl⟩ := List.mem_map.1 hq
        exact hp.fit p hpm
      have hk0 : ∀ q ∈ zipS x1 x2, 0 ≤ q.1 := fun q hq => by have := (hp.k q hq).1; omega
      rw [hmap]
      rw [stiff_1 (i := i) (by rw [List.length_set]; omega) (by
        intro x hx'
        rcases List.mem_or_eq_of_mem_set hx' with h | h
        · exact hn x h
        · rw [h]; exact hn x1[i] hx) (by rw [List.length_set]; exact ho.n) (by rw [List.length_map, hzl, List.length_set]) hfX (by
        intro d' hp' j p x hpj hxj
        rw [zip_setl ho.n hil] at hp' hpj
        exact stiff_rows (w := x0) (by omega) (by rw [hzi]; dsimp only; omega) (by rw [hzi]; dsimp only; omega) hk0 hp.eq hp'.eq j p x hpj hxj)]
      simp only [Option.bind_some, cond_true]
      rw [stiff_1 (i := i) (by omega) hn (by rw [List.length_set]; exact ho.n) (by rw [List.length_map, hzl]) hfX (by
        intro d' hp' j p x hpj hxj
        rw [zip_setg ho.n hil] at hp' hpj
        exact stiff_rows (w := x0) (by omega) (by rw [hzi]; dsimp only; omega) (by rw [hzi]; dsimp only; omega) hk0 hp.eq hp'.eq j p x hpj hxj)]
      rfl
    · rw [f_slack_err (by omega) hn' (by omega) he]
      simp only [Option.bind_some]
      rw [show (slackE x0 x1 x2 != 0) = true from by simp [he]]
      rfl
end Go.Proofs.Ytkphcdficpfcnaa

/- ElasticLeast. -/
namespace Go.Proofs.Ytkphcdficpfcnaa
set_option linter.unusedVariables false
set_option linter.unusedSimpArgs false

def enR : List Rat → List TSpring → Rat
  | y :: Y, x :: l => y * y / ((2 * x.stiff : Int) : Rat) + enR Y l
  | _, _ => 0
theorem en_set : ∀ (Y : List Rat) (l : List TSpring) (j : Nat) (v : Rat) (h1 : j < Y.length) (h2 : j < l.length), enR (Y.set j v) l = enR Y l - Y[j] * Y[j] / ((2 * l[j].stiff : Int) : Rat) + v * v / ((2 * l[j].stiff : Int) : Rat)
  | y :: Y, x :: l, 0, v, _, _ => by
    simp only [List.set_cons_zero, enR, List.getElem_cons_zero]
    grind
  | y :: Y, x :: l, j + 1, v, h1, h2 => by
    have := en_set Y l j v (by simpa using h1) (by simpa using h2)
    simp only [List.set_cons_succ, enR, List.getElem_cons_succ, this]
    grind
theorem times_fit {a b : Rat} (ha : fitQ a) (hb : fitQ b) : F_ref02_Times (fracQ a) (fracQ b) = some (outQ (a * b)) := by
  rw [g_times (rv_frac ha).1 (rv_frac hb).1, (rv_frac ha).2, (rv_frac hb).2]
theorem radd_fit {a b : Rat} (ha : fitQ a) (hb : fitQ b) : F_ref02_Add (fracQ a) (fracQ b) = some (outQ (a + b)) := by
  rw [g_add (rv_frac ha).1 (rv_frac hb).1, (rv_frac ha).2, (rv_frac hb).2]
theorem rsub_fit {a b : Rat} (ha : fitQ a) (hb : fitQ b) : F_ref02_Sub (fracQ a) (fracQ b) = some (outQ (a - b)) := by
  rw [g_sub (rv_frac ha).1 (rv_frac hb).1, (rv_frac ha).2, (rv_frac hb).2]
theorem over_fit {a b : Rat} (ha : fitQ a) (hb : fitQ b) (h0 : (fracQ b).num ≠ 0) : F_ref02_Over (fracQ a) (fracQ b) = some (outQ (a / b)) := by
  rw [g_over (rv_frac ha).1 (rv_frac hb).1, (rv_frac ha).2, (rv_frac hb).2, if_neg h0]
theorem gcmp_fit {a b : Rat} (ha : fitQ a) (hb : fitQ b) : F_ref02_Cmp (fracQ a) (fracQ b) = some (if a < b then -1 else if b < a then 1 else 0) := by
  rw [g_cmp (rv_frac ha).1 (rv_frac hb).1, (rv_frac ha).2, (rv_frac hb).2]
theorem out_err {q : Rat} (h : ((outQ q).2 != 0) = false) : fitQ q ∧ outQ q = (fracQ q, 0) := by
  by_cases hf : fitQ q
  · exact ⟨hf, out_fit hf⟩
  · rw [out_big hf] at h; cases h
theorem least_1 {l : List TSpring} {Y : List Rat} (hk : ∀ x ∈ l, 1 ≤ x.stiff ∧ x.stiff ≤ 10000) (hl : l.length ≤ 14) (hY : Y.length = l.length) (hf : ∀ q ∈ Y, fitQ q) : ∃ r, F_law17_ElasticLeast_1 (Y.map fracQ) l = some r ∧ (r.2 = true → fitQ (enR Y l) ∧ r.1 = fracQ (enR Y l)) := by
  unfold F_law17_ElasticLeast_1
  rw [f_int]
  simp only [Option.bind_some, List.length_map]
  rw [← frac_zero]
  have hd : ∀ (Y : List Rat) (l : List TSpring) (k : Nat) (h1 : k < Y.length) (h2 : k < l.length), enR (Y.take (k + 1)) (l.take (k + 1)) = enR (Y.take k) (l.take k) + Y[k] * Y[k] / ((2 * l[k].stiff : Int) : Rat) := by
    intro Y
    induction Y with
    | nil => intro l k h1 h2; simp at h1
    | cons y Y ih =>
      intro l k h1 h2
      cases l with
      | nil => simp at h2
      | cons x l =>
        cases k with
        | zero => simp [enR]; grind
        | succ k =>
          have := ih l k (by simpa using h1) (by simpa using h2)
          simp only [List.take_succ_cons, enR, this, List.getElem_cons_succ]
          grind
  obtain ⟨R, hR, hQ⟩ := iter_run_inv (F := (fun s16 : Int × TFrac × TFrac × Unit => (bif (decide (s16.1 < ((Y.length : Nat) : Int))) then (idx (Y.map fracQ) s16.1).bind fun x17 => (F_ref02_Times x17 x17).bind fun r18 => (bif (r18.2 != 0) then some (.inr (.inl (false, s16.2.2.1, s16.2.2.1, ()))) else (idx l s16.1).bind fun x19 => (F_law17_f (IntKind.i64.wrap (2 * x19.stiff))).bind fun r20 => (F_ref02_Over r18.1 r20).bind fun r21 => (bif (r21.2 != 0) then some (.inr (.inl (false, s16.2.2.1, s16.2.2.1, ()))) else (F_ref02_Add s16.2.2.1 r21.1).bind fun r22 => (bif (r22.2 != 0) then some (.inr (.inl (false, r22.1, r22.1, ()))) else some (.inl ((IntKind.i64.wrap (s16.1 + 1)), s16.2.1, r22.1, ()))))) else some (.inr (.inr ((s16.2.1, s16.2.2.1, ())))))))
    (Q := fun R : (Bool × TFrac × TFrac × Unit) ⊕ (TFrac × TFrac × Unit) => (∃ a b, R = .inl (false, a, b, ())) ∨ ∃ z, R = .inr (z, fracQ (enR Y l), ()) ∧ fitQ (enR Y l))
    (fun k s => k ≤ Y.length ∧ ∃ z, s = ((k : Int), z, fracQ (enR (Y.take k) (l.take k)), ()) ∧ fitQ (enR (Y.take k) (l.take k))) Y.length (by unfold big; omega) (by
    rintro k s ⟨hk', z, rfl, hq⟩
    dsimp only
    by_cases hlt : k < Y.length
    · have hlk : k < l.length := by omega
      have hy := hf _ (List.getElem_mem hlt)
      obtain ⟨k1, k2⟩ := hk _ (List.getElem_mem hlk)
      rw [lt_yes hlt, idx_at (show k < (Y.map fracQ).length by rw [List.length_map]; exact hlt), List.getElem_map, idx_at hlk]
      simp only [cond_true, Option.bind_some]
      rw [times_fit hy hy]
      simp only [Option.bind_some]
      cases hc1 : ((outQ (Y[k] * Y[k])).2 != 0) with
      | true => exact .inr ⟨_, rfl, .inl ⟨_, _, rfl⟩⟩
      | false =>
        obtain ⟨g1, g2⟩ := out_err hc1
        rw [g2, wrap64 (n := 2 * l[k].stiff) (by omega) (by omega)]
        simp only [cond_false, f_int, Option.bind_some]
        have hi : fitQ ((2 * l[k].stiff : Int) : Rat) := fit_int (by omega)
        rw [← frac_int, over_fit g1 hi (by rw [frac_int]; dsimp only; omega)]
        simp only [Option.bind_some]
        cases hc2 : ((outQ (Y[k] * Y[k] / ((2 * l[k].stiff : Int) : Rat))).2 != 0) with
        | true => exact .inr ⟨_, rfl, .inl ⟨_, _, rfl⟩⟩
        | false =>
          obtain ⟨g3, g4⟩ := out_err hc2
          rw [g4]
          simp only [cond_false]
          rw [radd_fit hq g3]
          simp only [Option.bind_some]
          rw [← hd Y l k hlt hlk]
          cases hc3 : ((outQ (enR (Y.take (k + 1)) (l.take (k + 1)))).2 != 0) with
          | true => exact .inr ⟨_, rfl, .inl ⟨_, _, rfl⟩⟩
          | false =>
            obtain ⟨g5, g6⟩ := out_err hc3
            rw [g6, wrap64 (n := (k : Int) + 1) (by omega) (by omega)]
            simp only [cond_false]
            exact .inl ⟨_, rfl, hlt, hlt, _, rfl, g5⟩
    · obtain rfl : k = Y.length := by omega
      rw [lt_no, cond_false]
      rw [List.take_length, hY, List.take_length] at hq
      refine .inr ⟨_, rfl, .inr ⟨z, ?_, hq⟩⟩
      rw [List.take_length, hY, List.take_length]) (s := (0, ⟨0, 0⟩, fracQ 0, ())) ⟨by omega, _, rfl, fit_zero⟩
  rw [hR]
  simp only [Option.bind_some]
  rcases hQ with ⟨a, b, rfl⟩ | ⟨z, rfl, h⟩
  · exact ⟨_, rfl, fun h => by cases h⟩
  · exact ⟨_, rfl, fun _ => ⟨h, rfl⟩⟩
theorem en_share {w : Int} {l : List TSpring} (h : Spr l) : enR (shareQ w l) l = energyR w l := by
  have hK := K_pos h
  have gen : ∀ (r : Rat) (l : List TSpring), (∀ x ∈ l, 1 ≤ x.stiff) → enR (l.map fun x => (x.stiff : Rat) * r) l = (stiffI l : Rat) * (r * r / 2) := by
    intro r l hk
    induction l with
    | nil => simp [enR, stiffI, sumTo]
    | cons x l ih =>
      have e : stiffI (x :: l) = x.stiff + stiffI l := sumL_cons _ x l
      have ih := ih fun y hy => hk y (List.mem_cons_of_mem _ hy)
      have hx := cast_pos (show 0 < x.stiff by have := hk x List.mem_cons_self; omega)
      simp only [List.map_cons, enR, ih, e, Rat.intCast_add, Rat.intCast_mul]
      have h2 : ((2 : Int) : Rat) = 2 := rfl
      rw [h2]
      have h3 : (2 * (x.stiff : Rat)) ≠ 0 := by grind
      have h4 : (x.stiff : Rat) * r * ((x.stiff : Rat) * r) / (2 * (x.stiff : Rat)) = (x.stiff : Rat) * (r * r / 2) := by
        have h5 : (x.stiff : Rat) * r * ((x.stiff : Rat) * r) / (2 * (x.stiff : Rat)) * (2 * (x.stiff : Rat)) = (x.stiff : Rat) * r * ((x.stiff : Rat) * r) := Rat.div_mul_cancel h3
        have h6 : (x.stiff : Rat) * (r * r / 2) * (2 * (x.stiff : Rat)) = (x.stiff : Rat) * r * ((x.stiff : Rat) * r) := by grind
        have h7 := Rat.mul_inv_cancel _ h3
        grind
      rw [h4]
      grind
  unfold shareQ
  rw [gen _ l h.k1]
  unfold energyR
  have hk := cast_pos hK.1
  have hr : shareR w l * (stiffI l : Rat) = (w : Rat) := div_mul' hK.1
  have h3 : ((2 * stiffI l : Int) : Rat) ≠ 0 := by
    rw [Rat.intCast_mul]
    have h2 : ((2 : Int) : Rat) = 2 := rfl
    grind
  have h5 : ((w * w : Int) : Rat) / ((2 * stiffI l : Int) : Rat) * ((2 * stiffI l : Int) : Rat) = ((w * w : Int) : Rat) := Rat.div_mul_cancel h3
  rw [Rat.intCast_mul, Rat.intCast_mul] at *
  have h2 : ((2 : Int) : Rat) = 2 := rfl
  rw [h2] at *
  have h7 := Rat.mul_inv_cancel _ h3
  rw [← hr] at *
  generalize shareR w l = r at *
  generalize (stiffI l : Rat) = K at *
  have h6 : K * (r * r / 2) * (2 * K) = r * K * (r * K) := by grind
  grind
theorem sq_nonneg (t : Rat) : 0 ≤ t * t := by
  rcases Rat.le_total (a := 0) (b := t) with h | h
  · exact Rat.mul_nonneg h h
  · have := Rat.mul_nonneg (show 0 ≤ -t by grind) (show 0 ≤ -t by grind)
    grind
/-- Moving some weight from one spring to another one. -/
theorem move_law {k k' : Int} (h : 1 ≤ k) (h' : 1 ≤ k') (r t : Rat) :
    0 ≤ -((k : Rat) * r * ((k : Rat) * r) / ((2 * k : Int) : Rat)) + (((k : Rat) * r + t) * ((k : Rat) * r + t) / ((2 * k : Int) : Rat)) - ((k' : Rat) * r * ((k' : Rat) * r) / ((2 * k' : Int) : Rat)) + (((k' : Rat) * r - t) * ((k' : Rat) * r - t) / ((2 * k' : Int) : Rat)) := by
  have h1 := cast_pos (show 0 < k by omega)
  have h2 := cast_pos (show 0 < k' by omega)
  have c2 : ((2 : Int) : Rat) = 2 := rfl
  rw [Rat.intCast_mul, Rat.intCast_mul, c2]
  generalize (k : Rat) = a at *
  generalize (k' : Rat) = b at *
  have ha : a * a⁻¹ = 1 := Rat.mul_inv_cancel _ (by grind)
  have hb : b * b⁻¹ = 1 := Rat.mul_inv_cancel _ (by grind)
  have ia : (0 : Rat) < a⁻¹ := Rat.inv_pos.2 h1
  have ib : (0 : Rat) < b⁻¹ := Rat.inv_pos.2 h2
  have e1 : (2 * a)⁻¹ = a⁻¹ / 2 := by
    have h3 : (2 * a) * (2 * a)⁻¹ = 1 := Rat.mul_inv_cancel _ (by grind)
    grind
  have e2 : (2 * b)⁻¹ = b⁻¹ / 2 := by
    have h3 : (2 * b) * (2 * b)⁻¹ = 1 := Rat.mul_inv_cancel _ (by grind)
    grind
  simp only [Rat.div_def (b := 2 * a), Rat.div_def (b := 2 * b), e1, e2]
  have s1 := Rat.mul_nonneg (sq_nonneg t) (Rat.le_of_lt ia)
  have s2 := Rat.mul_nonneg (sq_nonneg t) (Rat.le_of_lt ib)
  have key : -(a * r * (a * r) * (a⁻¹ / 2)) + ((a * r + t) * (a * r + t) * (a⁻¹ / 2)) - (b * r * (b * r) * (b⁻¹ / 2)) + ((b * r - t) * (b * r - t) * (b⁻¹ / 2)) = t * t * a⁻¹ / 2 + t * t * b⁻¹ / 2 := by grind
  rw [key]
  grind
theorem cl_frac (l : List TFrac) (h : l.length ≤ 2147483648) : F_slices_Clone_api_Frac l = some l := by unfold F_slices_Clone_api_Frac; rw [if_pos (by simpa using h)]; rfl
theorem wf_i16 {n : Int} (h : (Lit.int .i16 n).wf = true) : -32768 ≤ n ∧ n ≤ 32767 := by
  unfold Lit.wf at h
  simpa [IntKind.min, IntKind.max, IntKind.signed, IntKind.bits] using h
theorem main_ElasticLeast (x0 : Int) (x1 : List TSpring) (x2 : Int) (x3 : Int) (x4 : Int) (w0 : W_int x0) (w1 : W_l_Spring x1) (w2 : W_u8 x2) (w3 : W_u8 x3) (w4 : W_i16 x4) : F_law17_ElasticLeast x0 x1 x2 x3 x4 = some true := by
  unfold F_law17_ElasticLeast
  rw [awake17, f_large]
  simp only [Option.bind_some, Bool.not_true, cond_false]
  cases hL : largeB x1 with
  | true => rfl
  | false =>
    obtain ⟨hl, hn⟩ := large_ok hL
    obtain ⟨e1, f1⟩ := f_share (w := x0) hl hn
    obtain ⟨e2, f2⟩ := f_energy (w := x0) hl hn
    simp only [cond_false]
    by_cases h : givenP x0 x1 = 0
    · obtain ⟨hs, _, a0, a1⟩ := given_ok h
      have n1 := hs.n1
      have f1 := f1 h
      have hk : ∀ x ∈ x1, 1 ≤ x.stiff ∧ x.stiff ≤ 10000 := fun x hx => ⟨hs.k1 x hx, hs.k2 x hx⟩
      have hsl : (shareQ x0 x1).length = x1.length := by simp [shareQ]
      obtain ⟨i0, i1⟩ := wf_u8 w2
      obtain ⟨j0, j1⟩ := wf_u8 w3
      obtain ⟨t0, t1⟩ := wf_i16 w4
      rw [if_pos h] at e1 e2
      rw [e1, e2]
      simp only [Option.bind_some, bne_self_eq_false, cond_false]
      obtain ⟨r, er, hr⟩ := least_1 (Y := shareQ x0 x1) hk hl hsl f1
      rw [er]
      simp only [Option.bind_some]
      cases hr2 : r.2 with
      | false => rfl
      | true =>
        obtain ⟨g1, g2⟩ := hr hr2
        rw [en_share hs] at g1 g2
        rw [g2]
        simp only [Bool.not_true, cond_false, feq_same]
        rw [if_neg (by omega), if_neg (by omega), cl_frac _ (by rw [List.length_map, hsl]; omega)]
        simp only [Option.bind_some]
        rw [wrap64 (n := x2) (by omega) (by omega), wrap64 (n := x3) (by omega) (by omega), wrap64 (n := x4) (by omega) (by omega)]
        obtain ⟨a, ha, hal⟩ : ∃ i : Nat, x2.tmod ((x1.length : Nat) : Int) = (i : Int) ∧ i < x1.length := by
          obtain ⟨k, rfl⟩ := Int.eq_ofNat_of_zero_le i0
          exact ⟨k % x1.length, rfl, Nat.mod_lt _ (by omega)⟩
        obtain ⟨b, hb, hbl⟩ : ∃ i : Nat, x3.tmod ((x1.length : Nat) : Int) = (i : Int) ∧ i < x1.length := by
          obtain ⟨k, rfl⟩ := Int.eq_ofNat_of_zero_le j0
          exact ⟨k % x1.length, rfl, Nat.mod_lt _ (by omega)⟩
        rw [ha, hb]
        have haM : a < ((shareQ x0 x1).map fracQ).length := by rw [List.length_map, hsl]; exact hal
        have haS : a < (shareQ x0 x1).length := by rw [hsl]; exact hal
        have ft : fitQ (x4 : Rat) := fit_int (by omega)
        have fa := f1 _ (List.getElem_mem haS)
        simp only [idx_at haM, Int.toNat_natCast, List.getElem?_eq_getElem haM, Option.bind_some, List.getElem_map, f_int]
        rw [← frac_int, radd_fit fa ft]
        simp only [Option.bind_some]
        cases hc1 : ((outQ ((shareQ x0 x1)[a] + (x4 : Rat))).2 != 0) with
        | true => rfl
        | false =>
          obtain ⟨g3, g4⟩ := out_err hc1
          rw [g4]
          simp only [cond_false]
          rw [← List.map_set]
          have hfy : ∀ q ∈ (shareQ x0 x1).set a ((shareQ x0 x1)[a] + (x4 : Rat)), fitQ q := by
            intro q hq
            rcases List.mem_or_eq_of_mem_set hq with h | h
            · exact f1 q h
            · rw [h]; exact g3
          have hyl : ((shareQ x0 x1).set a ((shareQ x0 x1)[a] + (x4 : Rat))).length = x1.length := by rw [List.length_set, hsl]
          generalize hY : (shareQ x0 x1).set a ((shareQ x0 x1)[a] + (x4 : Rat)) = Y at *
          have hbM : b < (Y.map fracQ).length := by rw [List.length_map, hyl]; exact hbl
          have hbS : b < Y.length := by rw [hyl]; exact hbl
          have fb := hfy _ (List.getElem_mem hbS)
          simp only [idx_at hbM, List.getElem?_eq_getElem hbM, Option.bind_some, List.getElem_map]
          rw [rsub_fit fb ft]
          simp only [Option.bind_some]
          cases hc2 : ((outQ (Y[b] - (x4 : Rat))).2 != 0) with
          | true => rfl
          | false =>
            obtain ⟨g5, g6⟩ := out_err hc2
            rw [g6]
            simp only [cond_false]
            rw [← List.map_set]
            obtain ⟨r', er', hr'⟩ := least_1 (Y := Y.set b (Y[b] - (x4 : Rat))) hk hl (by rw [List.length_set, hyl]) (by
              intro q hq
              rcases List.mem_or_eq_of_mem_set hq with h | h
              · exact hfy q h
              · rw [h]; exact g5)
            rw [er']
            simp only [Option.bind_some]
            cases hr2' : r'.2 with
            | false => rfl
            | true =>
              obtain ⟨g7, g8⟩ := hr' hr2'
              rw [g8]
              simp only [Bool.not_true, cond_false]
              rw [gcmp_fit g1 g7]
              have hle : energyR x0 x1 ≤ enR (Y.set b (Y[b] - (x4 : Rat))) x1 := by
                rw [en_set Y x1 b _ hbS hbl]
                have e3 : enR Y x1 = energyR x0 x1 - (shareQ x0 x1)[a] * (shareQ x0 x1)[a] / ((2 * x1[a].stiff : Int) : Rat) + ((shareQ x0 x1)[a] + (x4 : Rat)) * ((shareQ x0 x1)[a] + (x4 : Rat)) / ((2 * x1[a].stiff : Int) : Rat) := by
                  rw [← hY, en_set _ x1 a _ haS hal, en_share hs]
                have e4 : (shareQ x0 x1)[a] = (x1[a].stiff : Rat) * shareR x0 x1 := by simp [shareQ]
                rw [e3, e4]
                by_cases hab : a = b
                · subst hab
                  have e5 : Y[a] = (x1[a].stiff : Rat) * shareR x0 x1 + (x4 : Rat) := by
                    simp only [← hY, List.getElem_set_self]
                    rw [e4]
                  rw [e5, show (x1[a].stiff : Rat) * shareR x0 x1 + (x4 : Rat) - (x4 : Rat) = (x1[a].stiff : Rat) * shareR x0 x1 from by grind]
                  generalize (x1[a].stiff : Rat) * shareR x0 x1 = A
                  generalize A * A / ((2 * x1[a].stiff : Int) : Rat) = u
                  generalize (A + (x4 : Rat)) * (A + (x4 : Rat)) / ((2 * x1[a].stiff : Int) : Rat) = v
                  grind
                · have e5 : Y[b] = (x1[b].stiff : Rat) * shareR x0 x1 := by
                    simp only [← hY]
                    rw [List.getElem_set_ne hab]
                    simp [shareQ]
                  rw [e5]
                  have := move_law (hk _ (List.getElem_mem hal)).1 (hk _ (List.getElem_mem hbl)).1 (shareR x0 x1) (x4 : Rat)
                  grind
              simp only [Option.bind_some]
              congr 1
              apply decide_eq_true
              split
              · omega
              · rw [if_neg (Rat.not_lt.2 hle)]; omega
    · rw [if_neg h] at e1 e2
      rw [e1, e2]
      simp only [Option.bind_some]
      rw [show (givenP x0 x1 != 0) = true from by simp [h]]
      simp
end Go.Proofs.Ytkphcdficpfcnaa

/- Turning a row round, as the library does it. -/
namespace Go.Proofs.Ytkphcdficpfcnaa
set_option linter.unusedVariables false

theorem at_some' {α : Type} {l : List α} {k : Nat} (h : k < l.length) : l[Int.toNat (k : Int)]? = some l[k] := by
  rw [Int.toNat_natCast, List.getElem?_eq_getElem h]
theorem iter_revL {α : Type} (l : List α) (hl : l.length ≤ 2147483648) :
    (iterF (σ := Int × Int × List α × Unit) (ρ := List α × Unit) (fun s61 => (bif (decide (s61.1 < s61.2.1)) then (idx s61.2.2.1 s61.2.1).bind fun _x62 => (s61.2.2.1[(Int.toNat s61.2.1)]?).bind fun x63 => (idx s61.2.2.1 s61.1).bind fun _x64 => (s61.2.2.1[(Int.toNat s61.1)]?).bind fun x65 => (idx s61.2.2.1 s61.1).bind fun _x66 => (s61.2.2.1[(Int.toNat s61.1)]?).bind fun x67 => (idx (s61.2.2.1.set (Int.toNat s61.1) x63) s61.2.1).bind fun _x68 => ((s61.2.2.1.set (Int.toNat s61.1) x63)[(Int.toNat s61.2.1)]?).bind fun x69 => some (.inl ((IntKind.i64.wrap (s61.1 + 1)), (IntKind.i64.wrap (s61.2.1 - 1)), ((s61.2.2.1.set (Int.toNat s61.1) x63).set (Int.toNat s61.2.1) x65), ())) else some (.inr (s61.2.2.1, ())))) big (0, (IntKind.i64.wrap (((l.length : Nat) : Int) - 1)), l, ())) = some (l.reverse, ()) := by
  rw [wrap64 (by omega) (by omega)]
  obtain ⟨r, g1, g2⟩ := iter_inv (F := fun s61 : Int × Int × List α × Unit => (bif (decide (s61.1 < s61.2.1)) then (idx s61.2.2.1 s61.2.1).bind fun _x62 => (s61.2.2.1[(Int.toNat s61.2.1)]?).bind fun x63 => (idx s61.2.2.1 s61.1).bind fun _x64 => (s61.2.2.1[(Int.toNat s61.1)]?).bind fun x65 => (idx s61.2.2.1 s61.1).bind fun _x66 => (s61.2.2.1[(Int.toNat s61.1)]?).bind fun x67 => (idx (s61.2.2.1.set (Int.toNat s61.1) x63) s61.2.1).bind fun _x68 => ((s61.2.2.1.set (Int.toNat s61.1) x63)[(Int.toNat s61.2.1)]?).bind fun x69 => some (.inl ((IntKind.i64.wrap (s61.1 + 1)), (IntKind.i64.wrap (s61.2.1 - 1)), ((s61.2.2.1.set (Int.toNat s61.1) x63).set (Int.toNat s61.2.1) x65), ())) else some (.inr (s61.2.2.1, ())) : Option ((Int × Int × List α × Unit) ⊕ (List α × Unit))))
    (Q := fun r => r = (l.reverse, ())) (fun k s => ∃ t : List α, s = ((k : Int), (l.length : Int) - 1 - (k : Int), t, ()) ∧ t.length = l.length ∧ ∀ i, i < l.length → t[i]? = if i < k ∨ l.length ≤ i + k then l[l.length - 1 - i]? else l[i]?) l.length (by unfold big; omega) (fun k s hk hs => by
      obtain ⟨t, rfl, ht, hg⟩ := hs
      by_cases hlt : (k : Int) < (l.length : Int) - 1 - (k : Int)
      · have hj : ∃ j : Nat, (l.length : Int) - 1 - (k : Int) = (j : Int) ∧ j = l.length - 1 - k := ⟨l.length - 1 - k, by omega, rfl⟩
        obtain ⟨j, ej, hj⟩ := hj
        rw [ej] at hlt ⊢
        have hkt : k < t.length := by omega
        have hjt : j < t.length := by omega
        have hk2 : k < (t.set k t[j]).length := by rw [List.length_set]; exact hkt
        have hj2 : j < (t.set k t[j]).length := by rw [List.length_set]; exact hjt
        refine .inl ⟨((k : Int) + 1, (j : Int) - 1, (t.set k t[j]).set j t[k], ()), ?_, by omega, (t.set k t[j]).set j t[k], ?_, ?_, ?_⟩
        · simp only [decide_eq_true hlt, cond_true, idx_at hkt, idx_at hjt, Option.bind_some, Int.toNat_natCast, List.getElem?_eq_getElem hkt, List.getElem?_eq_getElem hjt, idx_at hj2, List.getElem?_eq_getElem hj2]
          rw [wrap64 (by omega) (by omega), wrap64 (by omega) (by omega)]
        · congr 1
          · congr 1; omega
        · simp [ht]
        · intro i hi
          have h1 := hg i hi
          rw [List.getElem?_set, List.length_set]
          by_cases e1 : j = i
          · subst e1
            have h2 := hg k (by omega)
            rw [if_pos rfl, if_pos hjt, if_pos (by omega), ← List.getElem?_eq_getElem hkt, h2, if_neg (by omega)]
            congr 1; omega
          · rw [if_neg e1, List.getElem?_set]
            by_cases e2 : k = i
            · subst e2
              have h2 := hg j (by omega)
              rw [if_pos rfl, if_pos hkt, if_pos (by omega), ← List.getElem?_eq_getElem hjt, h2, if_neg (by omega), hj]
            · rw [if_neg e2, h1]
              by_cases c : i < k ∨ l.length ≤ i + k
              · rw [if_pos c, if_pos (by omega)]
              · rw [if_neg c, if_neg (by omega)]
      · refine .inr ⟨(t, ()), by simp only [decide_eq_false hlt, cond_false], ?_⟩
        congr 1
        apply List.ext_getElem?
        intro i
        by_cases hi : i < l.length
        · rw [hg i hi, List.getElem?_reverse hi]
          by_cases c : i < k ∨ l.length ≤ i + k
          · rw [if_pos c]
          · rw [if_neg c]
            congr 1; omega
        · rw [List.getElem?_eq_none (by omega), List.getElem?_eq_none (by simp; omega)]) (s := (0, (l.length : Int) - 1, l, ())) ⟨l, by simp, rfl, fun i hi => by rw [if_neg (by omega)]⟩
  subst g2
  exact g1
end Go.Proofs.Ytkphcdficpfcnaa

/- ElasticSeries. -/
namespace Go.Proofs.Ytkphcdficpfcnaa
set_option linter.unusedVariables false
set_option linter.unusedSimpArgs false

def invR : List TSpring → Rat
  | [] => 0
  | x :: l => 1 / (x.stiff : Rat) + invR l
theorem ser_eq : ∀ (l : List TSpring) (q r : Rat), serL l q = some r → r = q + invR l
  | [], q, r, h => by cases h; simp only [invR]; grind
  | x :: l, q, r, h => by
    unfold serL at h
    split at h
    · have := ser_eq l _ r h
      simp only [invR]
      grind
    · cases h
theorem inv_append (a b : List TSpring) : invR (a ++ b) = invR a + invR b := by
  induction a with
  | nil => simp only [List.nil_append, invR]; grind
  | cons x a ih => simp only [List.cons_append, invR, ih]; grind
theorem inv_rev (l : List TSpring) : invR l.reverse = invR l := by
  induction l with
  | nil => rfl
  | cons x l ih => simp only [List.reverse_cons, inv_append, invR, ih]; grind
theorem inv_nonneg : ∀ l : List TSpring, (∀ x ∈ l, 1 ≤ x.stiff) → 0 ≤ invR l
  | [], _ => Rat.le_refl
  | x :: l, h => by
    have h1 := inv_nonneg l fun y hy => h y (List.mem_cons_of_mem _ hy)
    have h2 := inv_pos' (h x List.mem_cons_self)
    simp only [invR]
    grind
theorem inv_pos : ∀ l : List TSpring, (∀ x ∈ l, 1 ≤ x.stiff) → l ≠ [] → 0 < invR l
  | [], _, h => absurd rfl h
  | x :: l, h, _ => by
    have h1 := inv_nonneg l fun y hy => h y (List.mem_cons_of_mem _ hy)
    have h2 := inv_pos' (h x List.mem_cons_self)
    simp only [invR]
    grind
theorem inv_ge {l : List TSpring} (h : ∀ x ∈ l, 1 ≤ x.stiff) {k : Nat} (hk : k < l.length) : 1 / (l[k].stiff : Rat) ≤ invR l ∧ (1 < l.length → 1 / (l[k].stiff : Rat) < invR l) := by
  have hs := self_split hk
  have hA : ∀ x ∈ l.take k, 1 ≤ x.stiff := fun x hx => h x (List.mem_of_mem_take hx)
  have hB : ∀ x ∈ l.drop (k + 1), 1 ≤ x.stiff := fun x hx => h x (List.mem_of_mem_drop hx)
  have e : invR l = invR (l.take k) + (1 / (l[k].stiff : Rat) + invR (l.drop (k + 1))) := by
    conv => lhs; rw [hs]
    rw [inv_append]
    rfl
  have a1 := inv_nonneg _ hA
  have a2 := inv_nonneg _ hB
  refine ⟨by grind, fun hl => ?_⟩
  rcases Nat.eq_zero_or_pos k with h0 | h0
  · have := inv_pos _ hB (by intro h'; have := congrArg List.length h'; rw [List.length_drop, List.length_nil] at this; omega)
    grind
  · have := inv_pos _ hA (by intro h'; have := congrArg List.length h'; rw [List.length_take, List.length_nil] at this; omega)
    grind
theorem series_res {l : List TSpring} (hl : l.length ≤ 14) (hn : ∀ x ∈ l, x.name.size ≤ 60) : ∃ r, F_elastic_Series l = some r ∧ (((r.2 != 0) = true ∧ r.1 = ⟨0, 0⟩) ∨ ((r.2 != 0) = false ∧ springsB l = true ∧ 0 < invR l ∧ fitQ (1 / invR l) ∧ r.1 = fracQ (1 / invR l))) := by
  refine ⟨_, f_series hl hn, ?_⟩
  cases hv : springsB l with
  | false => exact .inl ⟨rfl, rfl⟩
  | true =>
    have hs := Spr.of hv
    rw [if_pos rfl]
    unfold serP
    cases hr : serL l 0 with
    | none => exact .inl ⟨rfl, rfl⟩
    | some r =>
      have e := ser_eq l 0 r hr
      have e2 : r = invR l := by grind
      have hp := inv_pos l hs.k1 (by intro h; have := hs.n1; rw [h] at this; simp at this)
      dsimp only
      rw [e2]
      by_cases hf : fitQ (1 / invR l)
      · rw [out_fit hf]
        exact .inr ⟨rfl, rfl, hp, hf, rfl⟩
      · rw [out_big hf]
        exact .inl ⟨rfl, rfl⟩
theorem spr_one {l : List TSpring} (h : springsB l = true) {x : TSpring} (hx : x ∈ l) : springsB [x] = true := by
  have h1 := pairs_one (Bool.and_eq_true _ _ ▸ h : _ ∧ _).2 x hx
  unfold springsB
  have h2 : pairsB springB (fun x y => !sameName x.name y.name) [x] = true := by
    rw [pairs_iff]
    intro i hi
    have : i = 0 := by simpa using hi
    subst this
    exact ⟨h1, fun k hk => by omega⟩
  rw [h2]
  rfl
theorem div_fit {a b : Rat} (ha : fitQ a) (hb : fitQ b) (h0 : (fracQ b).num ≠ 0) : F_ratio_Div (fracQ a) (fracQ b) = some (outQ (a / b)) := by
  rw [f_rdiv (rv_frac ha).1 (rv_frac hb).1, (rv_frac ha).2, (rv_frac hb).2, if_neg h0]
theorem inv_inv' {q : Rat} (h : 0 < q) (w : Rat) : w / (1 / q) = w * q := by
  have h1 : q * q⁻¹ = 1 := Rat.mul_inv_cancel _ (by grind)
  have h2 : (0 : Rat) < q⁻¹ := Rat.inv_pos.2 h
  have h3 : q⁻¹ * (q⁻¹)⁻¹ = 1 := Rat.mul_inv_cancel _ (by grind)
  rw [Rat.div_def 1 q, Rat.one_mul, Rat.div_def]
  grind
theorem main_ElasticSeries (x0 : Int) (x1 : List TSpring) (w0 : W_int x0) (w1 : W_l_Spring x1) : F_law17_ElasticSeries x0 x1 = some true := by
  unfold F_law17_ElasticSeries
  rw [awake17, f_large]
  simp only [Option.bind_some, Bool.not_true, cond_false]
  cases hL : largeB x1 with
  | true => rfl
  | false =>
    obtain ⟨hl, hn⟩ := large_ok hL
    simp only [cond_false]
    obtain ⟨r, e1, h1⟩ := series_res hl hn
    obtain ⟨t, e2, h2⟩ := series_res (l := x1.reverse) (by rw [List.length_reverse]; omega) (fun x hx => hn x (List.mem_reverse.1 hx))
    rw [e1, cl_spring x1 (by omega)]
    simp only [Option.bind_some]
    rw [iter_revL x1 (by omega)]
    simp only [Option.bind_some]
    rw [e2]
    simp only [Option.bind_some]
    have hz : ∀ f : TFrac, f = ⟨0, 0⟩ → ((f.num == 0) && (f.den == 0)) = true := by rintro f rfl; rfl
    rcases h1 with ⟨a1, a2⟩ | ⟨a1, hv, hq, hf, a2⟩
    · rw [a1]
      simp only [cond_true, Option.bind_some]
      rw [show (r.2 == 0) = false from by simpa using a1, hz _ a2]
      simp only [cond_false, cond_true]
      rcases h2 with ⟨b1, b2⟩ | ⟨b1, _⟩
      · rw [hz _ b2]; cases (t.2 == 0) <;> rfl
      · rw [show (t.2 == 0) = true from by simpa using b1]; rfl
    · rw [a1]
      simp only [cond_false, Option.bind_some]
      rcases h2 with ⟨b1, b2⟩ | ⟨b1, _, _, _, b2⟩
      · rw [b1]
        simp only [cond_true, Option.bind_some]
        rw [show (r.2 == 0) = true from by simpa using a1, hz _ b2]
        simp only [cond_true]
        cases (t.2 == 0) <;> rfl
      · rw [b1]
        simp only [cond_false, Option.bind_some]
        rw [inv_rev] at b2
        rw [a2, b2]
        simp only [feq_same, Bool.not_true, cond_false, Option.bind_some]
        have hs := Spr.of hv
        have n1 := hs.n1
        have hsp : (0 : Rat) < 1 / invR x1 := by rw [Rat.div_def, Rat.one_mul]; exact Rat.inv_pos.2 hq
        have hnum := frac_num_pos hsp
        rw [decide_eq_false (show ¬ (fracQ (1 / invR x1)).num ≤ 0 by omega)]
        simp only [cond_false]
        refine bindT (T := fun o => o = some true) (Q := fun R : (Bool × TFrac × Unit) ⊕ (Bool × TFrac × Unit) => (∃ z, R = .inl (true, z, ())) ∨ ∃ b z, R = .inr (b, z, ()) ∧ (0 ≤ x0 ∧ x0 ≤ 67108864) ∧ (b = true → z = fracQ ((x0 : Rat) * invR x1) ∧ fitQ ((x0 : Rat) * invR x1))) ?_ ?_
        · refine iter_run_inv (fun k s => k ≤ x1.length ∧ (0 < k → 0 ≤ x0 ∧ x0 ≤ 67108864) ∧ ∃ b z, s = (b, (k : Int), z, ()) ∧ (b = true → z = fracQ ((x0 : Rat) * invR (x1.take k)) ∧ fitQ ((x0 : Rat) * invR (x1.take k)))) x1.length (by unfold big; omega) ?_ ⟨by omega, by omega, true, _, rfl, fun _ => ?_⟩
          · rintro k s ⟨hk, hw, b, z, rfl, hb⟩
            dsimp only
            by_cases hlt : k < x1.length
            · have hx := List.getElem_mem hlt
              have k1 := hs.k1 _ hx
              have k2 := hs.k2 _ hx
              obtain ⟨g1, g2⟩ := inv_ge hs.k1 hlt
              rw [lt_yes hlt, idx_at hlt]
              simp only [cond_true, Option.bind_some, f_int]
              rw [← frac_int, rcmp_fit hf (fit_int (by omega))]
              simp only [Option.bind_some, bne_self_eq_false, cond_false]
              have hkq := cast_pos (show 0 < x1[k].stiff by omega)
              have i1 : (x1[k].stiff : Rat) * (1 / (x1[k].stiff : Rat)) = 1 := by
                rw [Rat.div_def, Rat.one_mul]; exact Rat.mul_inv_cancel _ (by grind)
              have i2 : invR x1 * (1 / invR x1) = 1 := by
                rw [Rat.div_def, Rat.one_mul]; exact Rat.mul_inv_cancel _ (by grind)
              have c1 : ¬ (x1[k].stiff : Rat) < 1 / invR x1 := by
                intro hc
                have h3 := Rat.mul_lt_mul_of_pos_right hc hq
                have h4 := Rat.mul_le_mul_of_nonneg_left g1 (Rat.le_of_lt hkq)
                grind
              have c2 : 1 < x1.length → 1 / invR x1 < (x1[k].stiff : Rat) := by
                intro hl1
                have h5 := g2 hl1
                refine Classical.byContradiction fun hc => ?_
                have h6 := Rat.mul_le_mul_of_nonneg_right (Rat.not_lt.1 hc) (Rat.le_of_lt hq)
                have h7 := Rat.mul_lt_mul_of_pos_left h5 hkq
                grind
              have hjoin : (((bif (decide ((if (1 / invR x1) < (x1[k].stiff : Rat) then (-1 : Int) else if (x1[k].stiff : Rat) < 1 / invR x1 then 1 else 0) > 0)) then some (true, ()) else (bif ((if (1 / invR x1) < (x1[k].stiff : Rat) then (-1 : Int) else if (x1[k].stiff : Rat) < 1 / invR x1 then 1 else 0) == 0) then some ((decide (((x1.length : Nat) : Int) > 1)), ()) else some (false, ()))) : Option (Bool × Unit))) = some (false, ()) := by
                rw [if_neg (c := (x1[k].stiff : Rat) < 1 / invR x1) c1]
                by_cases hc : 1 / invR x1 < (x1[k].stiff : Rat)
                · rw [if_pos hc]; rfl
                · rw [if_neg hc]
                  have : ¬ 1 < x1.length := fun h => hc (c2 h)
                  rw [decide_eq_false (show ¬ ((x1.length : Nat) : Int) > 1 by omega)]
                  rfl
              rw [hjoin]
              simp only [Option.bind_some, cond_false]
              obtain ⟨e3, f3⟩ := f_stretch (w := x0) (l := [x1[k]]) (by simp) (fun x hx' => by rw [List.mem_singleton.1 hx']; exact hn _ hx)
              rw [e3]
              have hone := spr_one hv hx
              by_cases hg : givenP x0 [x1[k]] = 0
              · have f3 := f3 hg
                obtain ⟨_, _, q0, q1⟩ := given_ok hg
                rw [if_pos hg]
                simp only [Option.bind_some, bne_self_eq_false, cond_false]
                have hsh : shareR x0 [x1[k]] = (x0 : Rat) * (1 / (x1[k].stiff : Rat)) := by
                  have : stiffI [x1[k]] = x1[k].stiff := by simp [stiffI, sumTo]
                  unfold shareR
                  rw [this, Rat.div_def, Rat.div_def, Rat.one_mul]
                have hnext : invR (x1.take (k + 1)) = invR (x1.take k) + 1 / (x1[k].stiff : Rat) := by
                  rw [List.take_succ_eq_append_getElem hlt, inv_append]
                  simp only [invR]
                  grind
                cases b with
                | false =>
                  simp only [cond_false, Option.bind_some]
                  exact .inl ⟨_, rfl, hlt, hlt, fun _ => ⟨q0, q1⟩, false, _, by rw [wrap64 (by omega) (by omega)]; rfl, fun h => by cases h⟩
                | true =>
                  obtain ⟨rfl, hfw⟩ := hb rfl
                  simp only [cond_true]
                  rw [radd_fit hfw f3, hsh, ← Rat.mul_add, ← hnext]
                  simp only [Option.bind_some]
                  refine .inl ⟨_, rfl, hlt, hlt, fun _ => ⟨q0, q1⟩, _, _, by rw [wrap64 (by omega) (by omega)]; rfl, fun h => ?_⟩
                  obtain ⟨y1, y2⟩ := out_err (q := (x0 : Rat) * invR (x1.take (k + 1))) (by simpa using h)
                  rw [y2]
                  exact ⟨rfl, y1⟩
              · have hg2 : givenP x0 [x1[k]] = 2 := by
                  unfold givenP at *
                  rw [hone] at *
                  simp only [Bool.not_true, cond_false] at *
                  cases hd : decide (0 ≤ x0 ∧ x0 ≤ 67108864) with
                  | true => rw [hd] at hg; exact absurd rfl hg
                  | false => rfl
                rw [if_neg hg, hg2]
                exact .inr ⟨_, rfl, .inl ⟨_, rfl⟩⟩
            · obtain rfl : k = x1.length := by omega
              rw [lt_no, cond_false]
              rw [List.take_length] at hb
              exact .inr ⟨_, rfl, .inr ⟨b, z, rfl, hw (by omega), hb⟩⟩
          · simp only [List.take_zero, invR, Rat.mul_zero]
            exact ⟨rfl, fit_zero⟩
        · rintro R (⟨z, rfl⟩ | ⟨b, z, rfl, hw, hb⟩)
          · rfl
          · dsimp only
            rw [f_int]
            simp only [Option.bind_some]
            rw [← frac_int, div_fit (fit_int (by omega)) hf (by omega), inv_inv' hq]
            simp only [Option.bind_some]
            cases b with
            | false => rfl
            | true =>
              obtain ⟨rfl, hfw⟩ := hb rfl
              rw [out_fit hfw]
              simp
end Go.Proofs.Ytkphcdficpfcnaa
