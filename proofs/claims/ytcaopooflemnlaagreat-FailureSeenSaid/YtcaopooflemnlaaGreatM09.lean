/- Joined by merge.py: PlQ5, PlQ6, PlQ7, PlG1, PlRw, PlG2, PlG3, PlG4, PlG5, PlH1, PlJ1, PlQ8a, PlQ8b, PlH2, PlH3, PlH4, PlJ1b, PlT2, PlT4a, PlT4, PlJ1c, PlT5, PlT6, PlW1, PlW2, PlW3, PlW4, PlW5, PlW6, PlW7, PlW8. -/
import Derived.Test.YtcaopooflemnlaaGreatM08
/- The program's moments as rational numbers. -/
namespace Go.Proofs.YtcaopooflemnlaaGreat
set_option linter.unusedVariables false
set_option linter.unusedSimpArgs false

def rtB (b : TBeam) (i : Nat) : Rat := Rp b i - gp b (i - 1) * (pq (gp b) (Rp b) (fstQ b) (i - 1)).1
def mdB (b : TBeam) (i : Nat) : Rat := midQ (gp b) (Rp b) (fstQ b) (i - 1)
theorem pq_one (b : TBeam) (i : Nat) : (pq (gp b) (Rp b) (fstQ b) (i + 1)).1 = rtB b (i + 1) / mdB b (i + 1) ∧ (pq (gp b) (Rp b) (fstQ b) (i + 1)).2 = gp b (i + 1) / mdB b (i + 1) := ⟨rfl, rfl⟩
theorem md_pos {b : TBeam} (hs : SupOk b) {i : Nat} (h0 : 1 ≤ i) (h : i + 1 < b.supports.length) : 0 < mdB b i := by
 unfold mdB
 exact mid_pos (n := b.supports.length - 1) (fun j hj => gp_pos hs j (by omega)) (by omega)
theorem get_set {α : Type} {l : List α} {i j : Nat} {v : α} (hi : i < l.length) : (l.set i v)[j]? = if i = j then some v else l[j]? := by
 rw [List.getElem?_set]
 by_cases h : i = j
 ·subst h; rw [if_pos rfl, if_pos rfl, if_pos hi]
 ·rw [if_neg h, if_neg h]
theorem f_bgap {b : TBeam} (hb : BeamIn b) (hs : SupOk b) {i : Nat} (h : i + 1 < b.supports.length) : ∃ r, F_beam_whole (IntKind.i64.wrap (sp b (i + 1) - sp b i)) = some r ∧ Xq r (gp b i) 2 := by
 have h1 := sp_rg hs (i := i) (by omega)
 have h2 := sp_rg hs (i := i + 1) (by omega)
 have hl := hb.l1
 rw [wrap64 (by omega) (by omega)]
 exact f_whole _ (by omega) (by omega)
theorem idx_w {α : Type} {l : List α} {k : Nat} {z : Int} {x : α} (e : z = (k : Int)) (h : l[k]? = some x) : idx l z = some x := by subst e; exact idx_q h
theorem at_w {α : Type} {l : List α} {k : Nat} {z : Int} {x : α} (e : z = (k : Int)) (h : l[k]? = some x) : l[Int.toNat z]? = some x := by subst e; rw [Int.toNat_natCast]; exact h
def FwB (b : TBeam) (k : Nat) (D T : List Texact) : Prop := D.length = b.supports.length ∧ T.length = b.supports.length ∧ (∀ j, 1 ≤ j → j ≤ k → ∃ v, D[j]? = some v ∧ Xq v (mdB b j) (7 * j + 2)) ∧ ∀ j, 1 ≤ j → j ≤ k → ∃ v, T[j]? = some v ∧ Xq v (rtB b j) (1000 * (j + 1))
theorem fw_set {b : TBeam} {k : Nat} {D T : List Texact} (h : FwB b k D T) (hk : k + 1 < b.supports.length) {d t d0 t0 : Texact} (hd : Xq d (mdB b (k + 1)) (7 * (k + 1) + 2)) (ht : Xq t (rtB b (k + 1)) (1000 * (k + 1 + 1))) : FwB b (k + 1) ((D.set (k + 1) d0).set (k + 1) d) ((T.set (k + 1) t0).set (k + 1) t) := by
 obtain ⟨h1, h2, h3, h4⟩ := h
 refine ⟨by simp [h1], by simp [h2], fun j a c => ?_, fun j a c => ?_⟩
 ·rw [List.set_set, get_set (by omega)]
  rcases Decidable.em (k + 1 = j) with e | e
  ·subst e; rw [if_pos rfl]; exact ⟨d, rfl, hd⟩
  ·rw [if_neg e]; exact h3 j a (by omega)
 ·rw [List.set_set, get_set (by omega)]
  rcases Decidable.em (k + 1 = j) with e | e
  ·subst e; rw [if_pos rfl]; exact ⟨t, rfl, ht⟩
  ·rw [if_neg e]; exact h4 j a (by omega)
theorem fw_set1 {b : TBeam} {k : Nat} {D T : List Texact} (h : FwB b k D T) (hk : k + 1 < b.supports.length) {d t t0 : Texact} (hd : Xq d (mdB b (k + 1)) (7 * (k + 1) + 2)) (ht : Xq t (rtB b (k + 1)) (1000 * (k + 1 + 1))) : FwB b (k + 1) (D.set (k + 1) d) ((T.set (k + 1) t0).set (k + 1) t) := by
 have := fw_set h hk (d0 := d) (t0 := t0) hd ht
 rwa [List.set_set] at this
def BwB (b : TBeam) (m : Nat) (O : List Texact) : Prop := O.length = b.supports.length ∧ (∃ v, O[0]? = some v ∧ Xq v (momB b 0) 300) ∧ ∀ i, m < i → i < b.supports.length → ∃ v, O[i]? = some v ∧ Xq v (momB b i) (400 + (b.supports.length - 1 - i) * 10100)
set_option maxHeartbeats 2000000 in
theorem f_moments {b : TBeam} (hb : BeamIn b) (hs : SupOk b) : Gs (F_beam_moments b) fun r => (r.2 = true ↔ (b.supports.length = 1 → fstQ b = lstQ b)) ∧ (r.2 = true → r.1.length = b.supports.length ∧ ∀ i, i < b.supports.length → ∃ x, r.1[i]? = some x ∧ Xq x (momB b i) 82000) := by
 unfold F_beam_moments
 obtain ⟨x, x1, x2⟩ := f_bfirst hb hs
 obtain ⟨y, y1, y2⟩ := f_last hb hs
 have hl := hb.l1
 have hn1 := hs.n1
 have hn10 := hs.n10
 refine go x1 (go (f_turned hb hs) (go y1 ?_))
 rcases Decidable.em (b.supports.length = 1) with h1 | h1
 ·obtain ⟨z, z1, z2⟩ := f_eless x2 y2 (by omega) (by omega)
  obtain ⟨s, s1, s2, s3⟩ := f_sign z2.n
  refine gt (by rw [beq_iff_eq]; omega) (goo z1 (goo s1 (gs (gend ?_))))
  have hd : fstQ b - lstQ b = 0 ↔ fstQ b = lstQ b := by constructor <;> intro h <;> grind
  have ht : (s == 0) = true ↔ fstQ b = lstQ b := by rw [beq_iff_eq, s2, Rat.num_eq_zero, hd]
  refine ⟨?_, ?_⟩
  ·show (s == 0) = true ↔ _
   rw [ht]
   exact ⟨fun h _ => h, fun h => h h1⟩
  ·intro h
   have h := ht.1 h
   refine ⟨by show 1 = _; omega, fun i hi => ?_⟩
   have : i = 0 := by omega
   subst this
   refine ⟨x, rfl, (x2.mono (by omega)).cast ?_⟩
   rw [h]
   unfold momB
   rw [show (0 : Nat) = b.supports.length - 1 from by omega, mom_last]
 refine gf (by rw [beq_eq_false_iff_ne]; omega) (gif ⟨by omega, by omega⟩ ?_)
 obtain ⟨Z, hZ⟩ : ∃ Z, List.replicate (Int.toNat ((b.supports.length : Nat) : Int)) (⟨⟨false, []⟩, ⟨false, []⟩⟩ : Texact) = Z := ⟨_, rfl⟩
 have hZl : Z.length = b.supports.length := by rw [← hZ, List.length_replicate, Int.toNat_natCast]
 rw [hZ]
 have hw1 : IntKind.i64.wrap (((b.supports.length : Nat) : Int) - 1) = ((b.supports.length - 1 : Nat) : Int) := by rw [wrap64 (by omega) (by omega)]; omega
 have hw2 : IntKind.i64.wrap (((b.supports.length : Nat) : Int) - 2) = ((b.supports.length - 2 : Nat) : Int) := by rw [wrap64 (by omega) (by omega)]; omega
 have g1 : Z[0]? = some Z[0] := List.getElem?_eq_getElem _
 obtain ⟨q, g2⟩ : ∃ q, (Z.set 0 x)[b.supports.length - 1]? = some q := ⟨_, List.getElem?_eq_getElem (by simp; omega)⟩
 have ht0 : Int.toNat 0 = 0 := rfl
 rw [ht0]
 refine goo (idx_w (k := 0) rfl g1) (goo g1 (goo (idx_w hw1 g2) (goo (at_w hw1 g2) (gs ?_))))
 refine gbif ⟨by omega, by omega⟩ (gbif ⟨by omega, by omega⟩ (gs ?_))
 refine gloop (fun s : List Texact × List Texact × Unit => FwB b (b.supports.length - 2) s.1 s.2.1)
  (fun k s => ∃ D T, s = (((k + 1 : Nat) : Int), D, T, ()) ∧ k + 1 ≤ b.supports.length - 1 ∧ FwB b k D T)
  (b.supports.length - 2) (by unfold big; omega) ⟨Z, Z, rfl, by omega, hZl, hZl, fun j h2 h3 => by omega, fun j h2 h3 => by omega⟩ ?_ ?_
 ·rintro k s hk ⟨D, T, rfl, hk1, hF⟩
  rcases Nat.lt_or_ge (k + 1) (b.supports.length - 1) with hlt | hge
  ·obtain ⟨hDl, hTl, hD, hT⟩ := id hF
   have w1 : IntKind.i64.wrap (((k + 1 : Nat) : Int) - 1) = (k : Int) := by rw [wrap64 (by omega) (by omega)]; omega
   have w2 : IntKind.i64.wrap (((k + 1 : Nat) : Int) + 1) = ((k + 2 : Nat) : Int) := by rw [wrap64 (by omega) (by omega)]; omega
   have r0 := sp_rg hs (i := k) (by omega)
   have r1 := sp_rg hs (i := k + 1) (by omega)
   have r2 := sp_rg hs (i := k + 2) (by omega)
   have c0 : sp b k < sp b (k + 1) := hs.inc k (by omega)
   have c1 : sp b (k + 1) < sp b (k + 2) := hs.inc (k + 1) (by omega)
   have p0 := sp_get (b := b) (i := k) (by omega)
   have p1 := sp_get (b := b) (i := k + 1) (by omega)
   have p2 := sp_get (b := b) (i := k + 2) (by omega)
   have w3 : IntKind.i64.wrap (2 * IntKind.i64.wrap (IntKind.i64.wrap (sp b (k + 1) - sp b k) + IntKind.i64.wrap (sp b (k + 2) - sp b (k + 1)))) = 2 * ((sp b (k + 1) - sp b k) + (sp b (k + 2) - sp b (k + 1))) := by
    rw [wrap64 (n := sp b (k + 1) - sp b k) (by omega) (by omega), wrap64 (n := sp b (k + 2) - sp b (k + 1)) (by omega) (by omega), wrap64 (n := (sp b (k + 1) - sp b k) + (sp b (k + 2) - sp b (k + 1))) (by omega) (by omega), wrap64 (by omega) (by omega)]
   obtain ⟨dg0, d1, d2⟩ := f_whole (IntKind.i64.wrap (2 * IntKind.i64.wrap (IntKind.i64.wrap (sp b (k + 1) - sp b k) + IntKind.i64.wrap (sp b (k + 2) - sp b (k + 1))))) (by rw [w3]; omega) (by rw [w3]; omega)
   have d3 : Xq dg0 (2 * (gp b k + gp b (k + 1))) 2 := d2.cast (by rw [w3]; unfold gp; simp only [Rat.intCast_mul, Rat.intCast_add]; rfl)
   obtain ⟨z0, zz1, zz2⟩ := f_whole 0 (by omega) (by omega)
   obtain ⟨sa, sa1, sa2⟩ := f_side hb (fr := sp b k) (to := sp b (k + 1)) true r0.1 c0 r1.2
   obtain ⟨sb, sb1, sb2⟩ := f_side hb (fr := sp b (k + 1)) (to := sp b (k + 2)) false r1.1 c1 r2.2
   obtain ⟨u1, u11, u12⟩ := f_eless zz2 sa2 (by omega) (by omega)
   obtain ⟨u2, u21, u22⟩ := f_eless u12 sb2 (by omega) (by omega)
   have u3 : Xq u2 (Rp b (k + 1)) 804 := u22.cast rfl
   obtain ⟨qd, qd1⟩ : ∃ q, D[k + 1]? = some q := ⟨_, List.getElem?_eq_getElem (by omega)⟩
   obtain ⟨qt, qt1⟩ : ∃ q, T[k + 1]? = some q := ⟨_, List.getElem?_eq_getElem (by omega)⟩
   refine gt (decide_eq_true (by show ((k + 1 : Nat) : Int) < IntKind.i64.wrap _; rw [hw1]; omega)) ?_
   refine goo (idx_w rfl p1) (goo (idx_w w1 p0) (goo (idx_w w2 p2) (goo (idx_w rfl p1) (goo d1 ?_))))
   refine goo (idx_w rfl qd1) (goo (at_w rfl qd1) (goo (idx_w w1 p0) (goo (idx_w rfl p1) (goo (idx_w rfl p1) (goo (idx_w w2 p2) (goo zz1 (goo sa1 (goo u11 (goo sb1 (goo u21 (goo (idx_w rfl qt1) (goo (at_w rfl qt1) ?_))))))))))))
   obtain ⟨gk, gk1, gk2⟩ := f_bgap hb hs (i := k) (by omega)
   have sD : ∀ v, (D.set (k + 1) v)[k + 1]? = some v := fun v => by rw [get_set (by omega), if_pos rfl]
   have sT : ∀ v, (T.set (k + 1) v)[k + 1]? = some v := fun v => by rw [get_set (by omega), if_pos rfl]
   rcases Nat.eq_zero_or_pos k with hk0 | hk0
   ·subst hk0
    obtain ⟨t1, t11, t12⟩ := f_etimes x2 gk2 (by omega) (by omega)
    obtain ⟨t2, t21, t22⟩ := f_eless u3 t12 (by omega) (by omega)
    refine gbt rfl (goo (idx_w rfl (sT _)) (goo (at_w rfl (sT _)) (goo gk1 (goo t11 (goo t21 (goo (idx_w rfl (sT _)) (goo (at_w rfl (sT _)) (gs (gend ?_)))))))))
    refine ⟨by omega, D.set (0 + 1) dg0, (T.set (0 + 1) u2).set (0 + 1) t2, by simp only [w2, Int.toNat_natCast], by omega, fw_set1 hF (by omega) ((d3.mono (by omega)).cast ?_) ((t22.mono (by omega)).cast ?_)⟩
    ·show _ = 2 * (gp b 0 + gp b (0 + 1)) - gp b 0 * (0 : Rat)
     grind
    ·show _ = Rp b (0 + 1) - gp b 0 * fstQ b
     grind
   ·obtain ⟨dp, dp1, dp2⟩ := hD k hk0 (Nat.le_refl _)
    obtain ⟨tp, tp1, tp2⟩ := hT k hk0 (Nat.le_refl _)
    have hmp := md_pos hs hk0 (show k + 1 < b.supports.length by omega)
    have sDk : ∀ v, (D.set (k + 1) v)[k]? = some dp := fun v => by rw [get_set (by omega), if_neg (by omega)]; exact dp1
    have sTk : ∀ v, (T.set (k + 1) v)[k]? = some tp := fun v => by rw [get_set (by omega), if_neg (by omega)]; exact tp1
    obtain ⟨f, f1, f2⟩ := f_eby gk2 dp2 (by grind) (by omega) (by omega)
    obtain ⟨fk, fk1, fk2⟩ := f_etimes f2 gk2 (by omega) (by omega)
    obtain ⟨dn, dn1, dn2⟩ := f_eless d3 fk2 (by omega) (by omega)
    obtain ⟨ft, ft1, ft2⟩ := f_etimes f2 tp2 (by omega) (by omega)
    obtain ⟨tn, tn1, tn2⟩ := f_eless u3 ft2 (by omega) (by omega)
    refine gbf (by show (((k + 1 : Nat) : Int) == 1) = false; rw [beq_eq_false_iff_ne]; omega) (goo (idx_w w1 (sDk _)) (goo (at_w w1 (sDk _)) (goo gk1 (goo f1 (goo (idx_w rfl (sD _)) (goo (at_w rfl (sD _)) (goo gk1 (goo fk1 (goo dn1 ?_)))))))))
    refine goo (idx_w rfl (sD _)) (goo (at_w rfl (sD _)) (goo (idx_w rfl (sT _)) (goo (at_w rfl (sT _)) (goo (idx_w w1 (sTk _)) (goo (at_w w1 (sTk _)) (goo ft1 (goo tn1 (goo (idx_w rfl (sT _)) (goo (at_w rfl (sT _)) (gs (gend ?_)))))))))))
    obtain ⟨i, rfl⟩ : ∃ i, k = i + 1 := ⟨k - 1, by omega⟩
    have hpq := pq_one b i
    refine ⟨by omega, (D.set (i + 1 + 1) dg0).set (i + 1 + 1) dn, (T.set (i + 1 + 1) u2).set (i + 1 + 1) tn, by simp only [w2, Int.toNat_natCast], by omega, fw_set hF (by omega) ((dn2.mono (by omega)).cast ?_) ((tn2.mono (by omega)).cast ?_)⟩
    ·show _ = 2 * (gp b (i + 1) + gp b (i + 1 + 1)) - gp b (i + 1) * (pq (gp b) (Rp b) (fstQ b) (i + 1)).2
     rw [hpq.2]
     grind
    ·show _ = Rp b (i + 1 + 1) - gp b (i + 1) * (pq (gp b) (Rp b) (fstQ b) (i + 1)).1
     rw [hpq.1]
     grind
  ·refine gf (decide_eq_false (by show ¬ ((k + 1 : Nat) : Int) < IntKind.i64.wrap _; rw [hw1]; omega)) (gend ?_)
   have : k = b.supports.length - 2 := by omega
   subst this
   exact hF
 ·rintro ⟨D, T, u⟩ hF
  obtain ⟨hDl, hTl, hD, hT⟩ := hF
  refine gloop (fun s : List Texact × Unit => BwB b 0 s.1)
   (fun k s => ∃ (O : List Texact) (m : Nat), s = ((m : Int), O, ()) ∧ m + k = b.supports.length - 2 ∧ BwB b m O)
   (b.supports.length - 2) (by unfold big; omega) ⟨_, b.supports.length - 2, by rw [hw2], by omega, by simp [hZl], ⟨x, ?_, x2.cast ?_⟩, ?_⟩ ?_ ?_
  ·rw [hw1, Int.toNat_natCast, get_set (by simp; omega), if_neg (by omega), get_set (by omega), if_pos rfl]
  ·unfold momB
   rw [mom_first _ _ _ _ (by omega)]
  ·intro i hi hi2
   have : i = b.supports.length - 1 := by omega
   refine ⟨y, by rw [hw1, Int.toNat_natCast, get_set (by simp; omega), if_pos this.symm], (y2.mono (by omega)).cast ?_⟩
   rw [this]
   unfold momB
   rw [mom_last]
  ·rintro k s hk ⟨O, m, rfl, hm, hO⟩
   rcases Nat.eq_zero_or_pos m with hm0 | hm0
   ·subst hm0
    exact gf (decide_eq_false (by show ¬ ((0 : Nat) : Int) > 0; omega)) (gend hO)
   ·obtain ⟨hOl, hO0, hO⟩ := hO
    have w2 : IntKind.i64.wrap ((m : Int) + 1) = ((m + 1 : Nat) : Int) := by rw [wrap64 (by omega) (by omega)]; omega
    have w1 : IntKind.i64.wrap ((m : Int) - 1) = ((m - 1 : Nat) : Int) := by rw [wrap64 (by omega) (by omega)]; omega
    obtain ⟨t, t1, t2⟩ := hT m hm0 (by omega)
    obtain ⟨d, d1, d2⟩ := hD m hm0 (by omega)
    obtain ⟨o, o1, o2⟩ := hO (m + 1) (by omega) (by omega)
    obtain ⟨gk, gk1, gk2⟩ := f_bgap hb hs (i := m) (by omega)
    have hmp := md_pos hs hm0 (show m + 1 < b.supports.length by omega)
    have hm9 : m ≤ 8 := by omega
    obtain ⟨c, hc⟩ : ∃ c, (b.supports.length - 1 - (m + 1)) * 10100 = c := ⟨_, rfl⟩
    have hc2 : (b.supports.length - 1 - m) * 10100 = c + 10100 := by
     rw [← hc, show b.supports.length - 1 - m = b.supports.length - 1 - (m + 1) + 1 from by omega, Nat.add_mul]
    have hc3 : c ≤ 8 * 10100 := by rw [← hc]; exact Nat.mul_le_mul_right _ (by omega)
    rw [hc] at o2
    obtain ⟨og, og1, og2⟩ := f_etimes o2 gk2 (by omega) (by omega)
    obtain ⟨l1, l11, l12⟩ := f_eless t2 og2 (by omega) (by omega)
    obtain ⟨z, z1, z2⟩ := f_eby l12 d2 (by grind) (by omega) (by omega)
    have p0 := sp_get (b := b) (i := m) (by omega)
    have p1 := sp_get (b := b) (i := m + 1) (by omega)
    obtain ⟨qo, qo1⟩ : ∃ q, O[m]? = some q := ⟨_, List.getElem?_eq_getElem (by omega)⟩
    refine gt (decide_eq_true (by show (0 : Int) < (m : Int); omega)) ?_
    refine go (idx_w w2 p1) (go (idx_w rfl p0) (go (idx_w rfl t1) (go (at_w rfl t1) (go (idx_w w2 o1) (go (at_w w2 o1) (go (idx_w rfl d1) (go (at_w rfl d1) (go gk1 (go og1 (go l11 (go z1 (go (idx_w rfl qo1) (go (at_w rfl qo1) (gend ?_))))))))))))))
    refine ⟨by omega, O.set m z, m - 1, by simp only [w1, Int.toNat_natCast], by omega, by simp [hOl], ?_, ?_⟩
    ·rw [get_set (by omega), if_neg (by omega)]
     exact hO0
    ·intro i hi hi2
     rw [get_set (by omega)]
     rcases Decidable.em (m = i) with h | h
     ·subst h
      rw [if_pos rfl]
      refine ⟨z, rfl, (z2.mono (by omega)).cast ?_⟩
      obtain ⟨j, rfl⟩ : ∃ j, m = j + 1 := ⟨m - 1, by omega⟩
      have hpq := pq_one b j
      unfold momB
      rw [mom_step _ _ _ _ (i := j + 1) (by omega), hpq.1, hpq.2]
      grind
     ·rw [if_neg h]
      exact hO i (by omega) hi2
  ·rintro ⟨O, u⟩ ⟨h2, h3, h4⟩
   refine gend ⟨⟨fun _ h => absurd h h1, fun _ => rfl⟩, fun _ => ⟨h2, fun i hi => ?_⟩⟩
   rcases Nat.eq_zero_or_pos i with h0 | h0
   ·subst h0
    obtain ⟨v, v1, v2⟩ := h3
    exact ⟨v, v1, v2.mono (by omega)⟩
   ·obtain ⟨v, v1, v2⟩ := h4 i h0 hi
    refine ⟨v, v1, v2.mono ?_⟩
    have : (b.supports.length - 1 - i) * 10100 ≤ 8 * 10100 := Nat.mul_le_mul_right _ (by omega)
    omega
end Go.Proofs.YtcaopooflemnlaaGreat

/- The program's reactions as rational numbers. -/
namespace Go.Proofs.YtcaopooflemnlaaGreat
set_option linter.unusedVariables false
set_option linter.unusedSimpArgs false

theorem loop_sumG {α τ : Type} {F : Int × τ × Unit → Option ((Int × τ × Unit) ⊕ (τ × Unit))} {w : List α} (R : τ → Rat → Nat → Prop) (f : α → Rat) (e : Nat) (hw : w.length ≤ 1000000) {t0 : τ} {q0 : Rat} {c0 : Nat} (h0 : R t0 q0 c0)
  (hin : ∀ (k : Nat) (h : k < w.length) (t : τ) (q : Rat), R t q (c0 + e * k) → Gs (F ((k : Int), t, ())) fun y => ∃ t', y = .inl (((k + 1 : Nat) : Int), t', ()) ∧ R t' (q + f w[k]) (c0 + e * k + e))
  (hout : ∀ t, F ((w.length : Int), t, ()) = some (.inr (t, ()))) : Gs (iterF F big (0, t0, ())) fun r => R r.1 (q0 + sumQ f w) (c0 + e * w.length) := by
 obtain ⟨r, h1, h2⟩ := loop_sum (F := F) (K := some) (P := fun r => R r.1 (q0 + sumQ f w) (c0 + e * w.length)) R f e hw h0 (fun k h t q ht => by
  obtain ⟨y, h1, t', rfl, h2⟩ := hin k h t q ht
  exact ⟨t', h1, h2⟩) hout fun t ht => ⟨(t, ()), rfl, ht⟩
 refine ⟨r, ?_, h2⟩
 revert h1
 cases iterF F big (0, t0, ()) with
 | none => intro h1; cases h1
 | some a => intro h1; exact h1
def reactB (b : TBeam) (i : Nat) : Rat := reactQ b.even b.length (lds b.loads) (sp b) b.supports.length (momB b) i
def Rk (n i : Nat) (O t : List Texact) (q : Rat) (c : Nat) : Prop := t.length = n ∧ (∀ j, j < i → t[j]? = O[j]?) ∧ ∃ v, t[i]? = some v ∧ Xq v q c
theorem Rk.set {n i : Nat} {O t : List Texact} {q r : Rat} {c e : Nat} {z : Texact} (h : Rk n i O t q c) (hi : i < n) (hz : Xq z r e) : Rk n i O (t.set i z) r e := by
 obtain ⟨h1, h2, h3⟩ := h
 refine ⟨by simp [h1], fun j hj => ?_, z, by rw [get_set (by omega), if_pos rfl], hz⟩
 rw [get_set (by omega), if_neg (by omega)]
 exact h2 j hj
theorem Rk.mono {n i : Nat} {O t : List Texact} {q : Rat} {c e : Nat} (h : Rk n i O t q c) (hc : c ≤ e) : Rk n i O t q e := by
 obtain ⟨h1, h2, v, h3, h4⟩ := h
 exact ⟨h1, h2, v, h3, h4.mono hc⟩
theorem Rk.cast {n i : Nat} {O t : List Texact} {q r : Rat} {c : Nat} (h : Rk n i O t q c) (e : q = r) : Rk n i O t r c := e ▸ h
set_option maxHeartbeats 2000000 in
theorem f_reactions {b : TBeam} (hb : BeamIn b) (hs : SupOk b) {m : List Texact} (hm : ∀ i, i < b.supports.length → ∃ x, m[i]? = some x ∧ Xq x (momB b i) 82000) :
  Gs (F_beam_reactions b m) fun r => r.length = b.supports.length ∧ ∀ i, i < b.supports.length → ∃ x, r[i]? = some x ∧ Xq x (reactB b i) 330000 := by
 unfold F_beam_reactions
 have hl := hb.l1
 have hn1 := hs.n1
 have hn10 := hs.n10
 have hln := hb.ln
 have hw1 : IntKind.i64.wrap (((b.supports.length : Nat) : Int) - 1) = ((b.supports.length - 1 : Nat) : Int) := by rw [wrap64 (by omega) (by omega)]; omega
 refine gif ⟨by omega, by omega⟩ ?_
 refine gloop (fun s : List Texact × Unit => s.1.length = b.supports.length ∧ ∀ i, i < b.supports.length → ∃ x, s.1[i]? = some x ∧ Xq x (reactB b i) 330000)
  (fun i s => ∃ O, s = ((i : Int), O, ()) ∧ O.length = b.supports.length ∧ ∀ j, j < i → ∃ x, O[j]? = some x ∧ Xq x (reactB b j) 330000)
  b.supports.length (by unfold big; omega) ⟨_, rfl, by simp, fun j hj => absurd hj (Nat.not_lt_zero j)⟩ ?_ ?_
 ·rintro i s hi ⟨O, rfl, hOl, hO⟩
  rcases Nat.lt_or_ge i b.supports.length with hlt | hge
  ·refine gt (decide_eq_true (by show (i : Int) < ((b.supports.length : Nat) : Int); omega)) ?_
   have pi := sp_get hlt
   have ri := sp_rg hs hlt
   obtain ⟨z0, zz1, zz2⟩ := f_whole 0 (by omega) (by omega)
   obtain ⟨qo, qo1⟩ : ∃ q, O[i]? = some q := ⟨_, List.getElem?_eq_getElem (by omega)⟩
   obtain ⟨mi, mi1, mi2⟩ := hm i hlt
   have start : Rk b.supports.length i O (O.set i z0) (0 : Rat) 2 := by
    refine ⟨by simp [hOl], fun j hj => ?_, z0, by rw [get_set (by omega), if_pos rfl], zz2⟩
    rw [get_set (by omega), if_neg (by omega)]
   have ht0 : Int.toNat ((i : Nat) : Int) = i := Int.toNat_natCast i
   simp only [ht0]
   refine goo (idx_w rfl pi) (goo zz1 (goo (idx_w rfl qo1) (goo qo1 ?_)))
   refine gcalll (loop_sumG (w := b.loads) (Rk b.supports.length i O) (fun x => if x.at_ = sp b i then (x.weight : Rat) else 0) 3 (by omega) start ?_ ?_) ?_
   ·rintro k hk t q ⟨t1, t2, v, v1, v2⟩
    obtain ⟨x0, x1, x2, x3⟩ := hb.ld _ (List.getElem_mem hk)
    have hx := idx_nat hk
    have w1 : IntKind.i64.wrap ((k : Int) + 1) = ((k + 1 : Nat) : Int) := by rw [wrap64 (by omega) (by omega)]; omega
    refine gt (decide_eq_true (by show (k : Int) < ((b.loads.length : Nat) : Int); omega)) (goo hx ?_)
    generalize b.loads[k] = x at *
    rcases Decidable.em (x.at_ = sp b i) with h | h
    ·obtain ⟨a, a1, a2⟩ := f_whole x.weight (by omega) (by omega)
     obtain ⟨p, p1, p2⟩ := f_eplus v2 a2 (by omega) (by omega)
     refine gbt (by rw [beq_iff_eq]; exact h) (goo (idx_q v1) (goo v1 (goo a1 (goo p1 (goo (idx_q v1) (goo v1 (gs (gend ⟨t.set i p, by simp only [w1], ?_⟩))))))))
     rw [if_pos h]
     exact Rk.set ⟨t1, t2, v, v1, v2⟩ hlt (p2.mono (by omega))
    ·refine gbf (by rw [beq_eq_false_iff_ne]; exact h) (gs (gend ⟨t, by simp only [w1], ?_⟩))
     rw [if_neg h]
     exact ⟨t1, t2, v, v1, v2.skip⟩
   ·intro t
    have e0 : decide (((b.loads.length : Nat) : Int) < ((b.loads.length : Nat) : Int)) = false := by simp
    simp only [e0, cond_false]
   rintro ⟨t, u⟩ ht
   have ht : Rk b.supports.length i O t (atQ (lds b.loads) (sp b i)) 122 := (ht.mono (by omega)).cast (by unfold atQ lds; rw [sumQ_map]; grind)
   refine gcalll (Q := fun r : List Texact × Unit => Rk b.supports.length i O r.1 (atQ (lds b.loads) (sp b i) + (if 0 < i then leverQ b.even (lds b.loads) (sp b (i - 1)) (sp b i) false + (momB b (i - 1) - momB b i) / ((sp b i - sp b (i - 1) : Int) : Rat) else 0)) 164427) ?_ ?_
   ·obtain ⟨t1, t2, v, v1, v2⟩ := id ht
    rcases Nat.eq_zero_or_pos i with h0 | h0
    ·subst h0
     refine gf (decide_eq_false (by omega)) (gend ?_)
     rw [if_neg (by omega)]
     exact (ht.mono (by omega)).cast (by grind)
    ·obtain ⟨j, rfl⟩ : ∃ j, i = j + 1 := ⟨i - 1, by omega⟩
     have w1 : IntKind.i64.wrap (((j + 1 : Nat) : Int) - 1) = (j : Int) := by rw [wrap64 (by omega) (by omega)]; omega
     have pj := sp_get (b := b) (i := j) (by omega)
     have rj := sp_rg hs (i := j) (by omega)
     have hc : sp b j < sp b (j + 1) := hs.inc j (by omega)
     obtain ⟨mj, mj1, mj2⟩ := hm j (by omega)
     obtain ⟨l, l1, l2⟩ := f_lever hb (fr := sp b j) (to := sp b (j + 1)) false rj.1 hc ri.2
     obtain ⟨a, a1, a2⟩ := f_eplus v2 l2 (by omega) (by omega)
     obtain ⟨d, d1, d2⟩ := f_eless mj2 mi2 (by omega) (by omega)
     obtain ⟨g, g1, g2⟩ := f_bgap hb hs (i := j) (by omega)
     obtain ⟨e, e1, e2⟩ := f_eby d2 g2 (by have := gp_pos hs j (by omega); grind) (by omega) (by omega)
     obtain ⟨f, f1, f2⟩ := f_eplus a2 e2 (by omega) (by omega)
     refine gt (decide_eq_true (by omega)) (go (idx_w w1 pj) (go (idx_q v1) (go v1 (go (idx_w w1 mj1) (go (idx_q mi1) (go l1 (go a1 (go d1 (go g1 (go e1 (go f1 (go (idx_q v1) (go v1 (gend ?_))))))))))))))
     refine Rk.set ht hlt ((f2.mono (by omega)).cast ?_)
     rw [if_pos (by omega)]
     show _ = atQ (lds b.loads) (sp b (j + 1)) + (leverQ b.even (lds b.loads) (sp b j) (sp b (j + 1)) false + (momB b j - momB b (j + 1)) / gp b j)
     grind
   rintro ⟨t', u'⟩ ht'
   clear ht
   obtain ⟨qa, hqa⟩ : ∃ qa, atQ (lds b.loads) (sp b i) + (if 0 < i then leverQ b.even (lds b.loads) (sp b (i - 1)) (sp b i) false + (momB b (i - 1) - momB b i) / ((sp b i - sp b (i - 1) : Int) : Rat) else 0) = qa := ⟨_, rfl⟩
   rw [hqa] at ht'
   have w2 : IntKind.i64.wrap ((i : Int) + 1) = ((i + 1 : Nat) : Int) := by rw [wrap64 (by omega) (by omega)]; omega
   refine gcalll (Q := fun r : List Texact × Unit => Rk b.supports.length i O r.1 (qa + (if i + 1 < b.supports.length then leverQ b.even (lds b.loads) (sp b i) (sp b (i + 1)) true + (momB b (i + 1) - momB b i) / ((sp b (i + 1) - sp b i : Int) : Rat) else 0)) 328732) ?_ ?_
   ·obtain ⟨t1, t2, v, v1, v2⟩ := id ht'
    rcases Nat.lt_or_ge (i + 1) b.supports.length with h0 | h0
    ·have pj := sp_get (b := b) (i := i + 1) (by omega)
     have rj := sp_rg hs (i := i + 1) (by omega)
     have hc : sp b i < sp b (i + 1) := hs.inc i (by omega)
     obtain ⟨mj, mj1, mj2⟩ := hm (i + 1) (by omega)
     obtain ⟨l, l1, l2⟩ := f_lever hb (fr := sp b i) (to := sp b (i + 1)) true ri.1 hc rj.2
     obtain ⟨a, a1, a2⟩ := f_eplus v2 l2 (by omega) (by omega)
     obtain ⟨d, d1, d2⟩ := f_eless mj2 mi2 (by omega) (by omega)
     obtain ⟨g, g1, g2⟩ := f_bgap hb hs (i := i) (by omega)
     obtain ⟨e, e1, e2⟩ := f_eby d2 g2 (by have := gp_pos hs i (by omega); grind) (by omega) (by omega)
     obtain ⟨f, f1, f2⟩ := f_eplus a2 e2 (by omega) (by omega)
     refine gt (decide_eq_true (by show IntKind.i64.wrap ((i : Int) + 1) < ((b.supports.length : Nat) : Int); rw [w2]; omega)) (go (idx_w w2 pj) (go (idx_q v1) (go v1 (go (idx_w w2 mj1) (go (idx_q mi1) (go l1 (go a1 (go d1 (go g1 (go e1 (go f1 (go (idx_q v1) (go v1 (gend ?_))))))))))))))
     refine Rk.set ht' hlt ((f2.mono (by omega)).cast ?_)
     rw [if_pos (by omega)]
     show _ = qa + (leverQ b.even (lds b.loads) (sp b i) (sp b (i + 1)) true + (momB b (i + 1) - momB b i) / gp b i)
     grind
    ·refine gf (decide_eq_false (by show ¬ IntKind.i64.wrap ((i : Int) + 1) < ((b.supports.length : Nat) : Int); rw [w2]; omega)) (gend ?_)
     rw [if_neg (by omega)]
     exact (ht'.mono (by omega)).cast (by grind)
   rintro ⟨ta, ua⟩ hta
   clear ht'
   obtain ⟨qb, hqb⟩ : ∃ qb, qa + (if i + 1 < b.supports.length then leverQ b.even (lds b.loads) (sp b i) (sp b (i + 1)) true + (momB b (i + 1) - momB b i) / ((sp b (i + 1) - sp b i : Int) : Rat) else 0) = qb := ⟨_, rfl⟩
   rw [hqb] at hta
   refine gcalll (Q := fun r : List Texact × Unit => Rk b.supports.length i O r.1 (qb + (if i = 0 then beyondQ b.even (lds b.loads) (sp b i) else 0)) 328940) ?_ ?_
   ·obtain ⟨t1, t2, v, v1, v2⟩ := id hta
    rcases Decidable.em (i = 0) with h0 | h0
    ·obtain ⟨l, l1, l2⟩ := f_beyond hb (a := sp b i) ri.1 ri.2
     obtain ⟨a, a1, a2⟩ := f_eplus v2 l2 (by omega) (by omega)
     refine gt (by rw [beq_iff_eq]; omega) (go (idx_q v1) (go v1 (go l1 (go a1 (go (idx_q v1) (go v1 (gend ?_)))))))
     rw [if_pos h0]
     exact Rk.set hta hlt (a2.mono (by omega))
    ·refine gf (by rw [beq_eq_false_iff_ne]; omega) (gend ?_)
     rw [if_neg h0]
     exact (hta.mono (by omega)).cast (by grind)
   rintro ⟨tb, ub⟩ htb
   clear hta
   obtain ⟨qc, hqc⟩ : ∃ qc, qb + (if i = 0 then beyondQ b.even (lds b.loads) (sp b i) else 0) = qc := ⟨_, rfl⟩
   rw [hqc] at htb
   refine gcall (Q := fun r : List Texact × Unit => Rk b.supports.length i O r.1 (qc + (if i + 1 = b.supports.length then beyondQ b.even (turnW b.length (lds b.loads)) (b.length - sp b i) else 0)) 330000) ?_ ?_
   ·obtain ⟨t1, t2, v, v1, v2⟩ := id htb
    rcases Decidable.em (i + 1 = b.supports.length) with h0 | h0
    ·have hbl : IntKind.i64.wrap (b.length - sp b i) = b.length - sp b i := wrap64 (by omega) (by omega)
     obtain ⟨l, l1, l2⟩ := f_beyond (turn_in hb) (a := b.length - sp b i) (by omega) (by show b.length - sp b i ≤ b.length; omega)
     rw [turn_lds] at l2
     obtain ⟨a, a1, a2⟩ := f_eplus v2 l2 (by omega) (by omega)
     refine gt (by rw [hw1, beq_iff_eq]; omega) (go (idx_q v1) (go v1 (go (f_turned hb hs) (go (by rw [hbl]; exact l1) (go a1 (go (idx_q v1) (go v1 (gend ?_))))))))
     rw [if_pos h0]
     exact Rk.set htb hlt (a2.mono (by omega))
    ·refine gf (by rw [hw1, beq_eq_false_iff_ne]; omega) (gend ?_)
     rw [if_neg h0]
     exact (htb.mono (by omega)).cast (by grind)
   rintro ⟨tc, uc⟩ ⟨c1, c2, v, v1, v2⟩
   refine gend ⟨hlt, tc, by simp only [w2], c1, fun j hj => ?_⟩
   rcases Decidable.em (j = i) with h | h
   ·subst h
    refine ⟨v, v1, v2.cast ?_⟩
    unfold reactB reactQ
    rw [← hqc, ← hqb, ← hqa]
   ·rw [c2 j (by omega)]
    exact hO j (by omega)
  ·have : i = b.supports.length := by omega
   subst this
   exact gf (decide_eq_false (by show ¬ ((b.supports.length : Nat) : Int) < ((b.supports.length : Nat) : Int); omega)) (gend ⟨hOl, hO⟩)
 ·rintro ⟨O, u⟩ h
  exact gend h
end Go.Proofs.YtcaopooflemnlaaGreat

/- Valid beams. -/
namespace Go.Proofs.YtcaopooflemnlaaGreat
set_option linter.unusedVariables false
set_option linter.unusedSimpArgs false

def badH1 (b : TBeam) : Bool := !nameB b.name || (decide (b.length < 1) || (decide (b.length > 1048576) || (decide (b.even < 0) || decide (b.even > 1048576))))
def badH2 (b : TBeam) : Bool := decide (((b.supports.length : Nat) : Int) < 1) || (decide (((b.supports.length : Nat) : Int) > 10) || decide (((b.loads.length : Nat) : Int) > 40))
def badS (b : TBeam) (i : Nat) : Bool := decide (sp b i < 0) || (decide (sp b i > b.length) || (decide (0 < i) && decide (sp b i ≤ sp b (i - 1))))
def badL (b : TBeam) (x : TLoad) : Bool := decide (x.at_ < 0) || (decide (x.at_ > b.length) || (decide (x.weight < 0) || decide (x.weight > 67108864)))
def validBm (b : TBeam) : Bool := !badH1 b && (!badH2 b && ((List.range b.supports.length).all (fun i => !badS b i) && b.loads.all (fun x => !badL b x)))
theorem bif_or (c d : Bool) : ((bif c then some (true, ()) else some (d, ())) : Option (Bool × Unit)) = some (c || d, ()) := by cases c <;> rfl
theorem all_of {n : Nat} {p : Nat → Bool} (h : ∀ j, j < n → p j = true) : (List.range n).all p = true := by
 rw [List.all_eq_true]
 intro j hj
 exact h j (List.mem_range.1 hj)
theorem all_not {n : Nat} {p : Nat → Bool} {k : Nat} (hk : k < n) (h : p k = false) : (List.range n).all p = false := by
 rw [List.all_eq_false]
 exact ⟨k, List.mem_range.2 hk, by rw [h]; simp⟩
theorem f_badload (b : TBeam) (x : TLoad) : F_beam_Valid_1 x b = some (badL b x) := by
 unfold F_beam_Valid_1 badL
 simp only [bif_or, Option.bind_some]
theorem bad_sup {b : TBeam} {k : Nat} (hk : k < b.supports.length) (hn : b.supports.length ≤ 1000000) (x : Int) (hx : x = sp b k) :
  ((bif (decide (x < 0)) then some (true, ()) else (bif (decide (x > b.length)) then some (true, ()) else (bif (decide ((k : Int) > 0)) then (idx b.supports (IntKind.i64.wrap ((k : Int) - 1))).bind fun x10 => some ((decide (x ≤ x10)), ()) else some (false, ()))) : Option (Bool × Unit))) = some (badS b k, ()) := by
 subst hx
 have h : ((bif (decide ((k : Int) > 0)) then (idx b.supports (IntKind.i64.wrap ((k : Int) - 1))).bind fun x10 => some ((decide (sp b k ≤ x10)), ()) else some (false, ())) : Option (Bool × Unit)) = some (decide (0 < k) && decide (sp b k ≤ sp b (k - 1)), ()) := by
  rcases Nat.eq_zero_or_pos k with h | h
  ·subst h; rfl
  ·rw [decide_eq_true (show (k : Int) > 0 by omega), decide_eq_true h, wrap64 (by omega) (by omega), show (k : Int) - 1 = ((k - 1 : Nat) : Int) from by omega, sp_idx (by omega)]
   rfl
 rw [h, bif_or, bif_or]
 rfl
theorem f_bvalid {b : TBeam} (hname : b.name.size ≤ 1000000) (hn : b.supports.length ≤ 1000000) (hl : b.loads.length ≤ 1000000) : F_beam_Valid b = some (validBm b) := by
 apply gs_eq
 unfold F_beam_Valid
 rw [f_name _ (by omega)]
 simp only [Option.bind_some, bif_or]
 have hh : (!nameB b.name || (decide (b.length < 1) || (decide (b.length > 1048576) || (decide (b.even < 0) || (decide (b.even > 1048576) || (decide (((b.supports.length : Nat) : Int) < 1) || (decide (((b.supports.length : Nat) : Int) > 10) || decide (((b.loads.length : Nat) : Int) > 40)))))))) = (badH1 b || badH2 b) := by
  unfold badH1 badH2
  simp only [Bool.or_assoc]
 rw [hh]
 cases h1 : (badH1 b || badH2 b) with
 | true =>
  refine gt rfl (gend ?_)
  unfold validBm
  rw [Bool.or_eq_true] at h1
  rcases h1 with h | h <;> simp [h]
 | false =>
  rw [Bool.or_eq_false_iff] at h1
  refine gf rfl ?_
  refine gloop (fun r : (Bool × Unit) ⊕ Unit => match r with
    | .inl y => y.1 = false ∧ (List.range b.supports.length).all (fun i => !badS b i) = false
    | .inr _ => (List.range b.supports.length).all (fun i => !badS b i) = true)
   (fun k s => s = ((k : Int), ()) ∧ ∀ j, j < k → (!badS b j) = true) b.supports.length (by unfold big; omega) ⟨rfl, fun j hj => absurd hj (Nat.not_lt_zero j)⟩ ?_ ?_
  ·rintro k s hk ⟨rfl, hj⟩
   rcases Nat.lt_or_ge k b.supports.length with hlt | hge
   ·refine gt (decide_eq_true (by show (k : Int) < ((b.supports.length : Nat) : Int); omega)) (go (sp_idx hlt) (go (bad_sup hlt hn _ rfl) ?_))
    cases hb : badS b k with
    | true => exact gt rfl (gend ⟨rfl, all_not hlt (by rw [hb]; rfl)⟩)
    | false =>
     refine gf rfl (gend ⟨hlt, by show (IntKind.i64.wrap ((k : Int) + 1), ()) = (((k + 1 : Nat) : Int), ()); rw [wrap64 (by omega) (by omega)]; rfl, fun j hj2 => ?_⟩)
     rcases Decidable.em (j = k) with h | h
     ·subst h; rw [hb]; rfl
     ·exact hj j (by omega)
   ·have : k = b.supports.length := by omega
    subst this
    exact gf (decide_eq_false (by show ¬ ((b.supports.length : Nat) : Int) < ((b.supports.length : Nat) : Int); omega)) (gend (all_of hj))
  ·rintro (y | y) hr
   ·obtain ⟨h2, h3⟩ := hr
    refine gend ?_
    unfold validBm
    rw [h3, h2]
    simp
   ·simp only at hr ⊢
    refine go (f_slices_ContainsFunc_api_Load b.loads (by omega) (fun z16 => F_beam_Valid_1 z16 b) (fun x => badL b x) (fun x _ => f_badload b x)) (gend ?_)
    unfold validBm
    rw [hr, h1.1, h1.2]
    simp only [Bool.not_false, Bool.true_and]
    rw [Bool.eq_iff_iff]
    simp
theorem valid_in {b : TBeam} (h : validBm b = true) : BeamIn b ∧ SupOk b := by
 unfold validBm at h
 rw [Bool.and_eq_true, Bool.and_eq_true, Bool.and_eq_true] at h
 obtain ⟨h1, h2, h3, h4⟩ := h
 unfold badH1 at h1
 unfold badH2 at h2
 simp only [Bool.not_eq_true', Bool.or_eq_false_iff, decide_eq_false_iff_not] at h1 h2
 obtain ⟨_, a1, a2, a3, a4⟩ := h1
 obtain ⟨b1, b2, b3⟩ := h2
 rw [List.all_eq_true] at h3 h4
 have hS : ∀ i, i < b.supports.length → 0 ≤ sp b i ∧ sp b i ≤ b.length ∧ (0 < i → sp b (i - 1) < sp b i) := by
  intro i hi
  have := h3 i (List.mem_range.2 hi)
  unfold badS at this
  simp only [Bool.not_eq_true', Bool.or_eq_false_iff, Bool.and_eq_false_iff, decide_eq_false_iff_not] at this
  omega
 refine ⟨⟨by omega, by omega, by omega, by omega, ?_, by omega⟩, ⟨by omega, by omega, ?_, ?_⟩⟩
 ·intro x hx
  have := h4 x hx
  unfold badL at this
  simp only [Bool.not_eq_true', Bool.or_eq_false_iff, decide_eq_false_iff_not] at this
  unfold LoadOk
  omega
 ·intro x hx
  obtain ⟨i, hi, rfl⟩ := List.getElem_of_mem hx
  have := hS i hi
  have e : sp b i = b.supports[i] := by unfold sp; rw [List.getD_eq_getElem?_getD, List.getElem?_eq_getElem hi]; rfl
  omega
 ·intro i hi
  have := (hS (i + 1) hi).2.2 (by omega)
  simpa [sp] using this
end Go.Proofs.YtcaopooflemnlaaGreat

/- The reference's numbers of many digits (base 2^24): trim, larger, digit, plus, minus. -/
namespace Go.Proofs.YtcaopooflemnlaaGreat
set_option linter.unusedVariables false
set_option linter.unusedSimpArgs false

theorem tight_snoc {d : List Int} {x : Int} (h : x ≠ 0) : tight (d ++ [x]) := by
 unfold tight; simpa using h
theorem dg_out {l : List Int} {k : Nat} (h : l.length ≤ k) : dg l k = 0 := by simp [dg, h]
theorem tight_take {l : List Int} {m : Nat} (h : m < l.length) (hx : dg l m ≠ 0) : tight (l.take (m + 1)) := by
 rw [take_snoc h]
 rw [dg_get h] at hx
 exact tight_snoc hx
theorem g_trim {neg : Bool} {l : List Int} (hd : dig (16777216 : Int) l) (hl : l.length ≤ 16500000) : ∃ r : TBig, F_ref08_trim ⟨neg, l⟩ = some r ∧ (bv (16777216 : Int) r.d = bv (16777216 : Int) l ∧ dig (16777216 : Int) r.d ∧ tight r.d ∧ r.d.length ≤ l.length ∧ (r.neg = true ↔ neg = true ∧ bv (16777216 : Int) l ≠ 0)) := by
 unfold F_ref08_trim
 refine iter_bind (Q := fun r : Int × Unit => ∃ m : Nat, r = ((m : Int), ()) ∧ m ≤ l.length ∧ bv (16777216 : Int) (l.take m) = bv (16777216 : Int) l ∧ tight (l.take m))
  (fun k s => ∃ m : Nat, s = ((m : Int), ()) ∧ m + k = l.length ∧ bv (16777216 : Int) (l.take m) = bv (16777216 : Int) l) l.length (by unfold big; omega) ?_ ⟨l.length, rfl, rfl, by rw [List.take_length]⟩ ?_
 ·rintro k s hk ⟨m, rfl, hm, hv⟩
  cases m with
  | zero =>
   have e0 : decide (((0 : Nat) : Int) > 0) = false := by decide
   refine .inr ⟨_, ?_, 0, rfl, Nat.zero_le _, hv, by simp [tight]⟩
   simp only [e0, cond_false, Option.bind_some]
  | succ m =>
   have e0 : decide (((m + 1 : Nat) : Int) > 0) = true := by simp
   have e1 : IntKind.i64.wrap (((m + 1 : Nat) : Int) - 1) = (m : Int) := by rw [wrap64 (by omega) (by omega)]; omega
   have hlt : m < l.length := by omega
   simp only [e0, cond_true, e1]
   rw [idx_nat hlt, ← dg_get hlt]
   simp only [Option.bind_some]
   rcases Decidable.em (dg l m = 0) with h | h
   ·have e2 : (dg l m == 0) = true := by rw [h]; rfl
    rw [e2, cond_true]
    refine .inl ⟨_, rfl, by omega, m, rfl, by omega, ?_⟩
    rw [bv_take_succ, h] at hv
    simpa using hv
   ·have e2 : (dg l m == 0) = false := by simpa using h
    rw [e2, cond_false]
    exact .inr ⟨_, rfl, m + 1, rfl, by omega, hv, tight_take hlt h⟩
 ·rintro _ ⟨m, rfl, hm, hv, ht⟩
  simp only [Int.toNat_natCast]
  rw [if_pos ⟨by omega, by omega, by omega⟩]
  have hd2 := dig_take hd m
  have hz := bv_zero (by decide) hd2 ht
  rw [hv] at hz
  have hd0 : List.drop (Int.toNat 0) (l.take m) = l.take m := rfl
  rw [hd0]
  rcases Decidable.em (m = 0) with h | h
  ·have e2 : ((m : Int) == 0) = true := by simp [h]
   rw [e2, cond_true]
   refine ⟨_, rfl, hv, hd2, ht, by simp; omega, ?_⟩
   have : bv (16777216 : Int) l = 0 := hz.2 (by rw [h]; rfl)
   simp [this]
  ·have e2 : ((m : Int) == 0) = false := by simp; omega
   rw [e2, cond_false]
   refine ⟨_, rfl, hv, hd2, ht, by simp; omega, ?_⟩
   have : bv (16777216 : Int) l ≠ 0 := fun e => by
    have hl2 : (l.take m).length = m := by simp; omega
    rw [hz.1 e] at hl2
    simp at hl2
    omega
   simp [this]
theorem g_digit (l : List Int) (k : Nat) : F_ref08_digit l (k : Int) = some (dg l k) := by
 unfold F_ref08_digit
 rcases Nat.lt_or_ge k l.length with h | h
 ·have e0 : decide ((k : Int) < ((l.length : Nat) : Int)) = true := by simp; omega
  rw [e0, cond_true, idx_nat h, dg_get h]; rfl
 ·have e0 : decide ((k : Int) < ((l.length : Nat) : Int)) = false := by simp; omega
  rw [e0, cond_false]
  have : dg l k = 0 := by simp [dg, h]
  rw [this]
theorem bv_take_all {l : List Int} {k : Nat} (h : l.length ≤ k) : bv (16777216 : Int) (l.take k) = bv (16777216 : Int) l := by rw [List.take_of_length_le h]
theorem h_plus (a b : List Int) (ha : dig (16777216 : Int) a) (hb : dig (16777216 : Int) b) (hta : tight a) (htb : tight b) (hla : a.length ≤ 16500000) (hlb : b.length ≤ 16500000) :
  ∃ r, F_ref08_plus a b = some r ∧ (bv (16777216 : Int) r = bv (16777216 : Int) a + bv (16777216 : Int) b ∧ dig (16777216 : Int) r ∧ tight r ∧ r.length ≤ max a.length b.length + 1) := by
 unfold F_ref08_plus
 obtain ⟨m, hm⟩ : ∃ m, max a.length b.length = m := ⟨_, rfl⟩
 rw [hm]
 refine iter_bind (Q := fun r : List Int × Unit => bv (16777216 : Int) r.1 = bv (16777216 : Int) a + bv (16777216 : Int) b ∧ dig (16777216 : Int) r.1 ∧ tight r.1 ∧ r.1.length ≤ m + 1)
  (fun k s => ∃ c out, s = (c, (k : Int), out, ()) ∧ out.length = k ∧ dig (16777216 : Int) out ∧ 0 ≤ c ∧ c ≤ 1 ∧ bv (16777216 : Int) out + (16777216 : Int) ^ k * c = bv (16777216 : Int) (a.take k) + bv (16777216 : Int) (b.take k) ∧ (m < k → c = 0) ∧ (m ≤ k → c = 0 → tight out)) (m + 1) (by unfold big; omega) ?_ ⟨0, [], rfl, rfl, (fun x hx => nomatch hx), by omega, by omega, by simp [bv], fun _ => rfl, fun _ _ => by simp [tight]⟩ ?_
 ·rintro k s hk ⟨c, out, rfl, hlo, hdo, hc0, hc1, hv, hcm, htm⟩
  simp only
  obtain ⟨t, ht1, ht2⟩ : ∃ t : Bool, ((bif (decide ((k : Int) < ((a.length : Nat) : Int))) then some (true, ()) else (bif (decide ((k : Int) < ((b.length : Nat) : Int))) then some (true, ()) else some ((decide (c > 0)), ()))) : Option (Bool × Unit)) = some (t, ()) ∧ (t = true ↔ k < m ∨ 0 < c) := by
   rcases Nat.lt_or_ge k a.length with h | h
   ·have e0 : decide ((k : Int) < ((a.length : Nat) : Int)) = true := by simp; omega
    rw [e0]; exact ⟨true, rfl, by simp; omega⟩
   ·have e0 : decide ((k : Int) < ((a.length : Nat) : Int)) = false := by simp; omega
    rw [e0, cond_false]
    rcases Nat.lt_or_ge k b.length with h2 | h2
    ·have e0 : decide ((k : Int) < ((b.length : Nat) : Int)) = true := by simp; omega
     rw [e0]; exact ⟨true, rfl, by simp; omega⟩
    ·have e0 : decide ((k : Int) < ((b.length : Nat) : Int)) = false := by simp; omega
     rw [e0, cond_false]
     exact ⟨_, rfl, by simp; omega⟩
  rw [ht1]
  simp only [Option.bind_some]
  rcases Bool.eq_false_or_eq_true t with h | h
  ·have hor := ht2.1 h
   subst h
   have hkm : k < m + 1 := by
    rcases hor with h | h
    ·omega
    ·rcases Nat.lt_or_ge m k with h2 | h2
     ·have := hcm h2; omega
     ·omega
   simp only [cond_true]
   rw [g_digit, g_digit]
   simp only [Option.bind_some]
   have hx := dg_range (by decide) ha k
   have hy := dg_range (by decide) hb k
   have h1 := bv_take_succ (16777216 : Int) a k
   have h2 := bv_take_succ (16777216 : Int) b k
   obtain ⟨x, hxe⟩ : ∃ x, dg a k = x := ⟨_, rfl⟩
   obtain ⟨y, hye⟩ : ∃ y, dg b k = y := ⟨_, rfl⟩
   rw [hxe] at hx h1 ⊢
   rw [hye] at hy h2 ⊢
   have w1 : IntKind.i64.wrap (IntKind.i64.wrap (x + y) + c) = x + y + c := by rw [wrap64 (n := x + y) (by omega) (by omega), wrap64 (by omega) (by omega)]
   rw [w1, if_pos (by simp; omega), Int.tmod_eq_emod_of_nonneg (by omega), Int.tdiv_eq_ediv_of_nonneg (by omega), wrap64 (n := (x + y + c) / 16777216) (by omega) (by omega), wrap64 (n := (k : Int) + 1) (by omega) (by omega)]
   refine .inl ⟨_, rfl, hkm, _, _, rfl, by simp [hlo], dig_snoc hdo (by omega) (by omega), by omega, by omega, ?_, ?_, ?_⟩
   ·rw [bv_append, hlo, h1, h2]
    simp only [bv, Int.mul_zero, Int.add_zero]
    have h3 : (16777216 : Int) ^ (k + 1) = (16777216 : Int) ^ k * (16777216 : Int) := Int.pow_succ _ _
    have h4 := Int.emod_add_mul_ediv (x + y + c) (16777216 : Int)
    rw [h3]
    generalize (x + y + c) % (16777216 : Int) = q at h4 ⊢
    generalize (x + y + c) / (16777216 : Int) = t at h4 ⊢
    generalize bv (16777216 : Int) (a.take k) = A at *
    generalize bv (16777216 : Int) (b.take k) = D at *
    grind
   ·intro hlt
    have hk2 : m = k := by omega
    have : x = 0 := by rw [← hxe]; exact dg_out (by omega)
    have : y = 0 := by rw [← hye]; exact dg_out (by omega)
    omega
   ·intro hle hz
    rcases Nat.lt_or_ge k m with h | h
    ·-- the last digit of the longer one
     have hk2 : m = k + 1 := by omega
     have hone : x ≠ 0 ∨ y ≠ 0 := by
      rcases Nat.lt_or_ge k a.length with h3 | h3
      ·left
       intro e
       have : a = a.take k ++ [a[k]] := by rw [← take_snoc h3, List.take_of_length_le (by omega)]
       apply hta
       rw [this, ← dg_get h3, hxe, e]; simp
      ·right
       intro e
       have h4 : k < b.length := by omega
       have : b = b.take k ++ [b[k]] := by rw [← take_snoc h4, List.take_of_length_le (by omega)]
       apply htb
       rw [this, ← dg_get h4, hye, e]; simp
     exact tight_snoc (by omega)
    ·have : x = 0 := by rw [← hxe]; exact dg_out (by omega)
     have : y = 0 := by rw [← hye]; exact dg_out (by omega)
     exact tight_snoc (by omega)
  ·have hor : ¬(k < m ∨ 0 < c) := by rw [← ht2, h]; simp
   subst h
   have hc : c = 0 := by omega
   refine .inr ⟨(out, ()), by simp only [cond_false], ?_, hdo, htm (by omega) hc, by show out.length ≤ _; omega⟩
   rw [hc, bv_take_all (by omega), bv_take_all (by omega)] at hv
   show bv (16777216 : Int) out = _
   rw [← hv]; simp
 ·rintro ⟨r, u⟩ ⟨q1, q2, q3, q4⟩
  exact ⟨r, rfl, q1, q2, q3, q4⟩
theorem h_minus (a b : List Int) (ha : dig (16777216 : Int) a) (hb : dig (16777216 : Int) b) (hla : a.length ≤ 16500000) (hle : b.length ≤ a.length) (hv0 : bv (16777216 : Int) b ≤ bv (16777216 : Int) a) :
  ∃ r, F_ref08_minus a b = some r ∧ (bv (16777216 : Int) r = bv (16777216 : Int) a - bv (16777216 : Int) b ∧ dig (16777216 : Int) r ∧ r.length = a.length) := by
 unfold F_ref08_minus
 refine iter_bind (Q := fun r : List Int × Unit => bv (16777216 : Int) r.1 = bv (16777216 : Int) a - bv (16777216 : Int) b ∧ dig (16777216 : Int) r.1 ∧ r.1.length = a.length)
  (fun k s => ∃ c out, s = (c, (k : Int), out, ()) ∧ k ≤ a.length ∧ out.length = k ∧ dig (16777216 : Int) out ∧ 0 ≤ c ∧ c ≤ 1 ∧ bv (16777216 : Int) out - (16777216 : Int) ^ k * c = bv (16777216 : Int) (a.take k) - bv (16777216 : Int) (b.take k)) a.length (by unfold big; omega) ?_ ⟨0, [], rfl, Nat.zero_le _, rfl, (fun x hx => nomatch hx), by omega, by omega, by simp [bv]⟩ ?_
 ·rintro k s hk ⟨c, out, rfl, _, hlo, hdo, hc0, hc1, hv⟩
  rcases Nat.lt_or_ge k a.length with hlt | hge
  ·have e0 : decide ((k : Int) < ((a.length : Nat) : Int)) = true := by simp; omega
   simp only [e0, cond_true]
   rw [idx_nat hlt, ← dg_get hlt, g_digit]
   simp only [Option.bind_some]
   have hx := dg_range (by decide) ha k
   have hy := dg_range (by decide) hb k
   have h1 := bv_take_succ (16777216 : Int) a k
   have h2 := bv_take_succ (16777216 : Int) b k
   obtain ⟨x, hxe⟩ : ∃ x, dg a k = x := ⟨_, rfl⟩
   obtain ⟨y, hye⟩ : ∃ y, dg b k = y := ⟨_, rfl⟩
   rw [hxe] at hx h1 ⊢
   rw [hye] at hy h2 ⊢
   have w1 : IntKind.i64.wrap (IntKind.i64.wrap (x - y) - c) = x - y - c := by rw [wrap64 (n := x - y) (by omega) (by omega), wrap64 (by omega) (by omega)]
   rw [w1]
   refine .inl (step_of hlt ?_)
   have hp : ∃ c' z, ((bif (decide (x - y - c < 0)) then some (1, (IntKind.i64.wrap (x - y - c + 16777216)), ()) else some (0, (x - y - c), ()) : Option (Int × Int × Unit))) = some (c', z, ()) ∧ 0 ≤ c' ∧ c' ≤ 1 ∧ 0 ≤ z ∧ z < 16777216 ∧ z - 16777216 * c' = x - y - c := by
    rcases Int.lt_or_le (x - y - c) 0 with h | h
    ·have e : decide (x - y - c < 0) = true := by simpa using h
     rw [e]
     exact ⟨1, x - y - c + 16777216, by rw [wrap64 (by omega) (by omega)]; rfl, by omega, by omega, by omega, by omega, by omega⟩
    ·have e : decide (x - y - c < 0) = false := by simpa using h
     rw [e]
     exact ⟨0, x - y - c, rfl, by omega, by omega, by omega, by omega, by omega⟩
   obtain ⟨c', z, p1, p2, p3, p4, p5, p6⟩ := hp
   rw [p1]
   simp only [Option.bind_some]
   rw [if_pos (by simp; omega), wrap64 (n := (k : Int) + 1) (by omega) (by omega)]
   refine ⟨_, rfl, _, rfl, c', _, rfl, hlt, by simp [hlo], dig_snoc hdo p4 p5, p2, p3, ?_⟩
   rw [bv_append, hlo, h1, h2]
   simp only [bv, Int.mul_zero, Int.add_zero]
   have h3 : (16777216 : Int) ^ (k + 1) = (16777216 : Int) ^ k * (16777216 : Int) := Int.pow_succ _ _
   rw [h3]
   generalize bv (16777216 : Int) (a.take k) = A at *
   generalize bv (16777216 : Int) (b.take k) = D at *
   grind
  ·have hk' : k = a.length := by omega
   subst hk'
   have e0 : decide (((a.length : Nat) : Int) < ((a.length : Nat) : Int)) = false := by simp
   refine .inr ⟨(out, ()), by simp only [e0, cond_false], ?_, hdo, hlo⟩
   rw [List.take_length, bv_take_all hle] at hv
   have hr := bv_range (by decide) hdo
   rw [hlo] at hr
   show bv (16777216 : Int) out = _
   have hc : c = 0 := by
    rcases Int.lt_or_le c 1 with h | h
    ·omega
    ·have : c = 1 := by omega
     rw [this, Int.mul_one] at hv
     omega
   rw [hc, Int.mul_zero, Int.sub_zero] at hv
   exact hv
 ·rintro ⟨r, u⟩ ⟨q1, q2, q3⟩
  exact ⟨r, rfl, q1, q2, q3⟩
end Go.Proofs.YtcaopooflemnlaaGreat

/- Turning a row round, as the library does it. -/
namespace Go.Proofs.YtcaopooflemnlaaGreat
set_option linter.unusedVariables false

theorem iter_revW {α : Type} (l : List α) (hl : l.length ≤ 2147483648) :
  (iterF (σ := Int × Int × List α × Unit) (ρ := List α × Unit) (fun s61 => (bif (decide (s61.1 < s61.2.1)) then (idx s61.2.2.1 s61.2.1).bind fun _x62 => (s61.2.2.1[(Int.toNat s61.2.1)]?).bind fun x63 => (idx s61.2.2.1 s61.1).bind fun _x64 => (s61.2.2.1[(Int.toNat s61.1)]?).bind fun x65 => (idx s61.2.2.1 s61.1).bind fun _x66 => (s61.2.2.1[(Int.toNat s61.1)]?).bind fun x67 => (idx (s61.2.2.1.set (Int.toNat s61.1) x63) s61.2.1).bind fun _x68 => ((s61.2.2.1.set (Int.toNat s61.1) x63)[(Int.toNat s61.2.1)]?).bind fun x69 => some (.inl ((IntKind.i64.wrap (s61.1 + 1)), (IntKind.i64.wrap (s61.2.1 - 1)), ((s61.2.2.1.set (Int.toNat s61.1) x63).set (Int.toNat s61.2.1) x65), ())) else some (.inr (s61.2.2.1, ())))) big (0, (IntKind.i64.wrap (((l.length : Nat) : Int) - 1)), l, ())) = some (l.reverse, ()) := by
 rw [wrap64 (by omega) (by omega)]
 obtain ⟨r, g1, g2⟩ := iter_inv (F := fun s61 : Int × Int × List α × Unit => (bif (decide (s61.1 < s61.2.1)) then (idx s61.2.2.1 s61.2.1).bind fun _x62 => (s61.2.2.1[(Int.toNat s61.2.1)]?).bind fun x63 => (idx s61.2.2.1 s61.1).bind fun _x64 => (s61.2.2.1[(Int.toNat s61.1)]?).bind fun x65 => (idx s61.2.2.1 s61.1).bind fun _x66 => (s61.2.2.1[(Int.toNat s61.1)]?).bind fun x67 => (idx (s61.2.2.1.set (Int.toNat s61.1) x63) s61.2.1).bind fun _x68 => ((s61.2.2.1.set (Int.toNat s61.1) x63)[(Int.toNat s61.2.1)]?).bind fun x69 => some (.inl ((IntKind.i64.wrap (s61.1 + 1)), (IntKind.i64.wrap (s61.2.1 - 1)), ((s61.2.2.1.set (Int.toNat s61.1) x63).set (Int.toNat s61.2.1) x65), ())) else some (.inr (s61.2.2.1, ())) : Option ((Int × Int × List α × Unit) ⊕ (List α × Unit))))
  (Q := fun r => r = (l.reverse, ())) (fun k s => ∃ t : List α, s = ((k : Int), (l.length : Int) - 1 - (k : Int), t, ()) ∧ t.length = l.length ∧ ∀ i, i < l.length → t[i]? = if i < k ∨ l.length ≤ i + k then l[l.length - 1 - i]? else l[i]?) l.length (by unfold big; omega) (fun k s hk hs => by
   obtain ⟨t, rfl, ht, hg⟩ := hs
   by_cases hlt : (k : Int) < (l.length : Int) - 1 - (k : Int)
   ·have hj : ∃ j : Nat, (l.length : Int) - 1 - (k : Int) = (j : Int) ∧ j = l.length - 1 - k := ⟨l.length - 1 - k, by omega, rfl⟩
    obtain ⟨j, ej, hj⟩ := hj
    rw [ej] at hlt ⊢
    have hkt : k < t.length := by omega
    have hjt : j < t.length := by omega
    have hk2 : k < (t.set k t[j]).length := by rw [List.length_set]; exact hkt
    have hj2 : j < (t.set k t[j]).length := by rw [List.length_set]; exact hjt
    refine .inl ⟨((k : Int) + 1, (j : Int) - 1, (t.set k t[j]).set j t[k], ()), ?_, by omega, (t.set k t[j]).set j t[k], ?_, ?_, ?_⟩
    ·simp only [decide_eq_true hlt, cond_true, idx_at hkt, idx_at hjt, Option.bind_some, Int.toNat_natCast, List.getElem?_eq_getElem hkt, List.getElem?_eq_getElem hjt, idx_at hj2, List.getElem?_eq_getElem hj2]
     rw [wrap64 (by omega) (by omega), wrap64 (by omega) (by omega)]
    ·congr 1
     ·congr 1; omega
    ·simp [ht]
    ·intro i hi
     have h1 := hg i hi
     rw [List.getElem?_set, List.length_set]
     by_cases e1 : j = i
     ·subst e1
      have h2 := hg k (by omega)
      rw [if_pos rfl, if_pos hjt, if_pos (by omega), ← List.getElem?_eq_getElem hkt, h2, if_neg (by omega)]
      congr 1; omega
     ·rw [if_neg e1, List.getElem?_set]
      by_cases e2 : k = i
      ·subst e2
       have h2 := hg j (by omega)
       rw [if_pos rfl, if_pos hkt, if_pos (by omega), ← List.getElem?_eq_getElem hjt, h2, if_neg (by omega), hj]
      ·rw [if_neg e2, h1]
       by_cases c : i < k ∨ l.length ≤ i + k
       ·rw [if_pos c, if_pos (by omega)]
       ·rw [if_neg c, if_neg (by omega)]
   ·refine .inr ⟨(t, ()), by simp only [decide_eq_false hlt, cond_false], ?_⟩
    congr 1
    apply List.ext_getElem?
    intro i
    by_cases hi : i < l.length
    ·rw [hg i hi, List.getElem?_reverse hi]
     by_cases c : i < k ∨ l.length ≤ i + k
     ·rw [if_pos c]
     ·rw [if_neg c]
      congr 1; omega
    ·rw [List.getElem?_eq_none (by omega), List.getElem?_eq_none (by simp; omega)]) (s := (0, (l.length : Int) - 1, l, ())) ⟨l, by simp, rfl, fun i hi => by rw [if_neg (by omega)]⟩
 subst g2
 exact g1
end Go.Proofs.YtcaopooflemnlaaGreat

/- The reference's numbers of many digits: Int, Neg, Product, Sum, half, even. -/
namespace Go.Proofs.YtcaopooflemnlaaGreat
set_option linter.unusedVariables false
set_option linter.unusedSimpArgs false

structure Wg (l : List Int) (v : Nat) : Prop where
 dig : dig (16777216 : Int) l
 tight : tight l
 len : l.length ≤ 16000000
 val : bv (16777216 : Int) l = v
structure Nb (a : TBig) (v : Int) : Prop where
 w : Wg a.d v.natAbs
 neg : a.neg = true ↔ v < 0
 len : a.d.length ≤ 8000000
theorem Wg.zero {l : List Int} {v : Nat} (h : Wg l v) : l = [] ↔ v = 0 := by
 rw [← bv_zero (by decide) h.dig h.tight, h.val]; omega
theorem Wg.lt {l : List Int} {v : Nat} (h : Wg l v) : v < 2 ^ (24 * l.length) := by
 have h1 := (bv_range (by decide) h.dig).2
 rw [h.val] at h1
 have e : (16777216 : Int) ^ l.length = ((2 ^ (24 * l.length) : Nat) : Int) := by
  rw [Nat.pow_mul, Int.natCast_pow]; rfl
 rw [e] at h1
 exact_mod_cast h1
theorem Wg.le {a b : List Int} {u v : Nat} (ha : Wg a u) (hb : Wg b v) (h : u ≤ v) : a.length ≤ b.length := by
 rcases Nat.lt_or_ge b.length a.length with hl | hl
 ·have := bv_lt_len (by decide) hb.dig ha.dig ha.tight hl
  rw [ha.val, hb.val] at this
  omega
 ·exact hl
theorem Wg.add {a b : List Int} {u v : Nat} (ha : Wg a u) (hb : Wg b v) (hl : max a.length b.length + 1 ≤ 16000000) : ∃ r, F_ref08_plus a b = some r ∧ Wg r (u + v) ∧ r.length ≤ max a.length b.length + 1 := by
 obtain ⟨r, r1, r2, r3, r4, r5⟩ := h_plus a b ha.dig hb.dig ha.tight hb.tight (by have := ha.len; omega) (by have := hb.len; omega)
 exact ⟨r, r1, ⟨r3, r4, by omega, by rw [r2, ha.val, hb.val]; omega⟩, r5⟩
theorem Wg.sub {a b : List Int} {u v : Nat} (neg : Bool) (ha : Wg a u) (hb : Wg b v) (h : v ≤ u) : ∃ r t, F_ref08_minus a b = some r ∧ F_ref08_trim ⟨neg, r⟩ = some t ∧ Wg t.d (u - v) ∧ t.d.length ≤ a.length ∧ (t.neg = true ↔ neg = true ∧ u - v ≠ 0) := by
 obtain ⟨r, r1, r2, r3, r4⟩ := h_minus a b ha.dig hb.dig (by have := ha.len; omega) (hb.le ha h) (by rw [ha.val, hb.val]; omega)
 obtain ⟨t, t1, t2, t3, t4, t5, t6⟩ := g_trim (neg := neg) r3 (by rw [r4]; have := ha.len; omega)
 have hv : bv (16777216 : Int) r = ((u - v : Nat) : Int) := by rw [r2, ha.val, hb.val]; omega
 refine ⟨r, t, r1, t1, ⟨t3, t4, by have := ha.len; omega, by rw [t2, hv]⟩, by omega, ?_⟩
 rw [t6, hv]
 exact and_congr_right fun _ => by omega
end Go.Proofs.YtcaopooflemnlaaGreat

/- The reference's numbers of many digits: Gcd. -/
namespace Go.Proofs.YtcaopooflemnlaaGreat
set_option linter.unusedVariables false
set_option linter.unusedSimpArgs false

theorem Wg.ne {l : List Int} {v : Nat} (h : Wg l v) (hv : 0 < v) : 0 < l.length := by
 apply List.length_pos_iff.2
 intro e
 have := h.zero.1 e
 omega
end Go.Proofs.YtcaopooflemnlaaGreat

/- The reference's exact numbers: Quotient, Lower; Plus, Less, Times, Over, Sign, Cmp as rational numbers. -/
namespace Go.Proofs.YtcaopooflemnlaaGreat
set_option linter.unusedVariables false
set_option linter.unusedSimpArgs false

structure Gq (x : TExact) (q : Rat) (c : Nat) : Prop where
 ex : ∃ v w : Int, Nb x.n v ∧ Nb x.d w ∧ 0 < w ∧ q * (w : Rat) = (v : Rat)
 ln : x.n.d.length ≤ c
 ld : x.d.d.length ≤ c
theorem Gq.mono {x : TExact} {q : Rat} {c e : Nat} (h : Gq x q c) (hc : c ≤ e) : Gq x q e := ⟨h.ex, Nat.le_trans h.ln hc, Nat.le_trans h.ld hc⟩
theorem Gq.cast {x : TExact} {q r : Rat} {c : Nat} (h : Gq x q c) (e : q = r) : Gq x r c := e ▸ h
end Go.Proofs.YtcaopooflemnlaaGreat

/- The reference's beams as rational numbers: Turned, Left, Right, far. -/
namespace Go.Proofs.YtcaopooflemnlaaGreat
set_option linter.unusedVariables false
set_option linter.unusedSimpArgs false

theorem Gq.skip {x : TExact} {q : Rat} {c e : Nat} (h : Gq x q c) : Gq x (q + 0) (c + e) := (h.mono (Nat.le_add_right _ _)).cast (by grind)
end Go.Proofs.YtcaopooflemnlaaGreat

/- What the program and the reference tell of a beam's moments and reactions. -/
namespace Go.Proofs.YtcaopooflemnlaaGreat
set_option linter.unusedVariables false
set_option linter.unusedSimpArgs false

def tilt (b : TBeam) : Prop := b.supports.length = 1 ∧ fstQ b ≠ lstQ b
def reaL (b : TBeam) : List Rat := (List.range b.supports.length).map (reactB b)
structure SmallB (b : TBeam) : Prop where
 name : b.name.size ≤ 1000000
 sup : b.supports.length ≤ 1000000
 ld : b.loads.length ≤ 1000000
theorem list_of {α : Type} {R : α → Rat → Prop} {l : List α} {n : Nat} (f : Nat → Rat) (hl : l.length = n) (h : ∀ i, i < n → ∃ x, l[i]? = some x ∧ R x (f i)) : ∀ (i : Nat) (h1 : i < l.length) (h2 : i < ((List.range n).map f).length), R l[i] ((List.range n).map f)[i] := by
 intro i h1 h2
 obtain ⟨x, x1, x2⟩ := h i (by omega)
 rw [List.getElem?_eq_getElem h1] at x1
 injection x1 with x1
 rw [x1]
 simpa using x2
theorem f_given_ok {b : TBeam} (hw : SmallB b) (h : validBm b = true) (ht : ¬ tilt b) : Gs (F_beam_given b) fun r => r.2 = 0 ∧ r.1.length = b.supports.length ∧ ∀ i, i < b.supports.length → ∃ x, r.1[i]? = some x ∧ Xq x (momB b i) 82000 := by
 obtain ⟨hb, hs⟩ := valid_in h
 unfold F_beam_given
 refine go (f_bvalid hw.name hw.sup hw.ld) (gf (by rw [h]; rfl) (gcall (f_moments hb hs) fun r hr => ?_))
 have h2 : r.2 = true := hr.1.2 fun h1 => Classical.byContradiction fun h3 => ht ⟨h1, h3⟩
 refine gf (by rw [h2]; rfl) (gend ⟨rfl, hr.2 h2⟩)
theorem f_Reactions {b : TBeam} (hw : SmallB b) (h : validBm b = true) (ht : ¬ tilt b) : F_beam_Reactions b = some (outL (reaL b)) := by
 apply gs_eq
 obtain ⟨hb, hs⟩ := valid_in h
 have hn : b.supports.length ≤ 10 := hs.n10
 unfold F_beam_Reactions
 refine gcall (f_given_ok hw h ht) fun r hr => ?_
 obtain ⟨h1, h2, h3⟩ := hr
 refine gf (by rw [h1]; rfl) (gcall (f_reactions hb hs h3) fun t ht => ?_)
 refine go (f_fractions (qs := reaL b) (c := 330000) (by omega) (by rw [ht.1]; unfold reaL; simp) ?_) (gend rfl)
 exact list_of (R := fun x q => Xq x q 330000) (reactB b) ht.1 ht.2
end Go.Proofs.YtcaopooflemnlaaGreat

/- All weight is borne; the moments of a beam that doesn't tilt. -/
namespace Go.Proofs.YtcaopooflemnlaaGreat
set_option linter.unusedVariables false
set_option linter.unusedSimpArgs false

theorem mom_end {b : TBeam} (hs : SupOk b) : momB b (b.supports.length - 1) = lstQ b := by
 unfold momB; rw [mom_last]
theorem sp_mono {b : TBeam} (hs : SupOk b) {i : Nat} : ∀ {j : Nat}, i ≤ j → j < b.supports.length → sp b i ≤ sp b j := by
 intro j
 induction j with
 | zero => intro h _; rw [show i = 0 from by omega]; omega
 | succ j ih =>
  intro h hj
  rcases Nat.lt_or_ge i (j + 1) with h1 | h1
  ·have := ih (by omega) (by omega)
   have : sp b j < sp b (j + 1) := hs.inc j hj
   omega
  ·rw [show i = j + 1 from by omega]; omega
theorem mom_start {b : TBeam} (hs : SupOk b) (ht : ¬ tilt b) : momB b 0 = fstQ b := by
 have hn := hs.n1
 unfold momB
 by_cases h1 : b.supports.length = 1
 ·have := Classical.byContradiction fun h3 => ht ⟨h1, h3⟩
  rw [show (0 : Nat) = b.supports.length - 1 from by omega, mom_last]
  exact this.symm
 ·rw [mom_first _ _ _ _ (by omega)]
theorem mom_eqs {b : TBeam} (hs : SupOk b) {i : Nat} (h : i + 2 < b.supports.length) : gp b i * momB b i + 2 * (gp b i + gp b (i + 1)) * momB b (i + 1) + gp b (i + 1) * momB b (i + 2) = Rp b (i + 1) :=
 mom_three (fun j hj => gp_pos hs j hj) h
theorem sp_lt {b : TBeam} (hs : SupOk b) {i j : Nat} (h : i < j) (hj : j < b.supports.length) : sp b i < sp b j := by
 have h1 := sp_mono hs (i := i) (j := j - 1) (by omega) (by omega)
 have h2 : sp b (j - 1) < sp b j := by
  obtain ⟨k, rfl⟩ : ∃ k, j = k + 1 := ⟨j - 1, by omega⟩
  exact hs.inc k hj
 omega
end Go.Proofs.YtcaopooflemnlaaGreat

/- The turned beam has the same moments and reactions. -/
namespace Go.Proofs.YtcaopooflemnlaaGreat
set_option linter.unusedVariables false
set_option linter.unusedSimpArgs false

theorem turn_len (b : TBeam) : (turnB b).supports.length = b.supports.length := by unfold turnB; simp
theorem turn_sp {b : TBeam} {j : Nat} (hj : j < b.supports.length) : sp (turnB b) j = b.length - sp b (b.supports.length - 1 - j) := by
 have h1 : b.supports.length - 1 - j < b.supports.length := by omega
 unfold sp turnB
 simp only [List.getD_eq_getElem?_getD, List.getElem?_map]
 rw [List.getElem?_reverse hj, List.getElem?_eq_getElem h1]
 rfl
theorem turnW_twice (L : Int) (w : List Ld) : turnW L (turnW L w) = w := by
 unfold turnW
 rw [List.map_map]
 conv => rhs; rw [← List.map_id w]
 apply List.map_congr_left
 intro x _
 show (L - (L - x.1), x.2) = x
 rw [show L - (L - x.1) = x.1 from by omega]
theorem at_turn (L : Int) (w : List Ld) (a : Int) : atQ (turnW L w) (L - a) = atQ w a := by
 unfold atQ turnW
 rw [sumQ_map]
 apply sumQ_congr
 intro x _
 show (if L - x.1 = L - a then (x.2 : Rat) else 0) = _
 by_cases h : x.1 = a
 ·rw [if_pos h, if_pos (by omega)]
 ·rw [if_neg h, if_neg (by omega)]
theorem side_turn (E L : Int) (w : List Ld) (a c : Int) (left : Bool) : sideQ E (turnW L w) (L - c) (L - a) left = sideQ E w a c (!left) := by
 unfold sideQ turnW
 rw [sumQ_map, show L - a - (L - c) = c - a from by omega]
 congr 1
 apply sumQ_congr
 intro x _
 simp only
 by_cases h : x.1 ≤ a ∨ c ≤ x.1
 ·rw [if_pos h, if_pos (by omega)]
 ·rw [if_neg h, if_neg (by omega)]
  cases left
  ·simp only [Bool.false_eq_true, if_false, Bool.not_false, if_true]
   rw [show L - a - (L - x.1) = x.1 - a from by omega]
  ·simp only [Bool.not_true, Bool.false_eq_true, if_false, if_true]
   rw [show L - x.1 - (L - c) = c - x.1 from by omega]
theorem lever_turn (E L : Int) (w : List Ld) (a c : Int) (left : Bool) : leverQ E (turnW L w) (L - c) (L - a) left = leverQ E w a c (!left) := by
 unfold leverQ turnW
 rw [sumQ_map, show L - a - (L - c) = c - a from by omega]
 congr 1
 apply sumQ_congr
 intro x _
 simp only
 by_cases h : x.1 ≤ a ∨ c ≤ x.1
 ·rw [if_pos h, if_pos (by omega)]
 ·rw [if_neg h, if_neg (by omega)]
  cases left
  ·simp only [Bool.false_eq_true, if_false, Bool.not_false, if_true]
   rw [show L - x.1 - (L - c) = c - x.1 from by omega]
  ·simp only [Bool.not_true, Bool.false_eq_true, if_false, if_true]
   rw [show L - a - (L - x.1) = x.1 - a from by omega]
theorem turn_gp {b : TBeam} {j : Nat} (hj : j + 1 < b.supports.length) : gp (turnB b) j = gp b (b.supports.length - 2 - j) := by
 unfold gp
 rw [turn_sp (show j < b.supports.length by omega), turn_sp (show j + 1 < b.supports.length from hj)]
 congr 1
 rw [show b.supports.length - 1 - j = b.supports.length - 2 - j + 1 from by omega, show b.supports.length - 1 - (j + 1) = b.supports.length - 2 - j from by omega]
 omega
theorem turn_fst {b : TBeam} (hn : 1 ≤ b.supports.length) : fstQ (turnB b) = lstQ b ∧ lstQ (turnB b) = fstQ b := by
 constructor
 ·unfold fstQ lstQ
  rw [turn_lds, turn_sp (by omega)]
  rfl
 ·unfold fstQ lstQ
  rw [turn_lds, turn_len, turn_sp (by omega), show b.supports.length - 1 - (b.supports.length - 1) = 0 from by omega]
  show 0 - overQ b.even (turnW b.length (turnW b.length (lds b.loads))) (b.length - (b.length - sp b 0)) = _
  rw [turnW_twice, show b.length - (b.length - sp b 0) = sp b 0 from by omega]
theorem turn_sup {b : TBeam} (hs : SupOk b) : SupOk (turnB b) := by
 refine ⟨by rw [turn_len]; exact hs.n1, by rw [turn_len]; exact hs.n10, ?_, ?_⟩
 ·intro x hx
  unfold turnB at hx
  obtain ⟨y, hy, rfl⟩ := List.mem_map.1 hx
  have := hs.rg y (List.mem_reverse.1 hy)
  show 0 ≤ b.length - y ∧ b.length - y ≤ b.length
  omega
 ·intro i hi
  rw [turn_len] at hi
  show sp (turnB b) i < sp (turnB b) (i + 1)
  rw [turn_sp (by omega), turn_sp hi]
  have := sp_lt hs (i := b.supports.length - 1 - (i + 1)) (j := b.supports.length - 1 - i) (by omega) (by omega)
  omega
theorem turn_Rp {b : TBeam} {i : Nat} (hi : i + 2 < b.supports.length) : Rp (turnB b) (i + 1) = Rp b (b.supports.length - 2 - i) := by
 obtain ⟨k, hk⟩ : ∃ k, b.supports.length = k + i + 3 := ⟨b.supports.length - i - 3, by omega⟩
 unfold Rp
 rw [turn_lds, Nat.add_sub_cancel, turn_sp (by omega), turn_sp (by omega), turn_sp (by omega)]
 rw [show b.supports.length - 1 - i = k + 2 from by omega, show b.supports.length - 1 - (i + 1) = k + 1 from by omega, show b.supports.length - 1 - (i + 1 + 1) = k from by omega, show b.supports.length - 2 - i = k + 1 from by omega]
 show 0 - sideQ b.even (turnW b.length (lds b.loads)) (b.length - sp b (k + 2)) (b.length - sp b (k + 1)) true - sideQ b.even (turnW b.length (lds b.loads)) (b.length - sp b (k + 1)) (b.length - sp b k) false = _
 rw [side_turn, side_turn]
 show _ = 0 - sideQ b.even (lds b.loads) (sp b k) (sp b (k + 1)) true - sideQ b.even (lds b.loads) (sp b (k + 1)) (sp b (k + 2)) false
 simp only [Bool.not_true, Bool.not_false]
 grind
theorem turn_mom {b : TBeam} (hs : SupOk b) (ht : ¬ tilt b) {j : Nat} (hj : j < b.supports.length) : momB (turnB b) j = momB b (b.supports.length - 1 - j) := by
 have hn := hs.n1
 obtain ⟨h1, h2⟩ := turn_fst hn
 symm
 unfold momB
 rw [turn_len]
 refine mom_unique (n := b.supports.length) (g := gp (turnB b)) (R := Rp (turnB b)) (first := fstQ (turnB b)) (last := lstQ (turnB b)) (fun k hk => gp_pos (turn_sup hs) k (by rw [turn_len]; exact hk)) (fun j => momB b (b.supports.length - 1 - j)) ?_ ?_ ?_ hj
 ·rw [h1]; exact mom_end hs
 ·rw [h2]
  show momB b (b.supports.length - 1 - (b.supports.length - 1)) = _
  rw [Nat.sub_self]; exact mom_start hs ht
 ·intro i hi
  rw [turn_Rp hi, turn_gp (by omega), turn_gp (by omega)]
  obtain ⟨k, hk⟩ : ∃ k, b.supports.length = k + i + 3 := ⟨b.supports.length - i - 3, by omega⟩
  have h3 := mom_eqs hs (i := k) (by omega)
  show gp b (b.supports.length - 2 - i) * momB b (b.supports.length - 1 - i) + 2 * (gp b (b.supports.length - 2 - i) + gp b (b.supports.length - 2 - (i + 1))) * momB b (b.supports.length - 1 - (i + 1)) + gp b (b.supports.length - 2 - (i + 1)) * momB b (b.supports.length - 1 - (i + 2)) = _
  rw [show b.supports.length - 1 - i = k + 2 from by omega, show b.supports.length - 1 - (i + 1) = k + 1 from by omega, show b.supports.length - 1 - (i + 2) = k from by omega, show b.supports.length - 2 - i = k + 1 from by omega, show b.supports.length - 2 - (i + 1) = k from by omega, ← h3]
  grind
theorem turn_rea {b : TBeam} (hs : SupOk b) (ht : ¬ tilt b) {j : Nat} (hj : j < b.supports.length) : reactB (turnB b) j = reactB b (b.supports.length - 1 - j) := by
 have hn := hs.n1
 obtain ⟨m, hm⟩ : ∃ m, b.supports.length = m + j + 1 := ⟨b.supports.length - j - 1, by omega⟩
 have hmj : b.supports.length - 1 - j = m := by omega
 have e : reactB (turnB b) j = atQ (turnW b.length (lds b.loads)) (sp (turnB b) j) + (if 0 < j then leverQ b.even (turnW b.length (lds b.loads)) (sp (turnB b) (j - 1)) (sp (turnB b) j) false + (momB (turnB b) (j - 1) - momB (turnB b) j) / ((sp (turnB b) j - sp (turnB b) (j - 1) : Int) : Rat) else 0)
  + (if j + 1 < b.supports.length then leverQ b.even (turnW b.length (lds b.loads)) (sp (turnB b) j) (sp (turnB b) (j + 1)) true + (momB (turnB b) (j + 1) - momB (turnB b) j) / ((sp (turnB b) (j + 1) - sp (turnB b) j : Int) : Rat) else 0)
  + (if j = 0 then beyondQ b.even (turnW b.length (lds b.loads)) (sp (turnB b) j) else 0) + (if j + 1 = b.supports.length then beyondQ b.even (turnW b.length (turnW b.length (lds b.loads))) (b.length - sp (turnB b) j) else 0) := by
  unfold reactB reactQ
  rw [turn_lds, turn_len]
  rfl
 rw [e, hmj, turnW_twice]
 have hA : (if 0 < j then leverQ b.even (turnW b.length (lds b.loads)) (sp (turnB b) (j - 1)) (sp (turnB b) j) false + (momB (turnB b) (j - 1) - momB (turnB b) j) / ((sp (turnB b) j - sp (turnB b) (j - 1) : Int) : Rat) else 0) = (if m + 1 < b.supports.length then leverQ b.even (lds b.loads) (sp b m) (sp b (m + 1)) true + (momB b (m + 1) - momB b m) / ((sp b (m + 1) - sp b m : Int) : Rat) else 0) := by
  by_cases h : 0 < j
  ·rw [if_pos h, if_pos (by omega), turn_sp (by omega), turn_sp hj, turn_mom hs ht hj, turn_mom hs ht (by omega), hmj, show b.supports.length - 1 - (j - 1) = m + 1 from by omega, lever_turn]
   rw [show b.length - sp b m - (b.length - sp b (m + 1)) = sp b (m + 1) - sp b m from by omega]
   rfl
  ·rw [if_neg h, if_neg (by omega)]
 have hB : (if j + 1 < b.supports.length then leverQ b.even (turnW b.length (lds b.loads)) (sp (turnB b) j) (sp (turnB b) (j + 1)) true + (momB (turnB b) (j + 1) - momB (turnB b) j) / ((sp (turnB b) (j + 1) - sp (turnB b) j : Int) : Rat) else 0) = (if 0 < m then leverQ b.even (lds b.loads) (sp b (m - 1)) (sp b m) false + (momB b (m - 1) - momB b m) / ((sp b m - sp b (m - 1) : Int) : Rat) else 0) := by
  by_cases h : j + 1 < b.supports.length
  ·rw [if_pos h, if_pos (by omega), turn_sp hj, turn_sp h, turn_mom hs ht hj, turn_mom hs ht h, hmj, show b.supports.length - 1 - (j + 1) = m - 1 from by omega, lever_turn]
   rw [show b.length - sp b (m - 1) - (b.length - sp b m) = sp b m - sp b (m - 1) from by omega]
   rfl
  ·rw [if_neg h, if_neg (by omega)]
 have hC : (if j = 0 then beyondQ b.even (turnW b.length (lds b.loads)) (sp (turnB b) j) else 0) = (if m + 1 = b.supports.length then beyondQ b.even (turnW b.length (lds b.loads)) (b.length - sp b m) else 0) := by
  by_cases h : j = 0
  ·rw [if_pos h, if_pos (by omega), turn_sp hj, hmj]
  ·rw [if_neg h, if_neg (by omega)]
 have hD : (if j + 1 = b.supports.length then beyondQ b.even (lds b.loads) (b.length - sp (turnB b) j) else 0) = (if m = 0 then beyondQ b.even (lds b.loads) (sp b m) else 0) := by
  by_cases h : m = 0
  ·rw [if_pos h, if_pos (by omega), turn_sp hj, hmj, show b.length - (b.length - sp b m) = sp b m from by omega]
  ·rw [if_neg h, if_neg (by omega)]
 rw [hA, hB, hC, hD, turn_sp hj, hmj, at_turn]
 unfold reactB reactQ
 grind
theorem range_rev {f g : Nat → Rat} {n : Nat} (h : ∀ j, j < n → f j = g (n - 1 - j)) : (List.range n).map f = ((List.range n).map g).reverse := by
 apply List.ext_getElem
 ·simp
 ·intro i h1 h2
  simp at h1
  rw [List.getElem_reverse]
  simp
  exact h i h1
theorem turn_reaL {b : TBeam} (hs : SupOk b) (ht : ¬ tilt b) : reaL (turnB b) = (reaL b).reverse := by
 unfold reaL
 rw [turn_len]
 exact range_rev fun j hj => turn_rea hs ht hj
end Go.Proofs.YtcaopooflemnlaaGreat

/- The beam of a valid set; the set seen from the other side. -/
namespace Go.Proofs.YtcaopooflemnlaaGreat
set_option linter.unusedVariables false
set_option linter.unusedSimpArgs false

def setBeam (s : TSet) : TBeam := ⟨s.name, s.length, s.lines, s.items.map (fun x => ⟨x.at_ + x.width / 2, x.weight⟩), s.pipe⟩
theorem set_sp {s : TSet} {i : Nat} (h : i < s.lines.length) : sp (setBeam s) i = s.lines[i] := by
 show s.lines.getD i 0 = _
 rw [List.getD_eq_getElem?_getD, List.getElem?_eq_getElem h]; rfl
theorem set_valid {s : TSet} (hg : Good s) : validBm (setBeam s) = true ∧ ¬ tilt (setBeam s) := by
 have a1 := hg.n0; have a2 := hg.n1; have a3 := hg.p0; have a4 := hg.p1; have a5 := hg.ln0; have a6 := hg.ln1; have a7 := hg.ni
 constructor
 ·unfold validBm
  rw [Bool.and_eq_true, Bool.and_eq_true, Bool.and_eq_true]
  refine ⟨?_, ?_, ?_, ?_⟩
  ·unfold badH1
   simp only [Bool.not_eq_true', Bool.or_eq_false_iff, decide_eq_false_iff_not, Bool.not_eq_false']
   refine ⟨hg.name, ?_, ?_, ?_, ?_⟩
   ·show ¬ s.length < 1; omega
   ·show ¬ s.length > 1048576; omega
   ·show ¬ s.pipe < 0; omega
   ·show ¬ s.pipe > 1048576; omega
  ·unfold badH2
   simp only [Bool.not_eq_true', Bool.or_eq_false_iff, decide_eq_false_iff_not]
   refine ⟨?_, ?_, ?_⟩
   ·show ¬ ((s.lines.length : Nat) : Int) < 1; omega
   ·show ¬ ((s.lines.length : Nat) : Int) > 10; omega
   ·show ¬ (((s.items.map _).length : Nat) : Int) > 40; rw [List.length_map]; omega
  ·apply all_of
   intro j hj
   have hj2 : j < s.lines.length := hj
   have h := hg.lat j hj2
   rw [lineAt_eq _ _ _ hj2, Bool.and_eq_true, between_iff, Bool.or_eq_true, decide_eq_true_iff, decide_eq_true_iff] at h
   have e1 := set_sp hj2
   have e2 := set_sp (s := s) (i := j - 1) (by omega)
   unfold badS
   simp only [Bool.not_eq_true', Bool.or_eq_false_iff, Bool.and_eq_false_iff, decide_eq_false_iff_not]
   rw [e1, e2]
   show ¬ s.lines[j] < 0 ∧ ¬ s.lines[j] > s.length ∧ _
   omega
  ·rw [List.all_eq_true]
   intro x hx
   obtain ⟨y, hy, rfl⟩ := List.mem_map.1 hx
   have h := hg.items y hy
   have b1 := h.p0; have b2 := h.w1; have b3 := h.pw; have b4 := h.m0; have b5 := h.m1
   unfold badL
   simp only [Bool.not_eq_true', Bool.or_eq_false_iff, decide_eq_false_iff_not]
   show ¬ y.at_ + y.width / 2 < 0 ∧ ¬ y.at_ + y.width / 2 > s.length ∧ ¬ y.weight < 0 ∧ ¬ y.weight > 67108864
   omega
 ·rintro ⟨h, _⟩
  have : s.lines.length = 1 := h
  omega
theorem set_small {s : TSet} (hn : s.name.size ≤ 1000000) (hg : Good s) : SmallB (setBeam s) := by
 have a6 := hg.ln1; have a7 := hg.ni
 exact ⟨hn, by show s.lines.length ≤ _; omega, by show (s.items.map _).length ≤ _; rw [List.length_map]; omega⟩
def flipI (L : Int) (x : TItem) : TItem := { x with at_ := L - x.at_ - x.width }
def flipS (s : TSet) : TSet := { s with lines := (s.lines.map (fun x => s.length - x)).reverse, items := s.items.map (flipI s.length) }
theorem pairsB_map {α β : Type} (f : α → β) {one : β → Bool} {two : β → β → Bool} {l : List α} : pairsB one two (l.map f) = pairsB (fun x => one (f x)) (fun x y => two (f x) (f y)) l := by
 rw [Bool.eq_iff_iff, pairs_iff, pairs_iff]
 constructor
 ·intro e i hi
  have h := e i (by rw [List.length_map]; exact hi)
  simp only [List.getElem_map] at h
  exact h
 ·intro e i hi
  have hi2 : i < l.length := by rw [List.length_map] at hi; exact hi
  have h := e i hi2
  simp only [List.getElem_map]
  exact h
theorem flip_valid {s : TSet} (hv : validB s = true) : validB (flipS s) = true := by
 have hg := Good.of hv
 unfold validB at hv ⊢
 rw [Bool.and_eq_true, Bool.and_eq_true, Bool.and_eq_true, Bool.and_eq_true] at hv ⊢
 obtain ⟨h1, h2, h3, h4, h5⟩ := hv
 refine ⟨h1, ?_, h3, ?_, h5⟩
 ·rw [linesB_iff] at h2 ⊢
  obtain ⟨l1, l2, l3⟩ := h2
  have hlen : (flipS s).lines.length = s.lines.length := by unfold flipS; simp
  refine ⟨by omega, by omega, fun i hi => ?_⟩
  have hi2 : i < s.lines.length := by omega
  have hget : ∀ (k : Nat) (hk : k < (flipS s).lines.length), (flipS s).lines[k] = s.length - s.lines[s.lines.length - 1 - k]'(by omega) := by
   intro k hk
   have e : ∀ (l : List Int) (hl : l = (s.lines.map (fun x => s.length - x)).reverse) (hk : k < l.length) (hk2 : s.lines.length - 1 - k < s.lines.length), l[k] = s.length - s.lines[s.lines.length - 1 - k]'hk2 := by
    intro l hl hk hk2
    subst hl
    rw [List.getElem_reverse, List.getElem_map]
    simp only [List.length_map]
   exact e _ rfl hk _
  have hL : (flipS s).length = s.length := rfl
  rw [hget i hi, hL]
  obtain ⟨r1, r2, r3⟩ := l3 (s.lines.length - 1 - i) (by omega)
  refine ⟨by omega, by omega, ?_⟩
  rcases Nat.eq_zero_or_pos i with h0 | h0
  ·exact .inl h0
  ·right
   rw [hget (i - 1) (by omega)]
   obtain ⟨_, _, r4⟩ := l3 (s.lines.length - 1 - (i - 1)) (by omega)
   have e : s.lines.length - 1 - (i - 1) - 1 = s.lines.length - 1 - i := by omega
   rcases r4 with r4 | r4
   ·omega
   ·have r5 : s.lines[s.lines.length - 1 - i]'(by omega) < s.lines[s.lines.length - 1 - (i - 1)]'(by omega) := by
     have h6 : s.lines[s.lines.length - 1 - (i - 1) - 1]'(by omega) = s.lines[s.lines.length - 1 - i]'(by omega) := by congr 1
     rw [← h6]; exact r4
    omega
 ·unfold itemsB at h4 ⊢
  rw [Bool.and_eq_true, Bool.and_eq_true] at h4 ⊢
  obtain ⟨i1, i2, i3⟩ := h4
  have hL : (flipS s).length = s.length := rfl
  have hI : (flipS s).items = s.items.map (flipI s.length) := rfl
  rw [hL, hI, pairsB_map, pairsB_map, List.length_map]
  refine ⟨i1, ?_, i3⟩
  rw [← i2]
  apply pairs_congr
  intro i hi
  constructor
  ·have ha : aloneB (flipI s.length s.items[i]) = aloneB s.items[i] := rfl
   rw [ha]
   congr 1
   unfold insideB flipI
   simp only
   rw [Bool.eq_iff_iff]
   simp only [Bool.and_eq_true, decide_eq_true_iff, between_iff]
   omega
  ·intro k hk
   unfold apartB flipI
   simp only
   rw [Bool.eq_iff_iff]
   simp only [Bool.or_eq_true, decide_eq_true_iff]
   omega
theorem flip_beam {s : TSet} (he : ∀ x ∈ s.items, x.width % 2 = 0) : setBeam (flipS s) = turnB (setBeam s) := by
 unfold setBeam flipS turnB
 simp only [List.map_map, List.map_reverse]
 congr 1
 apply List.map_congr_left
 intro x hx
 have := he x hx
 show (⟨s.length - x.at_ - x.width + x.width / 2, x.weight⟩ : TLoad) = ⟨s.length - (x.at_ + x.width / 2), x.weight⟩
 congr 1
 omega
end Go.Proofs.YtcaopooflemnlaaGreat

/- The loads of the lines, by batten and by the reference of layer 21. -/
namespace Go.Proofs.YtcaopooflemnlaaGreat
set_option linter.unusedVariables false
set_option linter.unusedSimpArgs false

theorem mid_of {L : Int} {x : TItem} (h : GoodItem L x) (hL : L ≤ 1048576) : IntKind.i64.wrap (x.at_ + IntKind.i64.wrap (x.width.tdiv 2)) = x.at_ + x.width / 2 := by
 have b1 := h.p0; have b2 := h.w1; have b3 := h.pw
 rw [Int.tdiv_eq_ediv_of_nonneg (by omega), wrap64 (n := x.width / 2) (by omega) (by omega), wrap64 (by omega) (by omega)]
theorem t_beamOf {s : TSet} (hg : Good s) : F_batten_beamOf s = some (setBeam s) := by
 have a6 := hg.ln1; have a7 := hg.ni; have a2 := hg.n1
 apply gs_eq
 unfold F_batten_beamOf
 refine go (f_clone_int _ (by omega)) ?_
 refine gloop (fun r : TBeam × Unit => r.1 = setBeam s) (fun k t => k ≤ s.items.length ∧ t = ((k : Int), ⟨s.name, s.length, s.lines, (s.items.take k).map (fun x => ⟨x.at_ + x.width / 2, x.weight⟩), s.pipe⟩, ())) s.items.length (by unfold big; omega) ⟨Nat.zero_le _, rfl⟩ ?_ ?_
 ·rintro k t hk ⟨_, rfl⟩
  rcases Nat.lt_or_ge k s.items.length with hlt | hge
  ·have hm := mid_of (hg.items _ (List.getElem_mem hlt)) a2
   have hmid : F_batten_middle s.items[k] = some (s.items[k].at_ + s.items[k].width / 2) := by unfold F_batten_middle; rw [hm]
   refine gt (decide_eq_true (by show (k : Int) < ((s.items.length : Nat) : Int); omega)) (go (idx_at hlt) (go hmid (gif (by simp; omega) (gend ⟨hlt, hlt, ?_⟩))))
   rw [List.take_succ_eq_append_getElem hlt, List.map_append]
   show (IntKind.i64.wrap ((k : Int) + 1), _, ()) = _
   rw [wrap64 (by omega) (by omega)]
   rfl
  ·refine gf (decide_eq_false (by show ¬ (k : Int) < ((s.items.length : Nat) : Int); omega)) (gend ?_)
   show (⟨s.name, s.length, s.lines, (s.items.take k).map (fun x => ⟨x.at_ + x.width / 2, x.weight⟩), s.pipe⟩ : TBeam) = setBeam s
   rw [List.take_of_length_le hge]; rfl
 ·rintro ⟨t, u⟩ h
  exact gend h
structure Sm (s : TSet) : Prop where
 fits : Fits s
 name : s.name.size ≤ 1000000
theorem sm_of {s : TSet} {m : Int} (h : smallB s m = true) : Sm s := by
 refine ⟨small_fits h, ?_⟩
 simp only [smallB, smallH, Bool.and_eq_true, decide_eq_true_eq, List.all_eq_true] at h
 omega
def linesT (s : TSet) : List TFrac × Int := if validB s = true then outL (reaL (setBeam s)) else ([], 1)
theorem t_lines {s : TSet} (h : Sm s) : F_batten_Lines s = some (linesT s) := by
 apply gs_eq
 unfold F_batten_Lines linesT
 refine go (f_valid s h.fits) ?_
 cases hv : validB s with
 | false => exact gt rfl (gend rfl)
 | true =>
  have hg := Good.of hv
  obtain ⟨h1, h2⟩ := set_valid hg
  exact gf rfl (go (t_beamOf hg) (go (f_Reactions (set_small h.name hg) h1 h2) (gend rfl)))
theorem lq_len {s : TSet} : (reaL (setBeam s)).length = s.lines.length := by unfold reaL setBeam; simp
theorem fr_neg (q : Rat) : decide ((frQ q).num < 0) = decide (q < 0) := by
 apply decide_eq_decide.2
 show q.num < 0 ↔ q < 0
 have := Rat.num_nonneg (q := q)
 constructor
 ·intro h; rcases Rat.le_total (a := 0) (b := q) with h1 | h1
  ·have := this.2 h1; omega
  ·rcases Decidable.em (q = 0) with e | e
   ·subst e; exact absurd h (by decide)
   ·grind
 ·intro h
  rcases Int.lt_or_le q.num 0 with h1 | h1
  ·exact h1
  ·have := this.1 h1; grind
end Go.Proofs.YtcaopooflemnlaaGreat

/- Law 22: LiftlineLoads, LiftlineWeighs, LiftlineTravels, LiftlineTurned. -/
namespace Go.Proofs.YtcaopooflemnlaaGreat
set_option linter.unusedVariables false
set_option linter.unusedSimpArgs false

theorem frq_int (n : Int) : (⟨n, 1⟩ : TFrac) = frQ (n : Rat) := (fr_int n).symm
end Go.Proofs.YtcaopooflemnlaaGreat

/- Law 22: LiftlineTurned, LiftlineHeads, LiftlineHeaviest. -/
namespace Go.Proofs.YtcaopooflemnlaaGreat
set_option linter.unusedVariables false
set_option linter.unusedSimpArgs false

theorem map_set {α : Type} (f : α → α) (l : List α) {k : Nat} (h : k < l.length) : ((l.take k).map f ++ l.drop k).set k (f l[k]) = (l.take (k + 1)).map f ++ l.drop (k + 1) ∧ ((l.take k).map f ++ l.drop k)[k]? = some l[k] := by
 have hl : ((l.take k).map f).length = k := by rw [List.length_map, List.length_take]; omega
 constructor
 ·rw [List.drop_eq_getElem_cons h, List.set_append_right _ _ (by omega), hl, Nat.sub_self, List.set_cons_zero, List.take_succ_eq_append_getElem h, List.map_append, List.append_assoc]
  rfl
 ·rw [List.drop_eq_getElem_cons h, List.getElem?_append_right (by omega), hl, Nat.sub_self]; rfl
theorem t_contains (l : List Int) (v : Int) (hl : l.length ≤ 1000000) : F_slices_Contains_int l v = some (decide (v ∈ l)) := by
 apply gs_eq
 unfold F_slices_Contains_int
 refine gcall (Q := fun r : Int => decide (r ≥ 0) = decide (v ∈ l)) ?_ fun r hr => gend hr
 unfold F_slices_Index_int
 refine gloop (fun r : (Int × Unit) ⊕ Unit => match r with | .inl y => 0 ≤ y.1 ∧ v ∈ l | .inr _ => v ∉ l) (fun k t => k ≤ l.length ∧ t = ((k : Int), ()) ∧ v ∉ l.take k) l.length (by unfold big; omega) ⟨Nat.zero_le _, rfl, by simp⟩ ?_ ?_
 ·rintro k t hk ⟨_, rfl, hn⟩
  rcases Nat.lt_or_ge k l.length with hlt | hge
  ·refine gt (decide_eq_true (by show (k : Int) < ((l.length : Nat) : Int); omega)) (go (idx_at hlt) ?_)
   by_cases hc : v = l[k]
   ·refine gt (by rw [beq_iff_eq]; exact hc) (gend ⟨by show (0 : Int) ≤ (k : Int); omega, by rw [hc]; exact List.getElem_mem hlt⟩)
   ·refine gf (by rw [beq_eq_false_iff_ne]; exact hc) (gend ⟨hlt, hlt, ?_, ?_⟩)
    ·show (IntKind.i64.wrap ((k : Int) + 1), ()) = _
     rw [wrap64 (by omega) (by omega)]; rfl
    ·rw [List.take_succ_eq_append_getElem hlt, List.mem_append]
     rintro (h | h)
     ·exact hn h
     ·simp at h; exact hc h
  ·rw [List.take_of_length_le hge] at hn
   exact gf (decide_eq_false (by show ¬ (k : Int) < ((l.length : Nat) : Int); omega)) (gend hn)
 ·rintro (y | y) hy
  ·exact gend (by rw [decide_eq_true hy.2]; exact decide_eq_true hy.1)
  ·exact gend (by rw [decide_eq_false hy]; rfl)
end Go.Proofs.YtcaopooflemnlaaGreat

/- A set without a line: valid; its loads; what both sides make of it. -/
namespace Go.Proofs.YtcaopooflemnlaaGreat
set_option linter.unusedVariables false
set_option linter.unusedSimpArgs false

def cutS (s : TSet) (k : Nat) : TSet := { s with lines := s.lines.take k ++ s.lines.drop (k + 1) }
theorem cut_len {α : Type} {l : List α} {k : Nat} (hk : k < l.length) : (l.take k ++ l.drop (k + 1)).length = l.length - 1 := by simp; omega
theorem cut_get {α : Type} {l : List α} {k : Nat} (hk : k < l.length) {i : Nat} (hi : i < (l.take k ++ l.drop (k + 1)).length) : (l.take k ++ l.drop (k + 1))[i] = if h : i < k then l[i] else l[i + 1]'(by rw [cut_len hk] at hi; omega) := by
 have hl := cut_len hk
 have ht : (l.take k).length = k := by simp; omega
 split
 ·rename_i h
  rw [List.getElem_append_left (by omega), List.getElem_take]
 ·rename_i h
  rw [List.getElem_append_right (by omega), List.getElem_drop]
  congr 1
  omega
theorem cut_valid {s : TSet} (hv : validB s = true) (h3 : 3 ≤ s.lines.length) {k : Nat} (hk : k < s.lines.length) : validB (cutS s k) = true := by
 unfold validB at hv ⊢
 rw [Bool.and_eq_true, Bool.and_eq_true, Bool.and_eq_true, Bool.and_eq_true] at hv ⊢
 obtain ⟨h1, h2, h4, h5, h6⟩ := hv
 refine ⟨h1, ?_, h4, h5, h6⟩
 rw [linesB_iff] at h2 ⊢
 obtain ⟨l1, l2, l3⟩ := h2
 have hL : (cutS s k).length = s.length := rfl
 have hln : (cutS s k).lines = s.lines.take k ++ s.lines.drop (k + 1) := rfl
 have hlen : (cutS s k).lines.length = s.lines.length - 1 := cut_len hk
 have hget : ∀ (i : Nat) (hi : i < (cutS s k).lines.length), (cutS s k).lines[i] = if h : i < k then s.lines[i] else s.lines[i + 1]'(by omega) := fun i hi => cut_get hk hi
 refine ⟨by omega, by omega, fun i hi => ?_⟩
 rw [hL, hget i hi]
 have up : ∀ (a b : Nat) (hb : b < s.lines.length) (hab : a < b), s.lines[a]'(by omega) < s.lines[b] := by
  intro a b hb hab
  obtain ⟨d, rfl⟩ : ∃ d, b = a + d + 1 := ⟨b - a - 1, by omega⟩
  induction d with
  | zero =>
   rcases (l3 (a + 0 + 1) hb).2.2 with h | h
   ·omega
   ·exact h
  | succ d ih =>
   have := ih (by omega) (by omega)
   rcases (l3 (a + (d + 1) + 1) hb).2.2 with h | h
   ·omega
   ·have e : s.lines[a + (d + 1) + 1 - 1]'(by omega) = s.lines[a + d + 1]'(by omega) := by congr 1
    rw [e] at h
    omega
 by_cases hik : i < k
 ·rw [dif_pos hik]
  obtain ⟨r1, r2, r3⟩ := l3 i (by omega)
  refine ⟨r1, r2, ?_⟩
  rcases Nat.eq_zero_or_pos i with h0 | h0
  ·exact .inl h0
  ·right
   rw [hget (i - 1) (by omega), dif_pos (by omega)]
   exact up (i - 1) i (by omega) (by omega)
 ·rw [dif_neg hik]
  obtain ⟨r1, r2, r3⟩ := l3 (i + 1) (by omega)
  refine ⟨r1, r2, ?_⟩
  rcases Nat.eq_zero_or_pos i with h0 | h0
  ·exact .inl h0
  ·right
   rw [hget (i - 1) (by omega)]
   split
   ·exact up (i - 1) (i + 1) (by omega) (by omega)
   ·exact up (i - 1 + 1) (i + 1) (by omega) (by omega)
theorem cut_sm {s : TSet} (h : Sm s) (k : Nat) : Sm (cutS s k) := by
 obtain ⟨⟨f1, f2, f3, f4, f5, f6⟩, n⟩ := h
 exact ⟨⟨f1, by show (s.lines.take k ++ s.lines.drop (k + 1)).length ≤ _; simp; omega, f3, f4, f5, f6⟩, n⟩
def Qc (s : TSet) (k : Nat) : List Rat := reaL (setBeam (cutS s k))
theorem Qc_len {s : TSet} {k : Nat} (hk : k < s.lines.length) : (Qc s k).length = s.lines.length - 1 := by
 unfold Qc
 rw [lq_len]
 exact cut_len hk
theorem w_cut {s : TSet} (h : Sm s) (h10 : s.lines.length ≤ 10) {k : Nat} (hk : k < s.lines.length) : F_failure_cut s (k : Int) = some (cutS s k) := by
 have w1 : IntKind.i64.wrap ((k : Int) + 1) = ((k + 1 : Nat) : Int) := by rw [wrap64 (by omega) (by omega)]; omega
 apply gs_eq
 unfold F_failure_cut
 refine go (f_clone_int _ h.fits.lines) (gif (by rw [w1]; omega) (go (f_clone_item _ h.fits.items) (go (f_clone_brick _ h.fits.bricks) (gend ?_))))
 rw [w1, Int.toNat_natCast, Int.toNat_natCast]
 rfl
theorem w_given (s : TSet) (h : Sm s) (h10 : s.lines.length ≤ 15) (line : Int) : F_failure_given s line = some (if validB s = true then (if line < 0 ∨ (s.lines.length : Int) ≤ line then 2 else if s.lines.length = 2 then 14 else 0) else 1) := by
 apply gs_eq
 unfold F_failure_given
 refine go (f_valid s h.fits) ?_
 cases hv : validB s with
 | false => exact gt rfl (gend rfl)
 | true =>
  refine gf rfl ?_
  simp only [if_true]
  by_cases h1 : line < 0
  ·exact gbt (decide_eq_true h1) (gs (gt rfl (gend (by rw [if_pos (.inl h1)]))))
  ·refine gbf (decide_eq_false h1) (gs ?_)
   by_cases h2 : (s.lines.length : Int) ≤ line
   ·exact gt (decide_eq_true h2) (gend (by rw [if_pos (.inr h2)]))
   ·refine gf (decide_eq_false h2) ?_
    rw [if_neg (by omega)]
    by_cases h3 : s.lines.length = 2
    ·rw [if_pos h3]; exact gt (by simp [h3]) (gend rfl)
    ·rw [if_neg h3]; exact gf (by simp; omega) (gend rfl)
def othL (s : TSet) (k : Nat) : List Rat := (Qc s k).take k ++ [0] ++ (Qc s k).drop k
theorem oth_len {s : TSet} {k : Nat} (hk : k < s.lines.length) : (othL s k).length = s.lines.length := by
 have := Qc_len hk
 unfold othL
 simp
 omega
def fitAll (l : List Rat) : Prop := ∀ q ∈ l, fitQ q
theorem oth_fit {s : TSet} {k : Nat} (h : fitAll (Qc s k)) : fitAll (othL s k) := by
 intro q hq
 unfold othL at hq
 rcases List.mem_append.1 hq with hq | hq
 ·rcases List.mem_append.1 hq with hq | hq
  ·exact h q (List.mem_of_mem_take hq)
  ·simp at hq; subst hq; exact t_fit0
 ·exact h q (List.mem_of_mem_drop hq)
theorem w_lines {s : TSet} (h : Sm s) (hv : validB s = true) (h3 : 3 ≤ s.lines.length) {k : Nat} (hk : k < s.lines.length) : F_batten_Lines (cutS s k) = some (outL (Qc s k)) := by
 rw [t_lines (cut_sm h k)]
 unfold linesT
 rw [if_pos (cut_valid hv h3 hk)]
 rfl
theorem w_others {s : TSet} (h : Sm s) (hv : validB s = true) (h3 : 3 ≤ s.lines.length) (h10 : s.lines.length ≤ 10) {k : Nat} (hk : k < s.lines.length) :
  (fitAll (Qc s k) → F_failure_others s (k : Int) = some ((othL s k).map frQ, 0)) ∧ (¬ fitAll (Qc s k) → F_failure_others s (k : Int) = some ([], 5)) := by
 have hl := Qc_len hk
 constructor
 ·intro hf
  apply gs_eq
  unfold F_failure_others
  have hL := w_lines h hv h3 hk
  rw [outL_fit hf] at hL
  refine go (w_cut h h10 hk) (go hL (gf rfl (gif ?_ (gend ?_))))
  ·refine ⟨rfl, by omega, ?_, ?_⟩
   ·show (k : Int) ≤ ((((Qc s k).map frQ).length : Nat) : Int)
    rw [List.length_map]; omega
   ·show ((Qc s k).map frQ).length ≤ _
    rw [List.length_map]; omega
  ·rw [Int.toNat_natCast]
   unfold othL
   rw [List.map_append, List.map_append, ← List.map_take, ← List.map_drop]
   rfl
 ·intro hf
  apply gs_eq
  unfold F_failure_others
  have hL := w_lines h hv h3 hk
  rw [outL_big hf] at hL
  exact go (w_cut h h10 hk) (go hL (gt rfl (gend rfl)))
end Go.Proofs.YtcaopooflemnlaaGreat

/- The worst loads: by the program and by the reference. -/
namespace Go.Proofs.YtcaopooflemnlaaGreat
set_option linter.unusedVariables false
set_option linter.unusedSimpArgs false

theorem cmp_pos (a b : Rat) : decide ((if a < b then (-1 : Int) else if b < a then 1 else 0) > 0) = decide (b < a) := by
 apply decide_eq_decide.2
 by_cases h1 : a < b
 ·rw [if_pos h1]
  exact ⟨fun h => absurd h (by decide), fun h => by grind⟩
 ·rw [if_neg h1]
  by_cases h2 : b < a
  ·rw [if_pos h2]; exact ⟨fun _ => h2, fun _ => by decide⟩
  ·rw [if_neg h2]; exact ⟨fun h => absurd h (by decide), fun h => absurd h h2⟩
end Go.Proofs.YtcaopooflemnlaaGreat

/- The worst loads by the reference; FailureWorst. -/
namespace Go.Proofs.YtcaopooflemnlaaGreat
set_option linter.unusedVariables false
set_option linter.unusedSimpArgs false

theorem awake24 : F_law24_awake = some true := by kernel_rfl
theorem w_long {s : TSet} : Gs (F_law24_long s) fun v => v = false → Sm s ∧ s.lines.length ≤ 15 ∧ s.items.length ≤ 45 ∧ (validB s = true → s.lines.length ≤ 5) := by
 have hfin : smallB s 8 = true → Sm s := sm_of
 unfold F_law24_long
 have hi : smallB s 8 = true → s.items.length ≤ 45 := fun hm => by
  simp only [smallB, smallH, Bool.and_eq_true, decide_eq_true_eq, List.all_eq_true] at hm
  omega
 by_cases h1 : ((s.lines.length : Nat) : Int) > 5
 ·refine gbt (decide_eq_true h1) ?_
  by_cases h2 : ((s.lines.length : Nat) : Int) ≤ 10
  ·exact gbt (decide_eq_true h2) (gs (gend fun e => by cases e))
  ·refine gbf (decide_eq_false h2) ?_
   by_cases h3 : ((s.lines.length : Nat) : Int) > 15
   ·exact gbt (decide_eq_true h3) (gs (gend fun e => by cases e))
   ·refine gbf (decide_eq_false h3) (goo (f_small s 8) (gs (gend fun e => ?_)))
    have hm : smallB s 8 = true := by simpa using e
    exact ⟨hfin hm, by omega, hi hm, fun hv => by have := (Good.of hv).ln1; omega⟩
 ·refine gbf (decide_eq_false h1) ?_
  refine gbf (decide_eq_false (by omega)) (goo (f_small s 8) (gs (gend fun e => ?_)))
  have hm : smallB s 8 = true := by simpa using e
  exact ⟨hfin hm, by omega, hi hm, fun _ => by omega⟩
end Go.Proofs.YtcaopooflemnlaaGreat

/- The critical lines: by the program and by the reference; FailureCritical. -/
namespace Go.Proofs.YtcaopooflemnlaaGreat
set_option linter.unusedVariables false
set_option linter.unusedSimpArgs false

def badQ (m : Int) (q : Rat) : Bool := decide (q < 0) || decide ((m : Rat) < q)
def critL (s : TSet) (m : Int) (k : Nat) : List Int := ((List.range k).filter fun i => (Qc s i).any (badQ m)).map fun (i : Nat) => (i : Int)
theorem crit_succ (s : TSet) (m : Int) (k : Nat) : critL s m (k + 1) = if (Qc s k).any (badQ m) = true then critL s m k ++ [(k : Int)] else critL s m k := by
 unfold critL
 rw [List.range_succ, List.filter_append, List.map_append]
 cases h : (Qc s k).any (badQ m) with
 | true => rw [if_pos rfl, List.filter_cons, if_pos h]; rfl
 | false => rw [if_neg (by simp), List.filter_cons, if_neg (by simp [h])]; simp
theorem crit_len (s : TSet) (m : Int) (k : Nat) : (critL s m k).length ≤ k := by
 unfold critL
 rw [List.length_map]
 exact Nat.le_trans (List.length_filter_le _ _) (by simp)
open Classical in
noncomputable def critT (s : TSet) : List Int × Int := if validB s = true then (if s.lines.length = 2 then ([0, 1], 0) else if ∀ k, k < s.lines.length → fitAll (Qc s k) then (critL s s.most s.lines.length, 0) else ([], 5)) else ([], 1)
theorem crit_ok {s : TSet} (hv : validB s = true) (h2 : s.lines.length ≠ 2) (h : ∀ k, k < s.lines.length → fitAll (Qc s k)) : critT s = (critL s s.most s.lines.length, 0) := by
 unfold critT; rw [if_pos hv, if_neg h2, if_pos h]
theorem crit_big {s : TSet} (hv : validB s = true) (h2 : s.lines.length ≠ 2) (h : ¬ ∀ k, k < s.lines.length → fitAll (Qc s k)) : critT s = ([], 5) := by
 unfold critT; rw [if_pos hv, if_neg h2, if_neg h]
theorem oth_any {s : TSet} {k : Nat} {m : Int} (hm : 0 ≤ m) : (othL s k).any (badQ m) = (Qc s k).any (badQ m) := by
 have h0 : badQ m 0 = false := by
  unfold badQ
  rw [Bool.or_eq_false_iff]
  refine ⟨by decide, decide_eq_false ?_⟩
  intro h
  have : (0 : Rat) ≤ (m : Rat) := by exact_mod_cast hm
  grind
 unfold othL
 rw [List.any_append, List.any_append]
 have e : (Qc s k).any (badQ m) = (((Qc s k).take k ++ (Qc s k).drop k)).any (badQ m) := by rw [List.take_append_drop]
 rw [e, List.any_append]
 simp [h0]
theorem w_bad {q : Rat} {m : Int} (hq : fitQ q) (hm : m.natAbs ≤ 1152921504606846976) : F_failure_Critical_1 (frQ q) ⟨m, 1⟩ = some (badQ m q) := by
 apply gs_eq
 unfold F_failure_Critical_1
 have hc := t_cmp hq (t_fitint hm)
 rw [← frq_int] at hc
 refine go hc ?_
 unfold badQ
 by_cases h : q < 0
 ·refine gbt (by rw [fr_neg]; exact decide_eq_true h) (gs (gend ?_))
  rw [decide_eq_true h]; rfl
 ·refine gbf (by rw [fr_neg]; exact decide_eq_false h) (gs (gend ?_))
  rw [decide_eq_false h, Bool.false_or]
  exact cmp_pos _ _
theorem w_contains {l : List Rat} {m : Int} (hl : l.length ≤ 1000) (hf : fitAll l) (hm : m.natAbs ≤ 1152921504606846976) : F_slices_ContainsFunc_api_Frac (l.map frQ) (fun z24 => F_failure_Critical_1 z24 ⟨m, 1⟩) = some (l.any (badQ m)) := by
 have := f_slices_ContainsFunc_api_Frac (l.map frQ) (by rw [List.length_map]; omega) (fun z24 => F_failure_Critical_1 z24 ⟨m, 1⟩) (fun x => badQ m (qOf x)) (fun x hx => by
  obtain ⟨q, hq, rfl⟩ := List.mem_map.1 hx
  rw [(fr_rv (hf q hq)).2]
  exact w_bad (hf q hq) hm)
 rw [this, List.any_map]
 congr 1
 have : ∀ l : List Rat, fitAll l → l.any ((fun x => badQ m (qOf x)) ∘ frQ) = l.any (badQ m) := by
  intro l
  induction l with
  | nil => intro _; rfl
  | cons q l ih =>
   intro h
   rw [List.any_cons, List.any_cons, ih (fun x hx => h x (List.mem_cons_of_mem _ hx))]
   show (badQ m (qOf (frQ q)) || _) = _
   rw [(fr_rv (h q List.mem_cons_self)).2]
 exact this l hf
theorem w_critical {s : TSet} (h : Sm s) (h15 : s.lines.length ≤ 15) : F_failure_Critical s = some (critT s) := by
 apply gs_eq
 unfold F_failure_Critical
 refine go (w_given s h h15 0) ?_
 cases hv : validB s with
 | false =>
  refine gf rfl (gf rfl (gend ?_))
  unfold critT
  rw [hv]; rfl
 | true =>
  have hg := Good.of hv
  have n2 := hg.ln0; have n10 := hg.ln1; have m0 := hg.m0; have m1 := hg.m1
  rw [if_pos rfl, if_neg (by omega)]
  by_cases h2 : s.lines.length = 2
  ·rw [if_pos h2]
   refine gf rfl (gt rfl (gend ?_))
   unfold critT
   rw [if_pos hv, if_pos h2]
  ·rw [if_neg h2]
   have h3 : 3 ≤ s.lines.length := by omega
   refine gt rfl ?_
   refine gloop (fun r : (List Int × Int × List Int × Unit) ⊕ (List Int × Unit) => match r with
     | .inl y => ((y.1, y.2.1) : List Int × Int) = critT s
     | .inr y => ((y.1, 0) : List Int × Int) = critT s)
    (fun k t => k ≤ s.lines.length ∧ t = ((k : Int), critL s s.most k, ()) ∧ ∀ j, j < k → fitAll (Qc s j)) s.lines.length (by unfold big; omega) ⟨Nat.zero_le _, rfl, fun j hj => by omega⟩ ?_ ?_
   ·rintro k t hk ⟨_, rfl, hall⟩
    rcases Nat.lt_or_ge k s.lines.length with hlt | hge
    ·obtain ⟨o1, o2⟩ := w_others h hv h3 n10 hlt
     refine gt (decide_eq_true (by show (k : Int) < ((s.lines.length : Nat) : Int); omega)) ?_
     by_cases hf : fitAll (Qc s k)
     ·have hol := oth_len hlt
      have hcl := crit_len s s.most k
      have hall' : ∀ j, j < k + 1 → fitAll (Qc s j) := fun j hj => by
       rcases Nat.lt_or_ge j k with hjk | hjk
       ·exact hall j hjk
       ·have : j = k := by omega
        subst this; exact hf
      have w1 : IntKind.i64.wrap ((k : Int) + 1) = ((k + 1 : Nat) : Int) := by rw [wrap64 (by omega) (by omega)]; omega
      refine goo (o1 hf) (gbf rfl (goo (w_contains (by omega) (oth_fit hf) (by omega)) ?_))
      rw [oth_any (by omega)]
      cases hb : (Qc s k).any (badQ s.most) with
      | true =>
       refine gbt rfl (gbif (by simp; omega) (gs (gend ⟨hlt, hlt, ?_, hall'⟩)))
       show (IntKind.i64.wrap ((k : Int) + 1), critL s s.most k ++ [(k : Int)], ()) = _
       rw [w1, crit_succ, if_pos hb]
      | false =>
       refine gbf rfl (gs (gend ⟨hlt, hlt, ?_, hall'⟩))
       show (IntKind.i64.wrap ((k : Int) + 1), critL s s.most k, ()) = _
       rw [w1, crit_succ, if_neg (by simp [hb])]
     ·refine goo (o2 hf) (gbt rfl (gs (gend ?_)))
      show (([], 5) : List Int × Int) = _
      rw [crit_big hv h2 (fun e => hf (e k hlt))]
    ·have : k = s.lines.length := by omega
     subst this
     refine gf (decide_eq_false (by show ¬ ((s.lines.length : Nat) : Int) < ((s.lines.length : Nat) : Int); omega)) (gend ?_)
     show ((critL s s.most s.lines.length, 0) : List Int × Int) = _
     rw [crit_ok hv h2 hall]
   ·rintro (y | y) hy
    ·exact gend hy
    ·exact gend hy
theorem crit_len2 (s : TSet) (h15 : s.lines.length ≤ 15) : (critT s).1.length ≤ 15 := by
 unfold critT
 have := crit_len s s.most s.lines.length
 split
 ·split
  ·simp
  ·split
   ·exact Nat.le_trans this h15
   ·simp
 ·simp
theorem w_sameI (a : List Int) (ha : a.length ≤ 1000000) : F_slices_Equal_int a a = some true := by
 apply gs_eq
 unfold F_slices_Equal_int
 refine gf (by simp) ?_
 refine gloop (fun r : (Bool × Unit) ⊕ Unit => r = .inr ()) (fun k t => k ≤ a.length ∧ t = ((k : Int), ())) a.length (by unfold big; omega) ⟨Nat.zero_le _, rfl⟩ ?_ ?_
 ·rintro k t hk ⟨_, rfl⟩
  rcases Nat.lt_or_ge k a.length with hlt | hge
  ·refine gt (decide_eq_true (by show (k : Int) < ((a.length : Nat) : Int); omega)) (go (idx_at hlt) (go (idx_at hlt) (gf (by simp) (gend ⟨hlt, hlt, ?_⟩))))
   show (IntKind.i64.wrap ((k : Int) + 1), ()) = _
   rw [wrap64 (by omega) (by omega)]; rfl
  ·exact gf (decide_eq_false (by show ¬ (k : Int) < ((a.length : Nat) : Int); omega)) (gend rfl)
 ·rintro r rfl
  exact gend rfl
end Go.Proofs.YtcaopooflemnlaaGreat

/- FailureSums: the other lines bear the whole set. -/
namespace Go.Proofs.YtcaopooflemnlaaGreat
set_option linter.unusedVariables false
set_option linter.unusedSimpArgs false

theorem w_right (s : TSet) : Gs (F_law24_right s) fun v => v = true → Sm s ∧ validB s = true ∧ s.lines.length ≤ 5 := by
 unfold F_law24_right
 refine gcalll w_long fun v hv => ?_
 cases v with
 | true => exact gbf rfl (gs (gend fun e => by cases e))
 | false =>
  obtain ⟨h, h15, _, h5⟩ := hv rfl
  refine gbt rfl (goo (f_rvalid s h.fits) (gs (gend fun e => ⟨h, e, h5 e⟩)))
end Go.Proofs.YtcaopooflemnlaaGreat

/- FailureSeen: greater limits; the set seen from the other side. -/
namespace Go.Proofs.YtcaopooflemnlaaGreat
set_option linter.unusedVariables false
set_option linter.unusedSimpArgs false

theorem td_set {A B : List Int} {n t : Nat} (hA : A.length = n) (hB : B.length = n) (ht : t < n) : (A.take t ++ B.drop t).set t (A[t]'(by omega)) = A.take (t + 1) ++ B.drop (t + 1) ∧ (A.take t ++ B.drop t)[t]? = some (B[t]'(by omega)) := by
 have hl : (A.take t).length = t := by rw [List.length_take]; omega
 constructor
 ·rw [List.drop_eq_getElem_cons (by omega : t < B.length), List.set_append_right _ _ (by omega), hl, Nat.sub_self, List.set_cons_zero, List.take_succ_eq_append_getElem (by omega : t < A.length), List.append_assoc]
  rfl
 ·rw [List.drop_eq_getElem_cons (by omega : t < B.length), List.getElem?_append_right (by omega), hl, Nat.sub_self]; rfl
theorem flip_get {s : TSet} {t : Nat} (ht : t < s.lines.length) (h : t < ((s.lines.map (fun x => s.length - x)).reverse).length) : ((s.lines.map (fun x => s.length - x)).reverse)[t] = s.length - s.lines[s.lines.length - 1 - t]'(by omega) := by
 rw [List.getElem_reverse, List.getElem_map]
 simp only [List.length_map]
theorem flip_len (s : TSet) : (flipS s).lines.length = s.lines.length := by unfold flipS; simp
theorem w_turned {s : TSet} (h : Sm s) (hv : validB s = true) : F_law24_turned s = some (flipS s) := by
 have hg := Good.of hv
 have a2 := hg.n1; have a6 := hg.ln1; have a7 := hg.ni; have a8 := hg.n0
 have hsup := (valid_in (set_valid hg).1).2
 have hfl : ((s.lines.map (fun x => s.length - x)).reverse).length = s.lines.length := by simp
 apply gs_eq
 unfold F_law24_turned
 refine go (f_rcopy s h.fits) ?_
 refine gloop (fun r : List Int × Unit => r = ((s.lines.map (fun x => s.length - x)).reverse, ())) (fun k t => k ≤ s.lines.length ∧ t = ((k : Int), ((s.lines.map (fun x => s.length - x)).reverse).take k ++ s.lines.drop k, ())) s.lines.length (by unfold big; omega) ⟨Nat.zero_le _, rfl⟩ ?_ ?_
 ·rintro k t hk ⟨_, rfl⟩
  rcases Nat.lt_or_ge k s.lines.length with hlt | hge
  ·obtain ⟨m1, m2⟩ := td_set hfl rfl hlt
   have hr := sp_rg hsup (i := s.lines.length - 1 - k) (by show s.lines.length - 1 - k < s.lines.length; omega)
   rw [set_sp (by omega)] at hr
   have hr0 : 0 ≤ s.lines[s.lines.length - 1 - k]'(by omega) := hr.1
   have hr1 : s.lines[s.lines.length - 1 - k]'(by omega) ≤ s.length := hr.2
   have hidx : idx s.lines (IntKind.i64.wrap ((IntKind.i64.wrap (((s.lines.length : Nat) : Int) - 1)) - (k : Int))) = some (s.lines[s.lines.length - 1 - k]'(by omega)) := by
    rw [wrap64 (n := ((s.lines.length : Nat) : Int) - 1) (by omega) (by omega), wrap64 (by omega) (by omega), show ((s.lines.length : Nat) : Int) - 1 - (k : Int) = ((s.lines.length - 1 - k : Nat) : Int) by omega]
    exact idx_at (by omega)
   have hw : IntKind.i64.wrap (s.length - s.lines[s.lines.length - 1 - k]'(by omega)) = s.length - s.lines[s.lines.length - 1 - k]'(by omega) := wrap64 (by omega) (by omega)
   have w1 : IntKind.i64.wrap ((k : Int) + 1) = ((k + 1 : Nat) : Int) := by rw [wrap64 (by omega) (by omega)]; omega
   refine gt (decide_eq_true (by show (k : Int) < ((s.lines.length : Nat) : Int); omega)) (go hidx (go (idx_q m2) (go (at_w rfl m2) (gend ⟨hlt, hlt, ?_⟩))))
   show (IntKind.i64.wrap ((k : Int) + 1), ((((s.lines.map (fun x => s.length - x)).reverse).take k ++ s.lines.drop k).set (Int.toNat (k : Int)) (IntKind.i64.wrap (s.length - s.lines[s.lines.length - 1 - k]'(by omega)))), ()) = _
   rw [w1, hw, Int.toNat_natCast, ← m1, flip_get hlt]
  ·refine gf (decide_eq_false (by show ¬ (k : Int) < ((s.lines.length : Nat) : Int); omega)) (gend ?_)
   show (((s.lines.map (fun x => s.length - x)).reverse).take k ++ s.lines.drop k, ()) = _
   rw [List.take_of_length_le (by omega), List.drop_of_length_le hge, List.append_nil]
 rintro r rfl
 refine gloop (fun r : List TItem × Unit => r = (s.items.map (flipI s.length), ())) (fun k t => k ≤ s.items.length ∧ t = ((k : Int), (s.items.take k).map (flipI s.length) ++ s.items.drop k, ())) s.items.length (by unfold big; omega) ⟨Nat.zero_le _, rfl⟩ ?_ ?_
 ·rintro k t hk ⟨_, rfl⟩
  rcases Nat.lt_or_ge k s.items.length with hlt | hge
  ·obtain ⟨m1, m2⟩ := map_set (flipI s.length) s.items hlt
   have hi := hg.items _ (List.getElem_mem hlt)
   have b1 := hi.p0; have b2 := hi.w1; have b3 := hi.pw
   have hw : IntKind.i64.wrap (IntKind.i64.wrap (s.length - s.items[k].at_) - s.items[k].width) = s.length - s.items[k].at_ - s.items[k].width := by rw [wrap64 (n := s.length - s.items[k].at_) (by omega) (by omega), wrap64 (by omega) (by omega)]
   have w1 : IntKind.i64.wrap ((k : Int) + 1) = ((k + 1 : Nat) : Int) := by rw [wrap64 (by omega) (by omega)]; omega
   refine gt (decide_eq_true (by show (k : Int) < ((s.items.length : Nat) : Int); omega)) (go (idx_at hlt) (go (idx_at hlt) (go (idx_q m2) (go (at_w rfl m2) (gend ⟨hlt, hlt, ?_⟩)))))
   show (IntKind.i64.wrap ((k : Int) + 1), (((s.items.take k).map (flipI s.length) ++ s.items.drop k).set (Int.toNat (k : Int)) (TItem.mk s.items[k].name (IntKind.i64.wrap (IntKind.i64.wrap (s.length - s.items[k].at_) - s.items[k].width)) s.items[k].width s.items[k].weight s.items[k].hang s.items[k].front s.items[k].back)), ()) = _
   rw [w1, hw, Int.toNat_natCast]
   show (_, (((s.items.take k).map (flipI s.length) ++ s.items.drop k).set k (flipI s.length s.items[k])), ()) = _
   rw [m1]
  ·refine gf (decide_eq_false (by show ¬ (k : Int) < ((s.items.length : Nat) : Int); omega)) (gend ?_)
   show ((s.items.take k).map (flipI s.length) ++ s.items.drop k, ()) = _
   rw [List.take_of_length_le hge, List.drop_of_length_le hge, List.append_nil]
 rintro r rfl
 exact gend rfl
theorem flip_sm {s : TSet} (h : Sm s) : Sm (flipS s) := by
 have f := h.fits
 refine ⟨⟨f.name, ?_, ?_, f.bricks, ?_, f.bnames⟩, h.name⟩
 ·rw [flip_len]; exact f.lines
 ·show (s.items.map _).length ≤ _
  rw [List.length_map]; exact f.items
 ·intro x hx
  obtain ⟨y, hy, rfl⟩ := List.mem_map.1 hx
  exact f.inames y hy
theorem flip_cut {s : TSet} {k : Nat} (hk : k < s.lines.length) : cutS (flipS s) k = flipS (cutS s (s.lines.length - 1 - k)) := by
 have e : (flipS s).lines.take k ++ (flipS s).lines.drop (k + 1) = ((s.lines.take (s.lines.length - 1 - k) ++ s.lines.drop (s.lines.length - 1 - k + 1)).map (fun x => s.length - x)).reverse := by
  show ((s.lines.map (fun x => s.length - x)).reverse).take k ++ ((s.lines.map (fun x => s.length - x)).reverse).drop (k + 1) = _
  rw [List.map_append, List.reverse_append, List.take_reverse, List.drop_reverse, List.length_map, List.map_take, List.map_drop]
  congr 1
  ·congr 2
   omega
  ·congr 2
   omega
 unfold cutS
 rw [e]
 rfl
theorem flip_Qc {s : TSet} (hv : validB s = true) (h3 : 3 ≤ s.lines.length) (he : ∀ x ∈ s.items, x.width % 2 = 0) {k : Nat} (hk : k < s.lines.length) : Qc (flipS s) k = (Qc s (s.lines.length - 1 - k)).reverse := by
 have hc := cut_valid hv h3 (show s.lines.length - 1 - k < s.lines.length by omega)
 obtain ⟨h1, h2⟩ := set_valid (Good.of hc)
 unfold Qc
 rw [flip_cut hk, flip_beam (s := cutS s (s.lines.length - 1 - k)) he, turn_reaL (valid_in h1).2 h2]
theorem range_rev2 (n : Nat) : (List.range n).reverse = (List.range n).map (fun i => n - 1 - i) := by
 apply List.ext_getElem
 ·simp
 ·intro i h1 h2
  rw [List.getElem_reverse, List.getElem_map, List.getElem_range, List.getElem_range, List.length_range]
theorem filter_rev (p : Nat → Bool) (n : Nat) : (((List.range n).filter (fun i => p (n - 1 - i))).reverse).map (fun i => n - 1 - i) = (List.range n).filter p := by
 rw [← List.filter_reverse, range_rev2, List.filter_map, List.map_map]
 have e1 : (List.range n).filter ((fun i => p (n - 1 - i)) ∘ fun i => n - 1 - i) = (List.range n).filter p := by
  apply List.filter_congr
  intro i hi
  have := List.mem_range.1 hi
  show p (n - 1 - (n - 1 - i)) = p i
  congr 1
  omega
 rw [e1]
 have : ∀ l : List Nat, (∀ i ∈ l, i < n) → l.map ((fun i => n - 1 - i) ∘ fun i => n - 1 - i) = l := by
  intro l
  induction l with
  | nil => intro _; rfl
  | cons a l ih =>
   intro h
   rw [List.map_cons, ih (fun i hi => h i (List.mem_cons_of_mem _ hi))]
   have := h a List.mem_cons_self
   show (n - 1 - (n - 1 - a)) :: l = _
   congr 1
   omega
 exact this _ fun i hi => List.mem_range.1 (List.mem_filter.1 hi).1
theorem flip_crit {s : TSet} (hv : validB s = true) (he : ∀ x ∈ s.items, x.width % 2 = 0) (h0 : (critT s).2 = 0) : (critT (flipS s)).2 = 0 ∧ ((critT (flipS s)).1.reverse).map (fun x => (s.lines.length : Int) - 1 - x) = (critT s).1 ∧ ∀ x ∈ (critT (flipS s)).1, 0 ≤ x ∧ x ≤ 10 := by
 have hg := Good.of hv
 have n2 := hg.ln0; have n10 := hg.ln1
 have hfv := flip_valid hv
 have hfl := flip_len s
 by_cases h2 : s.lines.length = 2
 ·have e1 : critT s = ([0, 1], 0) := by unfold critT; rw [if_pos hv, if_pos h2]
  have e2 : critT (flipS s) = ([0, 1], 0) := by unfold critT; rw [if_pos hfv, if_pos (by omega)]
  rw [e1, e2, h2]
  refine ⟨rfl, rfl, fun x hx => ?_⟩
  have : x = 0 ∨ x = 1 := by simpa using hx
  omega
 ·have h3 : 3 ≤ s.lines.length := by omega
  have hall : ∀ k, k < s.lines.length → fitAll (Qc s k) := by
   apply Classical.byContradiction
   intro hn
   rw [crit_big hv h2 hn] at h0
   exact absurd h0 (by decide)
  have hall2 : ∀ k, k < (flipS s).lines.length → fitAll (Qc (flipS s) k) := by
   intro k hk
   rw [hfl] at hk
   rw [flip_Qc hv h3 he hk]
   intro q hq
   exact hall _ (by omega) q (List.mem_reverse.1 hq)
  rw [crit_ok hv h2 hall, crit_ok hfv (by omega) hall2]
  refine ⟨rfl, ?_, fun x hx => ?_⟩
  ·show ((critL (flipS s) s.most (flipS s).lines.length).reverse).map _ = critL s s.most s.lines.length
   rw [hfl]
   unfold critL
   have e : (List.range s.lines.length).filter (fun i => (Qc (flipS s) i).any (badQ s.most)) = (List.range s.lines.length).filter (fun i => (fun j => (Qc s j).any (badQ s.most)) (s.lines.length - 1 - i)) := by
    apply List.filter_congr
    intro i hi
    rw [flip_Qc hv h3 he (List.mem_range.1 hi), List.any_reverse]
   rw [e, ← List.map_reverse, List.map_map, ← filter_rev (fun j => (Qc s j).any (badQ s.most)) s.lines.length, List.map_map]
   apply List.map_congr_left
   intro i hi
   have : i < s.lines.length := List.mem_range.1 (List.mem_filter.1 (List.mem_reverse.1 hi)).1
   show (s.lines.length : Int) - 1 - (i : Int) = ((s.lines.length - 1 - i : Nat) : Int)
   omega
  ·have hx : x ∈ critL (flipS s) s.most (flipS s).lines.length := hx
   unfold critL at hx
   obtain ⟨i, hi, rfl⟩ := List.mem_map.1 hx
   have := List.mem_range.1 (List.mem_filter.1 hi).1
   omega
theorem crit_mono {s : TSet} {m m' : Int} (h : m ≤ m') (n : Nat) : ∀ x ∈ critL s m' n, x ∈ critL s m n := by
 intro x hx
 unfold critL at hx ⊢
 obtain ⟨i, hi, rfl⟩ := List.mem_map.1 hx
 rw [List.mem_filter] at hi
 refine List.mem_map.2 ⟨i, List.mem_filter.2 ⟨hi.1, ?_⟩, rfl⟩
 obtain ⟨q, hq, hb⟩ := List.any_eq_true.1 hi.2
 refine List.any_eq_true.2 ⟨q, hq, ?_⟩
 unfold badQ at hb ⊢
 rw [Bool.or_eq_true, decide_eq_true_iff, decide_eq_true_iff] at hb ⊢
 rcases hb with hb | hb
 ·exact .inl hb
 ·right
  have : (m : Rat) ≤ (m' : Rat) := by exact_mod_cast h
  grind
theorem critT_ways {s : TSet} (hv : validB s = true) : critT s = ([], 5) ∨ (critT s).2 = 0 := by
 unfold critT
 rw [if_pos hv]
 split
 ·exact .inr rfl
 ·split
  ·exact .inr rfl
  ·exact .inl rfl
def mostS (s : TSet) (m : Int) : TSet := { s with most := m }
theorem most_valid {s : TSet} (hv : validB s = true) {m : Int} (h1 : 1 ≤ m) (h2 : m ≤ 67108864) : validB (mostS s m) = true := by
 unfold validB at hv ⊢
 rw [Bool.and_eq_true, Bool.and_eq_true, Bool.and_eq_true, Bool.and_eq_true] at hv ⊢
 obtain ⟨a1, a2, a3, a4, a5⟩ := hv
 refine ⟨a1, a2, ?_, a4, a5⟩
 unfold weightsB at a3 ⊢
 rw [Bool.and_eq_true, Bool.and_eq_true, Bool.and_eq_true, Bool.and_eq_true] at a3 ⊢
 obtain ⟨b1, b2, b3, b4, b5⟩ := a3
 refine ⟨b1, b2, b3, ?_, b5⟩
 show betweenB m 1 67108864 = true
 rw [between_iff]
 omega
theorem most_crit {s : TSet} (hv : validB s = true) {m : Int} (h1 : 1 ≤ m) (h2 : m ≤ 67108864) (hm : s.most ≤ m) (h0 : (critT s).2 = 0) : (critT (mostS s m)).2 = 0 ∧ ∀ x ∈ (critT (mostS s m)).1, x ∈ (critT s).1 := by
 have hmv := most_valid hv h1 h2
 by_cases hn : s.lines.length = 2
 ·have e1 : critT s = ([0, 1], 0) := by unfold critT; rw [if_pos hv, if_pos hn]
  have e2 : critT (mostS s m) = ([0, 1], 0) := by unfold critT; rw [if_pos hmv, if_pos (show (mostS s m).lines.length = 2 from hn)]
  rw [e1, e2]
  exact ⟨rfl, fun x hx => hx⟩
 ·have hall : ∀ k, k < s.lines.length → fitAll (Qc s k) := by
   apply Classical.byContradiction
   intro hno
   rw [crit_big hv hn hno] at h0
   exact absurd h0 (by decide)
  rw [crit_ok hv hn hall, crit_ok (s := mostS s m) hmv hn hall]
  exact ⟨rfl, crit_mono hm s.lines.length⟩
theorem main_FailureSeen (x0 : TSet) (x1 : Int) (w0 : W_Set x0) (w1 : W_u32 x1) : F_law24_FailureSeen x0 x1 = some true := by
 apply gs_eq
 unfold F_law24_FailureSeen
 refine go awake24 (gf rfl (gcall (w_right x0) fun v hv => ?_))
 cases v with
 | false => exact gt rfl (gend rfl)
 | true =>
  obtain ⟨h, hvd, h5⟩ := hv rfl
  have hg := Good.of hvd
  have n2 := hg.ln0; have n10 := hg.ln1; have m0 := hg.m0; have m1 := hg.m1; have ni := hg.ni
  have hx : 0 ≤ x1 ∧ x1 ≤ 4294967295 := by
   unfold W_u32 at w1
   have h3 : IntKind.min .u32 ≤ x1 ∧ x1 ≤ IntKind.max .u32 := by simpa [Lit.wf] using w1
   exact h3
  refine gf rfl (go (w_critical h (by omega)) ?_)
  rcases critT_ways hvd with hc | hc
  ·rw [hc]
   exact gt rfl (gbt rfl (gs (gend rfl)))
  have hcl := crit_len2 x0 (by omega)
  have hbm : minZ 67108864 (IntKind.i64.wrap (x0.most + (IntKind.i64.wrap x1))) = min 67108864 (x0.most + x1) := by
   rw [wrap64 (n := x1) (by omega) (by omega), wrap64 (by omega) (by omega)]
   unfold minZ
   split <;> omega
  obtain ⟨M, hM⟩ : ∃ M, M = min 67108864 (x0.most + x1) := ⟨_, rfl⟩
  have hM1 : 1 ≤ M := by omega
  have hM2 : M ≤ 67108864 := by omega
  have hM3 : x0.most ≤ M := by omega
  obtain ⟨c1, c2⟩ := most_crit hvd hM1 hM2 hM3 hc
  have hms : Sm (mostS x0 M) := by
   obtain ⟨⟨f1, f2, f3, f4, f5, f6⟩, n⟩ := h
   exact ⟨⟨f1, f2, f3, f4, f5, f6⟩, n⟩
  have hml := crit_len2 (mostS x0 M) (by show x0.lines.length ≤ 15; omega)
  have hcm := w_critical hms (by show x0.lines.length ≤ 15; omega)
  refine gf (by simp [hc]) (go (f_rcopy x0 h.fits) ?_)
  rw [hbm, ← hM]
  refine go hcm (gf (by simp [c1]) ?_)
  generalize critT (mostS x0 M) = B at c1 c2 hml ⊢
  refine gloop (fun r : (Bool × Unit) ⊕ Unit => r = .inr ()) (fun k t => k ≤ B.1.length ∧ t = ((k : Int), ())) B.1.length (by unfold big; omega) ⟨Nat.zero_le _, rfl⟩ ?_ ?_
  ·rintro k t hk ⟨_, rfl⟩
   rcases Nat.lt_or_ge k B.1.length with hlt | hge
   ·have g1 : B.1[k]? = some B.1[k] := List.getElem?_eq_getElem hlt
    have hcon := t_contains (critT x0).1 B.1[k] (by omega)
    rw [decide_eq_true (c2 _ (List.getElem_mem hlt))] at hcon
    refine gt (decide_eq_true (by show (k : Int) < ((B.1.length : Nat) : Int); omega)) (go (idx_q g1) (go (at_w rfl g1) (go hcon (gf rfl (gend ⟨hlt, hlt, ?_⟩)))))
    show (IntKind.i64.wrap ((k : Int) + 1), ()) = _
    rw [wrap64 (by omega) (by omega)]; rfl
   ·exact gf (decide_eq_false (by show ¬ (k : Int) < ((B.1.length : Nat) : Int); omega)) (gend rfl)
  rintro r rfl
  refine goo (f_slices_ContainsFunc_api_Item x0.items (by omega) (fun z8 => F_law24_FailureSeen_1 z8) (fun x => (x.width.tmod 2) == 1) (fun x _ => rfl)) ?_
  cases hany : (x0.items.any fun x => (x.width.tmod 2) == 1) with
  | true => exact gbt rfl (gs (gt rfl (gend rfl)))
  | false =>
   have heven : ∀ x ∈ x0.items, x.width % 2 = 0 := by
    intro x hx
    have := List.any_eq_false.1 hany x hx
    have hw := (hg.items x hx).w1
    rw [Int.tmod_eq_emod_of_nonneg (by omega)] at this
    simp at this
    omega
   have hfv := flip_valid hvd
   have hfs := flip_sm h
   have hrv := f_rvalid (flipS x0) hfs.fits
   rw [hfv] at hrv
   obtain ⟨d1, d2, d3⟩ := flip_crit hvd heven hc
   have hfl := crit_len2 (flipS x0) (by rw [flip_len]; omega)
   refine gbf rfl (goo (w_turned h hvd) (goo hrv (gs (gf rfl (go (w_turned h hvd) (go (w_critical hfs (by rw [flip_len]; omega)) ?_))))))
   generalize critT (flipS x0) = D at d1 d2 d3 hfl ⊢
   refine go (iter_revW _ (by omega)) ?_
   have hrl : D.1.reverse.length = D.1.length := List.length_reverse
   have fmap : ∀ k, k < D.1.reverse.length → IntKind.i64.wrap ((IntKind.i64.wrap (((x0.lines.length : Nat) : Int) - 1)) - D.1.reverse[k]!) = (x0.lines.length : Int) - 1 - D.1.reverse[k]! := by
    intro k hk
    have hm : D.1.reverse[k]! ∈ D.1 := by
     rw [getElem!_pos D.1.reverse k hk]
     exact List.mem_reverse.1 (List.getElem_mem hk)
    have := d3 _ hm
    rw [wrap64 (n := ((x0.lines.length : Nat) : Int) - 1) (by omega) (by omega), wrap64 (by omega) (by omega)]
   refine gloop (fun r : List Int × Unit => r = (D.1.reverse.map (fun x => (x0.lines.length : Int) - 1 - x), ())) (fun k t => k ≤ D.1.reverse.length ∧ t = ((k : Int), (D.1.reverse.take k).map (fun x => (x0.lines.length : Int) - 1 - x) ++ D.1.reverse.drop k, ())) D.1.reverse.length (by unfold big; omega) ⟨Nat.zero_le _, rfl⟩ ?_ ?_
   ·rintro k t hk ⟨_, rfl⟩
    rcases Nat.lt_or_ge k D.1.reverse.length with hlt | hge
    ·obtain ⟨m1, m2⟩ := map_set (fun x => (x0.lines.length : Int) - 1 - x) D.1.reverse hlt
     have hf := fmap k hlt
     rw [getElem!_pos D.1.reverse k hlt] at hf
     have w1 : IntKind.i64.wrap ((k : Int) + 1) = ((k + 1 : Nat) : Int) := by rw [wrap64 (by omega) (by omega)]; omega
     refine gt (decide_eq_true (by show (k : Int) < ((D.1.reverse.length : Nat) : Int); omega)) (go (idx_q m2) (go (at_w rfl m2) (go (idx_q m2) (go (at_w rfl m2) (gend ⟨hlt, hlt, ?_⟩)))))
     show (IntKind.i64.wrap ((k : Int) + 1), (((D.1.reverse.take k).map (fun x => (x0.lines.length : Int) - 1 - x) ++ D.1.reverse.drop k).set (Int.toNat (k : Int)) (IntKind.i64.wrap ((IntKind.i64.wrap (((x0.lines.length : Nat) : Int) - 1)) - D.1.reverse[k]))), ()) = _
     rw [w1, hf, Int.toNat_natCast, m1]
    ·refine gf (decide_eq_false (by show ¬ (k : Int) < ((D.1.reverse.length : Nat) : Int); omega)) (gend ?_)
     show ((D.1.reverse.take k).map (fun x => (x0.lines.length : Int) - 1 - x) ++ D.1.reverse.drop k, ()) = _
     rw [List.take_of_length_le hge, List.drop_of_length_le hge, List.append_nil]
   rintro r rfl
   rw [d2]
   exact gbt (by simp [d1]) (goo (w_sameI (critT x0).1 (by omega)) (gs (gend rfl)))
end Go.Proofs.YtcaopooflemnlaaGreat
