/- Joined by merge.py: PlQ4, PlQ5, PlQ6, PlQ7, PlG1, PlRw, PlG2, PlG3, PlG4, PlG5, PlH1, PlJ1, PlQ8a, PlQ8b, PlH2, PlH3, PlH4, PlJ1b, PlT2, PlT4a, PlT4, PlJ1c, PlT5, PlT6, PlW1, PlW2, PlW3, PlW4, PlW5, PlW6, PlW7. -/
import Derived.Test.YtcaopooflemnlaaGreatM09
/- The program's beams as rational numbers: turned, moments. -/
namespace Go.Proofs.YtcaopooflemnlaaGreat
set_option linter.unusedVariables false
set_option linter.unusedSimpArgs false

def turnB (b : TBeam) : TBeam := ⟨b.name, b.length, b.supports.reverse.map (fun s => b.length - s), b.loads.map (fun x => ⟨b.length - x.at_, x.weight⟩), b.even⟩
theorem ordS_snd {α : Type} (l : List α) : (ordS true l).map (fun x => x.2) = l.reverse := by
 unfold ordS
 rw [List.map_reverse, List.map_map]
 congr 1
 have : ((fun x : Nat × α => x.2) ∘ fun p : α × Nat => (p.2, p.1)) = Prod.fst := rfl
 rw [this]
 exact List.zipIdx_map_fst 0 l
theorem fold_turn (L : Int) (hL0 : 0 ≤ L) (hL : L ≤ 1048576) : ∀ (l : List (Nat × Int)) (s : TBeam), (∀ x ∈ l, 0 ≤ x.2 ∧ x.2 ≤ L) → s.supports.length + l.length ≤ 1000000 →
  foldR (σ := TBeam × Unit) (τ := Nat × Int) (fun s1 x2 => (if s1.1.supports.length + ([(IntKind.i64.wrap (L - x2.2))] : List Int).length ≤ 2147483648 then some ((TBeam.mk s1.1.name s1.1.length (s1.1.supports ++ ([(IntKind.i64.wrap (L - x2.2))] : List Int)) s1.1.loads s1.1.even), ()) else none)) l (s, ()) = some (⟨s.name, s.length, s.supports ++ (l.map fun x => x.2).map (fun x => L - x), s.loads, s.even⟩, ())
 | [], s, _, _ => by simp [foldR]
 | x :: l, s, h, hl => by
  have hx := h x List.mem_cons_self
  unfold foldR
  rw [if_pos (by simp at hl ⊢; omega), wrap64 (by omega) (by omega)]
  simp only [Option.bind_some]
  rw [fold_turn L hL0 hL l _ (fun y hy => h y (List.mem_cons_of_mem _ hy)) (by simp at hl ⊢; omega)]
  simp
structure SupOk (b : TBeam) : Prop where
 n1 : 1 ≤ b.supports.length
 n10 : b.supports.length ≤ 10
 rg : ∀ x ∈ b.supports, 0 ≤ x ∧ x ≤ b.length
 inc : ∀ i, i + 1 < b.supports.length → b.supports.getD i 0 < b.supports.getD (i + 1) 0
theorem f_turned {b : TBeam} (hb : BeamIn b) (hs : SupOk b) : F_beam_turned b = some (turnB b) := by
 have hl0 := hb.l0
 have hl1 := hb.l1
 have hln := hb.ln
 have hn := hs.n10
 suffices h : ∃ r, F_beam_turned b = some r ∧ r = turnB b by
  obtain ⟨r, h1, rfl⟩ := h
  exact h1
 unfold F_beam_turned
 rw [if_pos (by omega), fold_turn b.length (by omega) hl1 _ _ (by
  intro x hx
  have h1 : x.2 ∈ b.supports := by
   have h2 : x.2 ∈ (ordS true b.supports).map (fun x => x.2) := List.mem_map_of_mem hx
   rw [ordS_snd] at h2
   exact List.mem_reverse.1 h2
  exact hs.rg _ h1) (by simp [ordS]; omega), ordS_snd]
 simp only [Option.bind_some, List.nil_append]
 refine iter_bind (Q := fun s : TBeam × Unit => s.1 = turnB b) (fun k s => k ≤ b.loads.length ∧ s = ((k : Int), ⟨b.name, b.length, b.supports.reverse.map (fun s => b.length - s), (b.loads.take k).map (fun x => ⟨b.length - x.at_, x.weight⟩), b.even⟩, ())) b.loads.length (by unfold big; omega) ?_ ⟨Nat.zero_le _, rfl⟩ ?_
 ·rintro k s hk ⟨_, rfl⟩
  rcases Nat.lt_or_ge k b.loads.length with hlt | hge
  ·have e0 : decide ((k : Int) < ((b.loads.length : Nat) : Int)) = true := decide_eq_true (by omega)
   obtain ⟨x0, x1, x2, x3⟩ := hb.ld _ (List.getElem_mem hlt)
   refine .inl ⟨_, ?_, hlt, hlt, rfl⟩
   simp only [e0, cond_true]
   rw [idx_nat hlt]
   simp only [Option.bind_some]
   rw [if_pos (by simp; omega), wrap64 (n := b.length - b.loads[k].at_) (by omega) (by omega), wrap64 (n := (k : Int) + 1) (by omega) (by omega), List.take_succ_eq_append_getElem hlt, List.map_append]
   rfl
  ·have e0 : decide ((k : Int) < ((b.loads.length : Nat) : Int)) = false := decide_eq_false (by omega)
   refine .inr ⟨((⟨b.name, b.length, b.supports.reverse.map (fun s => b.length - s), (b.loads.take k).map (fun x => ⟨b.length - x.at_, x.weight⟩), b.even⟩ : TBeam), ()), by simp only [e0, cond_false], ?_⟩
   show (⟨b.name, b.length, b.supports.reverse.map (fun s => b.length - s), (b.loads.take k).map (fun x => ⟨b.length - x.at_, x.weight⟩), b.even⟩ : TBeam) = turnB b
   rw [List.take_of_length_le hge]
   rfl
 ·rintro ⟨t, u⟩ h
  exact ⟨t, rfl, h⟩
theorem turn_in {b : TBeam} (hb : BeamIn b) : BeamIn (turnB b) := by
 refine ⟨hb.l0, hb.l1, hb.e0, hb.e1, ?_, by show (b.loads.map _).length ≤ 40; rw [List.length_map]; exact hb.ln⟩
 intro x hx
 obtain ⟨y, hy, rfl⟩ := List.mem_map.1 hx
 obtain ⟨x0, x1, x2, x3⟩ := hb.ld y hy
 exact ⟨by show 0 ≤ b.length - y.at_; omega, by show b.length - y.at_ ≤ b.length; omega, x2, x3⟩
theorem turn_lds (b : TBeam) : lds (turnB b).loads = turnW b.length (lds b.loads) := by
 unfold lds turnW turnB
 rw [List.map_map, List.map_map]
 rfl
def sp (b : TBeam) (i : Nat) : Int := b.supports.getD i 0
def gp (b : TBeam) (i : Nat) : Rat := ((sp b (i + 1) - sp b i : Int) : Rat)
def Rp (b : TBeam) (i : Nat) : Rat := 0 - sideQ b.even (lds b.loads) (sp b (i - 1)) (sp b i) true - sideQ b.even (lds b.loads) (sp b i) (sp b (i + 1)) false
def fstQ (b : TBeam) : Rat := 0 - overQ b.even (lds b.loads) (sp b 0)
def lstQ (b : TBeam) : Rat := 0 - overQ b.even (turnW b.length (lds b.loads)) (b.length - sp b (b.supports.length - 1))
def momB (b : TBeam) (i : Nat) : Rat := mom (gp b) (Rp b) (fstQ b) (lstQ b) b.supports.length i
theorem sp_get {b : TBeam} {i : Nat} (h : i < b.supports.length) : b.supports[i]? = some (sp b i) := by
 unfold sp
 rw [List.getD_eq_getElem?_getD, List.getElem?_eq_getElem h]; rfl
theorem idx_q {α : Type} {l : List α} {k : Nat} {x : α} (h : l[k]? = some x) : idx l (k : Int) = some x := by
 unfold idx
 rw [if_pos (by omega), Int.toNat_natCast, h]
theorem sp_idx {b : TBeam} {i : Nat} (h : i < b.supports.length) : idx b.supports (i : Int) = some (sp b i) := idx_q (sp_get h)
theorem sp_rg {b : TBeam} (hs : SupOk b) {i : Nat} (h : i < b.supports.length) : 0 ≤ sp b i ∧ sp b i ≤ b.length := by
 have := sp_get h
 exact hs.rg _ (List.mem_of_getElem? this)
theorem gp_pos {b : TBeam} (hs : SupOk b) : ∀ i, i + 1 < b.supports.length → 0 < gp b i := by
 intro i h
 have := hs.inc i h
 unfold gp
 exact Rat.intCast_lt_intCast.2 (show (0 : Int) < sp b (i + 1) - sp b i by unfold sp; omega)
theorem f_bfirst {b : TBeam} (hb : BeamIn b) (hs : SupOk b) : ∃ r, F_beam_overhang b = some r ∧ Xq r (fstQ b) 300 := by
 have h := sp_rg hs (i := 0) (by have := hs.n1; omega)
 refine f_over2 hb ?_ h.1 h.2
 rw [List.head?_eq_getElem?]
 exact sp_get (by have := hs.n1; omega)
theorem f_last {b : TBeam} (hb : BeamIn b) (hs : SupOk b) : ∃ r, F_beam_overhang (turnB b) = some r ∧ Xq r (lstQ b) 300 := by
 have hn := hs.n1
 have h := sp_rg hs (i := b.supports.length - 1) (by omega)
 have hl : (turnB b).length = b.length := rfl
 obtain ⟨r, r1, r2⟩ := f_over2 (turn_in hb) (a := b.length - sp b (b.supports.length - 1)) (by
  show (b.supports.reverse.map (fun s => b.length - s)).head? = _
  rw [List.head?_map, List.head?_reverse, List.getLast?_eq_getElem?, sp_get (by omega)]
  rfl) (by omega) (by rw [hl]; omega)
 exact ⟨r, r1, r2.cast (by rw [turn_lds]; rfl)⟩
end Go.Proofs.YtcaopooflemnlaaGreat

/- The program's moments as rational numbers. -/
namespace Go.Proofs.YtcaopooflemnlaaGreat
set_option linter.unusedVariables false
set_option linter.unusedSimpArgs false

def rtB (b : TBeam) (i : Nat) : Rat := Rp b i - gp b (i - 1) * (pq (gp b) (Rp b) (fstQ b) (i - 1)).1
def mdB (b : TBeam) (i : Nat) : Rat := midQ (gp b) (Rp b) (fstQ b) (i - 1)
theorem pq_one (b : TBeam) (i : Nat) : (pq (gp b) (Rp b) (fstQ b) (i + 1)).1 = rtB b (i + 1) / mdB b (i + 1) ∧ (pq (gp b) (Rp b) (fstQ b) (i + 1)).2 = gp b (i + 1) / mdB b (i + 1) := ⟨rfl, rfl⟩
theorem md_pos {b : TBeam} (hs : SupOk b) {i : Nat} (h0 : 1 ≤ i) (h : i + 1 < b.supports.length) : 0 < mdB b i := by
 unfold mdB
 exact mid_pos (n := b.supports.length - 1) (fun j hj => gp_pos hs j (by omega)) (by omega)
theorem get_set {α : Type} {l : List α} {i j : Nat} {v : α} (hi : i < l.length) : (l.set i v)[j]? = if i = j then some v else l[j]? := by
 rw [List.getElem?_set]
 by_cases h : i = j
 ·subst h; rw [if_pos rfl, if_pos rfl, if_pos hi]
 ·rw [if_neg h, if_neg h]
theorem f_bgap {b : TBeam} (hb : BeamIn b) (hs : SupOk b) {i : Nat} (h : i + 1 < b.supports.length) : ∃ r, F_beam_whole (IntKind.i64.wrap (sp b (i + 1) - sp b i)) = some r ∧ Xq r (gp b i) 2 := by
 have h1 := sp_rg hs (i := i) (by omega)
 have h2 := sp_rg hs (i := i + 1) (by omega)
 have hl := hb.l1
 rw [wrap64 (by omega) (by omega)]
 exact f_whole _ (by omega) (by omega)
theorem idx_w {α : Type} {l : List α} {k : Nat} {z : Int} {x : α} (e : z = (k : Int)) (h : l[k]? = some x) : idx l z = some x := by subst e; exact idx_q h
theorem at_w {α : Type} {l : List α} {k : Nat} {z : Int} {x : α} (e : z = (k : Int)) (h : l[k]? = some x) : l[Int.toNat z]? = some x := by subst e; rw [Int.toNat_natCast]; exact h
def FwB (b : TBeam) (k : Nat) (D T : List Texact) : Prop := D.length = b.supports.length ∧ T.length = b.supports.length ∧ (∀ j, 1 ≤ j → j ≤ k → ∃ v, D[j]? = some v ∧ Xq v (mdB b j) (7 * j + 2)) ∧ ∀ j, 1 ≤ j → j ≤ k → ∃ v, T[j]? = some v ∧ Xq v (rtB b j) (1000 * (j + 1))
theorem fw_set {b : TBeam} {k : Nat} {D T : List Texact} (h : FwB b k D T) (hk : k + 1 < b.supports.length) {d t d0 t0 : Texact} (hd : Xq d (mdB b (k + 1)) (7 * (k + 1) + 2)) (ht : Xq t (rtB b (k + 1)) (1000 * (k + 1 + 1))) : FwB b (k + 1) ((D.set (k + 1) d0).set (k + 1) d) ((T.set (k + 1) t0).set (k + 1) t) := by
 obtain ⟨h1, h2, h3, h4⟩ := h
 refine ⟨by simp [h1], by simp [h2], fun j a c => ?_, fun j a c => ?_⟩
 ·rw [List.set_set, get_set (by omega)]
  rcases Decidable.em (k + 1 = j) with e | e
  ·subst e; rw [if_pos rfl]; exact ⟨d, rfl, hd⟩
  ·rw [if_neg e]; exact h3 j a (by omega)
 ·rw [List.set_set, get_set (by omega)]
  rcases Decidable.em (k + 1 = j) with e | e
  ·subst e; rw [if_pos rfl]; exact ⟨t, rfl, ht⟩
  ·rw [if_neg e]; exact h4 j a (by omega)
theorem fw_set1 {b : TBeam} {k : Nat} {D T : List Texact} (h : FwB b k D T) (hk : k + 1 < b.supports.length) {d t t0 : Texact} (hd : Xq d (mdB b (k + 1)) (7 * (k + 1) + 2)) (ht : Xq t (rtB b (k + 1)) (1000 * (k + 1 + 1))) : FwB b (k + 1) (D.set (k + 1) d) ((T.set (k + 1) t0).set (k + 1) t) := by
 have := fw_set h hk (d0 := d) (t0 := t0) hd ht
 rwa [List.set_set] at this
def BwB (b : TBeam) (m : Nat) (O : List Texact) : Prop := O.length = b.supports.length ∧ (∃ v, O[0]? = some v ∧ Xq v (momB b 0) 300) ∧ ∀ i, m < i → i < b.supports.length → ∃ v, O[i]? = some v ∧ Xq v (momB b i) (400 + (b.supports.length - 1 - i) * 10100)
set_option maxHeartbeats 2000000 in
theorem f_moments {b : TBeam} (hb : BeamIn b) (hs : SupOk b) : Gs (F_beam_moments b) fun r => (r.2 = true ↔ (b.supports.length = 1 → fstQ b = lstQ b)) ∧ (r.2 = true → r.1.length = b.supports.length ∧ ∀ i, i < b.supports.length → ∃ x, r.1[i]? = some x ∧ Xq x (momB b i) 82000) := by
 unfold F_beam_moments
 obtain ⟨x, x1, x2⟩ := f_bfirst hb hs
 obtain ⟨y, y1, y2⟩ := f_last hb hs
 have hl := hb.l1
 have hn1 := hs.n1
 have hn10 := hs.n10
 refine go x1 (go (f_turned hb hs) (go y1 ?_))
 rcases Decidable.em (b.supports.length = 1) with h1 | h1
 ·obtain ⟨z, z1, z2⟩ := f_eless x2 y2 (by omega) (by omega)
  obtain ⟨s, s1, s2, s3⟩ := f_sign z2.n
  refine gt (by rw [beq_iff_eq]; omega) (goo z1 (goo s1 (gs (gend ?_))))
  have hd : fstQ b - lstQ b = 0 ↔ fstQ b = lstQ b := by constructor <;> intro h <;> grind
  have ht : (s == 0) = true ↔ fstQ b = lstQ b := by rw [beq_iff_eq, s2, Rat.num_eq_zero, hd]
  refine ⟨?_, ?_⟩
  ·show (s == 0) = true ↔ _
   rw [ht]
   exact ⟨fun h _ => h, fun h => h h1⟩
  ·intro h
   have h := ht.1 h
   refine ⟨by show 1 = _; omega, fun i hi => ?_⟩
   have : i = 0 := by omega
   subst this
   refine ⟨x, rfl, (x2.mono (by omega)).cast ?_⟩
   rw [h]
   unfold momB
   rw [show (0 : Nat) = b.supports.length - 1 from by omega, mom_last]
 refine gf (by rw [beq_eq_false_iff_ne]; omega) (gif ⟨by omega, by omega⟩ ?_)
 obtain ⟨Z, hZ⟩ : ∃ Z, List.replicate (Int.toNat ((b.supports.length : Nat) : Int)) (⟨⟨false, []⟩, ⟨false, []⟩⟩ : Texact) = Z := ⟨_, rfl⟩
 have hZl : Z.length = b.supports.length := by rw [← hZ, List.length_replicate, Int.toNat_natCast]
 rw [hZ]
 have hw1 : IntKind.i64.wrap (((b.supports.length : Nat) : Int) - 1) = ((b.supports.length - 1 : Nat) : Int) := by rw [wrap64 (by omega) (by omega)]; omega
 have hw2 : IntKind.i64.wrap (((b.supports.length : Nat) : Int) - 2) = ((b.supports.length - 2 : Nat) : Int) := by rw [wrap64 (by omega) (by omega)]; omega
 have g1 : Z[0]? = some Z[0] := List.getElem?_eq_getElem _
 obtain ⟨q, g2⟩ : ∃ q, (Z.set 0 x)[b.supports.length - 1]? = some q := ⟨_, List.getElem?_eq_getElem (by simp; omega)⟩
 have ht0 : Int.toNat 0 = 0 := rfl
 rw [ht0]
 refine goo (idx_w (k := 0) rfl g1) (goo g1 (goo (idx_w hw1 g2) (goo (at_w hw1 g2) (gs ?_))))
 refine gbif ⟨by omega, by omega⟩ (gbif ⟨by omega, by omega⟩ (gs ?_))
 refine gloop (fun s : List Texact × List Texact × Unit => FwB b (b.supports.length - 2) s.1 s.2.1)
  (fun k s => ∃ D T, s = (((k + 1 : Nat) : Int), D, T, ()) ∧ k + 1 ≤ b.supports.length - 1 ∧ FwB b k D T)
  (b.supports.length - 2) (by unfold big; omega) ⟨Z, Z, rfl, by omega, hZl, hZl, fun j h2 h3 => by omega, fun j h2 h3 => by omega⟩ ?_ ?_
 ·rintro k s hk ⟨D, T, rfl, hk1, hF⟩
  rcases Nat.lt_or_ge (k + 1) (b.supports.length - 1) with hlt | hge
  ·obtain ⟨hDl, hTl, hD, hT⟩ := id hF
   have w1 : IntKind.i64.wrap (((k + 1 : Nat) : Int) - 1) = (k : Int) := by rw [wrap64 (by omega) (by omega)]; omega
   have w2 : IntKind.i64.wrap (((k + 1 : Nat) : Int) + 1) = ((k + 2 : Nat) : Int) := by rw [wrap64 (by omega) (by omega)]; omega
   have r0 := sp_rg hs (i := k) (by omega)
   have r1 := sp_rg hs (i := k + 1) (by omega)
   have r2 := sp_rg hs (i := k + 2) (by omega)
   have c0 : sp b k < sp b (k + 1) := hs.inc k (by omega)
   have c1 : sp b (k + 1) < sp b (k + 2) := hs.inc (k + 1) (by omega)
   have p0 := sp_get (b := b) (i := k) (by omega)
   have p1 := sp_get (b := b) (i := k + 1) (by omega)
   have p2 := sp_get (b := b) (i := k + 2) (by omega)
   have w3 : IntKind.i64.wrap (2 * IntKind.i64.wrap (IntKind.i64.wrap (sp b (k + 1) - sp b k) + IntKind.i64.wrap (sp b (k + 2) - sp b (k + 1)))) = 2 * ((sp b (k + 1) - sp b k) + (sp b (k + 2) - sp b (k + 1))) := by
    rw [wrap64 (n := sp b (k + 1) - sp b k) (by omega) (by omega), wrap64 (n := sp b (k + 2) - sp b (k + 1)) (by omega) (by omega), wrap64 (n := (sp b (k + 1) - sp b k) + (sp b (k + 2) - sp b (k + 1))) (by omega) (by omega), wrap64 (by omega) (by omega)]
   obtain ⟨dg0, d1, d2⟩ := f_whole (IntKind.i64.wrap (2 * IntKind.i64.wrap (IntKind.i64.wrap (sp b (k + 1) - sp b k) + IntKind.i64.wrap (sp b (k + 2) - sp b (k + 1))))) (by rw [w3]; omega) (by rw [w3]; omega)
   have d3 : Xq dg0 (2 * (gp b k + gp b (k + 1))) 2 := d2.cast (by rw [w3]; unfold gp; simp only [Rat.intCast_mul, Rat.intCast_add]; rfl)
   obtain ⟨z0, zz1, zz2⟩ := f_whole 0 (by omega) (by omega)
   obtain ⟨sa, sa1, sa2⟩ := f_side hb (fr := sp b k) (to := sp b (k + 1)) true r0.1 c0 r1.2
   obtain ⟨sb, sb1, sb2⟩ := f_side hb (fr := sp b (k + 1)) (to := sp b (k + 2)) false r1.1 c1 r2.2
   obtain ⟨u1, u11, u12⟩ := f_eless zz2 sa2 (by omega) (by omega)
   obtain ⟨u2, u21, u22⟩ := f_eless u12 sb2 (by omega) (by omega)
   have u3 : Xq u2 (Rp b (k + 1)) 804 := u22.cast rfl
   obtain ⟨qd, qd1⟩ : ∃ q, D[k + 1]? = some q := ⟨_, List.getElem?_eq_getElem (by omega)⟩
   obtain ⟨qt, qt1⟩ : ∃ q, T[k + 1]? = some q := ⟨_, List.getElem?_eq_getElem (by omega)⟩
   refine gt (decide_eq_true (by show ((k + 1 : Nat) : Int) < IntKind.i64.wrap _; rw [hw1]; omega)) ?_
   refine goo (idx_w rfl p1) (goo (idx_w w1 p0) (goo (idx_w w2 p2) (goo (idx_w rfl p1) (goo d1 ?_))))
   refine goo (idx_w rfl qd1) (goo (at_w rfl qd1) (goo (idx_w w1 p0) (goo (idx_w rfl p1) (goo (idx_w rfl p1) (goo (idx_w w2 p2) (goo zz1 (goo sa1 (goo u11 (goo sb1 (goo u21 (goo (idx_w rfl qt1) (goo (at_w rfl qt1) ?_))))))))))))
   obtain ⟨gk, gk1, gk2⟩ := f_bgap hb hs (i := k) (by omega)
   have sD : ∀ v, (D.set (k + 1) v)[k + 1]? = some v := fun v => by rw [get_set (by omega), if_pos rfl]
   have sT : ∀ v, (T.set (k + 1) v)[k + 1]? = some v := fun v => by rw [get_set (by omega), if_pos rfl]
   rcases Nat.eq_zero_or_pos k with hk0 | hk0
   ·subst hk0
    obtain ⟨t1, t11, t12⟩ := f_etimes x2 gk2 (by omega) (by omega)
    obtain ⟨t2, t21, t22⟩ := f_eless u3 t12 (by omega) (by omega)
    refine gbt rfl (goo (idx_w rfl (sT _)) (goo (at_w rfl (sT _)) (goo gk1 (goo t11 (goo t21 (goo (idx_w rfl (sT _)) (goo (at_w rfl (sT _)) (gs (gend ?_)))))))))
    refine ⟨by omega, D.set (0 + 1) dg0, (T.set (0 + 1) u2).set (0 + 1) t2, by simp only [w2, Int.toNat_natCast], by omega, fw_set1 hF (by omega) ((d3.mono (by omega)).cast ?_) ((t22.mono (by omega)).cast ?_)⟩
    ·show _ = 2 * (gp b 0 + gp b (0 + 1)) - gp b 0 * (0 : Rat)
     grind
    ·show _ = Rp b (0 + 1) - gp b 0 * fstQ b
     grind
   ·obtain ⟨dp, dp1, dp2⟩ := hD k hk0 (Nat.le_refl _)
    obtain ⟨tp, tp1, tp2⟩ := hT k hk0 (Nat.le_refl _)
    have hmp := md_pos hs hk0 (show k + 1 < b.supports.length by omega)
    have sDk : ∀ v, (D.set (k + 1) v)[k]? = some dp := fun v => by rw [get_set (by omega), if_neg (by omega)]; exact dp1
    have sTk : ∀ v, (T.set (k + 1) v)[k]? = some tp := fun v => by rw [get_set (by omega), if_neg (by omega)]; exact tp1
    obtain ⟨f, f1, f2⟩ := f_eby gk2 dp2 (by grind) (by omega) (by omega)
    obtain ⟨fk, fk1, fk2⟩ := f_etimes f2 gk2 (by omega) (by omega)
    obtain ⟨dn, dn1, dn2⟩ := f_eless d3 fk2 (by omega) (by omega)
    obtain ⟨ft, ft1, ft2⟩ := f_etimes f2 tp2 (by omega) (by omega)
    obtain ⟨tn, tn1, tn2⟩ := f_eless u3 ft2 (by omega) (by omega)
    refine gbf (by show (((k + 1 : Nat) : Int) == 1) = false; rw [beq_eq_false_iff_ne]; omega) (goo (idx_w w1 (sDk _)) (goo (at_w w1 (sDk _)) (goo gk1 (goo f1 (goo (idx_w rfl (sD _)) (goo (at_w rfl (sD _)) (goo gk1 (goo fk1 (goo dn1 ?_)))))))))
    refine goo (idx_w rfl (sD _)) (goo (at_w rfl (sD _)) (goo (idx_w rfl (sT _)) (goo (at_w rfl (sT _)) (goo (idx_w w1 (sTk _)) (goo (at_w w1 (sTk _)) (goo ft1 (goo tn1 (goo (idx_w rfl (sT _)) (goo (at_w rfl (sT _)) (gs (gend ?_)))))))))))
    obtain ⟨i, rfl⟩ : ∃ i, k = i + 1 := ⟨k - 1, by omega⟩
    have hpq := pq_one b i
    refine ⟨by omega, (D.set (i + 1 + 1) dg0).set (i + 1 + 1) dn, (T.set (i + 1 + 1) u2).set (i + 1 + 1) tn, by simp only [w2, Int.toNat_natCast], by omega, fw_set hF (by omega) ((dn2.mono (by omega)).cast ?_) ((tn2.mono (by omega)).cast ?_)⟩
    ·show _ = 2 * (gp b (i + 1) + gp b (i + 1 + 1)) - gp b (i + 1) * (pq (gp b) (Rp b) (fstQ b) (i + 1)).2
     rw [hpq.2]
     grind
    ·show _ = Rp b (i + 1 + 1) - gp b (i + 1) * (pq (gp b) (Rp b) (fstQ b) (i + 1)).1
     rw [hpq.1]
     grind
  ·refine gf (decide_eq_false (by show ¬ ((k + 1 : Nat) : Int) < IntKind.i64.wrap _; rw [hw1]; omega)) (gend ?_)
   have : k = b.supports.length - 2 := by omega
   subst this
   exact hF
 ·rintro ⟨D, T, u⟩ hF
  obtain ⟨hDl, hTl, hD, hT⟩ := hF
  refine gloop (fun s : List Texact × Unit => BwB b 0 s.1)
   (fun k s => ∃ (O : List Texact) (m : Nat), s = ((m : Int), O, ()) ∧ m + k = b.supports.length - 2 ∧ BwB b m O)
   (b.supports.length - 2) (by unfold big; omega) ⟨_, b.supports.length - 2, by rw [hw2], by omega, by simp [hZl], ⟨x, ?_, x2.cast ?_⟩, ?_⟩ ?_ ?_
  ·rw [hw1, Int.toNat_natCast, get_set (by simp; omega), if_neg (by omega), get_set (by omega), if_pos rfl]
  ·unfold momB
   rw [mom_first _ _ _ _ (by omega)]
  ·intro i hi hi2
   have : i = b.supports.length - 1 := by omega
   refine ⟨y, by rw [hw1, Int.toNat_natCast, get_set (by simp; omega), if_pos this.symm], (y2.mono (by omega)).cast ?_⟩
   rw [this]
   unfold momB
   rw [mom_last]
  ·rintro k s hk ⟨O, m, rfl, hm, hO⟩
   rcases Nat.eq_zero_or_pos m with hm0 | hm0
   ·subst hm0
    exact gf (decide_eq_false (by show ¬ ((0 : Nat) : Int) > 0; omega)) (gend hO)
   ·obtain ⟨hOl, hO0, hO⟩ := hO
    have w2 : IntKind.i64.wrap ((m : Int) + 1) = ((m + 1 : Nat) : Int) := by rw [wrap64 (by omega) (by omega)]; omega
    have w1 : IntKind.i64.wrap ((m : Int) - 1) = ((m - 1 : Nat) : Int) := by rw [wrap64 (by omega) (by omega)]; omega
    obtain ⟨t, t1, t2⟩ := hT m hm0 (by omega)
    obtain ⟨d, d1, d2⟩ := hD m hm0 (by omega)
    obtain ⟨o, o1, o2⟩ := hO (m + 1) (by omega) (by omega)
    obtain ⟨gk, gk1, gk2⟩ := f_bgap hb hs (i := m) (by omega)
    have hmp := md_pos hs hm0 (show m + 1 < b.supports.length by omega)
    have hm9 : m ≤ 8 := by omega
    obtain ⟨c, hc⟩ : ∃ c, (b.supports.length - 1 - (m + 1)) * 10100 = c := ⟨_, rfl⟩
    have hc2 : (b.supports.length - 1 - m) * 10100 = c + 10100 := by
     rw [← hc, show b.supports.length - 1 - m = b.supports.length - 1 - (m + 1) + 1 from by omega, Nat.add_mul]
    have hc3 : c ≤ 8 * 10100 := by rw [← hc]; exact Nat.mul_le_mul_right _ (by omega)
    rw [hc] at o2
    obtain ⟨og, og1, og2⟩ := f_etimes o2 gk2 (by omega) (by omega)
    obtain ⟨l1, l11, l12⟩ := f_eless t2 og2 (by omega) (by omega)
    obtain ⟨z, z1, z2⟩ := f_eby l12 d2 (by grind) (by omega) (by omega)
    have p0 := sp_get (b := b) (i := m) (by omega)
    have p1 := sp_get (b := b) (i := m + 1) (by omega)
    obtain ⟨qo, qo1⟩ : ∃ q, O[m]? = some q := ⟨_, List.getElem?_eq_getElem (by omega)⟩
    refine gt (decide_eq_true (by show (0 : Int) < (m : Int); omega)) ?_
    refine go (idx_w w2 p1) (go (idx_w rfl p0) (go (idx_w rfl t1) (go (at_w rfl t1) (go (idx_w w2 o1) (go (at_w w2 o1) (go (idx_w rfl d1) (go (at_w rfl d1) (go gk1 (go og1 (go l11 (go z1 (go (idx_w rfl qo1) (go (at_w rfl qo1) (gend ?_))))))))))))))
    refine ⟨by omega, O.set m z, m - 1, by simp only [w1, Int.toNat_natCast], by omega, by simp [hOl], ?_, ?_⟩
    ·rw [get_set (by omega), if_neg (by omega)]
     exact hO0
    ·intro i hi hi2
     rw [get_set (by omega)]
     rcases Decidable.em (m = i) with h | h
     ·subst h
      rw [if_pos rfl]
      refine ⟨z, rfl, (z2.mono (by omega)).cast ?_⟩
      obtain ⟨j, rfl⟩ : ∃ j, m = j + 1 := ⟨m - 1, by omega⟩
      have hpq := pq_one b j
      unfold momB
      rw [mom_step _ _ _ _ (i := j + 1) (by omega), hpq.1, hpq.2]
      grind
     ·rw [if_neg h]
      exact hO i (by omega) hi2
  ·rintro ⟨O, u⟩ ⟨h2, h3, h4⟩
   refine gend ⟨⟨fun _ h => absurd h h1, fun _ => rfl⟩, fun _ => ⟨h2, fun i hi => ?_⟩⟩
   rcases Nat.eq_zero_or_pos i with h0 | h0
   ·subst h0
    obtain ⟨v, v1, v2⟩ := h3
    exact ⟨v, v1, v2.mono (by omega)⟩
   ·obtain ⟨v, v1, v2⟩ := h4 i h0 hi
    refine ⟨v, v1, v2.mono ?_⟩
    have : (b.supports.length - 1 - i) * 10100 ≤ 8 * 10100 := Nat.mul_le_mul_right _ (by omega)
    omega
end Go.Proofs.YtcaopooflemnlaaGreat

/- The program's reactions as rational numbers. -/
namespace Go.Proofs.YtcaopooflemnlaaGreat
set_option linter.unusedVariables false
set_option linter.unusedSimpArgs false

theorem loop_sumG {α τ : Type} {F : Int × τ × Unit → Option ((Int × τ × Unit) ⊕ (τ × Unit))} {w : List α} (R : τ → Rat → Nat → Prop) (f : α → Rat) (e : Nat) (hw : w.length ≤ 1000000) {t0 : τ} {q0 : Rat} {c0 : Nat} (h0 : R t0 q0 c0)
  (hin : ∀ (k : Nat) (h : k < w.length) (t : τ) (q : Rat), R t q (c0 + e * k) → Gs (F ((k : Int), t, ())) fun y => ∃ t', y = .inl (((k + 1 : Nat) : Int), t', ()) ∧ R t' (q + f w[k]) (c0 + e * k + e))
  (hout : ∀ t, F ((w.length : Int), t, ()) = some (.inr (t, ()))) : Gs (iterF F big (0, t0, ())) fun r => R r.1 (q0 + sumQ f w) (c0 + e * w.length) := by
 obtain ⟨r, h1, h2⟩ := loop_sum (F := F) (K := some) (P := fun r => R r.1 (q0 + sumQ f w) (c0 + e * w.length)) R f e hw h0 (fun k h t q ht => by
  obtain ⟨y, h1, t', rfl, h2⟩ := hin k h t q ht
  exact ⟨t', h1, h2⟩) hout fun t ht => ⟨(t, ()), rfl, ht⟩
 refine ⟨r, ?_, h2⟩
 revert h1
 cases iterF F big (0, t0, ()) with
 | none => intro h1; cases h1
 | some a => intro h1; exact h1
def reactB (b : TBeam) (i : Nat) : Rat := reactQ b.even b.length (lds b.loads) (sp b) b.supports.length (momB b) i
def Rk (n i : Nat) (O t : List Texact) (q : Rat) (c : Nat) : Prop := t.length = n ∧ (∀ j, j < i → t[j]? = O[j]?) ∧ ∃ v, t[i]? = some v ∧ Xq v q c
theorem Rk.set {n i : Nat} {O t : List Texact} {q r : Rat} {c e : Nat} {z : Texact} (h : Rk n i O t q c) (hi : i < n) (hz : Xq z r e) : Rk n i O (t.set i z) r e := by
 obtain ⟨h1, h2, h3⟩ := h
 refine ⟨by simp [h1], fun j hj => ?_, z, by rw [get_set (by omega), if_pos rfl], hz⟩
 rw [get_set (by omega), if_neg (by omega)]
 exact h2 j hj
theorem Rk.mono {n i : Nat} {O t : List Texact} {q : Rat} {c e : Nat} (h : Rk n i O t q c) (hc : c ≤ e) : Rk n i O t q e := by
 obtain ⟨h1, h2, v, h3, h4⟩ := h
 exact ⟨h1, h2, v, h3, h4.mono hc⟩
theorem Rk.cast {n i : Nat} {O t : List Texact} {q r : Rat} {c : Nat} (h : Rk n i O t q c) (e : q = r) : Rk n i O t r c := e ▸ h
set_option maxHeartbeats 2000000 in
theorem f_reactions {b : TBeam} (hb : BeamIn b) (hs : SupOk b) {m : List Texact} (hm : ∀ i, i < b.supports.length → ∃ x, m[i]? = some x ∧ Xq x (momB b i) 82000) :
  Gs (F_beam_reactions b m) fun r => r.length = b.supports.length ∧ ∀ i, i < b.supports.length → ∃ x, r[i]? = some x ∧ Xq x (reactB b i) 330000 := by
 unfold F_beam_reactions
 have hl := hb.l1
 have hn1 := hs.n1
 have hn10 := hs.n10
 have hln := hb.ln
 have hw1 : IntKind.i64.wrap (((b.supports.length : Nat) : Int) - 1) = ((b.supports.length - 1 : Nat) : Int) := by rw [wrap64 (by omega) (by omega)]; omega
 refine gif ⟨by omega, by omega⟩ ?_
 refine gloop (fun s : List Texact × Unit => s.1.length = b.supports.length ∧ ∀ i, i < b.supports.length → ∃ x, s.1[i]? = some x ∧ Xq x (reactB b i) 330000)
  (fun i s => ∃ O, s = ((i : Int), O, ()) ∧ O.length = b.supports.length ∧ ∀ j, j < i → ∃ x, O[j]? = some x ∧ Xq x (reactB b j) 330000)
  b.supports.length (by unfold big; omega) ⟨_, rfl, by simp, fun j hj => absurd hj (Nat.not_lt_zero j)⟩ ?_ ?_
 ·rintro i s hi ⟨O, rfl, hOl, hO⟩
  rcases Nat.lt_or_ge i b.supports.length with hlt | hge
  ·refine gt (decide_eq_true (by show (i : Int) < ((b.supports.length : Nat) : Int); omega)) ?_
   have pi := sp_get hlt
   have ri := sp_rg hs hlt
   obtain ⟨z0, zz1, zz2⟩ := f_whole 0 (by omega) (by omega)
   obtain ⟨qo, qo1⟩ : ∃ q, O[i]? = some q := ⟨_, List.getElem?_eq_getElem (by omega)⟩
   obtain ⟨mi, mi1, mi2⟩ := hm i hlt
   have start : Rk b.supports.length i O (O.set i z0) (0 : Rat) 2 := by
    refine ⟨by simp [hOl], fun j hj => ?_, z0, by rw [get_set (by omega), if_pos rfl], zz2⟩
    rw [get_set (by omega), if_neg (by omega)]
   have ht0 : Int.toNat ((i : Nat) : Int) = i := Int.toNat_natCast i
   simp only [ht0]
   refine goo (idx_w rfl pi) (goo zz1 (goo (idx_w rfl qo1) (goo qo1 ?_)))
   refine gcalll (loop_sumG (w := b.loads) (Rk b.supports.length i O) (fun x => if x.at_ = sp b i then (x.weight : Rat) else 0) 3 (by omega) start ?_ ?_) ?_
   ·rintro k hk t q ⟨t1, t2, v, v1, v2⟩
    obtain ⟨x0, x1, x2, x3⟩ := hb.ld _ (List.getElem_mem hk)
    have hx := idx_nat hk
    have w1 : IntKind.i64.wrap ((k : Int) + 1) = ((k + 1 : Nat) : Int) := by rw [wrap64 (by omega) (by omega)]; omega
    refine gt (decide_eq_true (by show (k : Int) < ((b.loads.length : Nat) : Int); omega)) (goo hx ?_)
    generalize b.loads[k] = x at *
    rcases Decidable.em (x.at_ = sp b i) with h | h
    ·obtain ⟨a, a1, a2⟩ := f_whole x.weight (by omega) (by omega)
     obtain ⟨p, p1, p2⟩ := f_eplus v2 a2 (by omega) (by omega)
     refine gbt (by rw [beq_iff_eq]; exact h) (goo (idx_q v1) (goo v1 (goo a1 (goo p1 (goo (idx_q v1) (goo v1 (gs (gend ⟨t.set i p, by simp only [w1], ?_⟩))))))))
     rw [if_pos h]
     exact Rk.set ⟨t1, t2, v, v1, v2⟩ hlt (p2.mono (by omega))
    ·refine gbf (by rw [beq_eq_false_iff_ne]; exact h) (gs (gend ⟨t, by simp only [w1], ?_⟩))
     rw [if_neg h]
     exact ⟨t1, t2, v, v1, v2.skip⟩
   ·intro t
    have e0 : decide (((b.loads.length : Nat) : Int) < ((b.loads.length : Nat) : Int)) = false := by simp
    simp only [e0, cond_false]
   rintro ⟨t, u⟩ ht
   have ht : Rk b.supports.length i O t (atQ (lds b.loads) (sp b i)) 122 := (ht.mono (by omega)).cast (by unfold atQ lds; rw [sumQ_map]; grind)
   refine gcalll (Q := fun r : List Texact × Unit => Rk b.supports.length i O r.1 (atQ (lds b.loads) (sp b i) + (if 0 < i then leverQ b.even (lds b.loads) (sp b (i - 1)) (sp b i) false + (momB b (i - 1) - momB b i) / ((sp b i - sp b (i - 1) : Int) : Rat) else 0)) 164427) ?_ ?_
   ·obtain ⟨t1, t2, v, v1, v2⟩ := id ht
    rcases Nat.eq_zero_or_pos i with h0 | h0
    ·subst h0
     refine gf (decide_eq_false (by omega)) (gend ?_)
     rw [if_neg (by omega)]
     exact (ht.mono (by omega)).cast (by grind)
    ·obtain ⟨j, rfl⟩ : ∃ j, i = j + 1 := ⟨i - 1, by omega⟩
     have w1 : IntKind.i64.wrap (((j + 1 : Nat) : Int) - 1) = (j : Int) := by rw [wrap64 (by omega) (by omega)]; omega
     have pj := sp_get (b := b) (i := j) (by omega)
     have rj := sp_rg hs (i := j) (by omega)
     have hc : sp b j < sp b (j + 1) := hs.inc j (by omega)
     obtain ⟨mj, mj1, mj2⟩ := hm j (by omega)
     obtain ⟨l, l1, l2⟩ := f_lever hb (fr := sp b j) (to := sp b (j + 1)) false rj.1 hc ri.2
     obtain ⟨a, a1, a2⟩ := f_eplus v2 l2 (by omega) (by omega)
     obtain ⟨d, d1, d2⟩ := f_eless mj2 mi2 (by omega) (by omega)
     obtain ⟨g, g1, g2⟩ := f_bgap hb hs (i := j) (by omega)
     obtain ⟨e, e1, e2⟩ := f_eby d2 g2 (by have := gp_pos hs j (by omega); grind) (by omega) (by omega)
     obtain ⟨f, f1, f2⟩ := f_eplus a2 e2 (by omega) (by omega)
     refine gt (decide_eq_true (by omega)) (go (idx_w w1 pj) (go (idx_q v1) (go v1 (go (idx_w w1 mj1) (go (idx_q mi1) (go l1 (go a1 (go d1 (go g1 (go e1 (go f1 (go (idx_q v1) (go v1 (gend ?_))))))))))))))
     refine Rk.set ht hlt ((f2.mono (by omega)).cast ?_)
     rw [if_pos (by omega)]
     show _ = atQ (lds b.loads) (sp b (j + 1)) + (leverQ b.even (lds b.loads) (sp b j) (sp b (j + 1)) false + (momB b j - momB b (j + 1)) / gp b j)
     grind
   rintro ⟨t', u'⟩ ht'
   clear ht
   obtain ⟨qa, hqa⟩ : ∃ qa, atQ (lds b.loads) (sp b i) + (if 0 < i then leverQ b.even (lds b.loads) (sp b (i - 1)) (sp b i) false + (momB b (i - 1) - momB b i) / ((sp b i - sp b (i - 1) : Int) : Rat) else 0) = qa := ⟨_, rfl⟩
   rw [hqa] at ht'
   have w2 : IntKind.i64.wrap ((i : Int) + 1) = ((i + 1 : Nat) : Int) := by rw [wrap64 (by omega) (by omega)]; omega
   refine gcalll (Q := fun r : List Texact × Unit => Rk b.supports.length i O r.1 (qa + (if i + 1 < b.supports.length then leverQ b.even (lds b.loads) (sp b i) (sp b (i + 1)) true + (momB b (i + 1) - momB b i) / ((sp b (i + 1) - sp b i : Int) : Rat) else 0)) 328732) ?_ ?_
   ·obtain ⟨t1, t2, v, v1, v2⟩ := id ht'
    rcases Nat.lt_or_ge (i + 1) b.supports.length with h0 | h0
    ·have pj := sp_get (b := b) (i := i + 1) (by omega)
     have rj := sp_rg hs (i := i + 1) (by omega)
     have hc : sp b i < sp b (i + 1) := hs.inc i (by omega)
     obtain ⟨mj, mj1, mj2⟩ := hm (i + 1) (by omega)
     obtain ⟨l, l1, l2⟩ := f_lever hb (fr := sp b i) (to := sp b (i + 1)) true ri.1 hc rj.2
     obtain ⟨a, a1, a2⟩ := f_eplus v2 l2 (by omega) (by omega)
     obtain ⟨d, d1, d2⟩ := f_eless mj2 mi2 (by omega) (by omega)
     obtain ⟨g, g1, g2⟩ := f_bgap hb hs (i := i) (by omega)
     obtain ⟨e, e1, e2⟩ := f_eby d2 g2 (by have := gp_pos hs i (by omega); grind) (by omega) (by omega)
     obtain ⟨f, f1, f2⟩ := f_eplus a2 e2 (by omega) (by omega)
     refine gt (decide_eq_true (by show IntKind.i64.wrap ((i : Int) + 1) < ((b.supports.length : Nat) : Int); rw [w2]; omega)) (go (idx_w w2 pj) (go (idx_q v1) (go v1 (go (idx_w w2 mj1) (go (idx_q mi1) (go l1 (go a1 (go d1 (go g1 (go e1 (go f1 (go (idx_q v1) (go v1 (gend ?_))))))))))))))
     refine Rk.set ht' hlt ((f2.mono (by omega)).cast ?_)
     rw [if_pos (by omega)]
     show _ = qa + (leverQ b.even (lds b.loads) (sp b i) (sp b (i + 1)) true + (momB b (i + 1) - momB b i) / gp b i)
     grind
    ·refine gf (decide_eq_false (by show ¬ IntKind.i64.wrap ((i : Int) + 1) < ((b.supports.length : Nat) : Int); rw [w2]; omega)) (gend ?_)
     rw [if_neg (by omega)]
     exact (ht'.mono (by omega)).cast (by grind)
   rintro ⟨ta, ua⟩ hta
   clear ht'
   obtain ⟨qb, hqb⟩ : ∃ qb, qa + (if i + 1 < b.supports.length then leverQ b.even (lds b.loads) (sp b i) (sp b (i + 1)) true + (momB b (i + 1) - momB b i) / ((sp b (i + 1) - sp b i : Int) : Rat) else 0) = qb := ⟨_, rfl⟩
   rw [hqb] at hta
   refine gcalll (Q := fun r : List Texact × Unit => Rk b.supports.length i O r.1 (qb + (if i = 0 then beyondQ b.even (lds b.loads) (sp b i) else 0)) 328940) ?_ ?_
   ·obtain ⟨t1, t2, v, v1, v2⟩ := id hta
    rcases Decidable.em (i = 0) with h0 | h0
    ·obtain ⟨l, l1, l2⟩ := f_beyond hb (a := sp b i) ri.1 ri.2
     obtain ⟨a, a1, a2⟩ := f_eplus v2 l2 (by omega) (by omega)
     refine gt (by rw [beq_iff_eq]; omega) (go (idx_q v1) (go v1 (go l1 (go a1 (go (idx_q v1) (go v1 (gend ?_)))))))
     rw [if_pos h0]
     exact Rk.set hta hlt (a2.mono (by omega))
    ·refine gf (by rw [beq_eq_false_iff_ne]; omega) (gend ?_)
     rw [if_neg h0]
     exact (hta.mono (by omega)).cast (by grind)
   rintro ⟨tb, ub⟩ htb
   clear hta
   obtain ⟨qc, hqc⟩ : ∃ qc, qb + (if i = 0 then beyondQ b.even (lds b.loads) (sp b i) else 0) = qc := ⟨_, rfl⟩
   rw [hqc] at htb
   refine gcall (Q := fun r : List Texact × Unit => Rk b.supports.length i O r.1 (qc + (if i + 1 = b.supports.length then beyondQ b.even (turnW b.length (lds b.loads)) (b.length - sp b i) else 0)) 330000) ?_ ?_
   ·obtain ⟨t1, t2, v, v1, v2⟩ := id htb
    rcases Decidable.em (i + 1 = b.supports.length) with h0 | h0
    ·have hbl : IntKind.i64.wrap (b.length - sp b i) = b.length - sp b i := wrap64 (by omega) (by omega)
     obtain ⟨l, l1, l2⟩ := f_beyond (turn_in hb) (a := b.length - sp b i) (by omega) (by show b.length - sp b i ≤ b.length; omega)
     rw [turn_lds] at l2
     obtain ⟨a, a1, a2⟩ := f_eplus v2 l2 (by omega) (by omega)
     refine gt (by rw [hw1, beq_iff_eq]; omega) (go (idx_q v1) (go v1 (go (f_turned hb hs) (go (by rw [hbl]; exact l1) (go a1 (go (idx_q v1) (go v1 (gend ?_))))))))
     rw [if_pos h0]
     exact Rk.set htb hlt (a2.mono (by omega))
    ·refine gf (by rw [hw1, beq_eq_false_iff_ne]; omega) (gend ?_)
     rw [if_neg h0]
     exact (htb.mono (by omega)).cast (by grind)
   rintro ⟨tc, uc⟩ ⟨c1, c2, v, v1, v2⟩
   refine gend ⟨hlt, tc, by simp only [w2], c1, fun j hj => ?_⟩
   rcases Decidable.em (j = i) with h | h
   ·subst h
    refine ⟨v, v1, v2.cast ?_⟩
    unfold reactB reactQ
    rw [← hqc, ← hqb, ← hqa]
   ·rw [c2 j (by omega)]
    exact hO j (by omega)
  ·have : i = b.supports.length := by omega
   subst this
   exact gf (decide_eq_false (by show ¬ ((b.supports.length : Nat) : Int) < ((b.supports.length : Nat) : Int); omega)) (gend ⟨hOl, hO⟩)
 ·rintro ⟨O, u⟩ h
  exact gend h
end Go.Proofs.YtcaopooflemnlaaGreat

/- Valid beams. -/
namespace Go.Proofs.YtcaopooflemnlaaGreat
set_option linter.unusedVariables false
set_option linter.unusedSimpArgs false

def badH1 (b : TBeam) : Bool := !nameB b.name || (decide (b.length < 1) || (decide (b.length > 1048576) || (decide (b.even < 0) || decide (b.even > 1048576))))
def badH2 (b : TBeam) : Bool := decide (((b.supports.length : Nat) : Int) < 1) || (decide (((b.supports.length : Nat) : Int) > 10) || decide (((b.loads.length : Nat) : Int) > 40))
def badS (b : TBeam) (i : Nat) : Bool := decide (sp b i < 0) || (decide (sp b i > b.length) || (decide (0 < i) && decide (sp b i ≤ sp b (i - 1))))
def badL (b : TBeam) (x : TLoad) : Bool := decide (x.at_ < 0) || (decide (x.at_ > b.length) || (decide (x.weight < 0) || decide (x.weight > 67108864)))
def validBm (b : TBeam) : Bool := !badH1 b && (!badH2 b && ((List.range b.supports.length).all (fun i => !badS b i) && b.loads.all (fun x => !badL b x)))
theorem bif_or (c d : Bool) : ((bif c then some (true, ()) else some (d, ())) : Option (Bool × Unit)) = some (c || d, ()) := by cases c <;> rfl
theorem all_of {n : Nat} {p : Nat → Bool} (h : ∀ j, j < n → p j = true) : (List.range n).all p = true := by
 rw [List.all_eq_true]
 intro j hj
 exact h j (List.mem_range.1 hj)
theorem all_not {n : Nat} {p : Nat → Bool} {k : Nat} (hk : k < n) (h : p k = false) : (List.range n).all p = false := by
 rw [List.all_eq_false]
 exact ⟨k, List.mem_range.2 hk, by rw [h]; simp⟩
theorem f_badload (b : TBeam) (x : TLoad) : F_beam_Valid_1 x b = some (badL b x) := by
 unfold F_beam_Valid_1 badL
 simp only [bif_or, Option.bind_some]
theorem bad_sup {b : TBeam} {k : Nat} (hk : k < b.supports.length) (hn : b.supports.length ≤ 1000000) (x : Int) (hx : x = sp b k) :
  ((bif (decide (x < 0)) then some (true, ()) else (bif (decide (x > b.length)) then some (true, ()) else (bif (decide ((k : Int) > 0)) then (idx b.supports (IntKind.i64.wrap ((k : Int) - 1))).bind fun x10 => some ((decide (x ≤ x10)), ()) else some (false, ()))) : Option (Bool × Unit))) = some (badS b k, ()) := by
 subst hx
 have h : ((bif (decide ((k : Int) > 0)) then (idx b.supports (IntKind.i64.wrap ((k : Int) - 1))).bind fun x10 => some ((decide (sp b k ≤ x10)), ()) else some (false, ())) : Option (Bool × Unit)) = some (decide (0 < k) && decide (sp b k ≤ sp b (k - 1)), ()) := by
  rcases Nat.eq_zero_or_pos k with h | h
  ·subst h; rfl
  ·rw [decide_eq_true (show (k : Int) > 0 by omega), decide_eq_true h, wrap64 (by omega) (by omega), show (k : Int) - 1 = ((k - 1 : Nat) : Int) from by omega, sp_idx (by omega)]
   rfl
 rw [h, bif_or, bif_or]
 rfl
theorem f_bvalid {b : TBeam} (hname : b.name.size ≤ 1000000) (hn : b.supports.length ≤ 1000000) (hl : b.loads.length ≤ 1000000) : F_beam_Valid b = some (validBm b) := by
 apply gs_eq
 unfold F_beam_Valid
 rw [f_name _ (by omega)]
 simp only [Option.bind_some, bif_or]
 have hh : (!nameB b.name || (decide (b.length < 1) || (decide (b.length > 1048576) || (decide (b.even < 0) || (decide (b.even > 1048576) || (decide (((b.supports.length : Nat) : Int) < 1) || (decide (((b.supports.length : Nat) : Int) > 10) || decide (((b.loads.length : Nat) : Int) > 40)))))))) = (badH1 b || badH2 b) := by
  unfold badH1 badH2
  simp only [Bool.or_assoc]
 rw [hh]
 cases h1 : (badH1 b || badH2 b) with
 | true =>
  refine gt rfl (gend ?_)
  unfold validBm
  rw [Bool.or_eq_true] at h1
  rcases h1 with h | h <;> simp [h]
 | false =>
  rw [Bool.or_eq_false_iff] at h1
  refine gf rfl ?_
  refine gloop (fun r : (Bool × Unit) ⊕ Unit => match r with
    | .inl y => y.1 = false ∧ (List.range b.supports.length).all (fun i => !badS b i) = false
    | .inr _ => (List.range b.supports.length).all (fun i => !badS b i) = true)
   (fun k s => s = ((k : Int), ()) ∧ ∀ j, j < k → (!badS b j) = true) b.supports.length (by unfold big; omega) ⟨rfl, fun j hj => absurd hj (Nat.not_lt_zero j)⟩ ?_ ?_
  ·rintro k s hk ⟨rfl, hj⟩
   rcases Nat.lt_or_ge k b.supports.length with hlt | hge
   ·refine gt (decide_eq_true (by show (k : Int) < ((b.supports.length : Nat) : Int); omega)) (go (sp_idx hlt) (go (bad_sup hlt hn _ rfl) ?_))
    cases hb : badS b k with
    | true => exact gt rfl (gend ⟨rfl, all_not hlt (by rw [hb]; rfl)⟩)
    | false =>
     refine gf rfl (gend ⟨hlt, by show (IntKind.i64.wrap ((k : Int) + 1), ()) = (((k + 1 : Nat) : Int), ()); rw [wrap64 (by omega) (by omega)]; rfl, fun j hj2 => ?_⟩)
     rcases Decidable.em (j = k) with h | h
     ·subst h; rw [hb]; rfl
     ·exact hj j (by omega)
   ·have : k = b.supports.length := by omega
    subst this
    exact gf (decide_eq_false (by show ¬ ((b.supports.length : Nat) : Int) < ((b.supports.length : Nat) : Int); omega)) (gend (all_of hj))
  ·rintro (y | y) hr
   ·obtain ⟨h2, h3⟩ := hr
    refine gend ?_
    unfold validBm
    rw [h3, h2]
    simp
   ·simp only at hr ⊢
    refine go (f_slices_ContainsFunc_api_Load b.loads (by omega) (fun z16 => F_beam_Valid_1 z16 b) (fun x => badL b x) (fun x _ => f_badload b x)) (gend ?_)
    unfold validBm
    rw [hr, h1.1, h1.2]
    simp only [Bool.not_false, Bool.true_and]
    rw [Bool.eq_iff_iff]
    simp
theorem valid_in {b : TBeam} (h : validBm b = true) : BeamIn b ∧ SupOk b := by
 unfold validBm at h
 rw [Bool.and_eq_true, Bool.and_eq_true, Bool.and_eq_true] at h
 obtain ⟨h1, h2, h3, h4⟩ := h
 unfold badH1 at h1
 unfold badH2 at h2
 simp only [Bool.not_eq_true', Bool.or_eq_false_iff, decide_eq_false_iff_not] at h1 h2
 obtain ⟨_, a1, a2, a3, a4⟩ := h1
 obtain ⟨b1, b2, b3⟩ := h2
 rw [List.all_eq_true] at h3 h4
 have hS : ∀ i, i < b.supports.length → 0 ≤ sp b i ∧ sp b i ≤ b.length ∧ (0 < i → sp b (i - 1) < sp b i) := by
  intro i hi
  have := h3 i (List.mem_range.2 hi)
  unfold badS at this
  simp only [Bool.not_eq_true', Bool.or_eq_false_iff, Bool.and_eq_false_iff, decide_eq_false_iff_not] at this
  omega
 refine ⟨⟨by omega, by omega, by omega, by omega, ?_, by omega⟩, ⟨by omega, by omega, ?_, ?_⟩⟩
 ·intro x hx
  have := h4 x hx
  unfold badL at this
  simp only [Bool.not_eq_true', Bool.or_eq_false_iff, decide_eq_false_iff_not] at this
  unfold LoadOk
  omega
 ·intro x hx
  obtain ⟨i, hi, rfl⟩ := List.getElem_of_mem hx
  have := hS i hi
  have e : sp b i = b.supports[i] := by unfold sp; rw [List.getD_eq_getElem?_getD, List.getElem?_eq_getElem hi]; rfl
  omega
 ·intro i hi
  have := (hS (i + 1) hi).2.2 (by omega)
  simpa [sp] using this
end Go.Proofs.YtcaopooflemnlaaGreat

/- The reference's numbers of many digits (base 2^24): trim, larger, digit, plus, minus. -/
namespace Go.Proofs.YtcaopooflemnlaaGreat
set_option linter.unusedVariables false
set_option linter.unusedSimpArgs false

theorem tight_snoc {d : List Int} {x : Int} (h : x ≠ 0) : tight (d ++ [x]) := by
 unfold tight; simpa using h
theorem dg_out {l : List Int} {k : Nat} (h : l.length ≤ k) : dg l k = 0 := by simp [dg, h]
theorem tight_take {l : List Int} {m : Nat} (h : m < l.length) (hx : dg l m ≠ 0) : tight (l.take (m + 1)) := by
 rw [take_snoc h]
 rw [dg_get h] at hx
 exact tight_snoc hx
theorem g_trim {neg : Bool} {l : List Int} (hd : dig (16777216 : Int) l) (hl : l.length ≤ 16500000) : ∃ r : TBig, F_ref08_trim ⟨neg, l⟩ = some r ∧ (bv (16777216 : Int) r.d = bv (16777216 : Int) l ∧ dig (16777216 : Int) r.d ∧ tight r.d ∧ r.d.length ≤ l.length ∧ (r.neg = true ↔ neg = true ∧ bv (16777216 : Int) l ≠ 0)) := by
 unfold F_ref08_trim
 refine iter_bind (Q := fun r : Int × Unit => ∃ m : Nat, r = ((m : Int), ()) ∧ m ≤ l.length ∧ bv (16777216 : Int) (l.take m) = bv (16777216 : Int) l ∧ tight (l.take m))
  (fun k s => ∃ m : Nat, s = ((m : Int), ()) ∧ m + k = l.length ∧ bv (16777216 : Int) (l.take m) = bv (16777216 : Int) l) l.length (by unfold big; omega) ?_ ⟨l.length, rfl, rfl, by rw [List.take_length]⟩ ?_
 ·rintro k s hk ⟨m, rfl, hm, hv⟩
  cases m with
  | zero =>
   have e0 : decide (((0 : Nat) : Int) > 0) = false := by decide
   refine .inr ⟨_, ?_, 0, rfl, Nat.zero_le _, hv, by simp [tight]⟩
   simp only [e0, cond_false, Option.bind_some]
  | succ m =>
   have e0 : decide (((m + 1 : Nat) : Int) > 0) = true := by simp
   have e1 : IntKind.i64.wrap (((m + 1 : Nat) : Int) - 1) = (m : Int) := by rw [wrap64 (by omega) (by omega)]; omega
   have hlt : m < l.length := by omega
   simp only [e0, cond_true, e1]
   rw [idx_nat hlt, ← dg_get hlt]
   simp only [Option.bind_some]
   rcases Decidable.em (dg l m = 0) with h | h
   ·have e2 : (dg l m == 0) = true := by rw [h]; rfl
    rw [e2, cond_true]
    refine .inl ⟨_, rfl, by omega, m, rfl, by omega, ?_⟩
    rw [bv_take_succ, h] at hv
    simpa using hv
   ·have e2 : (dg l m == 0) = false := by simpa using h
    rw [e2, cond_false]
    exact .inr ⟨_, rfl, m + 1, rfl, by omega, hv, tight_take hlt h⟩
 ·rintro _ ⟨m, rfl, hm, hv, ht⟩
  simp only [Int.toNat_natCast]
  rw [if_pos ⟨by omega, by omega, by omega⟩]
  have hd2 := dig_take hd m
  have hz := bv_zero (by decide) hd2 ht
  rw [hv] at hz
  have hd0 : List.drop (Int.toNat 0) (l.take m) = l.take m := rfl
  rw [hd0]
  rcases Decidable.em (m = 0) with h | h
  ·have e2 : ((m : Int) == 0) = true := by simp [h]
   rw [e2, cond_true]
   refine ⟨_, rfl, hv, hd2, ht, by simp; omega, ?_⟩
   have : bv (16777216 : Int) l = 0 := hz.2 (by rw [h]; rfl)
   simp [this]
  ·have e2 : ((m : Int) == 0) = false := by simp; omega
   rw [e2, cond_false]
   refine ⟨_, rfl, hv, hd2, ht, by simp; omega, ?_⟩
   have : bv (16777216 : Int) l ≠ 0 := fun e => by
    have hl2 : (l.take m).length = m := by simp; omega
    rw [hz.1 e] at hl2
    simp at hl2
    omega
   simp [this]
theorem g_digit (l : List Int) (k : Nat) : F_ref08_digit l (k : Int) = some (dg l k) := by
 unfold F_ref08_digit
 rcases Nat.lt_or_ge k l.length with h | h
 ·have e0 : decide ((k : Int) < ((l.length : Nat) : Int)) = true := by simp; omega
  rw [e0, cond_true, idx_nat h, dg_get h]; rfl
 ·have e0 : decide ((k : Int) < ((l.length : Nat) : Int)) = false := by simp; omega
  rw [e0, cond_false]
  have : dg l k = 0 := by simp [dg, h]
  rw [this]
theorem bv_take_all {l : List Int} {k : Nat} (h : l.length ≤ k) : bv (16777216 : Int) (l.take k) = bv (16777216 : Int) l := by rw [List.take_of_length_le h]
theorem h_plus (a b : List Int) (ha : dig (16777216 : Int) a) (hb : dig (16777216 : Int) b) (hta : tight a) (htb : tight b) (hla : a.length ≤ 16500000) (hlb : b.length ≤ 16500000) :
  ∃ r, F_ref08_plus a b = some r ∧ (bv (16777216 : Int) r = bv (16777216 : Int) a + bv (16777216 : Int) b ∧ dig (16777216 : Int) r ∧ tight r ∧ r.length ≤ max a.length b.length + 1) := by
 unfold F_ref08_plus
 obtain ⟨m, hm⟩ : ∃ m, max a.length b.length = m := ⟨_, rfl⟩
 rw [hm]
 refine iter_bind (Q := fun r : List Int × Unit => bv (16777216 : Int) r.1 = bv (16777216 : Int) a + bv (16777216 : Int) b ∧ dig (16777216 : Int) r.1 ∧ tight r.1 ∧ r.1.length ≤ m + 1)
  (fun k s => ∃ c out, s = (c, (k : Int), out, ()) ∧ out.length = k ∧ dig (16777216 : Int) out ∧ 0 ≤ c ∧ c ≤ 1 ∧ bv (16777216 : Int) out + (16777216 : Int) ^ k * c = bv (16777216 : Int) (a.take k) + bv (16777216 : Int) (b.take k) ∧ (m < k → c = 0) ∧ (m ≤ k → c = 0 → tight out)) (m + 1) (by unfold big; omega) ?_ ⟨0, [], rfl, rfl, (fun x hx => nomatch hx), by omega, by omega, by simp [bv], fun _ => rfl, fun _ _ => by simp [tight]⟩ ?_
 ·rintro k s hk ⟨c, out, rfl, hlo, hdo, hc0, hc1, hv, hcm, htm⟩
  simp only
  obtain ⟨t, ht1, ht2⟩ : ∃ t : Bool, ((bif (decide ((k : Int) < ((a.length : Nat) : Int))) then some (true, ()) else (bif (decide ((k : Int) < ((b.length : Nat) : Int))) then some (true, ()) else some ((decide (c > 0)), ()))) : Option (Bool × Unit)) = some (t, ()) ∧ (t = true ↔ k < m ∨ 0 < c) := by
   rcases Nat.lt_or_ge k a.length with h | h
   ·have e0 : decide ((k : Int) < ((a.length : Nat) : Int)) = true := by simp; omega
    rw [e0]; exact ⟨true, rfl, by simp; omega⟩
   ·have e0 : decide ((k : Int) < ((a.length : Nat) : Int)) = false := by simp; omega
    rw [e0, cond_false]
    rcases Nat.lt_or_ge k b.length with h2 | h2
    ·have e0 : decide ((k : Int) < ((b.length : Nat) : Int)) = true := by simp; omega
     rw [e0]; exact ⟨true, rfl, by simp; omega⟩
    ·have e0 : decide ((k : Int) < ((b.length : Nat) : Int)) = false := by simp; omega
     rw [e0, cond_false]
     exact ⟨_, rfl, by simp; omega⟩
  rw [ht1]
  simp only [Option.bind_some]
  rcases Bool.eq_false_or_eq_true t with h | h
  ·have hor := ht2.1 h
   subst h
   have hkm : k < m + 1 := by
    rcases hor with h | h
    ·omega
    ·rcases Nat.lt_or_ge m k with h2 | h2
     ·have := hcm h2; omega
     ·omega
   simp only [cond_true]
   rw [g_digit, g_digit]
   simp only [Option.bind_some]
   have hx := dg_range (by decide) ha k
   have hy := dg_range (by decide) hb k
   have h1 := bv_take_succ (16777216 : Int) a k
   have h2 := bv_take_succ (16777216 : Int) b k
   obtain ⟨x, hxe⟩ : ∃ x, dg a k = x := ⟨_, rfl⟩
   obtain ⟨y, hye⟩ : ∃ y, dg b k = y := ⟨_, rfl⟩
   rw [hxe] at hx h1 ⊢
   rw [hye] at hy h2 ⊢
   have w1 : IntKind.i64.wrap (IntKind.i64.wrap (x + y) + c) = x + y + c := by rw [wrap64 (n := x + y) (by omega) (by omega), wrap64 (by omega) (by omega)]
   rw [w1, if_pos (by simp; omega), Int.tmod_eq_emod_of_nonneg (by omega), Int.tdiv_eq_ediv_of_nonneg (by omega), wrap64 (n := (x + y + c) / 16777216) (by omega) (by omega), wrap64 (n := (k : Int) + 1) (by omega) (by omega)]
   refine .inl ⟨_, rfl, hkm, _, _, rfl, by simp [hlo], dig_snoc hdo (by omega) (by omega), by omega, by omega, ?_, ?_, ?_⟩
   ·rw [bv_append, hlo, h1, h2]
    simp only [bv, Int.mul_zero, Int.add_zero]
    have h3 : (16777216 : Int) ^ (k + 1) = (16777216 : Int) ^ k * (16777216 : Int) := Int.pow_succ _ _
    have h4 := Int.emod_add_mul_ediv (x + y + c) (16777216 : Int)
    rw [h3]
    generalize (x + y + c) % (16777216 : Int) = q at h4 ⊢
    generalize (x + y + c) / (16777216 : Int) = t at h4 ⊢
    generalize bv (16777216 : Int) (a.take k) = A at *
    generalize bv (16777216 : Int) (b.take k) = D at *
    grind
   ·intro hlt
    have hk2 : m = k := by omega
    have : x = 0 := by rw [← hxe]; exact dg_out (by omega)
    have : y = 0 := by rw [← hye]; exact dg_out (by omega)
    omega
   ·intro hle hz
    rcases Nat.lt_or_ge k m with h | h
    ·-- the last digit of the longer one
     have hk2 : m = k + 1 := by omega
     have hone : x ≠ 0 ∨ y ≠ 0 := by
      rcases Nat.lt_or_ge k a.length with h3 | h3
      ·left
       intro e
       have : a = a.take k ++ [a[k]] := by rw [← take_snoc h3, List.take_of_length_le (by omega)]
       apply hta
       rw [this, ← dg_get h3, hxe, e]; simp
      ·right
       intro e
       have h4 : k < b.length := by omega
       have : b = b.take k ++ [b[k]] := by rw [← take_snoc h4, List.take_of_length_le (by omega)]
       apply htb
       rw [this, ← dg_get h4, hye, e]; simp
     exact tight_snoc (by omega)
    ·have : x = 0 := by rw [← hxe]; exact dg_out (by omega)
     have : y = 0 := by rw [← hye]; exact dg_out (by omega)
     exact tight_snoc (by omega)
  ·have hor : ¬(k < m ∨ 0 < c) := by rw [← ht2, h]; simp
   subst h
   have hc : c = 0 := by omega
   refine .inr ⟨(out, ()), by simp only [cond_false], ?_, hdo, htm (by omega) hc, by show out.length ≤ _; omega⟩
   rw [hc, bv_take_all (by omega), bv_take_all (by omega)] at hv
   show bv (16777216 : Int) out = _
   rw [← hv]; simp
 ·rintro ⟨r, u⟩ ⟨q1, q2, q3, q4⟩
  exact ⟨r, rfl, q1, q2, q3, q4⟩
theorem h_minus (a b : List Int) (ha : dig (16777216 : Int) a) (hb : dig (16777216 : Int) b) (hla : a.length ≤ 16500000) (hle : b.length ≤ a.length) (hv0 : bv (16777216 : Int) b ≤ bv (16777216 : Int) a) :
  ∃ r, F_ref08_minus a b = some r ∧ (bv (16777216 : Int) r = bv (16777216 : Int) a - bv (16777216 : Int) b ∧ dig (16777216 : Int) r ∧ r.length = a.length) := by
 unfold F_ref08_minus
 refine iter_bind (Q := fun r : List Int × Unit => bv (16777216 : Int) r.1 = bv (16777216 : Int) a - bv (16777216 : Int) b ∧ dig (16777216 : Int) r.1 ∧ r.1.length = a.length)
  (fun k s => ∃ c out, s = (c, (k : Int), out, ()) ∧ k ≤ a.length ∧ out.length = k ∧ dig (16777216 : Int) out ∧ 0 ≤ c ∧ c ≤ 1 ∧ bv (16777216 : Int) out - (16777216 : Int) ^ k * c = bv (16777216 : Int) (a.take k) - bv (16777216 : Int) (b.take k)) a.length (by unfold big; omega) ?_ ⟨0, [], rfl, Nat.zero_le _, rfl, (fun x hx => nomatch hx), by omega, by omega, by simp [bv]⟩ ?_
 ·rintro k s hk ⟨c, out, rfl, _, hlo, hdo, hc0, hc1, hv⟩
  rcases Nat.lt_or_ge k a.length with hlt | hge
  ·have e0 : decide ((k : Int) < ((a.length : Nat) : Int)) = true := by simp; omega
   simp only [e0, cond_true]
   rw [idx_nat hlt, ← dg_get hlt, g_digit]
   simp only [Option.bind_some]
   have hx := dg_range (by decide) ha k
   have hy := dg_range (by decide) hb k
   have h1 := bv_take_succ (16777216 : Int) a k
   have h2 := bv_take_succ (16777216 : Int) b k
   obtain ⟨x, hxe⟩ : ∃ x, dg a k = x := ⟨_, rfl⟩
   obtain ⟨y, hye⟩ : ∃ y, dg b k = y := ⟨_, rfl⟩
   rw [hxe] at hx h1 ⊢
   rw [hye] at hy h2 ⊢
   have w1 : IntKind.i64.wrap (IntKind.i64.wrap (x - y) - c) = x - y - c := by rw [wrap64 (n := x - y) (by omega) (by omega), wrap64 (by omega) (by omega)]
   rw [w1]
   refine .inl (step_of hlt ?_)
   have hp : ∃ c' z, ((bif (decide (x - y - c < 0)) then some (1, (IntKind.i64.wrap (x - y - c + 16777216)), ()) else some (0, (x - y - c), ()) : Option (Int × Int × Unit))) = some (c', z, ()) ∧ 0 ≤ c' ∧ c' ≤ 1 ∧ 0 ≤ z ∧ z < 16777216 ∧ z - 16777216 * c' = x - y - c := by
    rcases Int.lt_or_le (x - y - c) 0 with h | h
    ·have e : decide (x - y - c < 0) = true := by simpa using h
     rw [e]
     exact ⟨1, x - y - c + 16777216, by rw [wrap64 (by omega) (by omega)]; rfl, by omega, by omega, by omega, by omega, by omega⟩
    ·have e : decide (x - y - c < 0) = false := by simpa using h
     rw [e]
     exact ⟨0, x - y - c, rfl, by omega, by omega, by omega, by omega, by omega⟩
   obtain ⟨c', z, p1, p2, p3, p4, p5, p6⟩ := hp
   rw [p1]
   simp only [Option.bind_some]
   rw [if_pos (by simp; omega), wrap64 (n := (k : Int) + 1) (by omega) (by omega)]
   refine ⟨_, rfl, _, rfl, c', _, rfl, hlt, by simp [hlo], dig_snoc hdo p4 p5, p2, p3, ?_⟩
   rw [bv_append, hlo, h1, h2]
   simp only [bv, Int.mul_zero, Int.add_zero]
   have h3 : (16777216 : Int) ^ (k + 1) = (16777216 : Int) ^ k * (16777216 : Int) := Int.pow_succ _ _
   rw [h3]
   generalize bv (16777216 : Int) (a.take k) = A at *
   generalize bv (16777216 : Int) (b.take k) = D at *
   grind
  ·have hk' : k = a.length := by omega
   subst hk'
   have e0 : decide (((a.length : Nat) : Int) < ((a.length : Nat) : Int)) = false := by simp
   refine .inr ⟨(out, ()), by simp only [e0, cond_false], ?_, hdo, hlo⟩
   rw [List.take_length, bv_take_all hle] at hv
   have hr := bv_range (by decide) hdo
   rw [hlo] at hr
   show bv (16777216 : Int) out = _
   have hc : c = 0 := by
    rcases Int.lt_or_le c 1 with h | h
    ·omega
    ·have : c = 1 := by omega
     rw [this, Int.mul_one] at hv
     omega
   rw [hc, Int.mul_zero, Int.sub_zero] at hv
   exact hv
 ·rintro ⟨r, u⟩ ⟨q1, q2, q3⟩
  exact ⟨r, rfl, q1, q2, q3⟩
end Go.Proofs.YtcaopooflemnlaaGreat

/- The reference's numbers of many digits: Int, Neg, Product, Sum, half, even. -/
namespace Go.Proofs.YtcaopooflemnlaaGreat
set_option linter.unusedVariables false
set_option linter.unusedSimpArgs false

structure Wg (l : List Int) (v : Nat) : Prop where
 dig : dig (16777216 : Int) l
 tight : tight l
 len : l.length ≤ 16000000
 val : bv (16777216 : Int) l = v
structure Nb (a : TBig) (v : Int) : Prop where
 w : Wg a.d v.natAbs
 neg : a.neg = true ↔ v < 0
 len : a.d.length ≤ 8000000
theorem Wg.zero {l : List Int} {v : Nat} (h : Wg l v) : l = [] ↔ v = 0 := by
 rw [← bv_zero (by decide) h.dig h.tight, h.val]; omega
theorem Wg.lt {l : List Int} {v : Nat} (h : Wg l v) : v < 2 ^ (24 * l.length) := by
 have h1 := (bv_range (by decide) h.dig).2
 rw [h.val] at h1
 have e : (16777216 : Int) ^ l.length = ((2 ^ (24 * l.length) : Nat) : Int) := by
  rw [Nat.pow_mul, Int.natCast_pow]; rfl
 rw [e] at h1
 exact_mod_cast h1
theorem Wg.le {a b : List Int} {u v : Nat} (ha : Wg a u) (hb : Wg b v) (h : u ≤ v) : a.length ≤ b.length := by
 rcases Nat.lt_or_ge b.length a.length with hl | hl
 ·have := bv_lt_len (by decide) hb.dig ha.dig ha.tight hl
  rw [ha.val, hb.val] at this
  omega
 ·exact hl
theorem Wg.add {a b : List Int} {u v : Nat} (ha : Wg a u) (hb : Wg b v) (hl : max a.length b.length + 1 ≤ 16000000) : ∃ r, F_ref08_plus a b = some r ∧ Wg r (u + v) ∧ r.length ≤ max a.length b.length + 1 := by
 obtain ⟨r, r1, r2, r3, r4, r5⟩ := h_plus a b ha.dig hb.dig ha.tight hb.tight (by have := ha.len; omega) (by have := hb.len; omega)
 exact ⟨r, r1, ⟨r3, r4, by omega, by rw [r2, ha.val, hb.val]; omega⟩, r5⟩
theorem Wg.sub {a b : List Int} {u v : Nat} (neg : Bool) (ha : Wg a u) (hb : Wg b v) (h : v ≤ u) : ∃ r t, F_ref08_minus a b = some r ∧ F_ref08_trim ⟨neg, r⟩ = some t ∧ Wg t.d (u - v) ∧ t.d.length ≤ a.length ∧ (t.neg = true ↔ neg = true ∧ u - v ≠ 0) := by
 obtain ⟨r, r1, r2, r3, r4⟩ := h_minus a b ha.dig hb.dig (by have := ha.len; omega) (hb.le ha h) (by rw [ha.val, hb.val]; omega)
 obtain ⟨t, t1, t2, t3, t4, t5, t6⟩ := g_trim (neg := neg) r3 (by rw [r4]; have := ha.len; omega)
 have hv : bv (16777216 : Int) r = ((u - v : Nat) : Int) := by rw [r2, ha.val, hb.val]; omega
 refine ⟨r, t, r1, t1, ⟨t3, t4, by have := ha.len; omega, by rw [t2, hv]⟩, by omega, ?_⟩
 rw [t6, hv]
 exact and_congr_right fun _ => by omega
end Go.Proofs.YtcaopooflemnlaaGreat

/- The reference's numbers of many digits: Gcd. -/
namespace Go.Proofs.YtcaopooflemnlaaGreat
set_option linter.unusedVariables false
set_option linter.unusedSimpArgs false

theorem Wg.ne {l : List Int} {v : Nat} (h : Wg l v) (hv : 0 < v) : 0 < l.length := by
 apply List.length_pos_iff.2
 intro e
 have := h.zero.1 e
 omega
end Go.Proofs.YtcaopooflemnlaaGreat

/- The reference's exact numbers: Quotient, Lower; Plus, Less, Times, Over, Sign, Cmp as rational numbers. -/
namespace Go.Proofs.YtcaopooflemnlaaGreat
set_option linter.unusedVariables false
set_option linter.unusedSimpArgs false

structure Gq (x : TExact) (q : Rat) (c : Nat) : Prop where
 ex : ∃ v w : Int, Nb x.n v ∧ Nb x.d w ∧ 0 < w ∧ q * (w : Rat) = (v : Rat)
 ln : x.n.d.length ≤ c
 ld : x.d.d.length ≤ c
theorem Gq.mono {x : TExact} {q : Rat} {c e : Nat} (h : Gq x q c) (hc : c ≤ e) : Gq x q e := ⟨h.ex, Nat.le_trans h.ln hc, Nat.le_trans h.ld hc⟩
theorem Gq.cast {x : TExact} {q r : Rat} {c : Nat} (h : Gq x q c) (e : q = r) : Gq x r c := e ▸ h
end Go.Proofs.YtcaopooflemnlaaGreat

/- The reference's beams as rational numbers: Turned, Left, Right, far. -/
namespace Go.Proofs.YtcaopooflemnlaaGreat
set_option linter.unusedVariables false
set_option linter.unusedSimpArgs false

theorem Gq.skip {x : TExact} {q : Rat} {c e : Nat} (h : Gq x q c) : Gq x (q + 0) (c + e) := (h.mono (Nat.le_add_right _ _)).cast (by grind)
end Go.Proofs.YtcaopooflemnlaaGreat

/- What the program and the reference tell of a beam's moments and reactions. -/
namespace Go.Proofs.YtcaopooflemnlaaGreat
set_option linter.unusedVariables false
set_option linter.unusedSimpArgs false

def tilt (b : TBeam) : Prop := b.supports.length = 1 ∧ fstQ b ≠ lstQ b
def reaL (b : TBeam) : List Rat := (List.range b.supports.length).map (reactB b)
structure SmallB (b : TBeam) : Prop where
 name : b.name.size ≤ 1000000
 sup : b.supports.length ≤ 1000000
 ld : b.loads.length ≤ 1000000
theorem list_of {α : Type} {R : α → Rat → Prop} {l : List α} {n : Nat} (f : Nat → Rat) (hl : l.length = n) (h : ∀ i, i < n → ∃ x, l[i]? = some x ∧ R x (f i)) : ∀ (i : Nat) (h1 : i < l.length) (h2 : i < ((List.range n).map f).length), R l[i] ((List.range n).map f)[i] := by
 intro i h1 h2
 obtain ⟨x, x1, x2⟩ := h i (by omega)
 rw [List.getElem?_eq_getElem h1] at x1
 injection x1 with x1
 rw [x1]
 simpa using x2
theorem f_given_ok {b : TBeam} (hw : SmallB b) (h : validBm b = true) (ht : ¬ tilt b) : Gs (F_beam_given b) fun r => r.2 = 0 ∧ r.1.length = b.supports.length ∧ ∀ i, i < b.supports.length → ∃ x, r.1[i]? = some x ∧ Xq x (momB b i) 82000 := by
 obtain ⟨hb, hs⟩ := valid_in h
 unfold F_beam_given
 refine go (f_bvalid hw.name hw.sup hw.ld) (gf (by rw [h]; rfl) (gcall (f_moments hb hs) fun r hr => ?_))
 have h2 : r.2 = true := hr.1.2 fun h1 => Classical.byContradiction fun h3 => ht ⟨h1, h3⟩
 refine gf (by rw [h2]; rfl) (gend ⟨rfl, hr.2 h2⟩)
theorem f_Reactions {b : TBeam} (hw : SmallB b) (h : validBm b = true) (ht : ¬ tilt b) : F_beam_Reactions b = some (outL (reaL b)) := by
 apply gs_eq
 obtain ⟨hb, hs⟩ := valid_in h
 have hn : b.supports.length ≤ 10 := hs.n10
 unfold F_beam_Reactions
 refine gcall (f_given_ok hw h ht) fun r hr => ?_
 obtain ⟨h1, h2, h3⟩ := hr
 refine gf (by rw [h1]; rfl) (gcall (f_reactions hb hs h3) fun t ht => ?_)
 refine go (f_fractions (qs := reaL b) (c := 330000) (by omega) (by rw [ht.1]; unfold reaL; simp) ?_) (gend rfl)
 exact list_of (R := fun x q => Xq x q 330000) (reactB b) ht.1 ht.2
end Go.Proofs.YtcaopooflemnlaaGreat

/- The beam of a valid set; the set seen from the other side. -/
namespace Go.Proofs.YtcaopooflemnlaaGreat
set_option linter.unusedVariables false
set_option linter.unusedSimpArgs false

def setBeam (s : TSet) : TBeam := ⟨s.name, s.length, s.lines, s.items.map (fun x => ⟨x.at_ + x.width / 2, x.weight⟩), s.pipe⟩
theorem set_sp {s : TSet} {i : Nat} (h : i < s.lines.length) : sp (setBeam s) i = s.lines[i] := by
 show s.lines.getD i 0 = _
 rw [List.getD_eq_getElem?_getD, List.getElem?_eq_getElem h]; rfl
theorem set_valid {s : TSet} (hg : Good s) : validBm (setBeam s) = true ∧ ¬ tilt (setBeam s) := by
 have a1 := hg.n0; have a2 := hg.n1; have a3 := hg.p0; have a4 := hg.p1; have a5 := hg.ln0; have a6 := hg.ln1; have a7 := hg.ni
 constructor
 ·unfold validBm
  rw [Bool.and_eq_true, Bool.and_eq_true, Bool.and_eq_true]
  refine ⟨?_, ?_, ?_, ?_⟩
  ·unfold badH1
   simp only [Bool.not_eq_true', Bool.or_eq_false_iff, decide_eq_false_iff_not, Bool.not_eq_false']
   refine ⟨hg.name, ?_, ?_, ?_, ?_⟩
   ·show ¬ s.length < 1; omega
   ·show ¬ s.length > 1048576; omega
   ·show ¬ s.pipe < 0; omega
   ·show ¬ s.pipe > 1048576; omega
  ·unfold badH2
   simp only [Bool.not_eq_true', Bool.or_eq_false_iff, decide_eq_false_iff_not]
   refine ⟨?_, ?_, ?_⟩
   ·show ¬ ((s.lines.length : Nat) : Int) < 1; omega
   ·show ¬ ((s.lines.length : Nat) : Int) > 10; omega
   ·show ¬ (((s.items.map _).length : Nat) : Int) > 40; rw [List.length_map]; omega
  ·apply all_of
   intro j hj
   have hj2 : j < s.lines.length := hj
   have h := hg.lat j hj2
   rw [lineAt_eq _ _ _ hj2, Bool.and_eq_true, between_iff, Bool.or_eq_true, decide_eq_true_iff, decide_eq_true_iff] at h
   have e1 := set_sp hj2
   have e2 := set_sp (s := s) (i := j - 1) (by omega)
   unfold badS
   simp only [Bool.not_eq_true', Bool.or_eq_false_iff, Bool.and_eq_false_iff, decide_eq_false_iff_not]
   rw [e1, e2]
   show ¬ s.lines[j] < 0 ∧ ¬ s.lines[j] > s.length ∧ _
   omega
  ·rw [List.all_eq_true]
   intro x hx
   obtain ⟨y, hy, rfl⟩ := List.mem_map.1 hx
   have h := hg.items y hy
   have b1 := h.p0; have b2 := h.w1; have b3 := h.pw; have b4 := h.m0; have b5 := h.m1
   unfold badL
   simp only [Bool.not_eq_true', Bool.or_eq_false_iff, decide_eq_false_iff_not]
   show ¬ y.at_ + y.width / 2 < 0 ∧ ¬ y.at_ + y.width / 2 > s.length ∧ ¬ y.weight < 0 ∧ ¬ y.weight > 67108864
   omega
 ·rintro ⟨h, _⟩
  have : s.lines.length = 1 := h
  omega
theorem set_small {s : TSet} (hn : s.name.size ≤ 1000000) (hg : Good s) : SmallB (setBeam s) := by
 have a6 := hg.ln1; have a7 := hg.ni
 exact ⟨hn, by show s.lines.length ≤ _; omega, by show (s.items.map _).length ≤ _; rw [List.length_map]; omega⟩
end Go.Proofs.YtcaopooflemnlaaGreat

/- The loads of the lines, by batten and by the reference of layer 21. -/
namespace Go.Proofs.YtcaopooflemnlaaGreat
set_option linter.unusedVariables false
set_option linter.unusedSimpArgs false

theorem mid_of {L : Int} {x : TItem} (h : GoodItem L x) (hL : L ≤ 1048576) : IntKind.i64.wrap (x.at_ + IntKind.i64.wrap (x.width.tdiv 2)) = x.at_ + x.width / 2 := by
 have b1 := h.p0; have b2 := h.w1; have b3 := h.pw
 rw [Int.tdiv_eq_ediv_of_nonneg (by omega), wrap64 (n := x.width / 2) (by omega) (by omega), wrap64 (by omega) (by omega)]
theorem t_beamOf {s : TSet} (hg : Good s) : F_batten_beamOf s = some (setBeam s) := by
 have a6 := hg.ln1; have a7 := hg.ni; have a2 := hg.n1
 apply gs_eq
 unfold F_batten_beamOf
 refine go (f_clone_int _ (by omega)) ?_
 refine gloop (fun r : TBeam × Unit => r.1 = setBeam s) (fun k t => k ≤ s.items.length ∧ t = ((k : Int), ⟨s.name, s.length, s.lines, (s.items.take k).map (fun x => ⟨x.at_ + x.width / 2, x.weight⟩), s.pipe⟩, ())) s.items.length (by unfold big; omega) ⟨Nat.zero_le _, rfl⟩ ?_ ?_
 ·rintro k t hk ⟨_, rfl⟩
  rcases Nat.lt_or_ge k s.items.length with hlt | hge
  ·have hm := mid_of (hg.items _ (List.getElem_mem hlt)) a2
   have hmid : F_batten_middle s.items[k] = some (s.items[k].at_ + s.items[k].width / 2) := by unfold F_batten_middle; rw [hm]
   refine gt (decide_eq_true (by show (k : Int) < ((s.items.length : Nat) : Int); omega)) (go (idx_at hlt) (go hmid (gif (by simp; omega) (gend ⟨hlt, hlt, ?_⟩))))
   rw [List.take_succ_eq_append_getElem hlt, List.map_append]
   show (IntKind.i64.wrap ((k : Int) + 1), _, ()) = _
   rw [wrap64 (by omega) (by omega)]
   rfl
  ·refine gf (decide_eq_false (by show ¬ (k : Int) < ((s.items.length : Nat) : Int); omega)) (gend ?_)
   show (⟨s.name, s.length, s.lines, (s.items.take k).map (fun x => ⟨x.at_ + x.width / 2, x.weight⟩), s.pipe⟩ : TBeam) = setBeam s
   rw [List.take_of_length_le hge]; rfl
 ·rintro ⟨t, u⟩ h
  exact gend h
structure Sm (s : TSet) : Prop where
 fits : Fits s
 name : s.name.size ≤ 1000000
theorem sm_of {s : TSet} {m : Int} (h : smallB s m = true) : Sm s := by
 refine ⟨small_fits h, ?_⟩
 simp only [smallB, smallH, Bool.and_eq_true, decide_eq_true_eq, List.all_eq_true] at h
 omega
def linesT (s : TSet) : List TFrac × Int := if validB s = true then outL (reaL (setBeam s)) else ([], 1)
theorem t_lines {s : TSet} (h : Sm s) : F_batten_Lines s = some (linesT s) := by
 apply gs_eq
 unfold F_batten_Lines linesT
 refine go (f_valid s h.fits) ?_
 cases hv : validB s with
 | false => exact gt rfl (gend rfl)
 | true =>
  have hg := Good.of hv
  obtain ⟨h1, h2⟩ := set_valid hg
  exact gf rfl (go (t_beamOf hg) (go (f_Reactions (set_small h.name hg) h1 h2) (gend rfl)))
theorem lq_len {s : TSet} : (reaL (setBeam s)).length = s.lines.length := by unfold reaL setBeam; simp
theorem lines_cases (s : TSet) : (validB s = false ∧ linesT s = ([], 1)) ∨ (validB s = true ∧ (∀ q ∈ reaL (setBeam s), fitQ q) ∧ linesT s = ((reaL (setBeam s)).map frQ, 0)) ∨ (validB s = true ∧ linesT s = ([], 5)) := by
 unfold linesT
 by_cases hv : validB s = true
 ·right
  rw [if_pos hv]
  by_cases hf : ∀ q ∈ reaL (setBeam s), fitQ q
  ·exact .inl ⟨hv, hf, outL_fit hf⟩
  ·exact .inr ⟨hv, outL_big hf⟩
 ·left
  rw [if_neg hv]
  exact ⟨by simpa using hv, rfl⟩
theorem fr_get {l : List Rat} {k : Nat} (h : k < l.length) : (l.map frQ)[k]? = some (frQ (l.getD k 0)) := by
 rw [List.getElem?_map, List.getD_eq_getElem?_getD, List.getElem?_eq_getElem h]; rfl
end Go.Proofs.YtcaopooflemnlaaGreat

/- Law 22: LiftlineTurned, LiftlineHeads, LiftlineHeaviest. -/
namespace Go.Proofs.YtcaopooflemnlaaGreat
set_option linter.unusedVariables false
set_option linter.unusedSimpArgs false

theorem map_set {α : Type} (f : α → α) (l : List α) {k : Nat} (h : k < l.length) : ((l.take k).map f ++ l.drop k).set k (f l[k]) = (l.take (k + 1)).map f ++ l.drop (k + 1) ∧ ((l.take k).map f ++ l.drop k)[k]? = some l[k] := by
 have hl : ((l.take k).map f).length = k := by rw [List.length_map, List.length_take]; omega
 constructor
 ·rw [List.drop_eq_getElem_cons h, List.set_append_right _ _ (by omega), hl, Nat.sub_self, List.set_cons_zero, List.take_succ_eq_append_getElem h, List.map_append, List.append_assoc]
  rfl
 ·rw [List.drop_eq_getElem_cons h, List.getElem?_append_right (by omega), hl, Nat.sub_self]; rfl
end Go.Proofs.YtcaopooflemnlaaGreat

/- A set without a line: valid; its loads; what both sides make of it. -/
namespace Go.Proofs.YtcaopooflemnlaaGreat
set_option linter.unusedVariables false
set_option linter.unusedSimpArgs false

def cutS (s : TSet) (k : Nat) : TSet := { s with lines := s.lines.take k ++ s.lines.drop (k + 1) }
theorem cut_len {α : Type} {l : List α} {k : Nat} (hk : k < l.length) : (l.take k ++ l.drop (k + 1)).length = l.length - 1 := by simp; omega
theorem cut_get {α : Type} {l : List α} {k : Nat} (hk : k < l.length) {i : Nat} (hi : i < (l.take k ++ l.drop (k + 1)).length) : (l.take k ++ l.drop (k + 1))[i] = if h : i < k then l[i] else l[i + 1]'(by rw [cut_len hk] at hi; omega) := by
 have hl := cut_len hk
 have ht : (l.take k).length = k := by simp; omega
 split
 ·rename_i h
  rw [List.getElem_append_left (by omega), List.getElem_take]
 ·rename_i h
  rw [List.getElem_append_right (by omega), List.getElem_drop]
  congr 1
  omega
theorem cut_valid {s : TSet} (hv : validB s = true) (h3 : 3 ≤ s.lines.length) {k : Nat} (hk : k < s.lines.length) : validB (cutS s k) = true := by
 unfold validB at hv ⊢
 rw [Bool.and_eq_true, Bool.and_eq_true, Bool.and_eq_true, Bool.and_eq_true] at hv ⊢
 obtain ⟨h1, h2, h4, h5, h6⟩ := hv
 refine ⟨h1, ?_, h4, h5, h6⟩
 rw [linesB_iff] at h2 ⊢
 obtain ⟨l1, l2, l3⟩ := h2
 have hL : (cutS s k).length = s.length := rfl
 have hln : (cutS s k).lines = s.lines.take k ++ s.lines.drop (k + 1) := rfl
 have hlen : (cutS s k).lines.length = s.lines.length - 1 := cut_len hk
 have hget : ∀ (i : Nat) (hi : i < (cutS s k).lines.length), (cutS s k).lines[i] = if h : i < k then s.lines[i] else s.lines[i + 1]'(by omega) := fun i hi => cut_get hk hi
 refine ⟨by omega, by omega, fun i hi => ?_⟩
 rw [hL, hget i hi]
 have up : ∀ (a b : Nat) (hb : b < s.lines.length) (hab : a < b), s.lines[a]'(by omega) < s.lines[b] := by
  intro a b hb hab
  obtain ⟨d, rfl⟩ : ∃ d, b = a + d + 1 := ⟨b - a - 1, by omega⟩
  induction d with
  | zero =>
   rcases (l3 (a + 0 + 1) hb).2.2 with h | h
   ·omega
   ·exact h
  | succ d ih =>
   have := ih (by omega) (by omega)
   rcases (l3 (a + (d + 1) + 1) hb).2.2 with h | h
   ·omega
   ·have e : s.lines[a + (d + 1) + 1 - 1]'(by omega) = s.lines[a + d + 1]'(by omega) := by congr 1
    rw [e] at h
    omega
 by_cases hik : i < k
 ·rw [dif_pos hik]
  obtain ⟨r1, r2, r3⟩ := l3 i (by omega)
  refine ⟨r1, r2, ?_⟩
  rcases Nat.eq_zero_or_pos i with h0 | h0
  ·exact .inl h0
  ·right
   rw [hget (i - 1) (by omega), dif_pos (by omega)]
   exact up (i - 1) i (by omega) (by omega)
 ·rw [dif_neg hik]
  obtain ⟨r1, r2, r3⟩ := l3 (i + 1) (by omega)
  refine ⟨r1, r2, ?_⟩
  rcases Nat.eq_zero_or_pos i with h0 | h0
  ·exact .inl h0
  ·right
   rw [hget (i - 1) (by omega)]
   split
   ·exact up (i - 1) (i + 1) (by omega) (by omega)
   ·exact up (i - 1 + 1) (i + 1) (by omega) (by omega)
theorem cut_sm {s : TSet} (h : Sm s) (k : Nat) : Sm (cutS s k) := by
 obtain ⟨⟨f1, f2, f3, f4, f5, f6⟩, n⟩ := h
 exact ⟨⟨f1, by show (s.lines.take k ++ s.lines.drop (k + 1)).length ≤ _; simp; omega, f3, f4, f5, f6⟩, n⟩
def Qc (s : TSet) (k : Nat) : List Rat := reaL (setBeam (cutS s k))
def Rs (s : TSet) : List Rat := reaL (setBeam s)
theorem Qc_len {s : TSet} {k : Nat} (hk : k < s.lines.length) : (Qc s k).length = s.lines.length - 1 := by
 unfold Qc
 rw [lq_len]
 exact cut_len hk
theorem Rs_len {s : TSet} : (Rs s).length = s.lines.length := lq_len
theorem w_cut {s : TSet} (h : Sm s) (h10 : s.lines.length ≤ 10) {k : Nat} (hk : k < s.lines.length) : F_failure_cut s (k : Int) = some (cutS s k) := by
 have w1 : IntKind.i64.wrap ((k : Int) + 1) = ((k + 1 : Nat) : Int) := by rw [wrap64 (by omega) (by omega)]; omega
 apply gs_eq
 unfold F_failure_cut
 refine go (f_clone_int _ h.fits.lines) (gif (by rw [w1]; omega) (go (f_clone_item _ h.fits.items) (go (f_clone_brick _ h.fits.bricks) (gend ?_))))
 rw [w1, Int.toNat_natCast, Int.toNat_natCast]
 rfl
theorem w_given (s : TSet) (h : Sm s) (h10 : s.lines.length ≤ 15) (line : Int) : F_failure_given s line = some (if validB s = true then (if line < 0 ∨ (s.lines.length : Int) ≤ line then 2 else if s.lines.length = 2 then 14 else 0) else 1) := by
 apply gs_eq
 unfold F_failure_given
 refine go (f_valid s h.fits) ?_
 cases hv : validB s with
 | false => exact gt rfl (gend rfl)
 | true =>
  refine gf rfl ?_
  simp only [if_true]
  by_cases h1 : line < 0
  ·exact gbt (decide_eq_true h1) (gs (gt rfl (gend (by rw [if_pos (.inl h1)]))))
  ·refine gbf (decide_eq_false h1) (gs ?_)
   by_cases h2 : (s.lines.length : Int) ≤ line
   ·exact gt (decide_eq_true h2) (gend (by rw [if_pos (.inr h2)]))
   ·refine gf (decide_eq_false h2) ?_
    rw [if_neg (by omega)]
    by_cases h3 : s.lines.length = 2
    ·rw [if_pos h3]; exact gt (by simp [h3]) (gend rfl)
    ·rw [if_neg h3]; exact gf (by simp; omega) (gend rfl)
def othL (s : TSet) (k : Nat) : List Rat := (Qc s k).take k ++ [0] ++ (Qc s k).drop k
theorem oth_len {s : TSet} {k : Nat} (hk : k < s.lines.length) : (othL s k).length = s.lines.length := by
 have := Qc_len hk
 unfold othL
 simp
 omega
theorem oth_get {s : TSet} {k : Nat} (hk : k < s.lines.length) (x : Nat) : (othL s k).getD x 0 = if x < k then (Qc s k).getD x 0 else if x = k then 0 else (Qc s k).getD (x - 1) 0 := by
 have hl := Qc_len hk
 have ht : ((Qc s k).take k).length = k := by simp; omega
 unfold othL
 rw [List.getD_eq_getElem?_getD, List.append_assoc]
 by_cases h1 : x < k
 ·rw [if_pos h1, List.getElem?_append_left (by omega), List.getElem?_take, if_pos h1, ← List.getD_eq_getElem?_getD]
 ·rw [if_neg h1, List.getElem?_append_right (by omega), ht]
  by_cases h2 : x = k
  ·rw [if_pos h2, h2, Nat.sub_self]; rfl
  ·rw [if_neg h2, List.getElem?_append_right (by simp; omega)]
   rw [List.getElem?_drop, List.getD_eq_getElem?_getD]
   congr 2
   simp
   omega
def fitAll (l : List Rat) : Prop := ∀ q ∈ l, fitQ q
theorem oth_fit {s : TSet} {k : Nat} (h : fitAll (Qc s k)) : fitAll (othL s k) := by
 intro q hq
 unfold othL at hq
 rcases List.mem_append.1 hq with hq | hq
 ·rcases List.mem_append.1 hq with hq | hq
  ·exact h q (List.mem_of_mem_take hq)
  ·simp at hq; subst hq; exact t_fit0
 ·exact h q (List.mem_of_mem_drop hq)
theorem w_lines {s : TSet} (h : Sm s) (hv : validB s = true) (h3 : 3 ≤ s.lines.length) {k : Nat} (hk : k < s.lines.length) : F_batten_Lines (cutS s k) = some (outL (Qc s k)) := by
 rw [t_lines (cut_sm h k)]
 unfold linesT
 rw [if_pos (cut_valid hv h3 hk)]
 rfl
theorem w_others {s : TSet} (h : Sm s) (hv : validB s = true) (h3 : 3 ≤ s.lines.length) (h10 : s.lines.length ≤ 10) {k : Nat} (hk : k < s.lines.length) :
  (fitAll (Qc s k) → F_failure_others s (k : Int) = some ((othL s k).map frQ, 0)) ∧ (¬ fitAll (Qc s k) → F_failure_others s (k : Int) = some ([], 5)) := by
 have hl := Qc_len hk
 constructor
 ·intro hf
  apply gs_eq
  unfold F_failure_others
  have hL := w_lines h hv h3 hk
  rw [outL_fit hf] at hL
  refine go (w_cut h h10 hk) (go hL (gf rfl (gif ?_ (gend ?_))))
  ·refine ⟨rfl, by omega, ?_, ?_⟩
   ·show (k : Int) ≤ ((((Qc s k).map frQ).length : Nat) : Int)
    rw [List.length_map]; omega
   ·show ((Qc s k).map frQ).length ≤ _
    rw [List.length_map]; omega
  ·rw [Int.toNat_natCast]
   unfold othL
   rw [List.map_append, List.map_append, ← List.map_take, ← List.map_drop]
   rfl
 ·intro hf
  apply gs_eq
  unfold F_failure_others
  have hL := w_lines h hv h3 hk
  rw [outL_big hf] at hL
  exact go (w_cut h h10 hk) (go hL (gt rfl (gend rfl)))
end Go.Proofs.YtcaopooflemnlaaGreat

/- The worst loads: by the program and by the reference. -/
namespace Go.Proofs.YtcaopooflemnlaaGreat
set_option linter.unusedVariables false
set_option linter.unusedSimpArgs false

theorem rg_get (f : Nat → Rat) {n x : Nat} (h : x < n) : ((List.range n).map f).getD x 0 = f x := by
 rw [List.getD_eq_getElem?_getD, List.getElem?_map, List.getElem?_range h]; rfl
theorem rg_of {l : List Rat} {n : Nat} (f : Nat → Rat) (hl : l.length = n) (h : ∀ x, x < n → l.getD x 0 = f x) : l = (List.range n).map f := by
 apply List.ext_getElem
 ·simp [hl]
 ·intro i h1 h2
  have := h i (by omega)
  rw [List.getD_eq_getElem?_getD, List.getElem?_eq_getElem h1] at this
  simpa using this
theorem set_get {l : List Rat} {k : Nat} (hk : k < l.length) (v : Rat) (x : Nat) : (l.set k v).getD x 0 = if x = k then v else l.getD x 0 := by
 rw [List.getD_eq_getElem?_getD, List.getElem?_set]
 by_cases h : x = k
 ·subst h; rw [if_pos rfl, if_pos rfl, if_pos hk]; rfl
 ·rw [if_neg (fun e => h e.symm), if_neg h, ← List.getD_eq_getElem?_getD]
theorem cmp_pos (a b : Rat) : decide ((if a < b then (-1 : Int) else if b < a then 1 else 0) > 0) = decide (b < a) := by
 apply decide_eq_decide.2
 by_cases h1 : a < b
 ·rw [if_pos h1]
  exact ⟨fun h => absurd h (by decide), fun h => by grind⟩
 ·rw [if_neg h1]
  by_cases h2 : b < a
  ·rw [if_pos h2]; exact ⟨fun _ => h2, fun _ => by decide⟩
  ·rw [if_neg h2]; exact ⟨fun h => absurd h (by decide), fun h => absurd h h2⟩
def updW (s : TSet) (k : Nat) (a : Nat → Rat) (x : Nat) : Rat := if x ≠ k ∧ a x < (othL s k).getD x 0 then (othL s k).getD x 0 else a x
def wst (s : TSet) : Nat → Nat → Rat
 | 0, x => (Rs s).getD x 0
 | k + 1, x => updW s k (wst s k) x
def wstL (s : TSet) (k : Nat) : List Rat := (List.range s.lines.length).map (wst s k)
theorem wst_len (s : TSet) (k : Nat) : (wstL s k).length = s.lines.length := by unfold wstL; simp
theorem wst_get (s : TSet) (k : Nat) {x : Nat} (h : x < s.lines.length) : (wstL s k).getD x 0 = wst s k x := rg_get _ h
theorem oth_fitx {s : TSet} {k x : Nat} (h : fitAll (Qc s k)) : fitQ ((othL s k).getD x 0) := by
 rw [List.getD_eq_getElem?_getD]
 cases hx : (othL s k)[x]? with
 | none => exact t_fit0
 | some q => exact oth_fit h q (List.mem_of_getElem? hx)
theorem wst_fit {s : TSet} (hR : fitAll (Rs s)) : ∀ (k : Nat), (∀ j, j < k → fitAll (Qc s j)) → ∀ x, fitQ (wst s k x)
 | 0, _, x => by
  unfold wst
  rw [List.getD_eq_getElem?_getD]
  cases hx : (Rs s)[x]? with
  | none => exact t_fit0
  | some q => exact hR q (List.mem_of_getElem? hx)
 | k + 1, h, x => by
  unfold wst updW
  split
  ·exact oth_fitx (h k (by omega))
  ·exact wst_fit hR k (fun j hj => h j (by omega)) x
theorem wst_start (s : TSet) : Rs s = wstL s 0 := by
 unfold wstL
 exact rg_of _ Rs_len fun x _ => rfl
open Classical in
noncomputable def worstT (s : TSet) : List TFrac × Int := if validB s = true then (if s.lines.length = 2 then ([], 14) else if fitAll (Rs s) ∧ ∀ k, k < s.lines.length → fitAll (Qc s k) then ((wstL s s.lines.length).map frQ, 0) else ([], 5)) else ([], 1)
theorem worst_ok {s : TSet} (hv : validB s = true) (h2 : s.lines.length ≠ 2) (h : fitAll (Rs s) ∧ ∀ k, k < s.lines.length → fitAll (Qc s k)) : worstT s = ((wstL s s.lines.length).map frQ, 0) := by
 unfold worstT; rw [if_pos hv, if_neg h2, if_pos h]
theorem worst_big {s : TSet} (hv : validB s = true) (h2 : s.lines.length ≠ 2) (h : ¬ (fitAll (Rs s) ∧ ∀ k, k < s.lines.length → fitAll (Qc s k))) : worstT s = ([], 5) := by
 unfold worstT; rw [if_pos hv, if_neg h2, if_neg h]
theorem fset (l : List Rat) (k : Nat) (q : Rat) : (l.map frQ).set k (frQ q) = (l.set k q).map frQ := by rw [List.map_set]
theorem w_worst {s : TSet} (h : Sm s) (h15 : s.lines.length ≤ 15) : F_failure_Worst s = some (worstT s) := by
 apply gs_eq
 unfold F_failure_Worst
 refine go (w_given s h h15 0) ?_
 cases hv : validB s with
 | false =>
  refine gt rfl (gend ?_)
  unfold worstT
  rw [hv]; rfl
 | true =>
  have hg := Good.of hv
  have n2 := hg.ln0; have n10 := hg.ln1
  rw [if_pos rfl, if_neg (by omega)]
  by_cases h2 : s.lines.length = 2
  ·rw [if_pos h2]
   refine gt rfl (gend ?_)
   unfold worstT
   rw [if_pos hv, if_pos h2]
  ·rw [if_neg h2]
   have h3 : 3 ≤ s.lines.length := by omega
   refine gf rfl (go (t_lines h) ?_)
   rcases lines_cases s with ⟨e, _⟩ | ⟨_, hR, e⟩ | ⟨_, e⟩
   ·rw [hv] at e; cases e
   ·rw [e]
    have hR : fitAll (Rs s) := hR
    refine gf rfl ?_
    refine gloop (fun r : (List TFrac × Int × List TFrac × Unit) ⊕ (List TFrac × Unit) => match r with
      | .inl y => ((y.1, y.2.1) : List TFrac × Int) = worstT s
      | .inr y => ((y.1, 0) : List TFrac × Int) = worstT s)
     (fun k t => k ≤ s.lines.length ∧ t = ((k : Int), (wstL s k).map frQ, ()) ∧ ∀ j, j < k → fitAll (Qc s j)) s.lines.length (by unfold big; omega) ⟨Nat.zero_le _, by rw [← wst_start]; rfl, fun j hj => by omega⟩ ?_ ?_
    ·rintro k t hk ⟨_, rfl, hall⟩
     rcases Nat.lt_or_ge k s.lines.length with hlt | hge
     ·obtain ⟨o1, o2⟩ := w_others h hv h3 n10 hlt
      refine gt (decide_eq_true (by show (k : Int) < ((s.lines.length : Nat) : Int); omega)) ?_
      by_cases hf : fitAll (Qc s k)
      ·refine go (o1 hf) (gf rfl ?_)
       have hol := oth_len hlt
       refine gloop (fun r : List TFrac × Unit => r = ((wstL s (k + 1)).map frQ, ()))
        (fun t y => t ≤ s.lines.length ∧ ∃ l : List Rat, y = ((t : Int), l.map frQ, ()) ∧ l.length = s.lines.length ∧ ∀ x, x < s.lines.length → l.getD x 0 = if x < t then wst s (k + 1) x else wst s k x) s.lines.length (by unfold big; omega)
        ⟨Nat.zero_le _, _, rfl, wst_len s k, fun x hx => by rw [if_neg (Nat.not_lt_zero x)]; exact wst_get s k hx⟩ ?_ ?_
       ·rintro t y ht ⟨_, l, rfl, hl, hx⟩
        rcases Nat.lt_or_ge t s.lines.length with htl | htg
        ·have e1 : l.getD t 0 = wst s k t := by rw [hx t htl, if_neg (Nat.lt_irrefl t)]
         have g1 := fr_get (l := othL s k) (k := t) (by omega)
         have g2 := fr_get (l := l) (k := t) (by omega)
         rw [e1] at g2
         have hcmp := t_cmp (oth_fitx (x := t) hf) (wst_fit hR k hall t)
         have w1 : IntKind.i64.wrap ((t : Int) + 1) = ((t + 1 : Nat) : Int) := by rw [wrap64 (by omega) (by omega)]; omega
         have hlast : ∀ v, v = wst s (k + 1) t → (∀ x, x < s.lines.length → (l.set t v).getD x 0 = if x < t + 1 then wst s (k + 1) x else wst s k x) := by
          intro v hv2 x hx2
          rw [set_get (by omega)]
          by_cases hxt : x = t
          ·subst hxt; rw [if_pos rfl, if_pos (by omega)]; exact hv2
          ·rw [if_neg hxt, hx x hx2]
           by_cases hh : x < t
           ·rw [if_pos hh, if_pos (by omega)]
           ·rw [if_neg hh, if_neg (by omega)]
         have hun : wst s (k + 1) t = updW s k (wst s k) t := rfl
         unfold updW at hun
         refine gt (decide_eq_true (by show (t : Int) < (((((othL s k).map frQ).length : Nat)) : Int); rw [List.length_map, hol]; omega)) (goo (idx_q g1) (goo (at_w rfl g1) (goo (idx_q g2) (goo (at_w rfl g2) (goo hcmp ?_)))))
         have keep : ¬ (t ≠ k ∧ wst s k t < (othL s k).getD t 0) → ∀ x, x < s.lines.length → l.getD x 0 = if x < t + 1 then wst s (k + 1) x else wst s k x := by
          intro hn x hx2
          rw [if_neg hn] at hun
          rw [hx x hx2]
          by_cases hxt : x = t
          ·subst hxt; rw [if_neg (Nat.lt_irrefl x), if_pos (by omega), hun]
          ·by_cases hh : x < t
           ·rw [if_pos hh, if_pos (by omega)]
           ·rw [if_neg hh, if_neg (by omega)]
         by_cases htk : t = k
         ·refine gbbf (by rw [htk]; simp) (gss (gbf rfl (gs (gend ⟨htl, htl, l, ?_, hl, keep (fun e => e.1 htk)⟩))))
          rw [w1]
         ·refine gbbt (by simp; omega) (gss ?_)
          by_cases hc : wst s k t < (othL s k).getD t 0
          ·refine gbt (by rw [cmp_pos]; exact decide_eq_true hc) (goo (idx_q g2) (goo (at_w rfl g2) (gs (gend ⟨htl, htl, l.set t ((othL s k).getD t 0), ?_, by simp [hl], hlast _ (by rw [hun, if_pos ⟨htk, hc⟩])⟩))))
           show (IntKind.i64.wrap ((t : Int) + 1), (l.map frQ).set (Int.toNat (t : Int)) (frQ ((othL s k).getD t 0)), ()) = _
           rw [w1, Int.toNat_natCast, fset]
          ·refine gbf (by rw [cmp_pos]; exact decide_eq_false hc) (gs (gend ⟨htl, htl, l, ?_, hl, keep (fun e => hc e.2)⟩))
           show (IntKind.i64.wrap ((t : Int) + 1), l.map frQ, ()) = _
           rw [w1]
        ·refine gf (decide_eq_false (by show ¬ (t : Int) < (((((othL s k).map frQ).length : Nat)) : Int); rw [List.length_map, hol]; omega)) (gend ?_)
         have : t = s.lines.length := by omega
         subst this
         rw [rg_of (l := l) (wst s (k + 1)) hl (fun x hx2 => by rw [hx x hx2, if_pos hx2])]
         rfl
       ·rintro r rfl
        refine gend ⟨hlt, hlt, ?_, fun j hj => ?_⟩
        ·show (IntKind.i64.wrap ((k : Int) + 1), _, ()) = _
         rw [wrap64 (by omega) (by omega)]; rfl
        ·rcases Nat.lt_or_ge j k with hjk | hjk
         ·exact hall j hjk
         ·have : j = k := by omega
          subst this; exact hf
      ·refine go (o2 hf) (gt rfl (gend ?_))
       show (([], 5) : List TFrac × Int) = _
       rw [worst_big hv h2 (fun e => hf (e.2 k hlt))]
     ·have : k = s.lines.length := by omega
      subst this
      refine gf (decide_eq_false (by show ¬ ((s.lines.length : Nat) : Int) < ((s.lines.length : Nat) : Int); omega)) (gend ?_)
      show (((wstL s s.lines.length).map frQ, 0) : List TFrac × Int) = _
      rw [worst_ok hv h2 ⟨hR, hall⟩]
    ·rintro (y | y) hy
     ·exact gend hy
     ·exact gend hy
   ·rw [e]
    refine gt rfl (gend ?_)
    have hnf : ¬ fitAll (Rs s) := by
     intro hf
     unfold linesT at e
     rw [if_pos hv, outL_fit (l := reaL (setBeam s)) hf] at e
     exact absurd (congrArg Prod.snd e) (by show ¬ ((0 : Int) = 5); decide)
    show (([], 5) : List TFrac × Int) = _
    rw [worst_big hv h2 (fun e => hnf e.1)]
end Go.Proofs.YtcaopooflemnlaaGreat

/- The worst loads by the reference; FailureWorst. -/
namespace Go.Proofs.YtcaopooflemnlaaGreat
set_option linter.unusedVariables false
set_option linter.unusedSimpArgs false

theorem awake24 : F_law24_awake = some true := by kernel_rfl
theorem w_long {s : TSet} : Gs (F_law24_long s) fun v => v = false → Sm s ∧ s.lines.length ≤ 15 ∧ s.items.length ≤ 45 ∧ (validB s = true → s.lines.length ≤ 5) := by
 have hfin : smallB s 8 = true → Sm s := sm_of
 unfold F_law24_long
 have hi : smallB s 8 = true → s.items.length ≤ 45 := fun hm => by
  simp only [smallB, smallH, Bool.and_eq_true, decide_eq_true_eq, List.all_eq_true] at hm
  omega
 by_cases h1 : ((s.lines.length : Nat) : Int) > 5
 ·refine gbt (decide_eq_true h1) ?_
  by_cases h2 : ((s.lines.length : Nat) : Int) ≤ 10
  ·exact gbt (decide_eq_true h2) (gs (gend fun e => by cases e))
  ·refine gbf (decide_eq_false h2) ?_
   by_cases h3 : ((s.lines.length : Nat) : Int) > 15
   ·exact gbt (decide_eq_true h3) (gs (gend fun e => by cases e))
   ·refine gbf (decide_eq_false h3) (goo (f_small s 8) (gs (gend fun e => ?_)))
    have hm : smallB s 8 = true := by simpa using e
    exact ⟨hfin hm, by omega, hi hm, fun hv => by have := (Good.of hv).ln1; omega⟩
 ·refine gbf (decide_eq_false h1) ?_
  refine gbf (decide_eq_false (by omega)) (goo (f_small s 8) (gs (gend fun e => ?_)))
  have hm : smallB s 8 = true := by simpa using e
  exact ⟨hfin hm, by omega, hi hm, fun _ => by omega⟩
end Go.Proofs.YtcaopooflemnlaaGreat

/- The loads after a shock: by the program and by the reference; FailureWithout. -/
namespace Go.Proofs.YtcaopooflemnlaaGreat
set_option linter.unusedVariables false
set_option linter.unusedSimpArgs false

def timesF (q : Rat) (l : List Rat) : List Rat := l.map (· * q)
open Classical in
noncomputable def shockL (l : List Rat) (q : Rat) : List TFrac × Int := if fitAll l ∧ fitAll (timesF q l) then ((timesF q l).map frQ, 0) else ([], 5)
theorem shockL_big {l : List Rat} {q : Rat} (h : ¬ (fitAll l ∧ fitAll (timesF q l))) : shockL l q = ([], 5) := if_neg h
theorem shockL_ok {l : List Rat} {q : Rat} (h : fitAll l ∧ fitAll (timesF q l)) : shockL l q = ((timesF q l).map frQ, 0) := if_pos h
theorem fr_one : (⟨1, 1⟩ : TFrac) = frQ (1 : Rat) := (fr_int 1).symm
theorem fr_hun : (⟨100, 1⟩ : TFrac) = frQ (100 : Rat) := (fr_int 100).symm
theorem fit_one : fitQ (1 : Rat) := t_fitint (n := 1) (by decide)
theorem fit_hun : fitQ (100 : Rat) := t_fitint (n := 100) (by decide)
theorem cmp_neg (a b : Rat) : decide ((if a < b then (-1 : Int) else if b < a then 1 else 0) < 0) = decide (a < b) := by
 apply decide_eq_decide.2
 by_cases h1 : a < b
 ·rw [if_pos h1]; exact ⟨fun _ => h1, fun _ => by decide⟩
 ·rw [if_neg h1]
  by_cases h2 : b < a
  ·rw [if_pos h2]; exact ⟨fun h => absurd h (by decide), fun h => absurd h h1⟩
  ·rw [if_neg h2]; exact ⟨fun h => absurd h (by decide), fun h => absurd h h1⟩
theorem w_mulP {l : List Rat} {q : Rat} (hl : l.length ≤ 1000) (hf : fitAll l) (hq : fitQ q) {γ : Type} {K : ((List TFrac × Int × List TFrac × Unit) ⊕ (List TFrac × Unit)) → Option γ} {P : γ → Prop} (hin : ∀ y : List TFrac × Int × List TFrac × Unit, ((y.1, y.2.1) : List TFrac × Int) = shockL l q → Gs (K (.inl y)) P) (hir : ∀ y : List TFrac × Unit, ((y.1, 0) : List TFrac × Int) = shockL l q → Gs (K (.inr y)) P) :
  Gs ((iterF (σ := Int × List TFrac × Unit) (ρ := (List TFrac × Int × List TFrac × Unit) ⊕ (List TFrac × Unit)) (fun s21 => (bif (decide (s21.1 < ((((l.map frQ).length : Nat)) : Int))) then (idx s21.2.1 s21.1).bind fun _x22 => (s21.2.1[(Int.toNat s21.1)]?).bind fun x23 => (F_ratio_Mul x23 (frQ q)).bind fun r24 => (idx s21.2.1 s21.1).bind fun _x25 => (s21.2.1[(Int.toNat s21.1)]?).bind fun x26 => (bif (r24.2 != 0) then some (.inr (.inl (([] : List TFrac), r24.2, (s21.2.1.set (Int.toNat s21.1) r24.1), ()))) else some (.inl ((IntKind.i64.wrap (s21.1 + 1)), (s21.2.1.set (Int.toNat s21.1) r24.1), ()))) else some (.inr (.inr ((s21.2.1, ())))))) big (0, l.map frQ, ())).bind K) P := by
 refine gloop (fun r : (List TFrac × Int × List TFrac × Unit) ⊕ (List TFrac × Unit) => match r with
   | .inl y => ((y.1, y.2.1) : List TFrac × Int) = shockL l q
   | .inr y => ((y.1, 0) : List TFrac × Int) = shockL l q)
  (fun k t => k ≤ l.length ∧ t = ((k : Int), (l.take k).map (fun x => frQ (x * q)) ++ (l.drop k).map frQ, ()) ∧ ∀ x ∈ l.take k, fitQ (x * q)) l.length (by unfold big; omega) ⟨Nat.zero_le _, rfl, fun x hx => by simp at hx⟩ ?_ ?_
 ·rintro k t hk ⟨_, rfl, hall⟩
  rcases Nat.lt_or_ge k l.length with hlt | hge
  ·have hlk : ((l.take k).map (fun x => frQ (x * q))).length = k := by simp; omega
   have hd : l.drop k = l[k] :: l.drop (k + 1) := List.drop_eq_getElem_cons hlt
   have g1 : ((l.take k).map (fun x => frQ (x * q)) ++ (l.drop k).map frQ)[k]? = some (frQ l[k]) := by
    rw [List.getElem?_append_right (by omega), hlk, Nat.sub_self, hd]; rfl
   have hmul := t_mul (hf _ (List.getElem_mem hlt)) hq
   have w1 : IntKind.i64.wrap ((k : Int) + 1) = ((k + 1 : Nat) : Int) := by rw [wrap64 (by omega) (by omega)]; omega
   refine gt (decide_eq_true (by show (k : Int) < (((((l.map frQ).length : Nat))) : Int); rw [List.length_map]; omega)) (go (idx_q g1) (go (at_w rfl g1) (go hmul (go (idx_q g1) (go (at_w rfl g1) ?_)))))
   by_cases hfit : fitQ (l[k] * q)
   ·rw [fr_fit hfit]
    refine gf rfl (gend ⟨hlt, hlt, ?_, fun x hx => ?_⟩)
    ·show (IntKind.i64.wrap ((k : Int) + 1), ((l.take k).map (fun x => frQ (x * q)) ++ (l.drop k).map frQ).set (Int.toNat (k : Int)) (frQ (l[k] * q)), ()) = _
     rw [w1, Int.toNat_natCast, hd, List.map_cons, List.set_append_right _ _ (by omega), hlk, Nat.sub_self, List.set_cons_zero, List.take_succ_eq_append_getElem hlt, List.map_append, List.append_assoc]
     rfl
    ·rw [List.take_succ_eq_append_getElem hlt] at hx
     rcases List.mem_append.1 hx with hx | hx
     ·exact hall x hx
     ·simp at hx; subst hx; exact hfit
   ·rw [fr_big hfit]
    refine gt rfl (gend ?_)
    show (([], 5) : List TFrac × Int) = _
    rw [shockL_big fun e => hfit (e.2 _ (List.mem_map.2 ⟨l[k], List.getElem_mem hlt, rfl⟩))]
  ·refine gf (decide_eq_false (by show ¬ (k : Int) < (((((l.map frQ).length : Nat))) : Int); rw [List.length_map]; omega)) (gend ?_)
   rw [List.take_of_length_le hge] at hall
   show (((l.take k).map (fun x => frQ (x * q)) ++ (l.drop k).map frQ, 0) : List TFrac × Int) = _
   rw [List.take_of_length_le hge, List.drop_of_length_le hge, shockL_ok ⟨hf, fun y hy => by
    obtain ⟨x, hx, rfl⟩ := List.mem_map.1 hy
    exact hall x hx⟩]
   unfold timesF
   simp
 ·rintro (y | y) hy
  ·exact hin y hy
  ·exact hir y hy
noncomputable def shockT (s : TSet) (line : Int) (q : Rat) : List TFrac × Int := if line < 0 ∨ (s.lines.length : Int) ≤ line ∨ q < 1 ∨ 100 < q then ([], 2) else if s.lines.length = 2 then ([], 14) else shockL (Qc s line.toNat) q
theorem w_shock {s : TSet} (h : Sm s) (h15 : s.lines.length ≤ 15) (hv : validB s = true) (line : Int) {q : Rat} (hq : fitQ q) : F_failure_Shock s line (frQ q) = some (shockT s line q) := by
 have hg := Good.of hv
 have n2 := hg.ln0; have n10 := hg.ln1
 have hgv := w_given s h h15 line
 rw [if_pos hv] at hgv
 apply gs_eq
 unfold F_failure_Shock shockT
 have hc1 := t_cmp hq fit_one
 have hc2 := t_cmp hq fit_hun
 rw [← fr_one] at hc1
 rw [← fr_hun] at hc2
 refine goo (f_valid s h.fits) ?_
 rw [hv]
 refine gbf rfl (goo (rv_true (fr_rv hq).1) (gs (gf rfl (go hc1 (go hc2 ?_)))))
 by_cases l1 : line < 0
 ·exact gbt (decide_eq_true l1) (gs (gt rfl (gend (by rw [if_pos (.inl l1)]))))
 refine gbf (decide_eq_false l1) ?_
 by_cases l2 : (s.lines.length : Int) ≤ line
 ·exact gbt (decide_eq_true l2) (gs (gt rfl (gend (by rw [if_pos (.inr (.inl l2))]))))
 refine gbf (decide_eq_false l2) ?_
 by_cases l3 : q < 1
 ·exact gbt (by rw [cmp_neg]; exact decide_eq_true l3) (gs (gt rfl (gend (by rw [if_pos (.inr (.inr (.inl l3)))]))))
 refine gbf (by rw [cmp_neg]; exact decide_eq_false l3) (gs ?_)
 by_cases l4 : 100 < q
 ·exact gt (by rw [cmp_pos]; exact decide_eq_true l4) (gend (by rw [if_pos (.inr (.inr (.inr l4)))]))
 refine gf (by rw [cmp_pos]; exact decide_eq_false l4) ?_
 rw [if_neg (by rintro (e | e | e | e) <;> contradiction)]
 rw [if_neg (by omega)] at hgv
 by_cases h2 : s.lines.length = 2
 ·rw [if_pos h2] at hgv ⊢
  exact go hgv (gt rfl (gend rfl))
 ·rw [if_neg h2] at hgv ⊢
  obtain ⟨k, rfl⟩ : ∃ k : Nat, line = (k : Int) := ⟨line.toNat, by omega⟩
  have hk : k < s.lines.length := by omega
  rw [Int.toNat_natCast]
  have hL := w_lines h hv (by omega) hk
  have hql := Qc_len hk
  refine go hgv (gf rfl (go (w_cut h n10 hk) (go hL ?_)))
  by_cases hf : fitAll (Qc s k)
  ·rw [outL_fit hf]
   exact gf rfl (w_mulP (by omega) hf hq (fun y hy => gend hy) (fun y hy => gend hy))
  ·rw [outL_big hf]
   exact gt rfl (gend (by rw [shockL_big fun e => hf e.1]))
end Go.Proofs.YtcaopooflemnlaaGreat

/- FailureSums: the other lines bear the whole set. -/
namespace Go.Proofs.YtcaopooflemnlaaGreat
set_option linter.unusedVariables false
set_option linter.unusedSimpArgs false

theorem w_right (s : TSet) : Gs (F_law24_right s) fun v => v = true → Sm s ∧ validB s = true ∧ s.lines.length ≤ 5 := by
 unfold F_law24_right
 refine gcalll w_long fun v hv => ?_
 cases v with
 | true => exact gbf rfl (gs (gend fun e => by cases e))
 | false =>
  obtain ⟨h, h15, _, h5⟩ := hv rfl
  refine gbt rfl (goo (f_rvalid s h.fits) (gs (gend fun e => ⟨h, e, h5 e⟩)))
theorem times_one (l : List Rat) : timesF 1 l = l := by
 unfold timesF
 have : (fun x : Rat => x * 1) = id := by funext x; exact Rat.mul_one x
 rw [this, List.map_id]
theorem shock_one {s : TSet} {k : Nat} (hk : k < s.lines.length) (h2 : s.lines.length ≠ 2) : (fitAll (Qc s k) → shockT s (k : Int) 1 = ((Qc s k).map frQ, 0)) ∧ (¬ fitAll (Qc s k) → shockT s (k : Int) 1 = ([], 5)) := by
 have hc : ¬ ((k : Int) < 0 ∨ (s.lines.length : Int) ≤ (k : Int) ∨ (1 : Rat) < 1 ∨ (100 : Rat) < 1) := by
  rintro (e | e | e | e)
  ·omega
  ·omega
  ·exact absurd e (by decide)
  ·exact absurd e (by decide)
 unfold shockT
 rw [if_neg hc, if_neg h2, Int.toNat_natCast]
 constructor
 ·intro hf
  rw [shockL_ok (by rw [times_one]; exact ⟨hf, hf⟩), times_one]
 ·intro hf
  exact shockL_big fun e => hf e.1
end Go.Proofs.YtcaopooflemnlaaGreat

/- FailureLeast: no worst load is less; each is reached. -/
namespace Go.Proofs.YtcaopooflemnlaaGreat
set_option linter.unusedVariables false
set_option linter.unusedSimpArgs false

theorem gmono {γ : Type} {X : Option γ} {P Q : γ → Prop} (h : Gs X P) (g : ∀ y, P y → Q y) : Gs X Q := by
 obtain ⟨y, h1, h2⟩ := h
 exact ⟨y, h1, g y h2⟩
theorem wst_step (s : TSet) (k x : Nat) : wst s k x ≤ wst s (k + 1) x := by
 show _ ≤ updW s k (wst s k) x
 unfold updW
 split
 ·rename_i h; grind
 ·exact Rat.le_refl
theorem wst_mono (s : TSet) (x : Nat) {a : Nat} : ∀ {b : Nat}, a ≤ b → wst s a x ≤ wst s b x
 | 0, h => by
  have : a = 0 := by omega
  subst this; exact Rat.le_refl
 | b + 1, h => by
  rcases Nat.lt_or_ge a (b + 1) with h1 | h1
  ·have := wst_mono s x (a := a) (b := b) (by omega)
   have := wst_step s b x
   grind
  ·have : a = b + 1 := by omega
   subst this; exact Rat.le_refl
theorem wst_oth (s : TSet) {k x n : Nat} (hk : k < n) (hx : x ≠ k) : (othL s k).getD x 0 ≤ wst s n x := by
 have h1 : (othL s k).getD x 0 ≤ wst s (k + 1) x := by
  show _ ≤ updW s k (wst s k) x
  unfold updW
  split
  ·exact Rat.le_refl
  ·rename_i h
   have : ¬ wst s k x < (othL s k).getD x 0 := fun e => h ⟨hx, e⟩
   grind
 have h2 := wst_mono s x (a := k + 1) (b := n) (by omega)
 grind
theorem wst_from (s : TSet) (x : Nat) : ∀ (k : Nat), wst s k x = (Rs s).getD x 0 ∨ ∃ j, j < k ∧ x ≠ j ∧ wst s k x = (othL s j).getD x 0
 | 0 => .inl rfl
 | k + 1 => by
  show updW s k (wst s k) x = _ ∨ ∃ j, j < k + 1 ∧ x ≠ j ∧ updW s k (wst s k) x = _
  unfold updW
  split
  ·rename_i h
   exact .inr ⟨k, by omega, h.1, rfl⟩
  ·rcases wst_from s x k with h | ⟨j, h1, h2, h3⟩
   ·exact .inl h
   ·exact .inr ⟨j, by omega, h2, h3⟩
def rch (s : TSet) : Nat → Nat → Bool
 | 0, x => decide ((Rs s).getD x 0 = wst s s.lines.length x)
 | k + 1, x => rch s k x || (decide (x ≠ k) && decide ((othL s k).getD x 0 = wst s s.lines.length x))
theorem rch_keep {s : TSet} {x : Nat} {a : Nat} : ∀ {b : Nat}, a ≤ b → rch s a x = true → rch s b x = true
 | 0, h, e => by
  have : a = 0 := by omega
  subst this; exact e
 | b + 1, h, e => by
  rcases Nat.lt_or_ge a (b + 1) with h1 | h1
  ·have := rch_keep (b := b) (by omega) e
   show (rch s b x || _) = true
   rw [this, Bool.true_or]
  ·have : a = b + 1 := by omega
   subst this; exact e
theorem rch_all (s : TSet) (x : Nat) : rch s s.lines.length x = true := by
 rcases wst_from s x s.lines.length with h | ⟨j, h1, h2, h3⟩
 ·exact rch_keep (Nat.zero_le _) (decide_eq_true h.symm)
 ·refine rch_keep (a := j + 1) (by omega) ?_
  show (rch s j x || (decide (x ≠ j) && decide _)) = true
  rw [decide_eq_true h2, decide_eq_true h3.symm, Bool.true_and, Bool.or_true]
theorem bl_get {l : List Bool} {k : Nat} (h : k < l.length) : l[k]? = some (l.getD k false) := by
 rw [List.getD_eq_getElem?_getD, List.getElem?_eq_getElem h]; rfl
theorem bl_set {l : List Bool} {k : Nat} (hk : k < l.length) (v : Bool) (x : Nat) : (l.set k v).getD x false = if x = k then v else l.getD x false := by
 rw [List.getD_eq_getElem?_getD, List.getElem?_set]
 by_cases h : x = k
 ·subst h; rw [if_pos rfl, if_pos rfl, if_pos hk]; rfl
 ·rw [if_neg (fun e => h e.symm), if_neg h, ← List.getD_eq_getElem?_getD]
theorem cmp_zero {a b : Rat} (h : a ≤ b) : ((if a < b then (-1 : Int) else if b < a then 1 else 0) == 0) = decide (a = b) ∧ decide ((if a < b then (-1 : Int) else if b < a then 1 else 0) ≤ 0) = true := by
 by_cases h1 : a < b
 ·rw [if_pos h1, decide_eq_false (by grind)]
  exact ⟨rfl, rfl⟩
 ·have e : a = b := by grind
  subst e
  rw [if_neg h1, if_neg h1, decide_eq_true rfl]
  exact ⟨rfl, rfl⟩
theorem look_one {L : List Bool} {X : Nat} (hX : X < L.length) {c : Int} {b : Bool} (hb : (c == 0) = b) : ((idx L (X : Int)).bind fun _x44 => (L[(Int.toNat (X : Int))]?).bind fun x45 => (bif x45 then (idx L (X : Int)).bind fun _x46 => (L[(Int.toNat (X : Int))]?).bind fun x47 => some ((L.set (Int.toNat (X : Int)) true), ()) else (idx L (X : Int)).bind fun _x48 => (L[(Int.toNat (X : Int))]?).bind fun x49 => some ((L.set (Int.toNat (X : Int)) (c == 0)), ())) : Option (List Bool × Unit)) = some (L.set X (L.getD X false || b), ()) := by
 have g := bl_get hX
 apply gs_eq
 refine go (idx_q g) (go (at_w rfl g) ?_)
 cases hv : L.getD X false with
 | true => exact gt rfl (go (idx_q g) (go (at_w rfl g) (gend (by rw [Int.toNat_natCast]; rfl))))
 | false => exact gf rfl (go (idx_q g) (go (at_w rfl g) (gend (by rw [Int.toNat_natCast, hb]; rfl))))
theorem w_containsB (l : List Bool) (hl : l.length ≤ 1000000) (h : ∀ x, x < l.length → l.getD x false = true) : F_slices_Contains_bool l false = some false := by
 apply gs_eq
 unfold F_slices_Contains_bool
 refine gcall (Q := fun r : Int => r < 0) ?_ fun r hr => gend (decide_eq_false (by omega))
 unfold F_slices_Index_bool
 refine gloop (fun r : (Int × Unit) ⊕ Unit => ∃ u, r = .inr u) (fun k t => k ≤ l.length ∧ t = ((k : Int), ())) l.length (by unfold big; omega) ⟨Nat.zero_le _, rfl⟩ ?_ ?_
 ·rintro k t hk ⟨_, rfl⟩
  rcases Nat.lt_or_ge k l.length with hlt | hge
  ·have g := bl_get hlt
   rw [h k hlt] at g
   refine gt (decide_eq_true (by show (k : Int) < ((l.length : Nat) : Int); omega)) (go (idx_q g) (gf rfl (gend ⟨hlt, hlt, ?_⟩)))
   show (IntKind.i64.wrap ((k : Int) + 1), ()) = _
   rw [wrap64 (by omega) (by omega)]; rfl
  ·exact gf (decide_eq_false (by show ¬ (k : Int) < ((l.length : Nat) : Int); omega)) (gend ⟨_, rfl⟩)
 ·rintro r ⟨u, rfl⟩
  exact gend (by decide)
theorem main_FailureLeast (x0 : TSet) (w0 : W_Set x0) : F_law24_FailureLeast x0 = some true := by
 apply gs_eq
 unfold F_law24_FailureLeast
 refine go awake24 (gf rfl (gcalll (w_right x0) fun v hv => ?_))
 cases v with
 | false => exact gbt rfl (gs (gt rfl (gend rfl)))
 | true =>
  obtain ⟨h, hvd, h5⟩ := hv rfl
  have hg := Good.of hvd
  have n2 := hg.ln0; have n10 := hg.ln1
  refine gbf rfl (gs ?_)
  by_cases h2 : x0.lines.length = 2
  ·exact gt (by simp [h2]) (gend rfl)
  refine gf (by simp; omega) (go (w_worst h (by omega)) ?_)
  by_cases hall : fitAll (Rs x0) ∧ ∀ k, k < x0.lines.length → fitAll (Qc x0 k)
  rotate_left
  ·rw [worst_big hvd h2 hall]
   exact gt rfl (gbt rfl (gs (gend rfl)))
  rw [worst_ok hvd h2 hall]
  obtain ⟨hR, hQ⟩ := hall
  have hLn := t_lines h
  rcases lines_cases x0 with ⟨e, _⟩ | ⟨_, _, e⟩ | ⟨_, e⟩
  ·rw [hvd] at e; cases e
  rotate_left
  ·exfalso
   unfold linesT at e
   rw [if_pos hvd, outL_fit (l := reaL (setBeam x0)) hR] at e
   exact absurd (congrArg Prod.snd e) (by show ¬ ((0 : Int) = 5); decide)
  rw [e] at hLn
  have hwl := wst_len x0 x0.lines.length
  have hrl := Rs_len (s := x0)
  have hlm : (((wstL x0 x0.lines.length).map frQ).length : Nat) = x0.lines.length := by rw [List.length_map, hwl]
  have hlr : (((Rs x0).map frQ).length : Nat) = x0.lines.length := by rw [List.length_map, hrl]
  have hWfit := wst_fit hR x0.lines.length hQ
  refine gf rfl (go hLn (gbf rfl (gbf ?_ (gs (gf ?_ (gif ?_ ?_))))))
  ·show (((((wstL x0 x0.lines.length).map frQ).length : Nat) : Int) != ((x0.lines.length : Nat) : Int)) = false
   rw [hlm]; simp
  ·show (((((Rs x0).map frQ).length : Nat) : Int) != ((((wstL x0 x0.lines.length).map frQ).length : Nat) : Int)) = false
   rw [hlm, hlr]; simp
  ·show (0 : Int) ≤ ((((wstL x0 x0.lines.length).map frQ).length : Nat) : Int) ∧ ((((wstL x0 x0.lines.length).map frQ).length : Nat) : Int) ≤ 16777216
   rw [hlm]; omega
  refine gloop (fun r : (Bool × List Bool × Unit) ⊕ (List Bool × Unit) => ∃ L : List Bool, r = .inr (L, ()) ∧ L.length = x0.lines.length ∧ ∀ x, x < x0.lines.length → L.getD x false = rch x0 0 x)
   (fun t y => t ≤ x0.lines.length ∧ ∃ L : List Bool, y = ((t : Int), L, ()) ∧ L.length = x0.lines.length ∧ ∀ x, x < x0.lines.length → L.getD x false = (decide (x < t) && rch x0 0 x)) x0.lines.length (by unfold big; omega) ⟨Nat.zero_le _, _, rfl, ?_, ?_⟩ ?_ ?_
  ·show (List.replicate (Int.toNat ((((wstL x0 x0.lines.length).map frQ).length : Nat) : Int)) false).length = _
   rw [List.length_replicate, Int.toNat_natCast, hlm]
  ·intro x hx
   show (List.replicate (Int.toNat ((((wstL x0 x0.lines.length).map frQ).length : Nat) : Int)) false).getD x false = _
   rw [Int.toNat_natCast, hlm, List.getD_eq_getElem?_getD, List.getElem?_replicate, if_pos hx, decide_eq_false (Nat.not_lt_zero x)]
   rfl
  ·rintro t y ht ⟨_, L, rfl, hl, hx⟩
   rcases Nat.lt_or_ge t x0.lines.length with htl | htg
   ·have g1 : ((reaL (setBeam x0)).map frQ)[t]? = some (frQ ((Rs x0).getD t 0)) := fr_get (l := Rs x0) (k := t) (by omega)
    have g2 := fr_get (l := wstL x0 x0.lines.length) (k := t) (by omega)
    rw [wst_get x0 _ htl] at g2
    have hle : (Rs x0).getD t 0 ≤ wst x0 x0.lines.length t := wst_mono x0 t (Nat.zero_le _)
    obtain ⟨c1, c2⟩ := cmp_zero hle
    have hcmp := t_rcmp (wst_fit hR 0 (fun j hj => by omega) t) (hWfit t)
    have w1 : IntKind.i64.wrap ((t : Int) + 1) = ((t + 1 : Nat) : Int) := by rw [wrap64 (by omega) (by omega)]; omega
    refine gt (decide_eq_true (by show (t : Int) < ((((Rs x0).map frQ).length : Nat) : Int); rw [hlr]; omega)) (go (idx_q g1) (go (at_w rfl g1) (go (idx_q g2) (go (at_w rfl g2) (go hcmp ?_)))))
    refine go (look_one (L := L) (X := t) (by omega) c1) (gf ?_ (gend ⟨htl, htl, L.set t (L.getD t false || decide ((Rs x0).getD t 0 = wst x0 x0.lines.length t)), ?_, by simp [hl], fun x hx2 => ?_⟩))
    ·show (!(decide ((if (Rs x0).getD t 0 < wst x0 x0.lines.length t then (-1 : Int) else if wst x0 x0.lines.length t < (Rs x0).getD t 0 then 1 else 0) ≤ 0))) = false
     rw [c2]; rfl
    ·show (IntKind.i64.wrap ((t : Int) + 1), _, ()) = _
     rw [w1]
    ·rw [bl_set (by omega)]
     by_cases hxt : x = t
     ·subst hxt
      rw [if_pos rfl, hx x hx2, decide_eq_false (Nat.lt_irrefl x), decide_eq_true (by omega : x < x + 1), Bool.false_and, Bool.false_or, Bool.true_and]
      rfl
     ·rw [if_neg hxt, hx x hx2]
      congr 1
      apply decide_eq_decide.2
      omega
   ·refine gf (decide_eq_false (by show ¬ (t : Int) < ((((Rs x0).map frQ).length : Nat) : Int); rw [hlr]; omega)) (gend ⟨L, rfl, hl, fun x hx2 => ?_⟩)
    rw [hx x hx2, decide_eq_true (by omega), Bool.true_and]
  rintro r ⟨L0, rfl, hl0, hx0⟩
  refine gloop (fun r : (Bool × List Bool × Unit) ⊕ (List Bool × Unit) => ∃ L : List Bool, r = .inr (L, ()) ∧ L.length = x0.lines.length ∧ ∀ x, x < x0.lines.length → L.getD x false = rch x0 x0.lines.length x)
   (fun k y => k ≤ x0.lines.length ∧ ∃ L : List Bool, y = ((k : Int), L, ()) ∧ L.length = x0.lines.length ∧ ∀ x, x < x0.lines.length → L.getD x false = rch x0 k x) x0.lines.length (by unfold big; omega) ⟨Nat.zero_le _, L0, rfl, hl0, hx0⟩ ?_ ?_
  ·rintro k y hk ⟨_, L, rfl, hl, hx⟩
   rcases Nat.lt_or_ge k x0.lines.length with hkl | hkg
   ·have hf := hQ k hkl
    have hql := Qc_len hkl
    have hsh := w_shock h (by omega) hvd (k : Int) fit_one
    rw [← fr_one, (shock_one hkl h2).1 hf] at hsh
    have wk : IntKind.i64.wrap ((k : Int) + 1) = ((k + 1 : Nat) : Int) := by rw [wrap64 (by omega) (by omega)]; omega
    refine gt (decide_eq_true (by show (k : Int) < ((x0.lines.length : Nat) : Int); omega)) (go rfl (go hsh (gbf rfl (gs (gf ?_ ?_)))))
    ·show (((((Qc x0 k).map frQ).length : Nat) : Int) != IntKind.i64.wrap (((((wstL x0 x0.lines.length).map frQ).length : Nat) : Int) - 1)) = false
     rw [List.length_map, hql, hlm, wrap64 (by omega) (by omega)]
     simp; omega
    refine gloop (fun r : (Bool × List Bool × Unit) ⊕ (List Bool × Unit) => ∃ L : List Bool, r = .inr (L, ()) ∧ L.length = x0.lines.length ∧ ∀ x, x < x0.lines.length → L.getD x false = rch x0 (k + 1) x)
     (fun t y => t ≤ x0.lines.length - 1 ∧ ∃ L : List Bool, y = ((t : Int), L, ()) ∧ L.length = x0.lines.length ∧ ∀ x, x < x0.lines.length → L.getD x false = if x < (if k < t then t + 1 else t) then rch x0 (k + 1) x else rch x0 k x) (x0.lines.length - 1) (by unfold big; omega)
     ⟨Nat.zero_le _, L, rfl, hl, fun x hx2 => by rw [if_neg (Nat.not_lt_zero k), if_neg (Nat.not_lt_zero x)]; exact hx x hx2⟩ ?_ ?_
    ·rintro t y ht ⟨_, M, rfl, hm, hx3⟩
     have hself : rch x0 (k + 1) k = rch x0 k k := by
      show (rch x0 k k || (decide (k ≠ k) && _)) = _
      simp
     rcases Nat.lt_or_ge t (x0.lines.length - 1) with htl | htg
     ·obtain ⟨X, hX⟩ : ∃ X : Nat, X = if k ≤ t then t + 1 else t := ⟨_, rfl⟩
      have hXn : X < x0.lines.length := by rw [hX]; split <;> omega
      have hXk : X ≠ k := by rw [hX]; split <;> omega
      have hoX : (othL x0 k).getD X 0 = (Qc x0 k).getD t 0 := by
       rw [oth_get hkl, hX]
       by_cases hkt : k ≤ t
       ·rw [if_pos hkt, if_neg (by omega), if_neg (by omega)]; rfl
       ·rw [if_neg hkt, if_pos (by omega)]
      have e1 : M.getD X false = rch x0 k X := by
       rw [hx3 X hXn, if_neg]
       rw [hX]
       split <;> split <;> omega
      have g1 := fr_get (l := Qc x0 k) (k := t) (by omega)
      rw [← hoX] at g1
      have g2 := fr_get (l := wstL x0 x0.lines.length) (k := X) (by omega)
      rw [wst_get x0 _ hXn] at g2
      have hle : (othL x0 k).getD X 0 ≤ wst x0 x0.lines.length X := wst_oth x0 hkl hXk
      obtain ⟨c1, c2⟩ := cmp_zero hle
      have hcmp := t_rcmp (oth_fitx (x := X) hf) (hWfit X)
      have w1 : IntKind.i64.wrap ((t : Int) + 1) = ((t + 1 : Nat) : Int) := by rw [wrap64 (by omega) (by omega)]; omega
      have hun : rch x0 (k + 1) X = (rch x0 k X || decide ((othL x0 k).getD X 0 = wst x0 x0.lines.length X)) := by
       show (rch x0 k X || (decide (X ≠ k) && decide _)) = _
       rw [decide_eq_true hXk, Bool.true_and]
      refine gt (decide_eq_true (by show (t : Int) < ((((Qc x0 k).map frQ).length : Nat) : Int); rw [List.length_map, hql]; omega)) (go (idx_q g1) (go (at_w rfl g1) ?_))
      have hfin : ∀ y : Int, y = (X : Int) → Gs ((idx ((wstL x0 x0.lines.length).map frQ) y).bind fun _x125 => (((wstL x0 x0.lines.length).map frQ)[(Int.toNat y)]?).bind fun x126 => (F_ref02_Cmp (frQ ((othL x0 k).getD X 0)) x126).bind fun r127 => ((idx M y).bind fun _x128 => (M[(Int.toNat y)]?).bind fun x129 => (bif x129 then (idx M y).bind fun _x130 => (M[(Int.toNat y)]?).bind fun x131 => some ((M.set (Int.toNat y) true), ()) else (idx M y).bind fun _x132 => (M[(Int.toNat y)]?).bind fun x133 => some ((M.set (Int.toNat y) (r127 == 0)), ())) : Option (List Bool × Unit)).bind fun y134 => (bif (!(decide (r127 ≤ 0))) then some (.inr (.inl (false, y134.1, ()))) else some (.inl ((IntKind.i64.wrap ((t : Int) + 1)), y134.1, ())) : Option ((Int × List Bool × Unit) ⊕ ((Bool × List Bool × Unit) ⊕ (List Bool × Unit)))))
        fun z => match z with
         | .inl s' => t < x0.lines.length - 1 ∧ (t + 1 ≤ x0.lines.length - 1 ∧ ∃ L : List Bool, s' = (((t + 1 : Nat) : Int), L, ()) ∧ L.length = x0.lines.length ∧ ∀ x, x < x0.lines.length → L.getD x false = if x < (if k < t + 1 then t + 1 + 1 else t + 1) then rch x0 (k + 1) x else rch x0 k x)
         | .inr r => ∃ L : List Bool, r = .inr (L, ()) ∧ L.length = x0.lines.length ∧ ∀ x, x < x0.lines.length → L.getD x false = rch x0 (k + 1) x := by
       rintro y rfl
       refine go (idx_q g2) (go (at_w rfl g2) (go hcmp (go (look_one (by omega) c1) (gf ?_ (gend ⟨htl, htl, M.set X (M.getD X false || decide ((othL x0 k).getD X 0 = wst x0 x0.lines.length X)), ?_, by simp [hm], fun x hx2 => ?_⟩)))))
       ·show (!(decide ((if (othL x0 k).getD X 0 < wst x0 x0.lines.length X then (-1 : Int) else if wst x0 x0.lines.length X < (othL x0 k).getD X 0 then 1 else 0) ≤ 0))) = false
        rw [c2]; rfl
       ·show (IntKind.i64.wrap ((t : Int) + 1), _, ()) = _
        rw [w1]
       ·rw [bl_set (by omega)]
        by_cases hxX : x = X
        ·subst hxX
         rw [if_pos rfl, e1, ← hun, if_pos]
         rw [hX]
         split <;> split <;> omega
        ·rw [if_neg hxX, hx3 x hx2]
         by_cases hxk : x = k
         ·subst hxk
          rw [hself]
          simp only [ite_self]
         ·by_cases hin : x < (if k < t then t + 1 else t)
          ·rw [if_pos hin, if_pos]
           split at hin <;> split <;> omega
          ·rw [if_neg hin, if_neg]
           split at hX <;> split at hin <;> split <;> omega
      by_cases hkt : k ≤ t
      ·rw [if_pos hkt] at hX
       exact gbt (decide_eq_true (by show (t : Int) ≥ (k : Int); omega)) (gs (gmono (hfin _ (by show IntKind.i64.wrap ((t : Int) + 1) = _; rw [w1, hX])) fun z hz => by cases z <;> exact hz))
      ·rw [if_neg hkt] at hX
       exact gbf (decide_eq_false (by show ¬ (t : Int) ≥ (k : Int); omega)) (gs (gmono (hfin (t : Int) (by rw [hX])) fun z hz => by cases z <;> exact hz))
     ·refine gf (decide_eq_false (by show ¬ (t : Int) < ((((Qc x0 k).map frQ).length : Nat) : Int); rw [List.length_map, hql]; omega)) (gend ⟨M, rfl, hm, fun x hx2 => ?_⟩)
      have : t = x0.lines.length - 1 := by omega
      subst this
      rw [hx3 x hx2]
      by_cases hk2 : k < x0.lines.length - 1
      ·rw [if_pos hk2, if_pos (by omega)]
      ·rw [if_neg hk2]
       by_cases hxn : x < x0.lines.length - 1
       ·rw [if_pos hxn]
       ·rw [if_neg hxn]
        have : x = k := by omega
        subst this
        exact hself.symm
    ·rintro r ⟨M, rfl, hm, hx3⟩
     refine gend ⟨hkl, hkl, M, ?_, hm, hx3⟩
     show (IntKind.i64.wrap ((k : Int) + 1), M, ()) = _
     rw [wk]
   ·have : k = x0.lines.length := by omega
    subst this
    exact gf (decide_eq_false (by show ¬ ((x0.lines.length : Nat) : Int) < ((x0.lines.length : Nat) : Int); omega)) (gend ⟨L, rfl, hl, hx⟩)
  rintro r ⟨L, rfl, hl, hx⟩
  refine go (w_containsB L (by omega) (fun x hx2 => by rw [hx x (by omega)]; exact rch_all x0 x)) (gend rfl)
end Go.Proofs.YtcaopooflemnlaaGreat
