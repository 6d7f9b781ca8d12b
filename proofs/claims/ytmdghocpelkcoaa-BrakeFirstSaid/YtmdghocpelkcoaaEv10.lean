/- The typed reading: appends. -/
import Derived.Test.YtmdghocpelkcoaaEv9
import Derived.Maps.AppendAt
namespace Go.Proofs.Ytmdghocpelkcoaa
open Go.RowKit

variable {P : Program} {G : Sg P} {β : Type}
section
variable {w w' : World} {R R' : Nat → Prop} {n n' : Nat} {m m' : Nat → Value} {r : β} {N : Nat} {hp : G.Hp}

theorem castL_some {u v : G.U} {l : List (G.El u)} {l' : List (G.El v)} (h : castL G l = some l') : ∃ e : u = v, e ▸ l = l' := by
  unfold castL at h
  split at h
  · rename_i e; cases h; exact ⟨e, rfl⟩
  · cases h
/-- What a slice's value is known to be. -/
def Reads (G : Sg P) (w : World) (R : Nat → Prop) (u : G.U) (l : List (G.El u)) (v : Value) : Prop :=
  ∃ A cap news, v = .slice A l.length cap ∧ news.length = l.length * G.sz u ∧ RowRep G w R u l news ∧ (∀ x ∈ news, x.oneCell' = true) ∧ l.length ≤ cap ∧
    ((A = none ∧ l = []) ∨ ∃ a, A = some a ∧ (l = [] ∨ ∃ b off, a = ⟨b, off, none⟩ ∧ b < w.heap.size) ∧ ∀ (j : Nat) (x : Value), news[j]? = some x → w.cell? (a.add j) = some x)
theorem reads_sl (hok : G.Ok) {u : G.U} {l : List (G.El u)} {v : Value} (hR : ∀ b, R b → b < w.heap.size) (h : RepP G w R (.sl u l) v) : Reads G w R u l v := by
  cases h with
  | sl _ _ A b off cap c hcap ha hc hr =>
    have hpos := hok.pos u
    refine ⟨A, cap, (List.range (l.length * G.sz u)).map fun q => c (q / G.sz u) (q % G.sz u), rfl, by simp, fun k x j p hk hj => ?_, fun x hx => ?_, hcap, ?_⟩
    · have hjs := (List.getElem?_eq_some_iff.1 hj).1
      rw [hok.row_sz] at hjs
      have hkl := (List.getElem?_eq_some_iff.1 hk).1
      have hlt : k * G.sz u + j < l.length * G.sz u := by
        have : (k + 1) * G.sz u ≤ l.length * G.sz u := Nat.mul_le_mul_right _ hkl
        rw [Nat.succ_mul] at this; omega
      refine ⟨c k j, ?_, hr k x j p hk hj⟩
      rw [List.getElem?_map, List.getElem?_range hlt, Option.map_some]
      have e1 : (k * G.sz u + j) / G.sz u = k := by rw [Nat.mul_comm, Nat.mul_add_div hpos, Nat.div_eq_of_lt hjs]; rfl
      have e2 : (k * G.sz u + j) % G.sz u = j := by rw [Nat.mul_comm, Nat.mul_add_mod, Nat.mod_eq_of_lt hjs]
      rw [e1, e2]
    · rw [List.mem_map] at hx
      obtain ⟨q, hq, rfl⟩ := hx
      have hq' := List.mem_range.1 hq
      have hqk : q / G.sz u < l.length := Nat.div_lt_of_lt_mul (by rw [Nat.mul_comm]; exact hq')
      have hqj : q % G.sz u < (G.row u l[q / G.sz u]).length := by rw [hok.row_sz]; exact Nat.mod_lt _ hpos
      exact RepP.one G (hr _ _ _ _ (List.getElem?_eq_getElem hqk) (List.getElem?_eq_getElem hqj))
    · rcases Nat.eq_zero_or_pos l.length with h0 | h0
      · have : l = [] := List.eq_nil_of_length_eq_zero h0
        subst this
        cases A with
        | none => exact .inl ⟨rfl, rfl⟩
        | some a => exact .inr ⟨a, rfl, .inl rfl, fun j x hj => by simp at hj⟩
      · obtain ⟨rfl, hb⟩ := ha h0
        refine .inr ⟨_, rfl, .inr ⟨b, off, rfl, hR b hb⟩, fun j x hj => ?_⟩
        rw [List.getElem?_map] at hj
        by_cases hlt : j < l.length * G.sz u
        · rw [List.getElem?_range hlt, Option.map_some] at hj
          cases hj
          have hqk : j / G.sz u < l.length := Nat.div_lt_of_lt_mul (by rw [Nat.mul_comm]; exact hlt)
          have hqj : j % G.sz u < (G.row u l[j / G.sz u]).length := by rw [hok.row_sz]; exact Nat.mod_lt _ hpos
          have := hc _ _ _ _ (List.getElem?_eq_getElem hqk) (List.getElem?_eq_getElem hqj)
          rw [Addr.add_lit]
          rw [show off + j = off + j / G.sz u * G.sz u + j % G.sz u from by have := Nat.div_add_mod j (G.sz u); rw [Nat.mul_comm] at this; omega]
          exact this
        · rw [List.getElem?_eq_none (by simpa using hlt)] at hj
          cases hj
theorem reads_row (_hok : G.Ok) {u : G.U} {l : List (G.El u)} {o : Nat} {lk : Bool} (h : RepO G w R n m N o (.row lk u l)) : Reads G w R u l (m o) := by
  obtain ⟨xs, h1, h2, h3⟩ := h
  rcases h1.2 with ⟨e, e'⟩ | ⟨g, cap, cur, e, f1, f2, f3, f4, f5, f6⟩
  · have : l = [] := List.eq_nil_of_length_eq_zero e'
    subst this
    exact ⟨none, 0, xs, e, h1.1, h2, h3, Nat.le_refl _, .inl ⟨rfl, rfl⟩⟩
  · refine ⟨_, cap, xs, e, h1.1, h2, h3, f3, .inr ⟨_, rfl, .inr ⟨g, 0, rfl, (Array.getElem?_eq_some_iff.1 f2).1⟩, fun j x hj => ?_⟩⟩
    exact h1.cells (by rw [e]; rfl) j x hj
theorem rowRead_ok (hok : G.Ok) {u : G.U} {x : G.T} {l : List (G.El u)} {v : Value} (hh : HRel G N hp m w) (hx : RepT G w (Rof G hp m w) hp.length m x v) (h : rowRead G hp u x = some l) : Reads G w (Rof G hp m w) u l v := by
  unfold rowRead at h
  split at h
  · obtain ⟨rfl, rfl⟩ := castL_some h
    exact reads_sl hok (fun b hb => hb.1) hx
  · rename_i o
    split at h
    · rename_i lk u' l' ho
      obtain ⟨rfl, rfl⟩ := castL_some h
      obtain ⟨_, rfl, _⟩ := hx
      exact reads_row hok (hh.obj o _ ho)
    · cases h
  · cases h
    cases hx with
    | val _ _ => exact ⟨none, 0, [], rfl, by simp, fun k x j p hk => by simp at hk, by simp, Nat.le_refl _, .inl ⟨rfl, rfl⟩⟩
  · cases h

theorem run_append_empty (base : Nat) (t ty e : TypeId) (i : TypeInfo) (size : Nat) (ht : P.underlying t = some (.slice e)) (hi : P.info? e = some i)
    (v : Value) (n : Nat) (xs : List Value) (cap : Nat) (hown : w.ownsRow base e size v n xs) : (Builtin.append_ #[t, t] ty #[v, .slice none 0 cap]).run P w = .ok v w := by
  rcases hown.2 with ⟨rfl, rfl⟩ | ⟨g, cap, cur, rfl, _, _, hnc, _⟩
  · simp [Builtin.append_, run_underlying ht, sizeOf, typeInfo, hi, Builtin.lenOf, Builtin.firstCells]
  · simp [Builtin.append_, run_underlying ht, sizeOf, typeInfo, hi, Builtin.lenOf, Builtin.firstCells, hnc, storeCells]
theorem ownBlock_blk (v : Value) (h : ∀ a, v ≠ .pointer a) (h' : ∀ a, v ≠ .map a) : v.ownBlock = blkOf v := by
  cases v <;> first | rfl | (rename_i a; exact absurd rfl (h a)) | (rename_i a; exact absurd rfl (h' a)) | (rename_i a _ _; cases a <;> rfl)
/-- The run of an append onto a row of the call's own. -/
theorem append_run (hok : G.Ok) {t ty : TypeId} {u : G.U} (hu : G.elt t = some u) {l1 l2 : List (G.El u)} {v vx : Value} {xs : List Value} (hown : w.ownsRow N (G.ty u) (G.sz u) v l1.length xs)
    (h1 : RowRep G w R u l1 xs) (h2 : ∀ x ∈ xs, x.oneCell' = true) (hx : Reads G w R u l2 vx) (hlim : l1.length + l2.length ≤ 2147483648) (hN : N ≤ w.heap.size) :
    ∃ v' w' xs', (Builtin.append_ #[t, t] ty #[v, vx]).run P w = .ok v' w' ∧ w'.ownsRow N (G.ty u) (G.sz u) v' (l1 ++ l2).length xs' ∧ RowRep G w R u (l1 ++ l2) xs' ∧ (∀ x ∈ xs', x.oneCell' = true) ∧ w.grownBy w' (blkOf v) ∧
      (∀ b, blkOf v' = some b → blkOf v = some b ∨ w.heap.size ≤ b) := by
  have hund := hok.elt t u hu
  obtain ⟨i, z, hi, hz, hisz, hzs, hby, _, _⟩ := hok.info u
  obtain ⟨A, cap, news, rfl, hnl, hnr, hn1, _, hA⟩ := hx
  have hvp : ∀ a, v ≠ .pointer a := by
    intro a e
    rcases hown.2 with ⟨e', _⟩ | ⟨g, c, cur, e', _⟩ <;> rw [e] at e' <;> cases e'
  have hvm : ∀ a, v ≠ .map a := by
    intro a e
    rcases hown.2 with ⟨e', _⟩ | ⟨g, c, cur, e', _⟩ <;> rw [e] at e' <;> cases e'
  rcases hA with ⟨rfl, rfl⟩ | ⟨a, rfl, _, hcells⟩
  · refine ⟨v, w, xs, run_append_empty N t ty (G.ty u) i (G.sz u) hund hi v _ xs cap hown, by simpa using hown, by simpa using h1, h2, ⟨rfl, rfl, rfl, Nat.le_refl _, fun _ _ _ => rfl⟩, fun b hb => .inl hb⟩
  · have hbytes : (l1.length + l2.length) * i.bytes ≤ 140737488355328 := by
      have := Nat.mul_le_mul hlim hby
      exact Nat.le_trans this (by decide)
    have hrow : RowRep G w R u (l1 ++ l2) (xs ++ news) := by
      intro k x j p hk hj
      have hjs := (List.getElem?_eq_some_iff.1 hj).1
      rw [hok.row_sz] at hjs
      rw [List.getElem?_append] at hk
      split at hk
      · rename_i hlt
        obtain ⟨cv, c1, c2⟩ := h1 k x j p hk hj
        refine ⟨cv, ?_, c2⟩
        rw [List.getElem?_append_left (List.getElem?_eq_some_iff.1 c1).1]
        exact c1
      · rename_i hge
        obtain ⟨cv, c1, c2⟩ := hnr _ x j p hk hj
        refine ⟨cv, ?_, c2⟩
        have hle : l1.length * G.sz u ≤ k * G.sz u := Nat.mul_le_mul_right _ (by omega)
        rw [List.getElem?_append_right (by rw [hown.1]; omega), hown.1]
        rw [← c1]
        congr 1
        rw [Nat.sub_mul]; omega
    have hone : ∀ x ∈ xs ++ news, x.oneCell' = true := fun x hx => by
      rcases List.mem_append.1 hx with hx | hx
      · exact h2 x hx
      · exact hn1 x hx
    obtain ⟨v', w', hr, ho, hg, _, hat⟩ := run_append_own_at (P := P) w N t ty (G.ty u) i z (G.sz u) i.bytes hund hi hz hisz rfl hzs (hok.pos u) v l1.length xs hown a l2.length cap news hnl hcells hn1
      (by unfold maxLen; omega) hbytes hN
    have hvp' : ∀ a, v' ≠ .pointer a := by
      intro a e
      rcases ho.2 with ⟨e', _⟩ | ⟨g, c, cur, e', _⟩ <;> rw [e] at e' <;> cases e'
    have hvm' : ∀ a, v' ≠ .map a := by
      intro a e
      rcases ho.2 with ⟨e', _⟩ | ⟨g, c, cur, e', _⟩ <;> rw [e] at e' <;> cases e'
    rw [ownBlock_blk v hvp hvm] at hg hat
    rw [ownBlock_blk v' hvp' hvm'] at hat
    refine ⟨v', w', xs ++ news, hr, by rw [List.length_append]; exact ho, hrow, hone, hg, fun b hb => ?_⟩
    rcases hat with hat | hat
    · exact .inl (hat ▸ hb)
    · rw [hat] at hb; cases hb; exact .inr (Nat.le_refl _)
theorem own_one {base k size : Nat} {e : TypeId} {v : Value} {xs : List Value} (h : w.ownsRow base e size v k xs) : v.oneCell' = true := by
  rcases h.2 with ⟨rfl, _⟩ | ⟨g, cap, cur, rfl, _⟩ <;> rfl
end

/-- The frame's readings. -/
structure FRel (G : Sg P) (env : G.Env) (fr : G.Fr) (hp : G.Hp) (m : Nat → Value) (tmps : Array Value) (w : World) : Prop where
  len : tmps.size = fr.length
  fr : ∀ (t : Nat) (d : G.D), fr[t]? = some d → RepD G w (Rof G hp m w) hp.length m d (tmps.getD t undef)
  env : ∀ (t : Nat) (d : G.D), env[t]? = some (some d) → t < tmps.size ∧ RepD G w (Rof G hp m w) hp.length m d (tmps.getD t undef)

section
variable {w w' : World} {m m' : Nat → Value} {r : β} {N : Nat} {hp hp' : G.Hp} {env : G.Env} {fr : G.Fr} {tmps : Array Value}
theorem FRel.keep (h : FRel G env fr hp m tmps w) (k : Keep G hp m w hp' m' w') (hl : hp.length ≤ hp'.length) : FRel G env fr hp' m' tmps w' :=
  ⟨h.len, fun t d hd => (h.fr t d hd).mono k.ro k.heap hl (fun o _ ho => k.map o ho), fun t d hd => ⟨(h.env t d hd).1, (h.env t d hd).2.mono k.ro k.heap hl (fun o _ ho => k.map o ho)⟩⟩
theorem FRel.get (h : FRel G env fr hp m tmps w) (t : Nat) : RepD G w (Rof G hp m w) hp.length m (getS G env fr t) (tmps.getD t undef) := by
  unfold getS
  split
  · rename_i d hd; exact (h.env t d hd).2
  · cases hd : fr[t]? with
    | none => trivial
    | some d => exact h.fr t d hd
theorem FRel.opT (h : FRel G env fr hp m tmps w) {x : Operand} {y : G.T} (hx : opT G env fr x = some y) : RepT G w (Rof G hp m w) hp.length m y ((⟨tmps, []⟩ : Act).eval x) := by
  unfold Proofs.Ytmdghocpelkcoaa.opT at hx
  split at hx
  · rename_i t
    have := h.get t
    split at hx
    · rename_i z hz
      cases hx
      rw [hz] at this
      exact this
    · cases hx
      trivial
  · rename_i v
    split at hx
    · rename_i hv; cases hx; exact RepT_val hv
    · cases hx
  · cases hx
    exact ⟨[], rfl, rfl, by simp⟩
  · cases hx
theorem FRel.set (h : FRel G env fr hp m tmps w) {t : Nat} {d : G.D} {v : Value} (hd : RepD G w (Rof G hp m w) hp.length m d v) (he : ∀ x, env[t]? ≠ some (some x)) : FRel G env (fr.set t d) hp m (tmps.setIfInBounds t v) w := by
  refine ⟨by simp [h.len], fun q x hq => ?_, fun q x hq => ?_⟩
  · rw [List.getElem?_set] at hq
    by_cases hqt : t = q
    · subst hqt
      rw [if_pos rfl] at hq
      split at hq
      · rename_i hlt
        cases hq
        rw [← h.len] at hlt
        simpa [hlt] using hd
      · cases hq
    · rw [if_neg hqt] at hq
      have := h.fr q x hq
      simpa [Array.getElem?_setIfInBounds, hqt] using this
  · have hqt : t ≠ q := fun e => he x (e ▸ hq)
    obtain ⟨h1, h2⟩ := h.env q x hq
    refine ⟨by simpa using h1, ?_⟩
    simpa [Array.getElem?_setIfInBounds, hqt] using h2

/-- What an append leaves. -/
theorem appendK_ok (hok : G.Ok) {t t2 ty : TypeId} {s x : G.T} {vs vx : Value} {K : G.Fr → G.Hp → G.T → Option β} (hh : HRel G N hp m w) (hf : FRel G env fr hp m tmps w) (hs : RepT G w (Rof G hp m w) hp.length m s vs)
    (hx : RepT G w (Rof G hp m w) hp.length m x vx) (h : appendK G env fr hp t t2 s x K = some r) :
    ∃ v w' hp' m' fr' y, (Builtin.append_ #[t, t2] ty #[vs, vx]).run P w = .ok v w' ∧ HRel G N hp' m' w' ∧ FRel G env fr' hp' m' tmps w' ∧ Below N w w' ∧ RepT G w' (Rof G hp' m' w') hp'.length m' y v ∧ K fr' hp' y = some r ∧ Kp G hp m w hp' m' w' := by
  unfold appendK at h
  split at h
  · rename_i u hu
    split at h
    · rename_i ht; subst ht
      split at h
      · rename_i l2 hl2
        have hrd := rowRead_ok hok hh hx hl2
        split at h
        · rename_i o
          split at h
          · rename_i u' l ho
            split at h
            · rename_i l1 hl1
              obtain ⟨rfl, rfl⟩ := castL_some hl1
              split at h
              · rename_i hfree
                split at h
                · rename_i hlim
                  obtain ⟨hlt, rfl, _⟩ := hs
                  obtain ⟨xs, e1, e2, e3⟩ := hh.obj o _ ho
                  obtain ⟨v', w', xs', hr, ho', hrow, hone, hg, hblk⟩ := append_run (ty := ty) hok hu e1 e2 e3 hrd hlim hh.base
                  have hm' : ∀ q, q ≠ o → mAt m o v' q = m q := fun q hq => mAt_other m o v' hq
                  have hb1 : ∀ b, OV.live (OV.row false u' (l ++ l2)) = true → blkOf (mAt m o v' o) = some b → blkOf (m o) = some b ∨ w.heap.size ≤ b := fun b _ hb => hblk b (by rw [mAt_same] at hb; exact hb)
                  have hro := rof_turn (w' := w') (m' := mAt m o v') (ob' := .row false u' (l ++ l2)) (f := junkO o) ho rfl hg.size hm' hb1 (fun x => junkO_live o x)
                  have hsame : ∀ b, Rof G hp m w b → w'.heap[b]? = w.heap[b]? := fun b hb => hg.block b hb.1 (fun e => hb.2 ⟨o, _, ho, rfl, e.symm⟩)
                  obtain ⟨h2, h3, h4⟩ := hh.turn (w' := w') (m' := mAt m o v') (ob' := .row false u' (l ++ l2)) (f := junkO o) ho rfl hg.size (fun b hb hne => hg.block b hb (fun e => hne e.symm)) hm' hb1 (.inr ⟨fun _ => rfl, hfree.2⟩)
                    ⟨xs', by rw [mAt_same]; exact ho', hrow.mono hro hsame, hone⟩
                  have hlen : ((hp.map (junkO o)).set o (.row false u' (l ++ l2))).length = hp.length := by simp
                  refine ⟨v', w', _, mAt m o v', _, .c (.os o), hr, h2, ⟨by simp [hf.len], fun q d hq => ?_, fun q d hq => ?_⟩, (Below.refl _ _).grown hg hh.base (fun k hk => ((hh.obj o _ ho).blk rfl hk).1), ⟨by rw [hlen]; exact hlt, by rw [mAt_same], own_one ho'⟩, h, h3, h4, fun q x hq hx => ?_, fun q x hq hx => ?_, by simp, fun q os p hq hp hl => ?_⟩
                  · rw [hlen]
                    rw [List.getElem?_map] at hq
                    cases hd : fr[q]? with
                    | none => rw [hd] at hq; cases hq
                    | some d0 => rw [hd] at hq; cases hq; exact (hf.fr q d0 hd).junk' o h3 h4 (Nat.le_refl _) (fun o' ho' _ => hm' o' ho')
                  · rw [hlen]
                    obtain ⟨h5, h6⟩ := hf.env q d hq
                    refine ⟨h5, h6.mono h3 h4 (Nat.le_refl _) (fun o' ho' _ => hm' o' (fun e => ?_))⟩
                    have := List.all_eq_true.1 hfree.1 _ (List.mem_of_getElem? hq)
                    simp only [Bool.not_eq_true', List.contains_eq_mem, decide_eq_false_iff_not] at this
                    exact this (e ▸ ho')
                  · have hj : (hp.map (junkO o))[q]? = some x := by
                      rw [List.getElem?_map, hq]
                      cases x <;> first | rfl | cases hx
                    exact lk_set (hp := hp.map (junkO o)) (ob := .row false u' l) (by rw [List.getElem?_map, ho]; rfl) rfl q x hj hx
                  · have hne : q ≠ o := fun e => by
                      subst e
                      rw [ho] at hq
                      cases hq
                      cases hx
                    refine ⟨hm' q hne, ?_⟩
                    rw [List.getElem?_set, if_neg (fun e => hne e.symm), List.getElem?_map, hq]
                    exact ⟨_, rfl, by cases x <;> first | rfl | exact hx⟩
                  · refine hm' p fun e => ?_
                    have h1 := List.all_eq_true.1 hfree.2 _ (List.mem_of_getElem? hq)
                    subst e
                    simp [lockFree, hp] at h1
                · cases h
              · cases h
            · cases h
          · cases h
        · split at h
          · rename_i hlim
            obtain ⟨rfl, _⟩ := valOf_rep (v := .slice none 0 0) rfl hs
            obtain ⟨v', w', xs', hr, ho', hrow, hone, hg, hblk⟩ := append_run (ty := ty) (l1 := []) (N := N) hok hu (World.ownsRow_nil w N _ _) (by intro k x j p hk; simp at hk) (by simp) hrd (by simpa using hlim) hh.base
            obtain ⟨h6, h7⟩ := new_row hh hg.size (fun b hb => hg.block b hb (by simp [blkOf])) (l := l2) (by simpa using ho') (fun b hb => by
              rcases hblk b hb with h | h
              · cases h
              · exact h) (by simpa using hrow) hone
            exact ⟨v', w', _, _, _, _, hr, h6, hf.keep h7 (by simp), (Below.refl _ _).grown hg hh.base (by simp [blkOf]), os_new _ (own_one ho') _, h, h7.kp (by simp)⟩
          · cases h
        · cases h
      · cases h
    · cases h
  · cases h
end
end Go.Proofs.Ytmdghocpelkcoaa
