/- The typed reading of a whole function is right: what a call returns, and whose its rows are. -/
import Derived.Test.YtmdghocpelkcoaaEv17
namespace Go.Proofs.Ytmdghocpelkcoaa
open Go.RowKit

variable {P : Program} {G : Sg P} {β : Type}
section
variable {w w' w0 : World} {R R' : Nat → Prop} {n n' L : Nat} {m m' mc : Nat → Value} {r : β} {N : Nat} {hp hp' hpc : G.Hp} {env : G.Env} {fr : G.Fr} {tmps : Array Value}

inductive CellRel (G : Sg P) (hpc : G.Hp) (mc : Nat → Value) : List G.P' → List Value → List (Option Nat) → Prop where
  | nil : CellRel G hpc mc [] [] []
  | val (v : Value) (h1 : v.oneCell' = true) {qs vs S} (h : CellRel G hpc mc qs vs S) : CellRel G hpc mc (.val v :: qs) (v :: vs) S
  | nl (u : G.U) {qs vs S} (h : CellRel G hpc mc qs vs S) : CellRel G hpc mc (.sl u [] :: qs) (.slice none 0 0 :: vs) (none :: S)
  | ow (o : Nat) (lk : Bool) (u : G.U) (l : List (G.El u)) (ho : hpc[o]? = some (.row lk u l)) (hf : G.flat u = true) (h1 : (mc o).oneCell' = true) {qs vs S} (h : CellRel G hpc mc qs vs S) : CellRel G hpc mc (.sl u l :: qs) (mc o :: vs) (some o :: S)

theorem cells_rel : ∀ {cs : List G.C} {ss : List (Src G.U G.El)} {vs : List Value} {qs : List G.P'}, srcs G hpc cs = some ss → RepL G w R n mc cs vs → qs.length = cs.length →
    (∀ (j : Nat) (p : G.P'), (ss.map Src.pv)[j]? = some p → ∃ q, qs[j]? = some q ∧ Weak G p q) → ∃ S : List (Option Nat), S.filterMap id = Src.objs ss ∧ CellRel G hpc mc qs vs S
  | [], ss, vs, qs, h, hl, hq, _ => by
    cases h
    have e1 : vs = [] := List.eq_nil_of_length_eq_zero hl.1
    have e2 : qs = [] := List.eq_nil_of_length_eq_zero hq
    subst e1; subst e2
    exact ⟨[], rfl, .nil⟩
  | c :: cs, ss, vs, qs, h, hl, hq, hw => by
    unfold srcs at h
    split at h
    · rename_i s ss' hs hss
      cases h
      cases vs with
      | nil => have := hl.1; simp at this
      | cons v vs =>
        cases qs with
        | nil => simp at hq
        | cons q qs =>
          have htl : RepL G w R n mc cs vs := by have := hl.drop 1; simpa using this
          obtain ⟨S, h1, h2⟩ := cells_rel hss htl (by simpa using hq) (fun j p hj => hw (j + 1) p hj)
          obtain ⟨q', hq', hweak⟩ := hw 0 _ rfl
          cases hq'
          obtain ⟨v', hv', hrep⟩ := hl.2 0 c rfl
          cases hv'
          unfold srcC at hs
          split at hs
          · rename_i x
            cases hs
            cases hrep with
            | val _ hx =>
              rcases hweak with h3 | ⟨h3, u, h4⟩
              · cases h3
                exact ⟨S, h1, .val _ hx h2⟩
              · cases h3
                cases h4
                exact ⟨none :: S, h1, .nl u h2⟩
          · rename_i o
            split at hs
            · rename_i lk u l ho
              split at hs
              · rename_i hflat
                cases hs
                rcases hweak with h3 | ⟨h3, _⟩
                · cases h3
                  obtain ⟨_, rfl, h5⟩ := hrep
                  exact ⟨some o :: S, by simp [Src.objs, h1], .ow o lk u l ho hflat h5 h2⟩
                · cases h3
              · cases hs
            · cases hs
          · cases hs
    · cases h
def OneRel (G : Sg P) (hpc : G.Hp) (mc : Nat → Value) (u : G.U) (x : G.El u) (v : Value) (S : List (Option Nat)) : Prop :=
  ∃ ws, CellRel G hpc mc (G.row u x) ws S ∧ match G.ag u with
    | true => v = .agg ws.toArray
    | false => ws = [v]
def ResRel (G : Sg P) (hpc : G.Hp) (mc : Nat → Value) : (rs : List G.U) → TyU G rs → List Value → List (Option Nat) → Prop
  | [], _, vs, S => vs = [] ∧ S = []
  | [u], x, vs, S => ∃ v, vs = [v] ∧ OneRel G hpc mc u x v S
  | u :: v :: us, (x, y), vs, S => ∃ v0 vs' S1 S2, vs = v0 :: vs' ∧ S = S1 ++ S2 ∧ OneRel G hpc mc u x v0 S1 ∧ ResRel G hpc mc (v :: us) y vs' S2
theorem one_rel (hok : G.Ok) {u : G.U} {t : G.T} {cs : List G.C} {ss : List (Src G.U G.El)} {x : G.El u} {v : Value} (h1 : rcells G u t = some cs) (h2 : srcs G hpc cs = some ss) (h3 : G.unrow u (ss.map Src.pv) = some x) (h4 : RepT G w R n mc t v) :
    ∃ S : List (Option Nat), S.filterMap id = Src.objs ss ∧ OneRel G hpc mc u x v S := by
  obtain ⟨h5, h6⟩ := hok.unrow u _ x h3
  have hlen : ∀ {cs : List G.C} {ss : List (Src G.U G.El)}, srcs G hpc cs = some ss → ss.length = cs.length := by
    intro cs
    induction cs with
    | nil => intro ss h; cases h; rfl
    | cons c cs ih =>
      intro ss h
      unfold srcs at h
      split at h
      · rename_i _ _ _ hss; cases h; simp [ih hss]
      · cases h
  have hl := hlen h2
  have hq : (G.row u x).length = cs.length := by rw [hok.row_sz, ← h5, List.length_map, hl]
  unfold rcells at h1
  split at h1
  · rename_i c
    split at h1
    · cases h1
    · rename_i hag
      cases h1
      obtain ⟨S, h7, h8⟩ := cells_rel (w := w) (R := R) (n := n) (vs := [v]) h2 ⟨rfl, fun i c' hi => by
        cases i with
        | zero => cases hi; exact ⟨v, rfl, h4⟩
        | succ i => cases hi⟩ hq h6
      exact ⟨S, h7, [v], h8, by rw [show G.ag u = false from by simpa using hag]⟩
  · rename_i cs'
    split at h1
    · rename_i hag
      cases h1
      obtain ⟨vs, rfl, hl⟩ := h4
      obtain ⟨S, h7, h8⟩ := cells_rel h2 hl hq h6
      exact ⟨S, h7, vs, h8, by rw [hag]⟩
    · cases h1
theorem dec_rel (hok : G.Ok) : ∀ (rs : List G.U) {ts : List G.T} {vs : List Value} {y : TyU G rs} {os : List Nat}, decRes G hpc rs ts = some (y, os) → RepTs G w R n mc ts vs → ∃ S : List (Option Nat), S.filterMap id = os ∧ ResRel G hpc mc rs y vs S
  | [], [], vs, y, os, h, hr => by cases h; cases hr; exact ⟨[], rfl, rfl, rfl⟩
  | [], _ :: _, vs, y, os, h, hr => by cases h
  | [u], [], vs, y, os, h, hr => by cases h
  | [u], [t], vs, y, os, h, hr => by
    unfold decRes at h
    split at h
    · rename_i cs hcs
      split at h
      · rename_i ss hss
        split at h
        · rename_i x hx
          cases h
          cases hr with
          | cons h1 h2 =>
            cases h2
            obtain ⟨S, h3, h4⟩ := one_rel hok hcs hss hx h1
            exact ⟨S, h3, _, rfl, h4⟩
        · cases h
      · cases h
    · cases h
  | [u], _ :: _ :: _, vs, y, os, h, hr => by cases h
  | u :: u' :: us, [], vs, y, os, h, hr => by cases h
  | u :: u' :: us, t :: ts, vs, y, os, h, hr => by
    unfold decRes at h
    split at h
    · rename_i cs hcs
      split at h
      · rename_i ss y' os' hss hd
        split at h
        · rename_i x hx
          cases h
          cases hr with
          | cons h1 h2 =>
            obtain ⟨S, h3, h4⟩ := one_rel hok hcs hss hx h1
            obtain ⟨S2, h5, h6⟩ := dec_rel hok (u' :: us) hd h2
            exact ⟨S ++ S2, by rw [List.filterMap_append, h3, h5], _, _, S, S2, rfl, rfl, h4, h6⟩
        · cases h
      · cases h
    · cases h

def hd (mc : Nat → Value) : Option Nat → Value
  | some o => mc o
  | none => .slice none 0 0
theorem cells_rep {qs : List G.P'} {vs : List Value} {S : List (Option Nat)} (h : CellRel G hpc mc qs vs S) : ∀ {k : Nat}, (∀ (i : Nat) (s : Option Nat), S[i]? = some s → m' (k + i) = hd mc s) → k + S.length ≤ L → RepL G w' R' L m' (resC G k qs) vs := by
  induction h with
  | nil => intro k _ _; exact ⟨rfl, fun i c hi => by cases hi⟩
  | val v h1 _ ih =>
    intro k hm hk
    have := ih hm hk
    refine ⟨by simp [resC, this.1], fun i c hi => ?_⟩
    cases i with
    | zero => cases hi; exact ⟨v, rfl, RepP.val v h1⟩
    | succ i => exact this.2 i c hi
  | nl u _ ih =>
    intro k hm hk
    simp only [List.length_cons] at hk
    have := ih (k := k + 1) (fun i s hi => by rw [show k + 1 + i = k + (i + 1) from by omega]; exact hm (i + 1) s hi) (by omega)
    refine ⟨by simp [resC, this.1], fun i c hi => ?_⟩
    cases i with
    | zero => cases hi; exact ⟨_, rfl, by omega, (hm 0 none rfl).symm, rfl⟩
    | succ i => exact this.2 i c hi
  | ow o lk u l ho hf h1 _ ih =>
    intro k hm hk
    simp only [List.length_cons] at hk
    have := ih (k := k + 1) (fun i s hi => by rw [show k + 1 + i = k + (i + 1) from by omega]; exact hm (i + 1) s hi) (by omega)
    refine ⟨by simp [resC, this.1], fun i c hi => ?_⟩
    cases i with
    | zero => cases hi; exact ⟨_, rfl, by omega, (hm 0 (some o) rfl).symm, h1⟩
    | succ i => exact this.2 i c hi
theorem cells_new {qs : List G.P'} {vs : List Value} {S : List (Option Nat)} (h : CellRel G hpc mc qs vs S) : (resO G qs).length = S.length ∧ ∀ (i : Nat) (ob : G.O), (resO G qs)[i]? = some ob →
    ∃ s u l, S[i]? = some s ∧ ob = .row false u l ∧ match s with
      | some o => (∃ lk, hpc[o]? = some (.row lk u l)) ∧ G.flat u = true
      | none => l = [] := by
  induction h with
  | nil => exact ⟨rfl, fun i ob hi => by cases hi⟩
  | val v h1 _ ih => exact ih
  | nl u _ ih =>
    refine ⟨by simp [resO, ih.1], fun i ob hi => ?_⟩
    cases i with
    | zero => cases hi; exact ⟨none, u, [], rfl, rfl, rfl⟩
    | succ i => exact ih.2 i ob hi
  | ow o lk u l ho hf h1 _ ih =>
    refine ⟨by simp [resO, ih.1], fun i ob hi => ?_⟩
    cases i with
    | zero => cases hi; exact ⟨some o, u, l, rfl, rfl, ⟨lk, ho⟩, hf⟩
    | succ i => exact ih.2 i ob hi
def NewRel (G : Sg P) (hpc : G.Hp) (S : List (Option Nat)) (news : G.Hp) : Prop := news.length = S.length ∧ ∀ (i : Nat) (ob : G.O), news[i]? = some ob →
    ∃ s u l, S[i]? = some s ∧ ob = .row false u l ∧ match s with
      | some o => (∃ lk, hpc[o]? = some (.row lk u l)) ∧ G.flat u = true
      | none => l = []
theorem NewRel.append {S1 S2 : List (Option Nat)} {a b : G.Hp} (h1 : NewRel G hpc S1 a) (h2 : NewRel G hpc S2 b) : NewRel G hpc (S1 ++ S2) (a ++ b) := by
  refine ⟨by simp [h1.1, h2.1], fun i ob hi => ?_⟩
  rw [List.getElem?_append] at hi ⊢
  rw [h1.1] at hi
  split at hi
  · rename_i hlt; rw [if_pos hlt]; exact h1.2 i ob hi
  · rename_i hlt; rw [if_neg hlt]; exact h2.2 _ ob hi
theorem one_rep {u : G.U} {x : G.El u} {v : Value} {S : List (Option Nat)} (h : OneRel G hpc mc u x v S) {k : Nat} (hm : ∀ (i : Nat) (s : Option Nat), S[i]? = some s → m' (k + i) = hd mc s) (hk : k + S.length ≤ L) :
    RepT G w' R' L m' (resT G k u x) v ∧ NewRel G hpc S (resO G (G.row u x)) := by
  obtain ⟨ws, h1, h2⟩ := h
  refine ⟨?_, cells_new h1⟩
  have h3 : RepL G w' R' L m' (resC G k (G.row u x)) ws := cells_rep h1 hm hk
  unfold resT
  cases hag : G.ag u with
  | true =>
    rw [hag] at h2
    cases h2
    exact ⟨ws, rfl, h3⟩
  | false =>
    rw [hag] at h2
    cases h2
    cases hc : resC G k (G.row u x) with
    | nil => rw [hc] at h3; have := h3.1; simp at this
    | cons c cs =>
      rw [hc] at h3
      obtain ⟨y, h4, h5⟩ := h3.2 0 c rfl
      cases h4
      exact h5
theorem res_rep : ∀ (rs : List G.U) {y : TyU G rs} {vs : List Value} {S : List (Option Nat)} {k : Nat}, ResRel G hpc mc rs y vs S → (∀ (i : Nat) (s : Option Nat), S[i]? = some s → m' (k + i) = hd mc s) → k + S.length ≤ L →
    RepTs G w' R' L m' (resL G k rs y) vs ∧ NewRel G hpc S (newO G rs y)
  | [], y, vs, S, k, h, _, _ => by obtain ⟨rfl, rfl⟩ := h; exact ⟨.nil, rfl, fun i ob hi => by cases hi⟩
  | [u], y, vs, S, k, h, hm, hk => by
    obtain ⟨v, rfl, h1⟩ := h
    obtain ⟨h2, h3⟩ := one_rep (w' := w') (R' := R') h1 hm hk
    exact ⟨.cons h2 .nil, h3⟩
  | u :: u' :: us, (x, y), vs, S, k, h, hm, hk => by
    obtain ⟨v0, vs', S1, S2, rfl, rfl, h1, h2⟩ := h
    rw [List.length_append] at hk
    obtain ⟨h3, h4⟩ := one_rep (L := L) (w' := w') (R' := R') h1 (k := k) (fun i s hi => hm i s (by rw [List.getElem?_append_left (List.getElem?_eq_some_iff.1 hi).1]; exact hi)) (by omega)
    obtain ⟨h5, h6⟩ := res_rep (u' :: us) (k := k + (resO G (G.row u x)).length) h2 (fun i s hi => by
      rw [h4.1, Nat.add_assoc]
      exact hm (S1.length + i) s (by rw [List.getElem?_append_right (by omega)]; simpa using hi)) (by rw [h4.1]; omega)
    exact ⟨.cons h3 h5, h4.append h6⟩
theorem nodupB_get {S : List (Option Nat)} (h : nodupB (S.filterMap id) = true) : ∀ (i j o : Nat), S[i]? = some (some o) → S[j]? = some (some o) → i = j := by
  induction S with
  | nil => intro i j o hi; cases hi
  | cons s S ih =>
    intro i j o hi hj
    have hmem : ∀ q : Nat, S[q]? = some (some o) → o ∈ S.filterMap id := fun q hq => List.mem_filterMap.2 ⟨some o, List.mem_of_getElem? hq, rfl⟩
    cases s with
    | none =>
      cases i with
      | zero => cases hi
      | succ i =>
        cases j with
        | zero => cases hj
        | succ j => exact congrArg _ (ih h i j o hi hj)
    | some q =>
      have h' : (!(S.filterMap id).contains q && nodupB (S.filterMap id)) = true := by simpa [nodupB] using h
      rw [Bool.and_eq_true] at h'
      have hq : q ∉ S.filterMap id := by simpa using h'.1
      cases i with
      | zero =>
        cases hi
        cases j with
        | zero => rfl
        | succ j => exact absurd (hmem j hj) hq
      | succ i =>
        cases j with
        | zero => cases hj; exact absurd (hmem i hi) hq
        | succ j => exact congrArg _ (ih h'.2 i j o hi hj)

theorem ret_ok (hok : G.Ok) (hh : HRel G w.heap.size hpc mc w') (hb : Below w.heap.size w w') {rs : List G.U} {ts : List G.T} {vs : List Value} {y : TyU G rs} {os : List Nat} (hd1 : decRes G hpc rs ts = some (y, os)) (hnd : nodupB os = true)
    (hr : RepTs G w' (Rof G hpc mc w') hpc.length mc ts vs) : Ret G rs y w (.returned (match vs with | [v] => v | vs => .tuple vs.toArray)) w' := by
  obtain ⟨S, hS, hrel⟩ := dec_rel hok rs hd1 hr
  rw [← hS] at hnd
  refine ⟨_, rfl, hb, fun N hp m h0 => ?_⟩
  let m' : Nat → Value := fun o => if o < hp.length then m o else hd mc ((S[o - hp.length]?).getD none)
  have hm1 : ∀ o, o < hp.length → m' o = m o := fun o ho => if_pos ho
  have hm2 : ∀ (i : Nat) (s : Option Nat), S[i]? = some s → m' (hp.length + i) = hd mc s := by
    intro i s hi
    show (if hp.length + i < hp.length then _ else _) = _
    rw [if_neg (by omega), Nat.add_sub_cancel_left, hi]
    rfl
  have hnew := (res_rep (w' := w') (R' := fun _ => True) (L := hp.length + S.length) (m' := m') rs hrel hm2 (Nat.le_refl _)).2
  have hblk : ∀ (i : Nat) (s : Option Nat) (b : Nat), S[i]? = some s → blkOf (m' (hp.length + i)) = some b → ∃ o, s = some o ∧ blkOf (mc o) = some b := by
    intro i s b hi hbk
    rw [hm2 i s hi] at hbk
    cases s with
    | none => cases hbk
    | some o => exact ⟨o, rfl, hbk⟩
  obtain ⟨h1, h2⟩ := h0.ext (w' := w') hb.size (fun b hlt => hb.block b hlt) (newO G rs y) hm1
    (fun i ob hi => by
      obtain ⟨s, u, l, h3, rfl, h4⟩ := hnew.2 i ob hi
      show ∃ xs, _
      rw [hm2 i s h3]
      cases s with
      | none =>
        cases h4
        exact ⟨[], World.ownsRow_nil w' N _ _, fun k x j p hk => by simp at hk, by simp⟩
      | some o =>
        obtain ⟨⟨lk, h5⟩, hflat⟩ := h4
        obtain ⟨xs, h6, h7, h8⟩ := hh.obj o _ h5
        refine ⟨xs, ⟨h6.1, ?_⟩, fun k x j p hk hj => ?_, h8⟩
        · rcases h6.2 with h9 | ⟨g, cap, cur, e, f1, f2⟩
          · exact .inl h9
          · exact .inr ⟨g, cap, cur, e, Nat.le_trans h0.base f1, f2⟩
        · obtain ⟨cv, c1, c2⟩ := h7 k x j p hk hj
          obtain ⟨v, rfl⟩ := hok.flat u hflat x p (List.mem_of_getElem? hj)
          cases c2 with
          | val _ hv => exact ⟨_, c1, .val _ hv⟩)
    (fun i ob b hi hl hbk => by
      obtain ⟨s, u, l, h3, rfl, h4⟩ := hnew.2 i ob hi
      obtain ⟨o, rfl, h5⟩ := hblk i s b h3 hbk
      obtain ⟨⟨lk, h6⟩, _⟩ := h4
      exact ((hh.obj o _ h6).blk rfl h5).1)
    (fun i j ob ob' b hi hj hl hl' hbi hbj => by
      obtain ⟨s, u, l, h3, rfl, h4⟩ := hnew.2 i ob hi
      obtain ⟨s', u', l', h3', rfl, h4'⟩ := hnew.2 j ob' hj
      obtain ⟨o, rfl, h5⟩ := hblk i s b h3 hbi
      obtain ⟨o', rfl, h5'⟩ := hblk j s' b h3' hbj
      obtain ⟨⟨lk, h6⟩, _⟩ := h4
      obtain ⟨⟨lk', h6'⟩, _⟩ := h4'
      have : o = o' := hh.sep o o' _ _ b h6 h6' rfl rfl h5 h5'
      subst this
      exact nodupB_get hnd i j o h3 h3')
  refine ⟨m', h1, h2, ?_⟩
  have hL : (hp ++ newO G rs y).length = hp.length + S.length := by rw [List.length_append, hnew.1]
  have h3 := (res_rep (w' := w') (R' := Rof G (hp ++ newO G rs y) m' w') (L := hp.length + S.length) (m' := m') rs hrel hm2 (Nat.le_refl _)).1
  rw [← hL] at h3
  unfold resD
  generalize hts : resL G hp.length rs y = ts' at h3
  cases h3 with
  | nil => exact ⟨[], rfl, rfl, fun i t hi => by cases hi⟩
  | @cons x0 xs0 v0 vs0 h4 h5 =>
    cases h5 with
    | nil => exact h4
    | @cons x1 xs1 v1 vs' h6 h7 =>
      have h8 := RepTs.cons h4 (.cons h6 h7)
      clear h4 h6 h7
      refine ⟨v0 :: v1 :: vs', rfl, ?_, ?_⟩
      · have hll : ∀ {a : List G.T} {b : List Value}, RepTs G w' (Rof G (hp ++ newO G rs y) m' w') (hp ++ newO G rs y).length m' a b → b.length = a.length := by
          intro a b h; induction h with
          | nil => rfl
          | cons _ _ ih => simp [ih]
        exact hll h8
      · have hll : ∀ {a : List G.T} {b : List Value}, RepTs G w' (Rof G (hp ++ newO G rs y) m' w') (hp ++ newO G rs y).length m' a b → ∀ (i : Nat) (t : G.T), a[i]? = some t → ∃ x, b[i]? = some x ∧ RepT G w' (Rof G (hp ++ newO G rs y) m' w') (hp ++ newO G rs y).length m' t x := by
          intro a b h
          induction h with
          | nil => intro i t hi; cases hi
          | cons h _ ih =>
            intro i t hi
            cases i with
            | zero => cases hi; exact ⟨_, rfl, h⟩
            | succ i => exact ih i t hi
        exact hll h8
end
end Go.Proofs.Ytmdghocpelkcoaa
