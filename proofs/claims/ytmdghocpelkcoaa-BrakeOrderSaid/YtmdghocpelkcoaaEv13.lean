/- The typed reading of a list of operations, guards included. -/
import Derived.Test.YtmdghocpelkcoaaEv12
namespace Go.Proofs.Ytmdghocpelkcoaa
open Go.RowKit

variable {P : Program} (G : Sg P) {β : Type}
def setK (env : G.Env) (fr : G.Fr) (dst : Option Tmp) (d : G.D) (k : G.Fr → Option β) : Option β := match dst with
  | none => k fr
  | some t => match env[t]? with
    | some (some _) => none
    | _ => k (fr.set t d)
def bV (b : Bool) : G.D := .t (.c (.pv (.val (.bool b))))
def execK (K : G.KT) (env : G.Env) (fr : G.Fr) (hp : G.Hp) (o : Oper) (k : G.Fr → G.Hp → Option β) : Option β := opK G K env fr hp o fun fr hp d => setK G env fr o.dst d fun fr => k fr hp
def skipK (env : G.Env) (fr : G.Fr) (hp : G.Hp) (o : Oper) (k : G.Fr → G.Hp → Option β) : Option β := setK G env fr o.dst (.tup []) fun fr => k fr hp
def stepK (K : G.KT) (env : G.Env) (ops : Array Oper) (fr : G.Fr) (hp : G.Hp) (o : Oper) (k : G.Fr → G.Hp → Option β) : Option β := match o.guard with
  | none => execK G K env fr hp o k
  | some (j, want) => match (ops[j]?).bind (·.dst) with
    | some t => match env[t]?, fr[t]? with
      | some (some _), _ => none
      | _, some (.t (.c (.pv (.val (.bool b))))) => match want with
        | true => cond b (execK G K env (fr.set t (bV G true)) hp o k) (skipK G env (fr.set t (bV G false)) hp o k)
        | false => cond b (skipK G env (fr.set t (bV G true)) hp o k) (execK G K env (fr.set t (bV G false)) hp o k)
      | _, some (.tup []) => skipK G env fr hp o k
      | _, _ => none
    | none => none
/-- A row of the call's own is taken as foreign memory from now on. -/
def frzC (o : Nat) (p : G.P') (c : G.C) : G.C := match c with
  | .os q => if q = o then .pv p else .os q
  | c => junkC G o c
def frzT (o : Nat) (p : G.P') : G.T → G.T
  | .c x => .c (frzC G o p x)
  | .agg cs => .agg (cs.map (frzC G o p))
def frzD (o : Nat) (p : G.P') : G.D → G.D
  | .t x => .t (frzT G o p x)
  | .tup vs => .tup (vs.map (frzT G o p))
def frzO (o : Nat) (p : G.P') : G.O → G.O
  | .box cs => .box (cs.map (frzC G o p))
  | ob => ob
def frz1 (env : G.Env) (fr : G.Fr) (hp : G.Hp) (o : Nat) : G.Fr × G.Hp := match hp[o]? with
  | some (.row false u l) => if envFree G env o = true ∧ hp.all (lockFree o) = true then (fr.map (frzD G o (.sl u l)), (hp.map (frzO G o (.sl u l))).set o .dead) else (fr, hp)
  | _ => (fr, hp)
def frzL (env : G.Env) : List Nat → G.Fr → G.Hp → G.Fr × G.Hp
  | [], fr, hp => (fr, hp)
  | o :: l, fr, hp => frzL env l (frz1 G env fr hp o).1 (frz1 G env fr hp o).2
def ossC : List G.C → List Nat
  | [] => []
  | .os o :: cs => o :: ossC cs
  | _ :: cs => ossC cs
def ossT : Option G.T → List Nat
  | some (.c x) => ossC G [x]
  | some (.agg cs) => ossC G cs
  | none => []
/-- The rows that an operation takes as foreign memory. -/
def frzOs (env : G.Env) (fr : G.Fr) (o : Oper) : List Nat := match o.op with
  | .slice _ x _ _ _ => ossT G (opT G env fr x)
  | .store _ a x => match opT G env fr a with
    | some (.c (.ep _ _ _ _)) => ossT G (opT G env fr x)
    | _ => []
  | .buildSlice _ _ ps => ps.toList.flatMap fun p => ossT G (opT G env fr p.2)
  | _ => []
def opsK (K : G.KT) (env : G.Env) (ops : Array Oper) : List Oper → G.Fr → G.Hp → (G.Fr → G.Hp → Option β) → Option β
  | [], fr, hp, k => k fr hp
  | o :: l, fr, hp, k => match frzOs G env fr o with
    | [] => stepK G K env ops fr hp o fun fr hp => opsK K env ops l fr hp k
    | q :: qs => stepK G K env ops (frzL G env (q :: qs) fr hp).1 (frzL G env (q :: qs) fr hp).2 o fun fr hp => opsK K env ops l fr hp k

structure Rl (N : Nat) (w0 : World) (env : G.Env) (fr : G.Fr) (hp : G.Hp) (m : Nat → Value) (tmps : Array Value) (w : World) : Prop where
  hh : HRel G N hp m w
  hf : FRel G env fr hp m tmps w
  bl : Below N w0 w

section
variable {G} {w w' w0 : World} {m m' : Nat → Value} {r : β} {N : Nat} {hp hp' : G.Hp} {env : G.Env} {fr : G.Fr} {tmps : Array Value}
theorem setK_ok {dst : Option Tmp} {d : G.D} {v : Value} {k : G.Fr → Option β} (h : setK G env fr dst d k = some r) (hf : FRel G env fr hp m tmps w) (hd : RepD G w (Rof G hp m w) hp.length m d v) :
    ∃ fr', FRel G env fr' hp m ((⟨tmps, []⟩ : Act).put dst v).tmps w ∧ k fr' = some r ∧ (⟨tmps, []⟩ : Act).put dst v = ⟨((⟨tmps, []⟩ : Act).put dst v).tmps, []⟩ ∧ ((⟨tmps, []⟩ : Act).put dst v).tmps.size = tmps.size := by
  unfold setK at h
  split at h
  · exact ⟨fr, hf, h, rfl, rfl⟩
  · split at h
    · cases h
    · rename_i hne
      exact ⟨_, hf.set hd (fun x hx => hne x hx), h, rfl, by simp [Act.put]⟩
theorem FRel.put {t : Nat} {d : G.D} (h : FRel G env fr hp m tmps w) (hd : RepD G w (Rof G hp m w) hp.length m d (tmps.getD t undef)) : FRel G env (fr.set t d) hp m tmps w := by
  refine ⟨by simp [h.len], fun q x hq => ?_, h.env⟩
  rw [List.getElem?_set] at hq
  by_cases he : t = q
  · subst he
    rw [if_pos rfl] at hq
    split at hq
    · cases hq; exact hd
    · cases hq
  · rw [if_neg he] at hq; exact h.fr q x hq
theorem yielded_of {ops : Array Oper} {j : Nat} {t : Tmp} {b : Bool} (h1 : (ops[j]?).bind (·.dst) = some t) (h2 : tmps.getD t undef = .bool b) : yielded ops tmps j = some b := by
  unfold yielded
  rw [h1]
  simp only [Option.bind_some]
  have : tmps[t]? = some (.bool b) := by
    rcases Nat.lt_or_ge t tmps.size with h | h
    · simp [h] at h2
      simp [h, h2]
    · simp [Array.getElem?_eq_none h] at h2
      cases h2
  rw [this]
theorem unyielded {ops : Array Oper} {j : Nat} {t : Tmp} (h1 : (ops[j]?).bind (·.dst) = some t) (h2 : tmps.getD t undef = .tuple #[]) : yielded ops tmps j = none := by
  unfold yielded
  rw [h1]
  simp only [Option.bind_some]
  cases ht : tmps[t]? with
  | none => rfl
  | some v =>
    have : v = .tuple #[] := by simpa [ht] using h2
    rw [this]
theorem step_cases {K : G.KT} {ops : Array Oper} {o : Oper} {k : G.Fr → G.Hp → Option β} {X : Prop} (hr : Rl G N w0 env fr hp m tmps w) (h : stepK G K env ops fr hp o k = some r)
    (exec : ∀ fr : G.Fr, FRel G env fr hp m tmps w → execK G K env fr hp o k = some r → Region.wanted o (yielded ops tmps) = true → X)
    (skip : ∀ fr : G.Fr, FRel G env fr hp m tmps w → skipK G env fr hp o k = some r → Region.wanted o (yielded ops tmps) = false → X) : X := by
  unfold stepK at h
  split at h
  · rename_i hg
    exact exec fr hr.hf h (by simp [Region.wanted, hg])
  · rename_i j want hg
    split at h
    · rename_i t ht
      split at h
      · cases h
      · rename_i b hfr hne
        have hb : tmps.getD t undef = .bool b := by
          have h0 : RepT G w (Rof G hp m w) hp.length m (.c (.pv (.val (.bool b)))) (tmps.getD t undef) := hr.hf.fr t _ hfr
          exact (valOf_rep (v := .bool b) rfl h0).1
        have hy := yielded_of ht hb
        have hfs : ∀ c, b = c → FRel G env (fr.set t (bV G c)) hp m tmps w := by
          intro c hc
          subst hc
          have := hr.hf.set (t := t) (d := bV G b) (v := .bool b) (RepP.val _ rfl) (fun x hx => hne x hx)
          have hs : tmps.setIfInBounds t (.bool b) = tmps := by
            apply Array.ext_getElem?
            intro i
            rw [Array.getElem?_setIfInBounds]
            split
            · rename_i hi
              subst hi
              rcases Nat.lt_or_ge t tmps.size with h | h
              · simp [h] at hb
                simp [h, hb]
              · simp [h]
            · rfl
          rw [hs] at this
          exact this
        cases want <;> cases b <;> simp only [cond_true, cond_false] at h
        · exact exec _ (hfs _ rfl) h (by simp [Region.wanted, hg, hy])
        · exact skip _ (hfs _ rfl) h (by simp [Region.wanted, hg, hy])
        · exact skip _ (hfs _ rfl) h (by simp [Region.wanted, hg, hy])
        · exact exec _ (hfs _ rfl) h (by simp [Region.wanted, hg, hy])
      · rename_i hfr _
        have hb : tmps.getD t undef = .tuple #[] := by
          obtain ⟨vs, h1, h2, _⟩ := hr.hf.fr t _ hfr
          obtain rfl : vs = [] := List.eq_nil_of_length_eq_zero h2
          exact h1
        exact skip _ hr.hf h (by simp [Region.wanted, hg, unyielded ht hb])
      · cases h
    · cases h
theorem RepP_row' {R R' : Nat → Prop} {n o : Nat} {lk : Bool} {u : G.U} {l : List (G.El u)} (hR : ∀ b, R b → R' b) (hg : ∀ g, blkOf (m o) = some g → R' g) (h : RepO G w R n m N o (.row lk u l)) : RepP G w R' (.sl u l) (m o) := by
  obtain ⟨xs, h1, h2, h3⟩ := h
  rcases h1.2 with ⟨e, e'⟩ | ⟨g, cap, cur, e, f1, f2, f3, f4, f5, f6⟩
  · have : l = [] := List.eq_nil_of_length_eq_zero e'
    subst this
    rw [e]
    exact RepP.sl u [] none 0 0 0 (fun _ _ => undef) (by simp) (by simp) (by simp) (by simp)
  · have hgR : R' g := hg g (by rw [e]; rfl)
    rw [e]
    refine RepP.sl u l _ g 0 cap (fun k j => (xs[k * G.sz u + j]?).getD undef) f3 (fun _ => ⟨rfl, hgR⟩) (fun k x j p hk hj => ?_) (fun k x j p hk hj => ?_)
    · obtain ⟨cv, c1, _⟩ := h2 k x j p hk hj
      have hlt := (List.getElem?_eq_some_iff.1 c1).1
      rw [h1.1] at hlt
      have hc := h1
      rw [e] at hc
      rw [Nat.zero_add, hc.cellAt _ hlt, c1]
      rfl
    · obtain ⟨cv, c1, c2⟩ := h2 k x j p hk hj
      simp only [c1, Option.getD_some]
      exact RepP.mono G hR (fun _ _ => rfl) c2
section
variable {R R' : Nat → Prop} {n : Nat} {o : Nat} {p : G.P'}
theorem RepC.frz (h1 : ∀ b, R b → R' b) (hp : RepP G w R' p (m o)) {c : G.C} {v : Value} (h : RepC G w R n m c v) : RepC G w R' n m (frzC G o p c) v := by
  unfold frzC
  split
  · rename_i q
    split
    · rename_i e
      subst e
      obtain ⟨_, rfl, _⟩ := h
      exact hp
    · exact h
  · exact h.junk' o h1 (fun _ _ => rfl) (Nat.le_refl _) (fun _ _ _ => rfl)
theorem RepL.frz (h1 : ∀ b, R b → R' b) (hp : RepP G w R' p (m o)) {cs : List G.C} {vs : List Value} (h : RepL G w R n m cs vs) : RepL G w R' n m (cs.map (frzC G o p)) vs :=
  ⟨by simpa using h.1, fun i c hi => by
    rw [List.getElem?_map] at hi
    cases hc : cs[i]? with
    | none => rw [hc] at hi; cases hi
    | some c0 =>
      rw [hc] at hi; cases hi
      obtain ⟨x, h3, h4⟩ := h.2 i c0 hc
      exact ⟨x, h3, h4.frz h1 hp⟩⟩
theorem RepT.frz (h1 : ∀ b, R b → R' b) (hp : RepP G w R' p (m o)) {t : G.T} {v : Value} (h : RepT G w R n m t v) : RepT G w R' n m (frzT G o p t) v := by
  cases t with
  | c x => exact RepC.frz h1 hp h
  | agg cs => obtain ⟨vs, e, hl⟩ := h; exact ⟨vs, e, hl.frz h1 hp⟩
theorem RepD.frz (h1 : ∀ b, R b → R' b) (hp : RepP G w R' p (m o)) {d : G.D} {v : Value} (h : RepD G w R n m d v) : RepD G w R' n m (frzD G o p d) v := by
  cases d with
  | t x => exact RepT.frz h1 hp h
  | tup ts =>
    obtain ⟨vs, e, hl, hv⟩ := h
    refine ⟨vs, e, by simpa using hl, fun i t hi => ?_⟩
    rw [List.getElem?_map] at hi
    cases hc : ts[i]? with
    | none => rw [hc] at hi; cases hi
    | some t0 =>
      rw [hc] at hi; cases hi
      obtain ⟨x, h3, h4⟩ := hv i t0 hc
      exact ⟨x, h3, h4.frz h1 hp⟩
theorem RepO.frz (h1 : ∀ b, R b → R' b) (hp : RepP G w R' p (m o)) {q : Nat} {ob : G.O} (h : RepO G w R n m N q ob) : RepO G w R' n m N q (frzO G o p ob) := by
  cases ob with
  | box cs =>
    obtain ⟨b, t, vs, e1, e2, e3, e4, e5⟩ := h
    exact ⟨b, t, vs, e1, e2, e3, e4.frz h1 hp, e5⟩
  | _ => exact RepO.mono h1 (fun _ _ => rfl) (Nat.le_refl _) (fun _ _ _ => rfl) rfl (fun _ _ _ => rfl) h
end
theorem frzO_live (o : Nat) (p : G.P') (ob : G.O) : (frzO G o p ob).live = ob.live := by cases ob <;> rfl
theorem frzO_mov (o : Nat) (p : G.P') (ob : G.O) : (frzO G o p ob).mov = ob.mov := by cases ob <;> rfl
theorem frzO_lockd (o : Nat) (p : G.P') (ob : G.O) (h : ob.lockd = true) : frzO G o p ob = ob := by cases ob <;> first | rfl | cases h
theorem frz1_ok (hr : Rl G N w0 env fr hp m tmps w) (o : Nat) : Rl G N w0 env (frz1 G env fr hp o).1 (frz1 G env fr hp o).2 m tmps w ∧ Kp G hp m w (frz1 G env fr hp o).2 m w := by
  unfold frz1
  split
  · rename_i u l ho
    split
    · rename_i hc
      have hlt := (List.getElem?_eq_some_iff.1 ho).1
      have hget : ∀ (q : Nat) (x : G.O), ((hp.map (frzO G o (.sl u l))).set o .dead)[q]? = some x → (q = o ∧ x = .dead) ∨ (q ≠ o ∧ ∃ y, hp[q]? = some y ∧ x = frzO G o (.sl u l) y) := by
        intro q x hx
        rw [List.getElem?_set] at hx
        by_cases he : o = q
        · subst he
          rw [if_pos rfl] at hx
          split at hx
          · cases hx; exact .inl ⟨rfl, rfl⟩
          · cases hx
        · rw [if_neg he, List.getElem?_map] at hx
          cases hy : hp[q]? with
          | none => rw [hy] at hx; cases hx
          | some y => rw [hy] at hx; cases hx; exact .inr ⟨fun e => he e.symm, y, rfl, rfl⟩
      have hro : ∀ b, Rof G hp m w b → Rof G ((hp.map (frzO G o (.sl u l))).set o .dead) m w b := by
        rintro b ⟨h1, h2⟩
        refine ⟨h1, ?_⟩
        rintro ⟨q, x, hx, hl, hb⟩
        rcases hget q x hx with ⟨rfl, rfl⟩ | ⟨_, y, hy, rfl⟩
        · cases hl
        · exact h2 ⟨q, y, hy, by rw [← frzO_live]; exact hl, hb⟩
      have hrow := hr.hh.obj o _ ho
      have hp0 : RepP G w (Rof G ((hp.map (frzO G o (.sl u l))).set o .dead) m w) (.sl u l) (m o) := by
        refine RepP_row' hro (fun g hg => ⟨(hrow.blk rfl hg).2, ?_⟩) hrow
        rintro ⟨q, x, hx, hl, hb⟩
        rcases hget q x hx with ⟨rfl, rfl⟩ | ⟨hne, y, hy, rfl⟩
        · cases hl
        · exact hne (hr.hh.sep q o y _ g hy ho (by rw [← frzO_live]; exact hl) rfl hb hg)
      have hlen : ((hp.map (frzO G o (.sl u l))).set o .dead).length = hp.length := by simp
      refine ⟨⟨⟨fun q x hx => ?_, fun q q' x x' b hx hx' hl hl' hb hb' => ?_, hr.hh.base⟩, ⟨by simp [hr.hf.len], fun t d hd => ?_, fun t d hd => ⟨(hr.hf.env t d hd).1, ?_⟩⟩, hr.bl⟩, ⟨hro, fun _ _ => rfl, fun q x hq hl => ?_, fun q x hq hm => ⟨rfl, ?_⟩, Nat.le_of_eq hlen.symm, fun _ _ _ _ _ _ => rfl⟩⟩
      · rw [hlen]
        rcases hget q x hx with ⟨rfl, rfl⟩ | ⟨_, y, hy, rfl⟩
        · trivial
        · exact (hr.hh.obj q y hy).frz hro hp0
      · rcases hget q x hx with ⟨rfl, rfl⟩ | ⟨_, y, hy, rfl⟩
        · cases hl
        · rcases hget q' x' hx' with ⟨rfl, rfl⟩ | ⟨_, y', hy', rfl⟩
          · cases hl'
          · exact hr.hh.sep q q' y y' b hy hy' (by rw [← frzO_live]; exact hl) (by rw [← frzO_live]; exact hl') hb hb'
      · rw [hlen]
        rw [List.getElem?_map] at hd
        cases hd0 : fr[t]? with
        | none => rw [hd0] at hd; cases hd
        | some d0 => rw [hd0] at hd; cases hd; exact (hr.hf.fr t d0 hd0).frz hro hp0
      · rw [hlen]
        exact (hr.hf.env t d hd).2.mono hro (fun _ _ => rfl) (Nat.le_refl _) (fun _ _ _ => rfl)
      · have hne : q ≠ o := fun e => by
          subst e
          rw [ho] at hq
          cases hq
          cases hl
        rw [List.getElem?_set, if_neg (fun e => hne e.symm), List.getElem?_map, hq, Option.map_some, frzO_lockd _ _ _ hl]
      · have hne : q ≠ o := fun e => by
          subst e
          rw [ho] at hq
          cases hq
          cases hm
        rw [List.getElem?_set, if_neg (fun e => hne e.symm), List.getElem?_map, hq]
        exact ⟨_, rfl, by rw [frzO_mov]; exact hm⟩
    · exact ⟨hr, Kp.refl _ _ _⟩
  · exact ⟨hr, Kp.refl _ _ _⟩
theorem frzL_ok : ∀ (l : List Nat) {fr : G.Fr} {hp : G.Hp}, Rl G N w0 env fr hp m tmps w → Rl G N w0 env (frzL G env l fr hp).1 (frzL G env l fr hp).2 m tmps w ∧ Kp G hp m w (frzL G env l fr hp).2 m w
  | [], _, _, hr => ⟨hr, Kp.refl _ _ _⟩
  | o :: l, fr, hp, hr => by
    obtain ⟨h1, h2⟩ := frz1_ok hr o
    obtain ⟨h3, h4⟩ := frzL_ok l h1
    exact ⟨h3, h2.trans h4⟩
theorem opsK_ok (hok : G.Ok) {K : G.KT} (hK : CallOk G K) {ops : Array Oper} {Q : Exit → Act → World → Prop} : ∀ (l : List Oper) {k : G.Fr → G.Hp → Option β} {fr : G.Fr} {hp : G.Hp} {m : Nat → Value} {tmps : Array Value} {w : World},
    Rl G N w0 env fr hp m tmps w → opsK G K env ops l fr hp k = some r →
    (∀ fr' hp' m' tmps' w', Rl G N w0 env fr' hp' m' tmps' w' → Kp G hp m w hp' m' w' → tmps'.size = tmps.size → k fr' hp' = some r → Q .normal ⟨tmps', []⟩ w') → wpList P ops Q l ⟨tmps, []⟩ w
  | [], _, _, _, _, _, _, hr, h, hn => hn _ _ _ _ _ hr (Kp.refl _ _ _) rfl h
  | o :: l, k, fr, hp, m, tmps, w, hr, h, hn => by
    have main : ∀ (fr : G.Fr) (hp : G.Hp), Rl G N w0 env fr hp m tmps w → stepK G K env ops fr hp o (fun fr hp => opsK G K env ops l fr hp k) = some r →
        (∀ fr' hp' m' tmps' w', Rl G N w0 env fr' hp' m' tmps' w' → Kp G hp m w hp' m' w' → tmps'.size = tmps.size → k fr' hp' = some r → Q .normal ⟨tmps', []⟩ w') → wpList P ops Q (o :: l) ⟨tmps, []⟩ w := by
      intro fr hp hr h hn
      have exec : ∀ fr : G.Fr, FRel G env fr hp m tmps w → execK G K env fr hp o (fun fr hp => opsK G K env ops l fr hp k) = some r → Region.wanted o (yielded ops tmps) = true → wpList P ops Q (o :: l) ⟨tmps, []⟩ w := by
        intro fr hf h hw
        unfold wpList
        rw [if_pos hw]
        refine .inl (opK_ok hok hK hr.hh hf h ?_)
        intro fr1 hp1 m1 w1 d v h1 h2 h3 h4 h5 h6 _
        obtain ⟨fr2, h7, h8, h9, h10⟩ := setK_ok h6 h2 h4
        rw [h9]
        exact opsK_ok hok hK l ⟨h1, h7, hr.bl.trans h3⟩ h8 fun fr' hp' m' tmps' w' g1 g2 g4 g3 => hn fr' hp' m' tmps' w' g1 (h5.trans g2) (g4.trans h10) g3
      have skip : ∀ fr : G.Fr, FRel G env fr hp m tmps w → skipK G env fr hp o (fun fr hp => opsK G K env ops l fr hp k) = some r → Region.wanted o (yielded ops tmps) = false → wpList P ops Q (o :: l) ⟨tmps, []⟩ w := by
        intro fr hf h hw
        unfold wpList
        rw [if_neg (by simp [hw])]
        obtain ⟨fr2, h7, h8, h9, h10⟩ := setK_ok (v := undef) h hf ⟨[], rfl, rfl, by simp⟩
        rw [h9]
        exact opsK_ok hok hK l ⟨hr.hh, h7, hr.bl⟩ h8 fun fr' hp' m' tmps' w' g1 g2 g4 g3 => hn fr' hp' m' tmps' w' g1 g2 (g4.trans h10) g3
      exact step_cases hr h exec skip
    unfold opsK at h
    split at h
    · exact main fr hp hr h hn
    · rename_i q qs hq
      obtain ⟨h1, h2⟩ := frzL_ok (q :: qs) hr
      exact main _ _ h1 h fun fr' hp' m' tmps' w' g1 g2 g3 g4 => hn fr' hp' m' tmps' w' g1 (h2.trans g2) g3 g4
end
end Go.Proofs.Ytmdghocpelkcoaa
