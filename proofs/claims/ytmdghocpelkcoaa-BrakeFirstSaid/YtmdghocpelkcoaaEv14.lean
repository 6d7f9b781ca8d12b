/- The typed reading: what is kept of a state where ways meet (a loop's head, a join). -/
import Derived.Test.YtmdghocpelkcoaaEvd
namespace Go.Proofs.Ytmdghocpelkcoaa
open Go.RowKit

inductive Kd (U : Type) : Type where
  | tv (u : U)
  | os (o : Nat)
inductive Ob (U : Type) : Type where
  | row (u : U)
  | box (u : U)
  | map (t : TypeId) (b : Bool)
structure Tp (U : Type) : Type where
  slots : List (Nat × Kd U)
  objs : List (Nat × Ob U)

variable {P : Program} (G : Sg P) {β : Type}
def TyR : List (Nat × Ob G.U) → Type
  | [] => Unit
  | (_, .row u) :: os => List (G.El u) × TyR os
  | (_, .box u) :: os => G.El u × TyR os
  | (_, .map _ _) :: os => List (ByteArray × Bool) × TyR os
def TyS : List (Nat × Kd G.U) → List (Nat × Ob G.U) → Type
  | [], os => TyR G os
  | (_, .tv u) :: ss, os => G.El u × TyS ss os
  | (_, .os _) :: ss, os => TyS ss os
abbrev Sg.Ty (T : Tp G.U) : Type := TyS G T.slots T.objs
def unS (u : G.U) (t : G.T) : Option (G.El u) := match G.ag u, t with
  | true, .agg cs => match pvs G cs with
    | some ps => G.unrow u ps
    | none => none
  | false, .c (.pv p) => G.unrow u [p]
  | _, _ => none
/-- Plain cells: rows that the state beyond does not keep are foreign memory from now on. -/
def pvN (n : Nat) (hp : G.Hp) : List G.C → Option (List G.P')
  | [] => some []
  | c :: cs => match c with
    | .pv p => match pvN n hp cs with
      | some ps => some (p :: ps)
      | none => none
    | .os o => if n ≤ o then (match hp[o]?, pvN n hp cs with
      | some (.row _ u l), some ps => some (.sl u l :: ps)
      | _, _ => none) else none
    | _ => none
def unN (n : Nat) (hp : G.Hp) (u : G.U) (t : G.T) : Option (G.El u) := match G.ag u, t with
  | true, .agg cs => match pvN G n hp cs with
    | some ps => G.unrow u ps
    | none => none
  | false, .c c => match pvN G n hp [c] with
    | some ps => G.unrow u ps
    | none => none
  | _, _ => none
def encR : (os : List (Nat × Ob G.U)) → TyR G os → G.Hp → G.Hp
  | [], _, hp => hp
  | (o, .row u) :: os, (l, y), hp => encR os y (hp.set o (.row false u l))
  | (o, .box u) :: os, (x, y), hp => encR os y (hp.set o (.box ((G.row u x).map .pv)))
  | (o, .map t b) :: os, (l, y), hp => encR os y (hp.set o (.map false t b l))
def objPart : (ss : List (Nat × Kd G.U)) → (os : List (Nat × Ob G.U)) → TyS G ss os → TyR G os
  | [], _, y => y
  | (_, .tv _) :: ss, os, (_, y) => objPart ss os y
  | (_, .os _) :: ss, os, y => objPart ss os y
def encS : (ss : List (Nat × Kd G.U)) → (os : List (Nat × Ob G.U)) → TyS G ss os → G.Fr → G.Fr
  | [], _, _, fr => fr
  | (t, .tv u) :: ss, os, (x, y), fr => encS ss os y (fr.set t (.t (toT G u x)))
  | (t, .os o) :: ss, os, y, fr => encS ss os y (fr.set t (.t (.c (.os o))))
def decR : (os : List (Nat × Ob G.U)) → G.Hp → Option (TyR G os)
  | [], _ => some ()
  | (o, .row u) :: os, hp => match hp[o]? with
    | some (.row false _ l) => match castL G (v := u) l, decR os hp with
      | some l, some y => some (l, y)
      | _, _ => none
    | _ => none
  | (o, .box u) :: os, hp => match hp[o]? with
    | some (.box cs) => match pvs G cs, decR os hp with
      | some ps, some y => match G.unrow u ps with
        | some x => some (x, y)
        | none => none
      | _, _ => none
    | _ => none
  | (o, .map t b) :: os, hp => match hp[o]? with
    | some (.map false t' b' l) => if t' = t ∧ b' = b then (match decR os hp with
      | some y => some (l, y)
      | none => none) else none
    | _ => none
def decS (n : Nat) (env : G.Env) (fr : G.Fr) (hp : G.Hp) : (ss : List (Nat × Kd G.U)) → (os : List (Nat × Ob G.U)) → Option (TyS G ss os)
  | [], os => decR G os hp
  | (t, .tv u) :: ss, os => match getS G env fr t with
    | .t x => match unN G n hp u x, decS n env fr hp ss os with
      | some x, some y => some (x, y)
      | _, _ => none
    | _ => none
  | (t, .os o) :: ss, os => match getS G env fr t with
    | .t (.c (.os o')) => if o' = o ∧ o < n then decS n env fr hp ss os else none
    | _ => none
def lockO : G.O → G.O
  | .box cs => .lock cs
  | .row _ u l => .row true u l
  | .map _ t b l => .map true t b l
  | ob => ob

section
variable {G} {w w' w0 : World} {R R' : Nat → Prop} {n n' : Nat} {m m' : Nat → Value} {r : β} {N : Nat} {hp hp' : G.Hp} {env env' : G.Env} {fr fr' : G.Fr} {tmps : Array Value}
theorem RepC.lt {c : G.C} {v : Value} (h : RepC G w R n m c v) : ∀ o ∈ refs G c, o < n := by
  cases c with
  | os o => intro q hq; simp [refs] at hq; subst hq; exact h.1
  | ptr o f => intro q hq; simp [refs] at hq; subst hq; exact h.1
  | ep u o i j => intro q hq; simp [refs] at hq; subst hq; exact h.1
  | clo f caps =>
    intro q hq
    obtain ⟨vs, _, _, h3⟩ := h
    obtain ⟨i, hi, rfl⟩ := List.mem_iff_getElem.1 hq
    exact (h3 i _ (List.getElem?_eq_getElem hi)).1
  | junk => intro q hq; cases hq
  | pv p => intro q hq; cases hq
  | rp cells => intro q hq; cases hq
  | fn u r F => intro q hq; cases hq
theorem RepC.lower {c : G.C} {v : Value} (h : RepC G w R n m c v) (hl : ∀ o ∈ refs G c, o < n') : RepC G w R n' m c v := by
  cases c with
  | junk => trivial
  | pv p => exact h
  | rp cells => exact h
  | fn u r F => exact h
  | os o => exact ⟨hl o (by simp [refs]), h.2⟩
  | ptr o f => exact ⟨hl o (by simp [refs]), h.2⟩
  | ep u o i j => exact ⟨hl o (by simp [refs]), h.2⟩
  | clo f caps =>
    obtain ⟨vs, e1, e2, e3⟩ := h
    exact ⟨vs, e1, e2, fun i o hi => ⟨hl o (List.mem_of_getElem? hi), (e3 i o hi).2⟩⟩
theorem RepL.lt {cs : List G.C} {vs : List Value} (h : RepL G w R n m cs vs) : ∀ o ∈ cs.flatMap (refs G), o < n := by
  intro o ho
  obtain ⟨c, hc, ho⟩ := List.mem_flatMap.1 ho
  obtain ⟨i, hi, rfl⟩ := List.mem_iff_getElem.1 hc
  obtain ⟨x, _, h2⟩ := h.2 i _ (List.getElem?_eq_getElem hi)
  exact h2.lt o ho
theorem RepL.lower {cs : List G.C} {vs : List Value} (h : RepL G w R n m cs vs) (hl : ∀ o ∈ cs.flatMap (refs G), o < n') : RepL G w R n' m cs vs :=
  ⟨h.1, fun i c hi => by
    obtain ⟨x, h1, h2⟩ := h.2 i c hi
    exact ⟨x, h1, h2.lower fun o ho => hl o (List.mem_flatMap.2 ⟨c, List.mem_of_getElem? hi, ho⟩)⟩⟩
theorem RepT.lt {t : G.T} {v : Value} (h : RepT G w R n m t v) : ∀ o ∈ refsT t, o < n := by
  cases t with
  | c x => exact RepC.lt h
  | agg cs => obtain ⟨vs, _, hl⟩ := h; exact hl.lt
theorem RepT.lower {t : G.T} {v : Value} (h : RepT G w R n m t v) (hl : ∀ o ∈ refsT t, o < n') : RepT G w R n' m t v := by
  cases t with
  | c x => exact RepC.lower h hl
  | agg cs => obtain ⟨vs, e, h⟩ := h; exact ⟨vs, e, h.lower hl⟩
theorem RepD.lt {d : G.D} {v : Value} (h : RepD G w R n m d v) : ∀ o ∈ refsD d, o < n := by
  cases d with
  | t x => exact RepT.lt h
  | tup ts =>
    obtain ⟨vs, _, _, hv⟩ := h
    intro o ho
    obtain ⟨t, ht, ho⟩ := List.mem_flatMap.1 ho
    obtain ⟨i, hi, rfl⟩ := List.mem_iff_getElem.1 ht
    obtain ⟨x, _, h2⟩ := hv i _ (List.getElem?_eq_getElem hi)
    exact h2.lt o ho
theorem RepD.lower {d : G.D} {v : Value} (h : RepD G w R n m d v) (hl : ∀ o ∈ refsD d, o < n') : RepD G w R n' m d v := by
  cases d with
  | t x => exact RepT.lower h hl
  | tup ts =>
    obtain ⟨vs, e, h1, hv⟩ := h
    exact ⟨vs, e, h1, fun i t hi => by
      obtain ⟨x, h3, h4⟩ := hv i t hi
      exact ⟨x, h3, h4.lower fun o ho => hl o (List.mem_flatMap.2 ⟨t, List.mem_of_getElem? hi, ho⟩)⟩⟩

theorem unS_ok (hok : G.Ok) {u : G.U} {t : G.T} {x : G.El u} {v : Value} (h : unS G u t = some x) (ht : RepT G w R n m t v) : RepT G w R n' m' (toT G u x) v := by
  unfold unS at h
  split at h
  · rename_i cs hag
    split at h
    · rename_i ps hps
      obtain ⟨vs, rfl, hl⟩ := ht
      obtain ⟨h1, h2⟩ := pvs_ok hps hl
      obtain ⟨h3, h4⟩ := unrow_ok hok h h1 h2
      unfold toT
      rw [hag]
      exact ⟨vs, rfl, RepL_pv (by rw [hok.row_sz]; exact h3) h4⟩
    · cases h
  · rename_i p hag
    obtain ⟨_, h4⟩ := hok.unrow u [p] x h
    obtain ⟨q, h5, h6⟩ := h4 0 p rfl
    unfold toT
    rw [hag]
    cases hr : G.row u x with
    | nil => rw [hr] at h5; cases h5
    | cons p' ps =>
      rw [hr] at h5
      cases h5
      exact RepP.weak G ht h6
  · cases h
theorem pvN_ok (hh : HRel G N hp m w) {hp2 : G.Hp} (hro : ∀ b, Rof G hp m w b → Rof G hp2 m w b) (hown : ∀ (o : Nat) (ob : G.O), hp2[o]? = some ob → ob.live = true → ∃ ob', hp[o]? = some ob' ∧ ob'.live = true) :
    ∀ {cs : List G.C} {ps : List G.P'} {vs : List Value}, pvN G hp2.length hp cs = some ps → RepL G w (Rof G hp m w) n m cs vs →
    vs.length = ps.length ∧ ∀ (j : Nat) (p : G.P'), ps[j]? = some p → ∃ x, vs[j]? = some x ∧ RepP G w (Rof G hp2 m w) p x
  | [], ps, vs, h, hl => by cases h; exact ⟨hl.1, by simp⟩
  | c :: cs, ps, vs, h, hl => by
    cases vs with
    | nil => have := hl.1; simp at this
    | cons v vs =>
      have htl : RepL G w (Rof G hp m w) n m cs vs := by have := hl.drop 1; simpa using this
      obtain ⟨v', hv, hrep⟩ := hl.2 0 c rfl
      cases hv
      unfold pvN at h
      split at h
      · rename_i p
        split at h
        · rename_i ps' hps
          cases h
          obtain ⟨h1, h2⟩ := pvN_ok hh hro hown hps htl
          refine ⟨by simp [h1], fun j q hj => ?_⟩
          cases j with
          | zero => cases hj; exact ⟨v, rfl, RepP.mono G hro (fun _ _ => rfl) hrep⟩
          | succ j => exact h2 j q hj
        · cases h
      · rename_i o
        split at h
        · rename_i hno
          split at h
          · rename_i lk u l ps' ho hps
            cases h
            obtain ⟨h1, h2⟩ := pvN_ok hh hro hown hps htl
            refine ⟨by simp [h1], fun j q hj => ?_⟩
            cases j with
            | zero =>
              cases hj
              obtain ⟨_, rfl, _⟩ := hrep
              have hrow := hh.obj o _ ho
              refine ⟨_, rfl, RepP_row' hro (fun g hg => ⟨(hrow.blk rfl hg).2, ?_⟩) hrow⟩
              rintro ⟨q, x, hx, hl2, hb⟩
              obtain ⟨x', hx', hl3⟩ := hown q x hx hl2
              have := hh.sep q o x' _ g hx' ho hl3 rfl hb hg
              have := (List.getElem?_eq_some_iff.1 hx).1
              omega
            | succ j => exact h2 j q hj
          · cases h
        · cases h
      · cases h
theorem unN_ok (hok : G.Ok) (hh : HRel G N hp m w) {hp2 : G.Hp} (hro : ∀ b, Rof G hp m w b → Rof G hp2 m w b) (hown : ∀ (o : Nat) (ob : G.O), hp2[o]? = some ob → ob.live = true → ∃ ob', hp[o]? = some ob' ∧ ob'.live = true)
    {u : G.U} {t : G.T} {x : G.El u} {v : Value} (h : unN G hp2.length hp u t = some x) (ht : RepT G w (Rof G hp m w) n m t v) : RepT G w (Rof G hp2 m w) n' m' (toT G u x) v := by
  unfold unN at h
  split at h
  · rename_i cs hag
    split at h
    · rename_i ps hps
      obtain ⟨vs, rfl, hl⟩ := ht
      obtain ⟨h1, h2⟩ := pvN_ok hh hro hown hps hl
      obtain ⟨h3, h4⟩ := unrow_ok hok h h1 h2
      exact toT_of hok (vs := vs) (by rw [hag]) h3 h4
    · cases h
  · rename_i c hag
    split at h
    · rename_i ps hps
      obtain ⟨h1, h2⟩ := pvN_ok hh hro hown (vs := [v]) hps ⟨rfl, fun i c' hi => by
        cases i with
        | zero => cases hi; exact ⟨v, rfl, ht⟩
        | succ i => cases hi⟩
      obtain ⟨h3, h4⟩ := unrow_ok hok h h1 h2
      exact toT_of hok (vs := [v]) (by rw [hag]) h3 h4
    · cases h
  · cases h
theorem toT_refs (u : G.U) (x : G.El u) : refsT (toT G u x) = [] := by
  unfold toT
  split
  · rfl
  · simp only [refsT, List.flatMap_map]
    rw [List.flatMap_eq_nil_iff]
    intro p _
    rfl
/-- One object stands for another. -/
structure Cov (G : Sg P) (n : Nat) (a b : G.O) : Prop where
  live : b.live = true → a.live = true
  rep : ∀ (w : World) (R : Nat → Prop) (k : Nat) (m : Nat → Value) (N o : Nat), RepO G w R k m N o a → RepO G w R n m N o b
theorem HRel.cover (hh : HRel G N hp m w) {hp2 : G.Hp} (h : ∀ (o : Nat) (ob : G.O), hp2[o]? = some ob → ob = .dead ∨ ∃ ob', hp[o]? = some ob' ∧ Cov G hp2.length ob' ob) :
    HRel G N hp2 m w ∧ (∀ b, Rof G hp m w b → Rof G hp2 m w b) ∧ ∀ (o : Nat) (ob : G.O), hp2[o]? = some ob → ob.live = true → ∃ ob', hp[o]? = some ob' ∧ ob'.live = true := by
  have hget : ∀ (o : Nat) (ob : G.O), hp2[o]? = some ob → ob.live = true → ∃ ob', hp[o]? = some ob' ∧ ob'.live = true := by
    intro o ob ho hl
    rcases h o ob ho with rfl | ⟨ob', h1, h2⟩
    · cases hl
    · exact ⟨ob', h1, h2.live hl⟩
  have hro : ∀ b, Rof G hp m w b → Rof G hp2 m w b := by
    rintro b ⟨h1, h2⟩
    refine ⟨h1, ?_⟩
    rintro ⟨o, ob, ho, hl, hb⟩
    obtain ⟨ob', h3, h4⟩ := hget o ob ho hl
    exact h2 ⟨o, ob', h3, h4, hb⟩
  refine ⟨⟨fun o ob ho => ?_, fun o o' ob ob' b ho ho' hl hl' hb hb' => ?_, hh.base⟩, hro, hget⟩
  · rcases h o ob ho with rfl | ⟨ob', h1, h2⟩
    · trivial
    · exact RepO.mono hro (fun _ _ => rfl) (Nat.le_refl _) (fun _ _ _ => rfl) rfl (fun _ _ _ => rfl) (h2.rep _ _ _ _ _ _ (hh.obj o ob' h1))
  · obtain ⟨x, h1, h2⟩ := hget o ob ho hl
    obtain ⟨x', h1', h2'⟩ := hget o' ob' ho' hl'
    exact hh.sep o o' x x' b h1 h1' h2 h2' hb hb'
theorem cov_lock {ob ob' : G.O} (h : lockO G ob' = lockO G ob) (hr : ∀ o ∈ refsO ob, o < n) : Cov G n ob' ob := by
  refine ⟨fun hl => ?_, fun w R k m N o ho => ?_⟩
  · cases ob <;> cases ob' <;> first | rfl | (exfalso; cases hl; done) | (exfalso; cases h; done)
  · have box : ∀ cs, RepO G w R k m N o (.box cs) → (∀ o ∈ cs.flatMap (refs G), o < n) → RepO G w R n m N o (.box cs) := by
      rintro cs ⟨b, t, vs, e1, e2, e3, e4, e5⟩ hr
      exact ⟨b, t, vs, e1, e2, e3, e4.lower hr, e5⟩
    cases ob <;> cases ob' <;> simp only [lockO] at h <;> first | trivial | (cases h; done) | (cases h; exact box _ ho hr) | (cases h; exact ho)
theorem cov_row (lk : Bool) (u : G.U) (l : List (G.El u)) : Cov G n (.row lk u l) (.row false u l) := ⟨fun _ => rfl, fun _ _ _ _ _ _ h => h⟩
theorem cov_map (lk : Bool) (t : TypeId) (b : Bool) (l : List (ByteArray × Bool)) : Cov G n (.map lk t b l) (.map false t b l) := ⟨fun _ => rfl, fun _ _ _ _ _ _ h => h⟩
theorem cov_box (hok : G.Ok) {u : G.U} {cs : List G.C} {ps : List G.P'} {x : G.El u} (h1 : pvs G cs = some ps) (h2 : G.unrow u ps = some x) : Cov G n (.box cs) (.box ((G.row u x).map .pv)) := by
  refine ⟨fun _ => rfl, fun w R k m N o ho => ?_⟩
  obtain ⟨b, t, vs, e1, e2, e3, e4, e5⟩ := ho
  obtain ⟨h3, h4⟩ := pvs_ok h1 e4
  obtain ⟨h5, h6⟩ := unrow_ok hok h2 h3 h4
  exact ⟨b, t, vs, e1, e2, e3, RepL_pv (by rw [hok.row_sz]; exact h5) h6, e5⟩
theorem encR_length : ∀ (os : List (Nat × Ob G.U)) (y : TyR G os) (B : G.Hp), (encR G os y B).length = B.length
  | [], _, _ => rfl
  | (o, .row u) :: os, (l, y), B => by show (encR G os y (B.set o (.row false u l))).length = _; rw [encR_length os]; simp
  | (o, .box u) :: os, (l, y), B => by show (encR G os y (B.set o (.box ((G.row u l).map .pv)))).length = _; rw [encR_length os]; simp
  | (o, .map t b) :: os, (l, y), B => by show (encR G os y (B.set o (.map false t b l))).length = _; rw [encR_length os]; simp
theorem encR_cov (hok : G.Ok) : ∀ (os : List (Nat × Ob G.U)) (y : TyR G os) (B : G.Hp), decR G os hp = some y →
    (∀ (o : Nat) (ob : G.O), B[o]? = some ob → (∃ p ∈ os, p.1 = o) ∨ ob = .dead ∨ ∃ ob', hp[o]? = some ob' ∧ Cov G n ob' ob) →
    ∀ (o : Nat) (ob : G.O), (encR G os y B)[o]? = some ob → ob = .dead ∨ ∃ ob', hp[o]? = some ob' ∧ Cov G n ob' ob
  | [], _, _, _, hB => fun o ob ho => by
    rcases hB o ob ho with ⟨p, hp, _⟩ | h
    · cases hp
    · exact h
  | (q, .row u) :: os, (l, y), B, hd, hB => by
    unfold decR at hd
    split at hd
    · rename_i u' l' hq
      split at hd
      · rename_i l2 y2 hl hy
        cases hd
        obtain ⟨rfl, rfl⟩ := castL_some hl
        refine encR_cov hok os _ (B.set q (.row false u' l')) hy fun o ob ho => ?_
        rw [List.getElem?_set] at ho
        by_cases he : q = o
        · subst he
          rw [if_pos rfl] at ho
          split at ho
          · cases ho; exact .inr (.inr ⟨_, hq, cov_row _ _ _⟩)
          · cases ho
        · rw [if_neg he] at ho
          rcases hB o ob ho with ⟨p, hp, h1⟩ | h
          · rcases List.mem_cons.1 hp with rfl | hp
            · exact absurd h1 he
            · exact .inl ⟨p, hp, h1⟩
          · exact .inr h
      · cases hd
    · cases hd
  | (q, .box u) :: os, (l, y), B, hd, hB => by
    unfold decR at hd
    split at hd
    · rename_i cs hq
      split at hd
      · rename_i ps y2 hps hy
        split at hd
        · rename_i x hx
          cases hd
          refine encR_cov hok os _ (B.set q (.box ((G.row u l).map .pv))) hy fun o ob ho => ?_
          rw [List.getElem?_set] at ho
          by_cases he : q = o
          · subst he
            rw [if_pos rfl] at ho
            split at ho
            · cases ho; exact .inr (.inr ⟨_, hq, cov_box hok hps hx⟩)
            · cases ho
          · rw [if_neg he] at ho
            rcases hB o ob ho with ⟨p, hp, h1⟩ | h
            · rcases List.mem_cons.1 hp with rfl | hp
              · exact absurd h1 he
              · exact .inl ⟨p, hp, h1⟩
            · exact .inr h
        · cases hd
      · cases hd
    · cases hd
  | (q, .map t b) :: os, (l, y), B, hd, hB => by
    unfold decR at hd
    split at hd
    · rename_i t' b' l' hq
      split at hd
      · rename_i hc
        obtain ⟨rfl, rfl⟩ := hc
        split at hd
        · rename_i y2 hy
          cases hd
          refine encR_cov hok os _ (B.set q (.map false t' b' l)) hy fun o ob ho => ?_
          rw [List.getElem?_set] at ho
          by_cases he : q = o
          · subst he
            rw [if_pos rfl] at ho
            split at ho
            · cases ho; exact .inr (.inr ⟨_, hq, cov_map _ _ _ _⟩)
            · cases ho
          · rw [if_neg he] at ho
            rcases hB o ob ho with ⟨p, hp, h1⟩ | h
            · rcases List.mem_cons.1 hp with rfl | hp
              · exact absurd h1 he
              · exact .inl ⟨p, hp, h1⟩
            · exact .inr h
        · cases hd
      · cases hd
    · cases hd
theorem encR_mov : ∀ (os : List (Nat × Ob G.U)) (y : TyR G os) (B : G.Hp), decR G os hp = some y →
    ∀ (o : Nat) (ob : G.O), (encR G os y B)[o]? = some ob → B[o]? = some ob ∨ ∃ ob', hp[o]? = some ob' ∧ ob'.mov = ob.mov
  | [], _, _, _ => fun o ob ho => .inl ho
  | (q, .row u) :: os, (l, y), B, hd => by
    unfold decR at hd
    split at hd
    · rename_i u' l' hq
      split at hd
      · rename_i l2 y2 hl hy
        cases hd
        intro o ob ho
        rcases encR_mov os _ (B.set q (.row false u l)) hy o ob ho with h | h
        · rw [List.getElem?_set] at h
          by_cases he : q = o
          · subst he
            rw [if_pos rfl] at h
            split at h
            · cases h; exact .inr ⟨_, hq, rfl⟩
            · cases h
          · rw [if_neg he] at h; exact .inl h
        · exact .inr h
      · cases hd
    · cases hd
  | (q, .box u) :: os, (l, y), B, hd => by
    unfold decR at hd
    split at hd
    · rename_i cs hq
      split at hd
      · rename_i ps y2 hps hy
        split at hd
        · rename_i x hx
          cases hd
          intro o ob ho
          rcases encR_mov os _ (B.set q (.box ((G.row u l).map .pv))) hy o ob ho with h | h
          · rw [List.getElem?_set] at h
            by_cases he : q = o
            · subst he
              rw [if_pos rfl] at h
              split at h
              · cases h; exact .inr ⟨_, hq, rfl⟩
              · cases h
            · rw [if_neg he] at h; exact .inl h
          · exact .inr h
        · cases hd
      · cases hd
    · cases hd
  | (q, .map t b) :: os, (l, y), B, hd => by
    unfold decR at hd
    split at hd
    · rename_i t' b' l' hq
      split at hd
      · split at hd
        · rename_i y2 hy
          cases hd
          intro o ob ho
          rcases encR_mov os _ (B.set q (.map false t b l)) hy o ob ho with h | h
          · rw [List.getElem?_set] at h
            by_cases he : q = o
            · subst he
              rw [if_pos rfl] at h
              split at h
              · cases h; exact .inr ⟨_, hq, rfl⟩
              · cases h
            · rw [if_neg he] at h; exact .inl h
          · exact .inr h
        · cases hd
      · cases hd
    · cases hd
/-- The objects of an encoded state: what is written, what stands as in the base. -/
theorem encR_get : ∀ (os : List (Nat × Ob G.U)) (y : TyR G os) (B : G.Hp) (o : Nat) (ob : G.O), (∀ p ∈ os, p.1 ≠ o) → B[o]? = some ob → (encR G os y B)[o]? = some ob
  | [], _, _, _, _, _, h => h
  | (q, .row u) :: os, (l, y), B, o, ob, hne, h => by
    refine encR_get os y _ o ob (fun p hp => hne p (List.mem_cons_of_mem _ hp)) ?_
    rw [List.getElem?_set, if_neg (hne _ List.mem_cons_self)]
    exact h
  | (q, .box u) :: os, (l, y), B, o, ob, hne, h => by
    refine encR_get os y _ o ob (fun p hp => hne p (List.mem_cons_of_mem _ hp)) ?_
    rw [List.getElem?_set, if_neg (hne _ List.mem_cons_self)]
    exact h
  | (q, .map t b) :: os, (l, y), B, o, ob, hne, h => by
    refine encR_get os y _ o ob (fun p hp => hne p (List.mem_cons_of_mem _ hp)) ?_
    rw [List.getElem?_set, if_neg (hne _ List.mem_cons_self)]
    exact h
end
end Go.Proofs.Ytmdghocpelkcoaa
