/- The typed reading: states that are taken up again. -/
import Derived.Test.YtmdghocpelkcoaaEv14
namespace Go.Proofs.Ytmdghocpelkcoaa
open Go.RowKit

inductive Ex where
  | normal
  | exit (id : Nat)
  | ret
  deriving DecidableEq
def Ex.to : Ex → Exit
  | .normal => .normal
  | .exit id => .exit id
  | .ret => .ret
structure Jn (U : Type) : Type where
  same : List Nat
  ids : List Nat
  head : Tp U
  exits : List (Ex × Tp U)
variable {P : Program} (G : Sg P) {β : Type}
def addEnv (env : G.Env) (fr : G.Fr) : List Nat → G.Env → G.Env
  | [], e => e
  | t :: ts, e => if t < fr.length ∧ t < e.length then addEnv env fr ts (e.set t (some (getS G env fr t))) else addEnv env fr ts e
def baseFr (env : G.Env) (fr : G.Fr) : List Nat → G.Fr → G.Fr
  | [], f => f
  | t :: ts, f => if t < fr.length ∧ t < env.length then baseFr env fr ts (f.set t (getS G env fr t)) else baseFr env fr ts f
def junkFr (n : Nat) : G.Fr := List.replicate n (.t (.c .junk))
def headO (ids : List Nat) : Nat → G.Hp → G.Hp
  | _, [] => []
  | i, ob :: l => (if ids.contains i then ob else lockO G ob) :: headO ids (i + 1) l
def baseO (ids : List Nat) : Nat → G.Hp → G.Hp
  | _, [] => []
  | i, ob :: l => (if ids.contains i && !ob.lockd then .dead else ob) :: baseO ids (i + 1) l
def TyX : List (Ex × Tp G.U) → Type
  | [] => Empty
  | [(_, T)] => G.Ty T
  | (_, T) :: x :: xs => G.Ty T ⊕ TyX (x :: xs)
def decX (n : Nat) (env : G.Env) (e : Ex) (fr : G.Fr) (hp : G.Hp) : (xs : List (Ex × Tp G.U)) → Option (TyX G xs)
  | [] => none
  | [(e', T)] => if e = e' then decS G n env fr hp T.slots T.objs else none
  | (e', T) :: x :: xs => if e = e' then (decS G n env fr hp T.slots T.objs).map .inl else (decX n env e fr hp (x :: xs)).map .inr
def encT (T : Tp G.U) (y : G.Ty T) (fr : G.Fr) : G.Fr := encS G T.slots T.objs y fr
def encH (T : Tp G.U) (y : G.Ty T) (hp : G.Hp) : G.Hp := encR G T.objs (objPart G T.slots T.objs y) hp
def contX (fr : G.Fr) (hp : G.Hp) (k : Ex → G.Fr → G.Hp → Option β) : (xs : List (Ex × Tp G.U)) → TyX G xs → Option β
  | [], _ => none
  | [(e, T)], y => k e (encT G T y fr) (encH G T y hp)
  | (e, T) :: x :: xs, y => match y with
    | .inl y => k e (encT G T y fr) (encH G T y hp)
    | .inr y => contX fr hp k (x :: xs) y

section
variable {G} {w w' w0 : World} {R R' : Nat → Prop} {n n' : Nat} {m m' : Nat → Value} {r : β} {N : Nat} {hp hp' hp0 : G.Hp} {env env' : G.Env} {fr fr' : G.Fr} {tmps : Array Value}
theorem toT_rep {u : G.U} {x : G.El u} {v : Value} (h1 : ∀ b, R b → R' b) (h2 : ∀ b, R b → w'.heap[b]? = w.heap[b]?) (h : RepT G w R n m (toT G u x) v) : RepT G w' R' n' m' (toT G u x) v := by
  have h3 : RepT G w' R' (n + n') m (toT G u x) v := h.mono h1 h2 (by omega) (by rw [toT_refs]; intro o ho; cases ho)
  have h4 : RepT G w' R' n' m (toT G u x) v := h3.lower (by rw [toT_refs]; intro o ho; cases ho)
  exact h4.mono (fun _ h => h) (fun _ _ => rfl) (Nat.le_refl _) (by rw [toT_refs]; intro o ho; cases ho)
theorem decR_of : ∀ (ss : List (Nat × Kd G.U)) (os : List (Nat × Ob G.U)) {y : TyS G ss os}, decS G n env fr hp ss os = some y → decR G os hp = some (objPart G ss os y)
  | [], _, _, h => h
  | (t, .tv u) :: ss, os, y, h => by
    unfold decS at h
    split at h
    · split at h
      · rename_i x y' hx hy
        cases h
        exact decR_of ss os hy
      · cases h
    · cases h
  | (t, .os o) :: ss, os, y, h => by
    unfold decS at h
    split at h
    · rename_i o' hz
      have h' : (if o' = o ∧ o < n then decS G n env fr hp ss os else none) = some (show TyS G ss os from y) := h
      split at h'
      · exact decR_of ss os h'
      · cases h'
    · cases h
/-- The frame that a decoded state stands for. -/
theorem encS_ok (hok : G.Ok) {hp2 : G.Hp} (hh : HRel G N hp m w) (hf : FRel G env fr hp m tmps w) (hro : ∀ b, Rof G hp m w b → Rof G hp2 m w b) (hown : ∀ (o : Nat) (ob : G.O), hp2[o]? = some ob → ob.live = true → ∃ ob', hp[o]? = some ob' ∧ ob'.live = true) : ∀ (ss : List (Nat × Kd G.U)) (os : List (Nat × Ob G.U)) {y : TyS G ss os} {fr2 : G.Fr},
    decS G hp2.length env fr hp ss os = some y → FRel G env' fr2 hp2 m tmps w → FRel G env' (encS G ss os y fr2) hp2 m tmps w
  | [], _, _, _, _, h2 => h2
  | (t, .tv u) :: ss, os, y, fr2, h, h2 => by
    unfold decS at h
    split at h
    · rename_i z hz
      split at h
      · rename_i x y' hx hy
        cases h
        refine encS_ok hok hh hf hro hown ss os hy (h2.put ?_)
        have := hf.get t
        rw [hz] at this
        exact unN_ok hok hh hro hown hx this
      · cases h
    · cases h
  | (t, .os o) :: ss, os, y, fr2, h, h2 => by
    unfold decS at h
    split at h
    · rename_i o' hz
      have h' : (if o' = o ∧ o < hp2.length then decS G hp2.length env fr hp ss os else none) = some (show TyS G ss os from y) := h
      split at h'
      · rename_i he
        obtain ⟨rfl, hlt⟩ := he
        refine encS_ok hok hh hf hro hown ss os h' (h2.put ?_)
        have := hf.get t
        rw [hz] at this
        exact ⟨hlt, this.2⟩
      · cases h'
    · cases h
theorem headO_get : ∀ (ids : List Nat) (i : Nat) (hp : G.Hp) (o : Nat), (headO G ids i hp)[o]? = (hp[o]?).map fun ob => if ids.contains (i + o) then ob else lockO G ob
  | _, _, [], o => rfl
  | ids, i, ob :: l, 0 => rfl
  | ids, i, ob :: l, o + 1 => by
    show (headO G ids (i + 1) l)[o]? = _
    rw [headO_get ids (i + 1) l o, show i + 1 + o = i + (o + 1) from by omega]
    rfl
theorem baseO_get : ∀ (ids : List Nat) (i : Nat) (hp : G.Hp) (o : Nat), (baseO G ids i hp)[o]? = (hp[o]?).map fun ob => if ids.contains (i + o) && !ob.lockd then .dead else ob
  | _, _, [], o => rfl
  | ids, i, ob :: l, 0 => rfl
  | ids, i, ob :: l, o + 1 => by
    show (baseO G ids (i + 1) l)[o]? = _
    rw [baseO_get ids (i + 1) l o, show i + 1 + o = i + (o + 1) from by omega]
    rfl
theorem headO_length : ∀ (ids : List Nat) (i : Nat) (hp : G.Hp), (headO G ids i hp).length = hp.length
  | _, _, [] => rfl
  | ids, i, ob :: l => by simp [headO, headO_length ids (i + 1) l]
theorem baseO_length : ∀ (ids : List Nat) (i : Nat) (hp : G.Hp), (baseO G ids i hp).length = hp.length
  | _, _, [] => rfl
  | ids, i, ob :: l => by simp [baseO, baseO_length ids (i + 1) l]
theorem lockO_lockd (ob : G.O) : (lockO G ob).lockd = true := by cases ob <;> rfl
theorem lockO_idem (ob : G.O) : lockO G (lockO G ob) = lockO G ob := by cases ob <;> rfl
theorem lockO_of (ob : G.O) (h : ob.lockd = true) : lockO G ob = ob := by
  cases ob with
  | dead => rfl
  | pins _ => rfl
  | pend _ => rfl
  | box cs => cases h
  | lock cs => rfl
  | row lk u l =>
    have : lk = true := h
    subst this; rfl
  | map lk t b l =>
    have : lk = true := h
    subst this; rfl
theorem decR_unlocked : ∀ (os : List (Nat × Ob G.U)) {y : TyR G os}, decR G os hp = some y → ∀ p ∈ os, ∀ ob, hp[p.1]? = some ob → ob.lockd = false
  | [], _, _, p, hp, _, _ => by cases hp
  | (o, .row u) :: os, y, h, p, hp, ob, ho => by
    unfold decR at h
    split at h
    · rename_i u' l hl
      split at h
      · rename_i l' y' _ hy
        rcases List.mem_cons.1 hp with rfl | hp
        · rw [hl] at ho; cases ho; rfl
        · exact decR_unlocked os hy p hp ob ho
      · cases h
    · cases h
  | (o, .box u) :: os, y, h, p, hp, ob, ho => by
    unfold decR at h
    split at h
    · rename_i cs hl
      split at h
      · rename_i ps y' _ hy
        rcases List.mem_cons.1 hp with rfl | hp
        · rw [hl] at ho; cases ho; rfl
        · exact decR_unlocked os hy p hp ob ho
      · cases h
    · cases h
  | (o, .map t b) :: os, y, h, p, hp, ob, ho => by
    unfold decR at h
    split at h
    · rename_i t' b' l hl
      split at h
      · split at h
        · rename_i y' hy
          rcases List.mem_cons.1 hp with rfl | hp
          · rw [hl] at ho; cases ho; rfl
          · exact decR_unlocked os hy p hp ob ho
        · cases h
      · cases h
    · cases h
theorem RepO.lt {o : Nat} {ob : G.O} (h : RepO G w R n m N o ob) : ∀ q ∈ refsO ob, q < n := by
  cases ob with
  | dead => intro q hq; cases hq
  | pins _ => intro q hq; cases hq
  | pend _ => intro q hq; cases hq
  | row lk u l => intro q hq; cases hq
  | map lk t b l => intro q hq; cases hq
  | box cs => obtain ⟨b, t, vs, _, _, _, e4, _⟩ := h; exact e4.lt
  | lock cs => obtain ⟨b, t, vs, _, _, _, e4, _⟩ := h; exact e4.lt

/-- What the inner state keeps of the outer one. -/
structure Inner (G : Sg P) (ids : List Nat) (hp0 hp : G.Hp) : Prop where
  refs : ∀ (o : Nat) (ob : G.O), hp0[o]? = some ob → ∀ q ∈ refsO ob, q < hp0.length
  old : ∀ (o : Nat) (ob : G.O), hp0[o]? = some ob → ids.contains o = false ∨ ob.lockd = true → hp[o]? = some (lockO G ob)
theorem Inner.head (hh : HRel G N hp0 m w) (ids : List Nat) : Inner G ids hp0 (headO G ids 0 hp0) :=
  ⟨fun o ob ho => (hh.obj o ob ho).lt, fun o ob ho h => by
    rw [headO_get, ho, Option.map_some, Nat.zero_add]
    rcases h with h | h
    · rw [h]; rfl
    · rw [lockO_of ob h]; split <;> rfl⟩
theorem Inner.on {ids : List Nat} (h : Inner G ids hp0 hp) (k : Kp G hp m w hp' m' w') : Inner G ids hp0 hp' :=
  ⟨h.refs, fun o ob ho hc => k.lk o _ (h.old o ob ho hc) (lockO_lockd ob)⟩
theorem refs_lock (ob : G.O) : refsO (lockO G ob) = refsO ob := by cases ob <;> rfl
/-- The objects of a decoded state, over the outer base. -/
theorem Inner.base (hok : G.Ok) {ids : List Nat} (h : Inner G ids hp0 hp) {os : List (Nat × Ob G.U)} {y : TyR G os} (hd : decR G os hp = some y) (hh : HRel G N hp m w) :
    HRel G N (encR G os y (baseO G ids 0 hp0)) m w ∧ (∀ b, Rof G hp m w b → Rof G (encR G os y (baseO G ids 0 hp0)) m w b) ∧ (encR G os y (baseO G ids 0 hp0)).length = hp0.length ∧ (∀ (o : Nat) (ob : G.O), hp0[o]? = some ob → ob.lockd = true → (encR G os y (baseO G ids 0 hp0))[o]? = some ob) ∧ ∀ (o : Nat) (ob : G.O), (encR G os y (baseO G ids 0 hp0))[o]? = some ob → ob.live = true → ∃ ob', hp[o]? = some ob' ∧ ob'.live = true := by
  have hlen : (encR G os y (baseO G ids 0 hp0)).length = hp0.length := by rw [encR_length, baseO_length]
  have hc := hh.cover (hp2 := encR G os y (baseO G ids 0 hp0)) (by
    rw [hlen]
    refine encR_cov hok os y _ hd fun o ob ho => .inr ?_
    rw [baseO_get, Nat.zero_add] at ho
    cases h0 : hp0[o]? with
    | none => rw [h0] at ho; cases ho
    | some ob0 =>
      rw [h0, Option.map_some] at ho
      split at ho
      · cases ho; exact .inl rfl
      · rename_i hne
        cases ho
        refine .inr ⟨lockO G ob, h.old o ob h0 ?_, cov_lock (lockO_idem ob) (h.refs o ob h0)⟩
        cases hi : ids.contains o with
        | false => exact .inl rfl
        | true => rw [hi] at hne; exact .inr (by simpa using hne))
  refine ⟨hc.1, hc.2.1, hlen, fun o ob ho hl => ?_, hc.2.2⟩
  have h1 := h.old o ob ho (.inr hl)
  refine encR_get os y _ o ob (fun p hp he => ?_) ?_
  · have := decR_unlocked os hd p hp _ (by rw [he]; exact h1)
    rw [lockO_lockd] at this
    cases this
  · rw [baseO_get, ho, Option.map_some, hl]
    simp
/-- The objects of a decoded state, over the inner head. -/
theorem Inner.again (hok : G.Ok) {ids : List Nat} (h : Inner G ids hp0 hp) {os : List (Nat × Ob G.U)} {y : TyR G os} (hd : decR G os hp = some y) (hh : HRel G N hp m w) (hids : ∀ i, ids.contains i = true → ∃ p ∈ os, p.1 = i) :
    HRel G N (encR G os y (headO G ids 0 hp0)) m w ∧ (∀ b, Rof G hp m w b → Rof G (encR G os y (headO G ids 0 hp0)) m w b) ∧ (encR G os y (headO G ids 0 hp0)).length = hp0.length ∧ Inner G ids hp0 (encR G os y (headO G ids 0 hp0)) ∧ ∀ (o : Nat) (ob : G.O), (encR G os y (headO G ids 0 hp0))[o]? = some ob → ob.live = true → ∃ ob', hp[o]? = some ob' ∧ ob'.live = true := by
  have hlen : (encR G os y (headO G ids 0 hp0)).length = hp0.length := by rw [encR_length, headO_length]
  have hc := hh.cover (hp2 := encR G os y (headO G ids 0 hp0)) (by
    rw [hlen]
    refine encR_cov hok os y _ hd fun o ob ho => ?_
    rw [headO_get, Nat.zero_add] at ho
    cases h0 : hp0[o]? with
    | none => rw [h0] at ho; cases ho
    | some ob0 =>
      rw [h0, Option.map_some] at ho
      split at ho
      · rename_i hi; exact .inl (hids o hi)
      · rename_i hne
        cases ho
        exact .inr (.inr ⟨lockO G ob0, h.old o ob0 h0 (.inl (by simpa using hne)), cov_lock (by rw [lockO_idem]) (by rw [refs_lock]; exact h.refs o ob0 h0)⟩))
  refine ⟨hc.1, hc.2.1, hlen, ⟨h.refs, fun o ob ho hcase => ?_⟩, hc.2.2⟩
  have h1 := h.old o ob ho hcase
  refine encR_get os y _ o _ (fun p hp he => ?_) ?_
  · have := decR_unlocked os hd p hp _ (by rw [he]; exact h1)
    rw [lockO_lockd] at this
    cases this
  · rw [headO_get, ho, Option.map_some, Nat.zero_add]
    rcases hcase with hc | hc
    · rw [hc]; rfl
    · rw [lockO_of ob hc]; split <;> rfl
theorem lockO_mov (ob : G.O) : (lockO G ob).mov = false := by cases ob <;> rfl
theorem Inner.headRel (hh : HRel G N hp0 m w) (ids : List Nat) : HRel G N (headO G ids 0 hp0) m w ∧ ∀ b, Rof G hp0 m w b → Rof G (headO G ids 0 hp0) m w b := by
  have hc := hh.cover (hp2 := headO G ids 0 hp0) fun o ob ho => ?_
  exact ⟨hc.1, hc.2.1⟩
  rw [headO_get, Nat.zero_add] at ho
  cases h0 : hp0[o]? with
  | none => rw [h0] at ho; cases ho
  | some ob0 =>
    rw [h0, Option.map_some] at ho
    have hlt := (hh.obj o ob0 h0).lt
    rw [headO_length]
    split at ho
    · cases ho; exact .inr ⟨_, rfl, cov_lock rfl hlt⟩
    · cases ho; exact .inr ⟨ob0, rfl, cov_lock (by rw [lockO_idem]) (by rw [refs_lock]; exact hlt)⟩
/-- What was there is kept over a join. -/
theorem Inner.kpBase (hok : G.Ok) {ids : List Nat} {m0 : Nat → Value} (hh0 : HRel G N hp0 m0 w0) (h : Inner G ids hp0 hp) (hk : Kp G (headO G ids 0 hp0) m0 w0 hp m w) {os : List (Nat × Ob G.U)} {y : TyR G os} (hd : decR G os hp = some y) (hh : HRel G N hp m w) :
    Kp G hp0 m0 w0 (encR G os y (baseO G ids 0 hp0)) m w := by
  obtain ⟨_, h4, h5, h6, _⟩ := h.base hok hd hh
  have h1 := (Inner.headRel hh0 ids).2
  refine ⟨fun b hb => h4 b (hk.ro b (h1 b hb)), fun b hb => hk.heap b (h1 b hb), h6, fun o ob ho hm => ?_, Nat.le_of_eq h5.symm, fun q os o hq ho hl => hk.pn q os o (by rw [headO_get, hq, Option.map_some]; split <;> rfl) ho (by rw [headO_length]; exact hl)⟩
  have hlt := (List.getElem?_eq_some_iff.1 ho).1
  obtain ⟨e1, ob1, h7, h8⟩ := hk.mv o (if ids.contains (0 + o) then ob else lockO G ob) (by rw [headO_get, ho]; rfl) (by split; exact hm; exact lockO_mov ob)
  refine ⟨e1, (encR G os y (baseO G ids 0 hp0))[o]'(by rw [h5]; exact hlt), List.getElem?_eq_getElem _, ?_⟩
  rcases encR_mov os y _ hd o _ (List.getElem?_eq_getElem (by rw [h5]; exact hlt)) with h9 | ⟨ob', h9, h10⟩
  · rw [baseO_get, ho, Option.map_some] at h9
    split at h9
    · rw [← Option.some.inj h9]; rfl
    · rw [← Option.some.inj h9]; exact hm
  · rw [h7] at h9
    cases h9
    rw [← h10]; exact h8
theorem Inner.kpAgain (hok : G.Ok) {ids : List Nat} {m0 : Nat → Value} (h : Inner G ids hp0 hp) (hk : Kp G (headO G ids 0 hp0) m0 w0 hp m w) {os : List (Nat × Ob G.U)} {y : TyR G os} (hd : decR G os hp = some y) (hh : HRel G N hp m w) (hids : ∀ i, ids.contains i = true → ∃ p ∈ os, p.1 = i) :
    Kp G (headO G ids 0 hp0) m0 w0 (encR G os y (headO G ids 0 hp0)) m w := by
  obtain ⟨_, h4, h5, h6, _⟩ := h.again hok hd hh hids
  refine ⟨fun b hb => h4 b (hk.ro b hb), hk.heap, fun o ob ho hl => ?_, fun o ob ho hm => ?_, Nat.le_of_eq (by rw [h5, headO_length]), hk.pn⟩
  · rw [headO_get, Nat.zero_add] at ho
    cases h0 : hp0[o]? with
    | none => rw [h0] at ho; cases ho
    | some ob0 =>
      rw [h0, Option.map_some] at ho
      split at ho
      · cases ho
        have := h6.old o ob h0 (.inr hl)
        rwa [lockO_of ob hl] at this
      · rename_i hne
        cases ho
        exact h6.old o ob0 h0 (.inl (by simpa using hne))
  · have hlt := (List.getElem?_eq_some_iff.1 ho).1
    rw [headO_length] at hlt
    obtain ⟨e1, ob1, h7, h8⟩ := hk.mv o ob ho hm
    refine ⟨e1, (encR G os y (headO G ids 0 hp0))[o]'(by rw [h5]; exact hlt), List.getElem?_eq_getElem _, ?_⟩
    rcases encR_mov os y _ hd o _ (List.getElem?_eq_getElem (by rw [h5]; exact hlt)) with h9 | ⟨ob', h9, h10⟩
    · rw [ho] at h9
      rw [← Option.some.inj h9]; exact hm
    · rw [h7] at h9
      cases h9
      rw [← h10]; exact h8
end
end Go.Proofs.Ytmdghocpelkcoaa
