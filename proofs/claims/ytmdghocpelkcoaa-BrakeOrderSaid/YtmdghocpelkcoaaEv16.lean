/- The typed reading of a function's text. -/
import Derived.Test.YtmdghocpelkcoaaEv15
import Derived.LoopN
namespace Go.Proofs.Ytmdghocpelkcoaa
open Go.RowKit

inductive An (U : Type) : Type where
  | nil
  | node (x : Option (Jn U)) (l r : An U)
def An.x {U : Type} : An U → Option (Jn U)
  | .nil => none
  | .node x _ _ => x
def An.l {U : Type} : An U → An U
  | .nil => .nil
  | .node _ l _ => l
def An.r {U : Type} : An U → An U
  | .nil => .nil
  | .node _ _ r => r
def big : Nat := 18446744073709551616
def iterF {σ ρ : Type} (F : σ → Option (σ ⊕ ρ)) : Nat → σ → Option ρ
  | 0, _ => none
  | n + 1, s => (F s).bind fun x => match x with
    | .inl s => iterF F n s
    | .inr r => some r
variable {P : Program} (G : Sg P) {β : Type}
def inEx (j : Jn G.U) (n : Nat) (env : G.Env) (e : Ex) (fr : G.Fr) (hp : G.Hp) : Option (G.Ty j.head ⊕ TyX G j.exits) := match e with
  | .normal => (decS G n env fr hp j.head.slots j.head.objs).map .inl
  | e => (decX G n env e fr hp j.exits).map .inr
def ev (K : G.KT) : Code → An G.U → (β : Type) → G.Env → G.Fr → G.Hp → (Ex → G.Fr → G.Hp → Option β) → Option β
  | .skip, _, _, _, fr, hp, k => k .normal fr hp
  | .region _ ops draw, _, _, env, fr, hp, k => match draw with
    | false => opsK G K env ops ops.toList fr hp (k .normal)
    | true => if Region.noSelect ops = true then drawAll G K env ops fr hp (k .normal) else none
  | .seq a b, an, β, env, fr, hp, k => match an.x with
    | none => ev K a an.l β env fr hp fun e fr hp => match e with
      | .normal => ev K b an.r β env fr hp k
      | e => k e fr hp
    | some j => (ev K a an.l (TyX G j.exits) (addEnv G env fr j.same env) fr (headO G j.ids 0 hp) fun e fr' hp' => decX G hp.length (addEnv G env fr j.same env) e fr' hp' j.exits).bind fun y =>
        contX G (baseFr G env fr j.same (junkFr G fr.length)) (baseO G j.ids 0 hp) (fun e fr hp => match e with
          | .normal => ev K b an.r β env fr hp k
          | e => k e fr hp) j.exits y
  | .cond c a b, an, β, env, fr, hp, k => match opT G env fr c with
    | some (.c (.pv (.val (.bool t)))) => cond t (ev K a an.l β env fr hp k) (ev K b an.r β env fr hp k)
    | _ => none
  | .block id c, an, β, env, fr, hp, k => ev K c an.l β env fr hp fun e fr hp => match e with
    | .exit id' => if id' = id then k .normal fr hp else k (.exit id') fr hp
    | e => k e fr hp
  | .loop c, an, _, env, fr, hp, k => match an.x with
    | none => none
    | some j => match decS G hp.length (addEnv G env fr j.same env) fr (headO G (j.head.objs.map (·.1)) 0 hp) j.head.slots j.head.objs with
      | some s => (iterF (fun s => ev K c an.l (G.Ty j.head ⊕ TyX G j.exits) (addEnv G env fr j.same env) (encT G j.head s (junkFr G fr.length)) (encH G j.head s (headO G (j.head.objs.map (·.1)) 0 hp))
            (inEx G j hp.length (addEnv G env fr j.same env))) big s).bind fun y =>
          contX G (baseFr G env fr j.same (junkFr G fr.length)) (baseO G (j.head.objs.map (·.1)) 0 hp) k j.exits y
      | none => none
  | .exit id, _, _, _, fr, hp, k => k (.exit id) fr hp
  | .ret, _, _, _, fr, hp, k => k .ret fr hp
  | _, _, _, _, _, _, _ => none

section
variable {G} {w w' w0 : World} {R R' : Nat → Prop} {n n' : Nat} {m m' : Nat → Value} {r : β} {N : Nat} {hp hp' hp0 hp2 : G.Hp} {env env' e : G.Env} {fr fr' : G.Fr} {tmps : Array Value}
theorem addEnv_rel (hf : FRel G env fr hp m tmps w) : ∀ (ts : List Nat) {e : G.Env}, FRel G e fr hp m tmps w → FRel G (addEnv G env fr ts e) fr hp m tmps w
  | [], _, he => he
  | t :: ts, e, he => by
    unfold addEnv
    split
    · rename_i hc
      refine addEnv_rel hf ts ⟨he.len, he.fr, fun q d hq => ?_⟩
      rw [List.getElem?_set] at hq
      by_cases h : t = q
      · subst h
        rw [if_pos rfl, if_pos hc.2] at hq
        cases hq
        exact ⟨by rw [hf.len]; exact hc.1, hf.get t⟩
      · rw [if_neg h] at hq; exact he.env q d hq
    · exact addEnv_rel hf ts he
theorem addEnv_old : ∀ (ts : List Nat) {e : G.Env}, (∀ (t : Nat) (d : G.D), env[t]? = some (some d) → e[t]? = some (some d)) → ∀ (t : Nat) (d : G.D), env[t]? = some (some d) → (addEnv G env fr ts e)[t]? = some (some d)
  | [], _, he => he
  | t :: ts, e, he => by
    unfold addEnv
    split
    · refine addEnv_old ts fun q d hq => ?_
      rw [List.getElem?_set]
      by_cases h : t = q
      · subst h
        rename_i hc
        rw [if_pos rfl, if_pos hc.2]
        unfold getS
        rw [hq]
      · rw [if_neg h]; exact he q d hq
    · exact addEnv_old ts he
theorem addEnv_length : ∀ (ts : List Nat) {e : G.Env}, (addEnv G env fr ts e).length = e.length
  | [], _ => rfl
  | t :: ts, e => by
    unfold addEnv
    split
    · rw [addEnv_length ts]; simp
    · exact addEnv_length ts
theorem addEnv_has : ∀ (ts : List Nat) {e : G.Env}, (∀ t ∈ ts, t < fr.length → t < e.length → (addEnv G env fr ts e)[t]? = some (some (getS G env fr t))) ∧
    ∀ t, e[t]? = some (some (getS G env fr t)) → (addEnv G env fr ts e)[t]? = some (some (getS G env fr t))
  | [], e => ⟨fun t ht => (by cases ht), fun _ h => h⟩
  | s :: ts, e => by
    unfold addEnv
    split
    · rename_i hc
      obtain ⟨h1, h2⟩ := addEnv_has ts (e := e.set s (some (getS G env fr s)))
      refine ⟨fun t ht hl he => ?_, fun t ht => h2 t ?_⟩
      · rcases List.mem_cons.1 ht with rfl | ht
        · exact h2 t (by rw [List.getElem?_set, if_pos rfl, if_pos he])
        · exact h1 t ht hl (by simpa using he)
      · rw [List.getElem?_set]
        by_cases hst : s = t
        · subst hst; rw [if_pos rfl, if_pos hc.2]
        · rw [if_neg hst]; exact ht
    · rename_i hc
      obtain ⟨h1, h2⟩ := addEnv_has ts (e := e)
      refine ⟨fun t ht hl he => ?_, h2⟩
      rcases List.mem_cons.1 ht with rfl | ht
      · exact absurd ⟨hl, he⟩ hc
      · exact h1 t ht hl he
/-- A frame of which nothing is known but the environment. -/
theorem FRel.junk (h : FRel G env' fr' hp m tmps w) (hro : ∀ b, Rof G hp m w b → Rof G hp2 m w b) (henv : ∀ (t : Nat) (d : G.D), env[t]? = some (some d) → env'[t]? = some (some d) ∧ ∀ o ∈ refsD d, o < hp2.length) (hn : tmps.size = n) :
    FRel G env (junkFr G n) hp2 m tmps w := by
  refine ⟨by simp [junkFr, hn], fun t d hd => ?_, fun t d hd => ?_⟩
  · unfold junkFr at hd
    rw [List.getElem?_replicate] at hd
    split at hd
    · cases hd; trivial
    · cases hd
  · obtain ⟨h1, h2⟩ := henv t d hd
    obtain ⟨h3, h4⟩ := h.env t d h1
    refine ⟨h3, ?_⟩
    have h5 := h4.lower h2
    exact h5.mono hro (fun _ _ => rfl) (Nat.le_refl _) (fun _ _ _ => rfl)
theorem baseFr_rel (h : FRel G env' fr' hp m tmps w) (hro : ∀ b, Rof G hp m w b → Rof G hp2 m w b) : ∀ (ts : List Nat), (∀ t ∈ ts, t < fr.length → t < env.length → env'[t]? = some (some (getS G env fr t)) ∧ ∀ o ∈ refsD (getS G env fr t), o < hp2.length) →
    ∀ {f : G.Fr}, FRel G env f hp2 m tmps w → FRel G env (baseFr G env fr ts f) hp2 m tmps w
  | [], _, _, hf => hf
  | t :: ts, hts, f, hf => by
    unfold baseFr
    split
    · rename_i hc
      refine baseFr_rel h hro ts (fun q hq => hts q (List.mem_cons_of_mem _ hq)) (hf.put ?_)
      obtain ⟨h1, h2⟩ := hts t List.mem_cons_self hc.1 hc.2
      have h4 := (h.env t _ h1).2.lower h2
      exact h4.mono hro (fun _ _ => rfl) (Nat.le_refl _) (fun _ _ _ => rfl)
    · exact baseFr_rel h hro ts (fun q hq => hts q (List.mem_cons_of_mem _ hq)) hf
theorem contX_ok {n : Nat} {ex : Ex} {k : Ex → G.Fr → G.Hp → Option β} {frB : G.Fr} {hpB : G.Hp} : ∀ (xs : List (Ex × Tp G.U)) {z : TyX G xs}, decX G n env ex fr hp xs = some z → contX G frB hpB k xs z = some r →
    ∃ (T : Tp G.U) (y : G.Ty T), decS G n env fr hp T.slots T.objs = some y ∧ k ex (encT G T y frB) (encH G T y hpB) = some r
  | [], _, hd, _ => by cases hd
  | [(e', T)], z, hd, hc => by
    have hd' : (if ex = e' then decS G n env fr hp T.slots T.objs else none) = some (show G.Ty T from z) := hd
    split at hd'
    · rename_i he; subst he; exact ⟨T, z, hd', hc⟩
    · cases hd'
  | (e', T) :: x :: xs, z, hd, hc => by
    have hd' : (if ex = e' then (decS G n env fr hp T.slots T.objs).map .inl else (decX G n env ex fr hp (x :: xs)).map .inr) = some (show G.Ty T ⊕ TyX G (x :: xs) from z) := hd
    split at hd'
    · rename_i he
      subst he
      rw [Option.map_eq_some_iff] at hd'
      obtain ⟨y, hy, rfl⟩ := hd'
      exact ⟨T, y, hy, hc⟩
    · rw [Option.map_eq_some_iff] at hd'
      obtain ⟨y, hy, rfl⟩ := hd'
      exact contX_ok (x :: xs) hy hc
/-- The way out of an inner state. -/
theorem leave_ok (hok : G.Ok) {ids same : List Nat} {m0 : Nat → Value} {tmps0 : Array Value} {w1 : World} (hf0 : FRel G env fr hp0 m0 tmps0 w1) (hh0 : HRel G N hp0 m0 w1) (hkp : Kp G (headO G ids 0 hp0) m0 w1 hp' m' w') (hin : Inner G ids hp0 hp')
    (hr : Rl G N w0 (addEnv G env fr same env) fr' hp' m' tmps w') (hsz : tmps.size = fr.length) {xs : List (Ex × Tp G.U)} {z : TyX G xs} {ex : Ex} {k : Ex → G.Fr → G.Hp → Option β}
    (hd : decX G hp0.length (addEnv G env fr same env) ex fr' hp' xs = some z) (hc : contX G (baseFr G env fr same (junkFr G fr.length)) (baseO G ids 0 hp0) k xs z = some r) :
    ∃ fr2 hp2, Rl G N w0 env fr2 hp2 m' tmps w' ∧ Kp G hp0 m0 w1 hp2 m' w' ∧ k ex fr2 hp2 = some r := by
  obtain ⟨T, y, h1, h2⟩ := contX_ok xs hd hc
  obtain ⟨h3, h4, h5, h6, h7⟩ := hin.base hok (decR_of T.slots T.objs h1) hr.hh
  refine ⟨_, _, ⟨h3, ?_, hr.bl⟩, hin.kpBase hok hh0 hkp (decR_of T.slots T.objs h1) hr.hh, h2⟩
  have hlow : ∀ (t : Nat), ∀ o ∈ refsD (getS G env fr t), o < hp0.length := fun t => (hf0.get t).lt
  have hlen : (encH G T y (baseO G ids 0 hp0)).length = hp0.length := h5
  have hj : FRel G env (junkFr G fr.length) (encH G T y (baseO G ids 0 hp0)) m' tmps w' := hr.hf.junk h4 (fun t d hd => ⟨addEnv_old same (fun _ _ h => h) t d hd, by
    rw [hlen]; exact (hf0.env t d hd).2.lt⟩) hsz
  have hb := baseFr_rel (env := env) (fr := fr) hr.hf h4 same (fun t ht hl he => ⟨(addEnv_has same).1 t ht hl he, by rw [h5]; exact hlow t⟩) hj
  exact encS_ok hok hr.hh hr.hf h4 h7 T.slots T.objs (by rw [h5]; exact h1) hb

theorem FRel.to (h : FRel G env fr hp m tmps w) (hro : ∀ b, Rof G hp m w b → Rof G hp2 m w b) (hl : hp.length ≤ hp2.length) : FRel G env fr hp2 m tmps w :=
  ⟨h.len, fun t d hd => (h.fr t d hd).mono hro (fun _ _ => rfl) hl (fun _ _ _ => rfl), fun t d hd => ⟨(h.env t d hd).1, (h.env t d hd).2.mono hro (fun _ _ => rfl) hl (fun _ _ _ => rfl)⟩⟩
theorem Ex.to_ne {e : Ex} (h : e ≠ .normal) : e.to ≠ .normal := by cases e <;> first | exact absurd rfl h | simp [Ex.to]

theorem Rl.draw (h : Rl G N w0 env fr hp m tmps w) : Rl G N w0 env fr hp m tmps { w with drawn := w.drawn + 1 } := by
  have hro : ∀ b, Rof G hp m w b → Rof G hp m { w with drawn := w.drawn + 1 } b := fun b hb => hb
  refine ⟨⟨fun o ob ho => RepO.mono (w := w) (w' := { w with drawn := w.drawn + 1 }) hro (fun _ _ => rfl) (Nat.le_refl _) (fun _ _ _ => rfl) rfl (fun _ _ _ => rfl) (h.hh.obj o ob ho), h.hh.sep, h.hh.base⟩, ⟨h.hf.len, fun t d hd => RepD.mono (w := w) (w' := { w with drawn := w.drawn + 1 }) hro (fun _ _ => rfl) (Nat.le_refl _) (fun _ _ _ => rfl) (h.hf.fr t d hd), fun t d hd => ⟨(h.hf.env t d hd).1, RepD.mono (w := w) (w' := { w with drawn := w.drawn + 1 }) hro (fun _ _ => rfl) (Nat.le_refl _) (fun _ _ _ => rfl) (h.hf.env t d hd).2⟩⟩, h.bl.drew⟩
/-- What the text's reading must be answered with. -/
def Goes (G : Sg P) (N : Nat) (w0 : World) (env : G.Env) (hp : G.Hp) (m : Nat → Value) (w : World) (n : Nat) (k : Ex → G.Fr → G.Hp → Option β) (r : β) (Q : Exit → Act → World → Prop) : Prop :=
  ∀ e fr' hp' m' tmps' w', Rl G N w0 env fr' hp' m' tmps' w' → Kp G hp m w hp' m' w' → tmps'.size = n → k e fr' hp' = some r → Q e.to ⟨tmps', []⟩ w'

theorem ev_ok (hok : G.Ok) {K : G.KT} (hK : CallOk G K) (c : Code) : ∀ {an : An G.U} {β : Type} {env : G.Env} {fr : G.Fr} {hp : G.Hp} {k : Ex → G.Fr → G.Hp → Option β} {r : β} {m : Nat → Value} {tmps : Array Value} {w : World} {Q : Exit → Act → World → Prop},
    Rl G N w0 env fr hp m tmps w → ev G K c an β env fr hp k = some r → Goes G N w0 env hp m w tmps.size k r Q → c.wp P Q ⟨tmps, []⟩ w := by
  induction c with
  | skip =>
    intro an β env fr hp k r m tmps w Q hr h hn
    exact wp_skip (hn .normal _ _ _ _ _ hr (Kp.refl _ _ _) rfl h)
  | region id ops draw =>
    intro an β env fr hp k r m tmps w Q hr h hn
    cases draw with
    | false =>
      exact wp_region_list (opsK_ok hok hK ops.toList hr h fun fr' hp' m' tmps' w' h1 h2 h3 h4 => hn .normal fr' hp' m' tmps' w' h1 h2 h3 h4)
    | true =>
      unfold ev at h
      simp only at h
      split at h
      · rename_i hsel
        let Q0 : Exit → Act → World → Prop := fun e a w => match e with
          | .panic _ => False
          | e => Q e a w
        refine wp_mono (Q := Q0) (wp_region_any hok.mixed (drawAll_ok (Q := Q0) (w0 := w0) hok hK hsel (fun _ _ _ h => h) (m := m) (hr.draw) h fun fr' hp' m' tmps' w' h1 h2 h3 h4 => hn .normal fr' hp' m' tmps' w' h1 ⟨h2.ro, h2.heap, h2.lk, h2.mv, h2.len, h2.pn⟩ h3 h4)) fun e a w h => ?_
        cases e <;> first | exact h | exact h.elim
      · cases h
  | seq a b iha ihb =>
    intro an β env fr hp k r m tmps w Q hr h hn
    apply wp_seq
    unfold ev at h
    split at h
    · refine iha hr h fun e fr' hp' m' tmps' w' h1 h2 h3 h4 => ?_
      cases e with
      | normal => exact ihb h1 h4 fun e2 fr2 hp2 m2 tmps2 w2 g1 g2 g3 g4 => hn e2 fr2 hp2 m2 tmps2 w2 g1 (h2.trans g2) (g3.trans h3) g4
      | exit id => exact hn (.exit id) _ _ _ _ _ h1 h2 h3 h4
      | ret => exact hn .ret _ _ _ _ _ h1 h2 h3 h4
    · rename_i j hj
      rw [Option.bind_eq_some_iff] at h
      obtain ⟨y, hy, h⟩ := h
      obtain ⟨g1, g2⟩ := Inner.headRel hr.hh j.ids
      have hf1 : FRel G (addEnv G env fr j.same env) fr (headO G j.ids 0 hp) m tmps w := (addEnv_rel hr.hf j.same hr.hf).to g2 (by rw [headO_length]; exact Nat.le_refl _)
      refine iha ⟨g1, hf1, hr.bl⟩ hy fun e fr' hp' m' tmps' w' h1 h2 h3 h4 => ?_
      obtain ⟨fr2, hp2, h5, h6, h7⟩ := leave_ok hok hr.hf hr.hh h2 ((Inner.head hr.hh j.ids).on h2) h1 (h3.trans hr.hf.len) h4 h
      cases e with
      | normal => exact ihb h5 h7 fun e2 fr3 hp3 m3 tmps3 w3 q1 q2 q3 q4 => hn e2 fr3 hp3 m3 tmps3 w3 q1 (h6.trans q2) (q3.trans h3) q4
      | exit id => exact hn (.exit id) _ _ _ _ _ h5 h6 h3 h7
      | ret => exact hn .ret _ _ _ _ _ h5 h6 h3 h7
  | cond c a b iha ihb =>
    intro an β env fr hp k r m tmps w Q hr h hn
    unfold ev at h
    split at h
    · rename_i t ht
      obtain ⟨hv, _⟩ := valOf_rep (v := .bool t) rfl (hr.hf.opT ht)
      refine wp_cond hv ?_
      cases t with
      | true => exact iha hr h hn
      | false => exact ihb hr h hn
    · cases h
  | block id c ih =>
    intro an β env fr hp k r m tmps w Q hr h hn
    apply wp_block
    unfold ev at h
    refine ih hr h fun e fr' hp' m' tmps' w' h1 h2 h3 h4 => ?_
    cases e with
    | normal => exact hn .normal _ _ _ _ _ h1 h2 h3 h4
    | ret => exact hn .ret _ _ _ _ _ h1 h2 h3 h4
    | exit id' =>
      simp only at h4
      show (if id' = id then Q .normal _ _ else Q (.exit id') _ _)
      split at h4
      · rename_i hi; rw [if_pos hi]; exact hn .normal _ _ _ _ _ h1 h2 h3 h4
      · rename_i hi; rw [if_neg hi]; exact hn (.exit id') _ _ _ _ _ h1 h2 h3 h4
  | loop c ih =>
    intro an β env fr hp k r m tmps w Q hr h hn
    unfold ev at h
    split at h
    · cases h
    · rename_i j hj
      split at h
      · rename_i s hs
        rw [Option.bind_eq_some_iff] at h
        obtain ⟨y, hy, h⟩ := h
        refine wp_loop_rounds big ?_
        have hids : ∀ i, (j.head.objs.map (·.1)).contains i = true → ∃ p ∈ j.head.objs, p.1 = i := by
          intro i hi
          rw [List.contains_iff_mem, List.mem_map] at hi
          exact hi
        have hrefs : ∀ (t : Nat) (d : G.D), (addEnv G env fr j.same env)[t]? = some (some d) → ∀ o ∈ refsD d, o < hp.length := fun t d hd =>
          ((addEnv_rel hr.hf j.same hr.hf).env t d hd).2.lt
        have start : ∀ (fr1 : G.Fr) (hp1 : G.Hp) (m1 : Nat → Value) (tmps1 : Array Value) (w1 : World) (s1 : G.Ty j.head), Kp G (headO G (j.head.objs.map (·.1)) 0 hp) m w hp1 m1 w1 → Rl G N w0 (addEnv G env fr j.same env) fr1 hp1 m1 tmps1 w1 → tmps1.size = tmps.size → Inner G (j.head.objs.map (·.1)) hp hp1 →
            decS G hp.length (addEnv G env fr j.same env) fr1 hp1 j.head.slots j.head.objs = some s1 →
            Rl G N w0 (addEnv G env fr j.same env) (encT G j.head s1 (junkFr G fr.length)) (encH G j.head s1 (headO G (j.head.objs.map (·.1)) 0 hp)) m1 tmps1 w1 ∧
              Inner G (j.head.objs.map (·.1)) hp (encH G j.head s1 (headO G (j.head.objs.map (·.1)) 0 hp)) ∧ Kp G (headO G (j.head.objs.map (·.1)) 0 hp) m w (encH G j.head s1 (headO G (j.head.objs.map (·.1)) 0 hp)) m1 w1 := by
          intro fr1 hp1 m1 tmps1 w1 s1 hk0 h1 h2 h3 h4
          obtain ⟨g1, g2, g3, g4, g5⟩ := h3.again hok (decR_of _ _ h4) h1.hh hids
          have hjk := h1.hf.junk (hp2 := encR G j.head.objs (objPart G j.head.slots j.head.objs s1) (headO G (j.head.objs.map (·.1)) 0 hp)) (env := addEnv G env fr j.same env) g2 (fun t d hd => ⟨hd, by
            rw [g3]; exact hrefs t d hd⟩) (h2.trans hr.hf.len)
          exact ⟨⟨g1, encS_ok hok h1.hh h1.hf g2 g5 _ _ (by rw [g3]; exact h4) hjk, h1.bl⟩, g4, h3.kpAgain hok hk0 (decR_of _ _ h4) h1.hh hids⟩
        have go : ∀ (n : Nat) (s1 : G.Ty j.head) (m1 : Nat → Value) (tmps1 : Array Value) (w1 : World), tmps1.size = tmps.size →
            Rl G N w0 (addEnv G env fr j.same env) (encT G j.head s1 (junkFr G fr.length)) (encH G j.head s1 (headO G (j.head.objs.map (·.1)) 0 hp)) m1 tmps1 w1 →
            Inner G (j.head.objs.map (·.1)) hp (encH G j.head s1 (headO G (j.head.objs.map (·.1)) 0 hp)) → Kp G (headO G (j.head.objs.map (·.1)) 0 hp) m w (encH G j.head s1 (headO G (j.head.objs.map (·.1)) 0 hp)) m1 w1 →
            iterF (fun s => ev G K c an.l (G.Ty j.head ⊕ TyX G j.exits) (addEnv G env fr j.same env) (encT G j.head s (junkFr G fr.length)) (encH G j.head s (headO G (j.head.objs.map (·.1)) 0 hp))
              (inEx G j hp.length (addEnv G env fr j.same env))) n s1 = some y → Code.rounds P c Q n ⟨tmps1, []⟩ w1 := by
          intro n
          induction n with
          | zero => intro s1 m1 tmps1 w1 _ _ _ _ hi; cases hi
          | succ n ihn =>
            intro s1 m1 tmps1 w1 hsz hrl hin hkp hi
            unfold iterF at hi
            rw [Option.bind_eq_some_iff] at hi
            obtain ⟨x, hx, hi⟩ := hi
            rw [rounds_succ]
            refine ih hrl hx fun e fr' hp' m' tmps' w' h1 h2 h3 h4 => ?_
            have hin' := hin.on h2
            have hkp' := hkp.trans h2
            cases e with
            | normal =>
              unfold inEx at h4
              simp only [Option.map_eq_some_iff] at h4
              obtain ⟨s2, h5, rfl⟩ := h4
              obtain ⟨g1, g2, g3⟩ := start fr' hp' m' tmps' w' s2 hkp' h1 (h3.trans hsz) hin' h5
              exact ihn s2 m' tmps' w' (h3.trans hsz) g1 g2 g3 hi
            | exit id =>
              unfold inEx at h4
              simp only [Option.map_eq_some_iff] at h4
              obtain ⟨z, h5, rfl⟩ := h4
              cases hi
              obtain ⟨fr2, hp2, g1, g2, g3⟩ := leave_ok hok hr.hf hr.hh hkp' hin' h1 ((h3.trans hsz).trans hr.hf.len) h5 h
              exact hn (.exit id) _ _ _ _ _ g1 g2 (h3.trans hsz) g3
            | ret =>
              unfold inEx at h4
              simp only [Option.map_eq_some_iff] at h4
              obtain ⟨z, h5, rfl⟩ := h4
              cases hi
              obtain ⟨fr2, hp2, g1, g2, g3⟩ := leave_ok hok hr.hf hr.hh hkp' hin' h1 ((h3.trans hsz).trans hr.hf.len) h5 h
              exact hn .ret _ _ _ _ _ g1 g2 (h3.trans hsz) g3
        obtain ⟨q1, q2⟩ := Inner.headRel hr.hh (j.head.objs.map (·.1))
        have hf1 : FRel G (addEnv G env fr j.same env) fr (headO G (j.head.objs.map (·.1)) 0 hp) m tmps w := (addEnv_rel hr.hf j.same hr.hf).to q2 (by rw [headO_length]; exact Nat.le_refl _)
        obtain ⟨g1, g2, g3⟩ := start fr _ m tmps w s (Kp.refl _ _ _) ⟨q1, hf1, hr.bl⟩ rfl (Inner.head hr.hh _) hs
        exact go big s m tmps w rfl g1 g2 g3 hy
      · cases h
  | exit id =>
    intro an β env fr hp k r m tmps w Q hr h hn
    exact wp_exit (hn (.exit id) _ _ _ _ _ hr (Kp.refl _ _ _) rfl h)
  | ret =>
    intro an β env fr hp k r m tmps w Q hr h hn
    exact wp_ret (hn .ret _ _ _ _ _ hr (Kp.refl _ _ _) rfl h)
  | _ => intro an β env fr hp k r m tmps w Q hr h hn; cases h
end
end Go.Proofs.Ytmdghocpelkcoaa
