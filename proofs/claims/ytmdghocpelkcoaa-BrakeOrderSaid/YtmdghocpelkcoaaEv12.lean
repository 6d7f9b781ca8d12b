/- The typed reading of one operation is right. -/
import Derived.Test.YtmdghocpelkcoaaEv11
namespace Go.Proofs.Ytmdghocpelkcoaa
open Go.RowKit

variable {P : Program} {G : Sg P} {β : Type}
section
variable {w w' : World} {m m' : Nat → Value} {r : β} {N : Nat} {hp hp' : G.Hp} {env : G.Env} {fr : G.Fr} {tmps : Array Value}

theorem map_toList {α γ : Type} (f : α → γ) (a : Array α) : (a.map f).toList = a.toList.map f := by simp
theorem map_arr {α γ : Type} (f : α → γ) (a : Array α) : a.map f = (a.toList.map f).toArray := by rw [← map_toList]
theorem callK_ok (hok : G.Ok) {K : G.KT} (hK : CallOk G K) {c : Call} {o : Oper} (hop : o.op = .call c) {k : G.Fr → G.Hp → G.D → Option β} {next : Act → World → Prop} {Q : Exit → Act → World → Prop} (hh : HRel G N hp m w) (hf : FRel G env fr hp m tmps w)
    (h : callK G K env fr hp c k = some r) (hn : After G N env hp m w tmps k r (opTg G env fr o) fun v w' => next ((⟨tmps, []⟩ : Act).put o.dst v) w') : o.wp P ⟨tmps, []⟩ w next Q := by
  obtain ⟨dst, op, ty, pos, after, guard⟩ := o
  simp only at hop
  subst hop
  obtain ⟨callee, args, ats⟩ := c
  unfold callK at h
  simp only at h
  split at h
  · rename_i b
    split at h
    · rename_i ts hts
      have hargs := hf.opTs hts
      have fin : ∀ (s : Sem Value) (v : Value) (w' : World), (∀ cs, builtin b ats ty cs (args.map (⟨tmps, []⟩ : Act).eval) = (do pure (.value (← s)) : Sem Next)) → s.run P w = .ok v w' →
          next ((⟨tmps, []⟩ : Act).put dst v) w' → (Oper.mk dst (.call ⟨.builtin b, args, ats⟩) ty pos after guard).wp P ⟨tmps, []⟩ w next Q := by
        intro s v w' he hr hx
        unfold Oper.wp
        have : (execOp (⟨tmps, []⟩ : Act).eval (Oper.mk dst (.call ⟨.builtin b, args, ats⟩) ty pos after guard)).run P w = .ok (.value v) w' := by
          simp only [execOp, resolve, Sem.run_bind, Sem.run_pure, Result.andThen_ok, invoke]
          rw [he]
          simp only [Sem.run_bind, hr, Result.andThen_ok, Sem.run_pure]
        rw [this]
        exact hx
      generalize hv : args.toList.map (⟨tmps, []⟩ : Act).eval = vs at hargs
      have harr : args.map (⟨tmps, []⟩ : Act).eval = vs.toArray := by rw [map_arr, hv]
      split at h
      · rename_i t x hat
        cases hargs with
        | cons hx ht =>
          cases ht
          have e1 : ats = #[t] := Array.toList_inj.1 hat
          split at h
          · obtain ⟨v, y, h1, h2, h3⟩ := mapLenK_ok (ty := ty) hh hx h
            refine fin (Builtin.len_ ats ty (args.map (⟨tmps, []⟩ : Act).eval)) v w (fun _ => rfl) (by rw [harr, e1]; exact h1 w (fun _ _ => rfl)) ?_
            exact hn _ _ _ _ (.t y) _ hh hf (Below.refl _ _) h2 (Kp.refl _ _ _) h3 (TgB.refl _ _ _)
          · obtain ⟨v, y, h1, h2, h3⟩ := lenK_ok (ty := ty) hh hx h
            refine fin (Builtin.len_ ats ty (args.map (⟨tmps, []⟩ : Act).eval)) v w (fun _ => rfl) (by rw [harr, e1]; exact h1 w) ?_
            exact hn _ _ _ _ (.t y) _ hh hf (Below.refl _ _) h2 (Kp.refl _ _ _) h3 (TgB.refl _ _ _)
      · rename_i t t2 s x hat
        cases hargs with
        | cons hs ht =>
          cases ht with
          | cons hx ht =>
            cases ht
            obtain ⟨v, w1, hp1, m1, fr1, y, h1, h2, h3, h4, h5, h6, h7⟩ := appendK_ok (ty := ty) hok hh hf hs hx h
            have e1 : ats = #[t, t2] := Array.toList_inj.1 hat
            refine fin (Builtin.append_ ats ty (args.map (⟨tmps, []⟩ : Act).eval)) v w1 (fun _ => rfl) (by rw [harr, e1]; exact h1) ?_
            exact hn _ _ _ _ (.t y) _ h2 h3 h4 h5 h7 h6 (show TgB m w w1 none from trivial)
      · obtain ⟨v, y, h1, h2, h3⟩ := maxK_ok (P := P) (ts := ats) (ty := ty) hargs h
        refine fin (Builtin.max_ ats ty (args.map (⟨tmps, []⟩ : Act).eval)) v w (fun _ => rfl) (by rw [harr]; exact h1 w) ?_
        exact hn _ _ _ _ (.t y) _ hh hf (Below.refl _ _) h2 (Kp.refl _ _ _) h3 (TgB.refl _ _ _)
      · obtain ⟨v, y, h1, h2, h3⟩ := minK_ok (P := P) (ts := ats) (ty := ty) hargs h
        refine fin (Builtin.min_ ats ty (args.map (⟨tmps, []⟩ : Act).eval)) v w (fun _ => rfl) (by rw [harr]; exact h1 w) ?_
        exact hn _ _ _ _ (.t y) _ hh hf (Below.refl _ _) h2 (Kp.refl _ _ _) h3 (TgB.refl _ _ _)
      · cases h
    · cases h
  · rename_i f
    split at h
    · rename_i u r' F t hg hts
      split at h
      · rename_i x hx
        rw [Option.bind_eq_some_iff] at h
        obtain ⟨y, hy, h⟩ := h
        obtain ⟨g, caps, e1, ⟨fn, hfn, hname, hbody⟩, hflat, hbr, hspec⟩ := hf.opT hg
        have hargs := hf.opTs hts
        generalize hv : args.toList.map (⟨tmps, []⟩ : Act).eval = vs at hargs
        cases hargs with
        | @cons _ _ a _ hx1 ht =>
          cases ht
          have hu := unB_rep hok hh hx hx1
          unfold Oper.wp
          have hrun : (execOp (⟨tmps, []⟩ : Act).eval (Oper.mk dst (.call ⟨.value f, args, ats⟩) ty pos after guard)).run P w = .ok (.enter g (a :: caps).toArray) w := by
            have hne : (fn.name == "runtime.NumGoroutine") = false := by simpa using hname
            have harr : args.map (⟨tmps, []⟩ : Act).eval = #[a] := by rw [map_arr, hv]
            simp only [execOp, resolve, Sem.run_bind, e1, Deferred.ofValue, Sem.run_pure, Result.andThen_ok, invoke, callFunc, run_program, hfn, hne, hbody, Bool.false_eq_true, if_false, harr]
            simp
          rw [hrun]
          show Calls P g _ w _
          refine (hspec w (fun _ _ => rfl) x y a hy hu).mono ?_
          rintro e w1 ⟨v, rfl, hb, hr⟩
          obtain ⟨k1, k2⟩ := hh.ext (w' := w1) (m' := m) hb.size (fun b hlt => hb.block b hlt) [] (fun _ _ => rfl) (fun i ob hi => by cases hi) (fun i ob b hi => by cases hi) (fun i j ob ob' b hi => by cases hi)
          rw [List.append_nil] at k1 k2
          exact hn _ _ _ _ (.t (toT G r' y)) v k1 (hf.keep k2 (Nat.le_refl _)) (hb.mono hh.base) (RepU.toT hok (hr.flat hok hflat)) (k2.kp (Nat.le_refl _)) h (TgB.of_later (fun b hlt => hb.block b hlt) _)
      · cases h
    · rename_i g caps ts hg hts
      obtain ⟨vs, e1, e2, e3⟩ := hf.opT hg
      have hargs := hf.opTs hts
      obtain ⟨⟨fn, hfn, hname, hbody⟩, hcall⟩ := hK β g _ hp _ r h
      have hall := hcall N m w _ hh (hargs.append (caps_rep e2 e3))
      unfold Oper.wp
      have harr : args.map (⟨tmps, []⟩ : Act).eval ++ vs.toArray = (args.toList.map (⟨tmps, []⟩ : Act).eval ++ vs).toArray := by rw [map_arr]; simp
      have hrun : (execOp (⟨tmps, []⟩ : Act).eval (Oper.mk dst (.call ⟨.value f, args, ats⟩) ty pos after guard)).run P w = .ok (.enter g (args.toList.map (⟨tmps, []⟩ : Act).eval ++ vs).toArray) w := by
        have hne : (fn.name == "runtime.NumGoroutine") = false := by simpa using hname
        simp only [execOp, resolve, Sem.run_bind, e1, Deferred.ofValue, Sem.run_pure, Result.andThen_ok, invoke, callFunc, run_program, hfn, hne, hbody, Bool.false_eq_true, if_false]
        rw [← harr]
        simp
      rw [hrun]
      show Calls P g _ w _
      refine hall.mono ?_
      rintro e w1 ⟨v, hp1, m1, d, mv, rfl, h1, h2, hmv, h3, h4, h5, h6, h7⟩
      obtain ⟨fr1, hf1, h6⟩ := aftK_ok hf h2 hmv h3 h6
      refine hn _ _ _ _ d v h1 hf1 h4 h5 h2 h6 ?_
      cases f with
      | func f' =>
        unfold opT at hg
        cases hg
        show TgB m w w1 (if G.byref g = true then none else some none)
        split
        · trivial
        · rename_i hby
          exact h7 (by simpa using hby)
      | _ => trivial
    · cases h
  · cases h

theorem wp_valr {o : Oper} {a : Act} {v : Value} {next : Act → World → Prop} {Q : Exit → Act → World → Prop} (hr : (execOp a.eval o).run P w = .ok (.value v) w') (h : next (a.put o.dst v) w') : o.wp P a w next Q := by
  unfold Oper.wp; rw [hr]; exact h
theorem pairs_map (ρ : Operand → Value) (ps : Array (Nat × Operand)) : (ps.map fun p => (p.1, ρ p.2)) = ps.map fun (i, x) => (i, ρ x) := by
  congr 1
theorem exec_build (ρ : Operand → Value) {o : Oper} {t : TypeId} {ps : Array (Nat × Operand)} (ho : o.op = .build t ps) : execOp ρ o = (do pure (.value (← Instr.build t (ps.map fun p => (p.1, ρ p.2))))) := by
  rw [pairs_map]
  unfold execOp
  rw [ho]
theorem exec_buildSlice (ρ : Operand → Value) {o : Oper} {t : TypeId} {n : Nat} {ps : Array (Nat × Operand)} (ho : o.op = .buildSlice t n ps) : execOp ρ o = (do pure (.value (← Instr.buildSlice t n (ps.map fun p => (p.1, ρ p.2))))) := by
  rw [pairs_map]
  unfold execOp
  rw [ho]
theorem made_wp {o : Oper} {k : G.Fr → G.Hp → G.D → Option β} {next : Act → World → Prop} {Q : Exit → Act → World → Prop} (hf : FRel G env fr hp m tmps w) (hn : After G N env hp m w tmps k r (opTg G env fr o) fun v w' => next ((⟨tmps, []⟩ : Act).put o.dst v) w')
    (s : Sem Value) (he : execOp (⟨tmps, []⟩ : Act).eval o = (do pure (.value (← s)))) (h : Made G N hp m w s (fun hp y => k fr hp (.t y)) r) : o.wp P ⟨tmps, []⟩ w next Q := by
  obtain ⟨v, w1, hp1, m1, x, h1, h2, h3, hl, h4, h5, h6⟩ := h
  exact wp_val he h1 (hn fr hp1 m1 w1 (.t x) v h2 (hf.keep h3 hl) h4.1 h5 (h3.kp hl) h6 (TgB.of_later h4.2 _))
/-- What an operation that turns no memory looks at: nothing, one object, foreign memory, or it isn't known. -/
inductive Ldk where
  | pure
  | obj (o : Nat)
  | fgn
  | all
def LdSame (G : Sg P) (hp : G.Hp) (m : Nat → Value) (w w' : World) : Ldk → Prop
  | .pure => True
  | .obj o => ∀ b, b < w.heap.size → blkOf (m o) = some b → w'.heap[b]? = w.heap[b]?
  | .fgn => ∀ b, Rof G hp m w b → w'.heap[b]? = w.heap[b]?
  | .all => Later w w'
theorem LdSame.refl (hp : G.Hp) (m : Nat → Value) (w : World) : ∀ ld, LdSame G hp m w w ld
  | .pure => trivial
  | .obj _ => fun _ _ _ => rfl
  | .fgn => fun _ _ => rfl
  | .all => fun _ _ => rfl
def ldkOf (G : Sg P) (env : G.Env) (fr : G.Fr) (o : Oper) : Ldk := match o.op with
  | .load _ a => match opT G env fr a with
    | some (.c (.ptr q _)) => .obj q
    | some (.c (.ep _ q _ _)) => .obj q
    | some (.c (.rp _)) => .fgn
    | _ => .all
  | .lookup .. => .all
  | .call c => match c.callee with
    | .builtin .len => if c.argTypes.toList.any (isMapT P) = true then .all else .pure
    | _ => .pure
  | _ => .pure
/-- What an operation that turns no memory leaves: one value, now and later. -/
def QRes (G : Sg P) (N : Nat) (env : G.Env) (fr : G.Fr) (hp : G.Hp) (m : Nat → Value) (tmps : Array Value) (w : World) (o : Oper) (k : G.Fr → G.Hp → G.D → Option β) (r : β) (ld : Ldk) : Prop :=
  ∃ v hp' m' d, (∀ w', LdSame G hp m w w' ld → (execOp (⟨tmps, []⟩ : Act).eval o).run P w' = .ok (.value v) w') ∧ HRel G N hp' m' w ∧ FRel G env fr hp' m' tmps w ∧ RepD G w (Rof G hp' m' w) hp'.length m' d v ∧
    Kp G hp m w hp' m' w ∧ k fr hp' d = some r
theorem QRes.wp {o : Oper} {k : G.Fr → G.Hp → G.D → Option β} {next : Act → World → Prop} {Q : Exit → Act → World → Prop} {ld : Ldk} (h : QRes G N env fr hp m tmps w o k r ld) (hn : After G N env hp m w tmps k r (opTg G env fr o) fun v w' => next ((⟨tmps, []⟩ : Act).put o.dst v) w') : o.wp P ⟨tmps, []⟩ w next Q := by
  obtain ⟨v, hp', m', d, h1, h2, h3, h4, h5, h6⟩ := h
  exact wp_valr (h1 w (LdSame.refl _ _ _ _)) (hn fr hp' m' w d v h2 h3 (Below.refl _ _) h4 h5 h6 (TgB.refl _ _ _))
theorem load_q {o : Oper} {k : G.Fr → G.Hp → G.D → Option β} (hh : HRel G N hp m w) (hf : FRel G env fr hp m tmps w)
    (s : Sem Value) (he : execOp (⟨tmps, []⟩ : Act).eval o = (do pure (.value (← s)))) (h : ∃ v x, (∀ w', Later w w' → s.run P w' = .ok v w') ∧ RepT G w (Rof G hp m w) hp.length m x v ∧ k fr hp (.t x) = some r) : QRes G N env fr hp m tmps w o k r .all := by
  obtain ⟨v, x, h1, h2, h3⟩ := h
  refine ⟨v, hp, m, .t x, fun w' hw => ?_, hh, hf, h2, Kp.refl _ _ _, h3⟩
  rw [he]
  simp only [Sem.run_bind, h1 w' hw, Result.andThen_ok, Sem.run_pure]
theorem pure_q {o : Oper} {k : G.Fr → G.Hp → G.D → Option β} (hh : HRel G N hp m w) (hf : FRel G env fr hp m tmps w)
    (s : Sem Value) (he : execOp (⟨tmps, []⟩ : Act).eval o = (do pure (.value (← s)))) (h : ∃ v x, (∀ w, s.run P w = .ok v w) ∧ RepT G w (Rof G hp m w) hp.length m x v ∧ k fr hp (.t x) = some r) : QRes G N env fr hp m tmps w o k r .pure := by
  obtain ⟨v, x, h1, h2, h3⟩ := h
  refine ⟨v, hp, m, .t x, fun w' _ => ?_, hh, hf, h2, Kp.refl _ _ _, h3⟩
  rw [he]
  simp only [Sem.run_bind, h1 w', Result.andThen_ok, Sem.run_pure]
theorem move_q {o : Oper} {k : G.Fr → G.Hp → G.D → Option β} (hh : HRel G N hp m w) (hf : FRel G env fr hp m tmps w)
    (x : Operand) (he : execOp (⟨tmps, []⟩ : Act).eval o = pure (.value ((⟨tmps, []⟩ : Act).eval x))) (h : moveK G env fr hp o.type x (k fr) = some r) : QRes G N env fr hp m tmps w o k r .pure := by
  obtain ⟨hp1, m1, d, h1, h2, h3, h4, h5⟩ := moveK_ok hh hf h
  exact ⟨_, hp1, m1, d, fun w' _ => by rw [he]; rfl, h1, h2, h3, h5, h4⟩
theorem q_move {K : G.KT} {o : Oper} {k : G.Fr → G.Hp → G.D → Option β} (hh : HRel G N hp m w) (hf : FRel G env fr hp m tmps w)
    (h : opK G K env fr hp o k = some r) {x : Operand} (ho : o.op = .move x) : QRes G N env fr hp m tmps w o k r .pure := by
  unfold opK at h
  rw [ho] at h
  simp only at h
  exact move_q hh hf x (by simp only [execOp, ho]) h
theorem q_assign {K : G.KT} {o : Oper} {k : G.Fr → G.Hp → G.D → Option β} (hh : HRel G N hp m w) (hf : FRel G env fr hp m tmps w)
    (h : opK G K env fr hp o k = some r) {x : Operand} (ho : o.op = .assign x) : QRes G N env fr hp m tmps w o k r .pure := by
  unfold opK at h
  rw [ho] at h
  simp only at h
  exact move_q hh hf x (by simp only [execOp, ho]) h
theorem q_pick {K : G.KT} {o : Oper} {k : G.Fr → G.Hp → G.D → Option β} (hh : HRel G N hp m w) (hf : FRel G env fr hp m tmps w)
    (h : opK G K env fr hp o k = some r) {c a b : Operand} (ho : o.op = .pick c a b) : QRes G N env fr hp m tmps w o k r .pure := by
  unfold opK at h
  rw [ho] at h
  simp only at h
  split at h
  · rename_i c' a' b' hc ha hb
    have h1 := hf.opT ha
    have h2 := hf.opT hb
    obtain ⟨hcv, _⟩ := valOf_rep (v := .bool c') rfl (hf.opT hc)
    obtain ⟨x, h3, h4⟩ := pickK_ok h1 h2 h
    refine ⟨if c' then (⟨tmps, []⟩ : Act).eval a else (⟨tmps, []⟩ : Act).eval b, hp, m, .t x, fun w' _ => ?_, hh, hf, h3, Kp.refl _ _ _, h4⟩
    simp only [execOp, ho, hcv, asBool, Sem.run_bind, Sem.run_pure, Result.andThen_ok]
  · cases h

theorem opK_alloc {K : G.KT} {o : Oper} {k : G.Fr → G.Hp → G.D → Option β} {next : Act → World → Prop} {Q : Exit → Act → World → Prop} (hh : HRel G N hp m w) (hf : FRel G env fr hp m tmps w)
    (h : opK G K env fr hp o k = some r) (hn : After G N env hp m w tmps k r (opTg G env fr o) fun v w' => next ((⟨tmps, []⟩ : Act).put o.dst v) w') {t : TypeId} (ho : o.op = .alloc t) : o.wp P ⟨tmps, []⟩ w next Q := by
  unfold opK at h
  rw [ho] at h
  simp only at h
  exact made_wp hf hn (Instr.alloc t true (.tuple #[])) (by simp only [execOp, ho]) (allocK_ok hh h)
theorem opK_box {K : G.KT} {o : Oper} {k : G.Fr → G.Hp → G.D → Option β} {next : Act → World → Prop} {Q : Exit → Act → World → Prop} (hh : HRel G N hp m w) (hf : FRel G env fr hp m tmps w)
    (h : opK G K env fr hp o k = some r) (hn : After G N env hp m w tmps k r (opTg G env fr o) fun v w' => next ((⟨tmps, []⟩ : Act).put o.dst v) w') {t : TypeId} {x : Operand} (ho : o.op = .box t x) : o.wp P ⟨tmps, []⟩ w next Q := by
  unfold opK at h
  rw [ho] at h
  simp only at h
  split at h
  · rename_i y hy
    exact made_wp hf hn (Instr.box t ((⟨tmps, []⟩ : Act).eval x)) (by simp only [execOp, ho]) (boxK_ok hh (hf.opT hy) h)
  · cases h
theorem q_build {K : G.KT} {o : Oper} {k : G.Fr → G.Hp → G.D → Option β} (hh : HRel G N hp m w) (hf : FRel G env fr hp m tmps w)
    (h : opK G K env fr hp o k = some r) {t : TypeId} {ps : Array (Nat × Operand)} (ho : o.op = .build t ps) : QRes G N env fr hp m tmps w o k r .pure := by
  unfold opK at h
  rw [ho] at h
  simp only at h
  split at h
  · rename_i ys hy
    obtain ⟨h1, h2⟩ := hf.partsT hy
    exact pure_q hh hf _ (exec_build _ ho) (buildK_ok (vs := ps.map fun p => (p.1, (⟨tmps, []⟩ : Act).eval p.2)) (by rw [map_toList]; exact h1) (by rw [map_toList]; exact h2) h)
  · cases h
theorem opK_buildSlice (hok : G.Ok) {K : G.KT} {o : Oper} {k : G.Fr → G.Hp → G.D → Option β} {next : Act → World → Prop} {Q : Exit → Act → World → Prop} (hh : HRel G N hp m w) (hf : FRel G env fr hp m tmps w)
    (h : opK G K env fr hp o k = some r) (hn : After G N env hp m w tmps k r (opTg G env fr o) fun v w' => next ((⟨tmps, []⟩ : Act).put o.dst v) w') {t : TypeId} {n : Nat} {ps : Array (Nat × Operand)} (ho : o.op = .buildSlice t n ps) : o.wp P ⟨tmps, []⟩ w next Q := by
  unfold opK at h
  rw [ho] at h
  simp only at h
  split at h
  · rename_i ys hy
    obtain ⟨h1, h2⟩ := hf.partsT hy
    have h3 : (ps.map fun p => (p.1, (⟨tmps, []⟩ : Act).eval p.2)).toList = ps.toList.map fun p => (p.1, (⟨tmps, []⟩ : Act).eval p.2) := map_toList _ _
    rw [← h3] at h1 h2
    have h4 := buildSliceK_ok hok hh h1 h2 h
    exact made_wp hf hn _ (exec_buildSlice _ ho) h4
  · cases h
theorem q_load (hok : G.Ok) {K : G.KT} {o : Oper} {k : G.Fr → G.Hp → G.D → Option β} (hh : HRel G N hp m w) (hf : FRel G env fr hp m tmps w)
    (h : opK G K env fr hp o k = some r) {t : TypeId} {a : Operand} (ho : o.op = .load t a) : QRes G N env fr hp m tmps w o k r (ldkOf G env fr o) := by
  unfold opK at h
  rw [ho] at h
  simp only at h
  split at h
  · rename_i y hy
    obtain ⟨v, x, ⟨b, hb, hat, hrun⟩, h2, h3⟩ := loadK_ok (P := P) hok hh (hf.opT hy) h
    refine ⟨v, hp, m, .t x, fun w' hw => ?_, hh, hf, h2, Kp.refl _ _ _, h3⟩
    have hsame : w'.heap[b]? = w.heap[b]? := by
      unfold ldkOf at hw
      rw [ho] at hw
      simp only [hy] at hw
      split at hw
      · rename_i e; cases e; exact hw b hb hat
      · rename_i e; cases e; exact hw b hb hat
      · rename_i e; cases e; exact hw b hat
      · exact hw b hb
    simp only [execOp, ho, Sem.run_bind, hrun w' hsame, Result.andThen_ok, Sem.run_pure]
  · cases h
theorem opK_store (hok : G.Ok) {K : G.KT} {o : Oper} {k : G.Fr → G.Hp → G.D → Option β} {next : Act → World → Prop} {Q : Exit → Act → World → Prop} (hh : HRel G N hp m w) (hf : FRel G env fr hp m tmps w)
    (h : opK G K env fr hp o k = some r) (hn : After G N env hp m w tmps k r (opTg G env fr o) fun v w' => next ((⟨tmps, []⟩ : Act).put o.dst v) w') {t : TypeId} {a x : Operand} (ho : o.op = .store t a x) : o.wp P ⟨tmps, []⟩ w next Q := by
  unfold opK at h
  rw [ho] at h
  simp only at h
  split at h
  · rename_i y z hy hz
    obtain ⟨w1, hp1, h1, h2, h3, h4, h5, h6, h7⟩ := storeK_ok hok hh (hf.opT hy) (hf.opT hz) h
    have hex : (execOp (⟨tmps, []⟩ : Act).eval o).run P w = .ok .skip w1 := by
      simp only [execOp, ho, Sem.run_bind, h1, Result.andThen_ok, Sem.run_pure]
    unfold Oper.wp
    rw [hex]
    exact hn fr hp1 m w1 (.t (.c .junk)) undef h2 (hf.keep h3 (Nat.le_of_eq h4.symm)) h5 trivial (h3.kp (Nat.le_of_eq h4.symm)) h6 (by
      unfold opTg
      rw [ho]
      simp only [hy]
      split
      · rename_i e; cases e; exact h7 _ _ rfl
      · trivial)
  · cases h
theorem q_nilCheck {K : G.KT} {o : Oper} {k : G.Fr → G.Hp → G.D → Option β} (hh : HRel G N hp m w) (hf : FRel G env fr hp m tmps w)
    (h : opK G K env fr hp o k = some r) {x : Operand} (ho : o.op = .nilCheck x) : QRes G N env fr hp m tmps w o k r .pure := by
  unfold opK at h
  rw [ho] at h
  simp only at h
  split at h
  · rename_i y hy
    obtain ⟨v, z, h1, h2, h3⟩ := nilCheckK_ok (P := P) (⟨tmps, []⟩ : Act).eval o x ho rfl (hf.opT hy) h
    exact ⟨v, hp, m, .t z, fun w' _ => h1 w', hh, hf, h2, Kp.refl _ _ _, h3⟩
  · cases h
theorem q_binOp {K : G.KT} {o : Oper} {k : G.Fr → G.Hp → G.D → Option β} (hh : HRel G N hp m w) (hf : FRel G env fr hp m tmps w)
    (h : opK G K env fr hp o k = some r) {op : BinOp} {ty yt : TypeId} {x y : Operand} (ho : o.op = .binOp op ty x y yt) : QRes G N env fr hp m tmps w o k r .pure := by
  unfold opK at h
  rw [ho] at h
  simp only at h
  split at h
  · rename_i a b ha hb
    split at h
    · rename_i va vb hva hvb
      obtain ⟨e1, _⟩ := valOf_rep hva (hf.opT ha)
      obtain ⟨e2, _⟩ := valOf_rep hvb (hf.opT hb)
      obtain ⟨v, h1, h2, h3⟩ := binK_ok (P := P) x y h
      refine pure_q hh hf (do eqGuard op ty x y ((⟨tmps, []⟩ : Act).eval x) ((⟨tmps, []⟩ : Act).eval y); binOp op ty ((⟨tmps, []⟩ : Act).eval x) ((⟨tmps, []⟩ : Act).eval y)) (by simp only [execOp, ho]) ⟨v, pval G v, ?_, RepT_val h3, h2⟩
      intro w'
      rw [e1, e2]
      exact h1 w'
    · obtain ⟨v, h1, h2, h3⟩ := eqAggK_ok (P := P) x y (hf.opT ha) (hf.opT hb) h
      exact pure_q hh hf (do eqGuard op ty x y ((⟨tmps, []⟩ : Act).eval x) ((⟨tmps, []⟩ : Act).eval y); binOp op ty ((⟨tmps, []⟩ : Act).eval x) ((⟨tmps, []⟩ : Act).eval y)) (by simp only [execOp, ho]) ⟨v, pval G v, h1, RepT_val h3, h2⟩
  · cases h
theorem q_unOp {K : G.KT} {o : Oper} {k : G.Fr → G.Hp → G.D → Option β} (hh : HRel G N hp m w) (hf : FRel G env fr hp m tmps w)
    (h : opK G K env fr hp o k = some r) {op : UnOp} {ty : TypeId} {x : Operand} (ho : o.op = .unOp op ty x) : QRes G N env fr hp m tmps w o k r .pure := by
  unfold opK at h
  rw [ho] at h
  simp only at h
  split at h
  · rename_i a ha
    split at h
    · rename_i va hva
      obtain ⟨e1, _⟩ := valOf_rep hva (hf.opT ha)
      obtain ⟨v, h1, h2, h3⟩ := unK_ok (P := P) h
      exact pure_q hh hf (Op.unary op ((⟨tmps, []⟩ : Act).eval x)) (by simp only [execOp, ho]) ⟨v, pval G v, fun w' => by rw [e1]; exact h1 w', RepT_val h3, h2⟩
    · cases h
  · cases h
theorem q_convert {K : G.KT} {o : Oper} {k : G.Fr → G.Hp → G.D → Option β} (hh : HRel G N hp m w) (hf : FRel G env fr hp m tmps w)
    (h : opK G K env fr hp o k = some r) {s t : TypeId} {x : Operand} (ho : o.op = .convert s t x) : QRes G N env fr hp m tmps w o k r .pure := by
  unfold opK at h
  rw [ho] at h
  simp only at h
  split at h
  · rename_i y hy
    exact pure_q hh hf (convert s t ((⟨tmps, []⟩ : Act).eval x)) (by simp only [execOp, ho]) (convertK_ok (hf.opT hy) h)
  · cases h
theorem q_makeFunc {K : G.KT} {o : Oper} {k : G.Fr → G.Hp → G.D → Option β} (hh : HRel G N hp m w) (hf : FRel G env fr hp m tmps w)
    (h : opK G K env fr hp o k = some r) {fn : Fn} {first caps : Array Operand} (ho : o.op = .makeFunc fn first caps) : QRes G N env fr hp m tmps w o k r .pure := by
  unfold opK at h
  rw [ho] at h
  simp only at h
  split at h
  · rename_i ys hy
    have h1 := hf.opTs hy
    refine pure_q hh hf (Instr.makeFunc fn (first.map (⟨tmps, []⟩ : Act).eval) (caps.map (⟨tmps, []⟩ : Act).eval)) (by simp only [execOp, ho]) ?_
    rw [map_arr _ caps]
    exact makeFuncK_ok h1 (by simpa using h)
  · cases h
theorem opK_makeSlice (hok : G.Ok) {K : G.KT} {o : Oper} {k : G.Fr → G.Hp → G.D → Option β} {next : Act → World → Prop} {Q : Exit → Act → World → Prop} (hh : HRel G N hp m w) (hf : FRel G env fr hp m tmps w)
    (h : opK G K env fr hp o k = some r) (hn : After G N env hp m w tmps k r (opTg G env fr o) fun v w' => next ((⟨tmps, []⟩ : Act).put o.dst v) w') {t : TypeId} {n c : Operand} (ho : o.op = .makeSlice t n c) : o.wp P ⟨tmps, []⟩ w next Q := by
  unfold opK at h
  rw [ho] at h
  simp only at h
  split at h
  · rename_i y z hy hz
    exact made_wp hf hn (Instr.makeSlice t ((⟨tmps, []⟩ : Act).eval n) ((⟨tmps, []⟩ : Act).eval c)) (by simp only [execOp, ho]) (makeK_ok hok hh (hf.opT hy) (hf.opT hz) (fun hs => sameOp_eval hs _) h)
  · cases h
theorem q_slice (hok : G.Ok) {K : G.KT} {o : Oper} {k : G.Fr → G.Hp → G.D → Option β} (hh : HRel G N hp m w) (hf : FRel G env fr hp m tmps w)
    (h : opK G K env fr hp o k = some r) {t : TypeId} {x : Operand} {lo hi : Option Operand} (ho : o.op = .slice t x lo hi none) : QRes G N env fr hp m tmps w o k r .pure := by
  unfold opK at h
  rw [ho] at h
  simp only at h
  split at h
  · rename_i y l u hy hl hu
    exact pure_q hh hf (Instr.sliceAt t ((⟨tmps, []⟩ : Act).eval x) (lo.map (⟨tmps, []⟩ : Act).eval) (hi.map (⟨tmps, []⟩ : Act).eval) none) (by simp only [execOp, ho, Option.map_none]) (sliceK_ok hok (hf.opT hy) (hf.optT hl) (hf.optT hu) h)
  · cases h
theorem q_fieldAddr {K : G.KT} {o : Oper} {k : G.Fr → G.Hp → G.D → Option β} (hh : HRel G N hp m w) (hf : FRel G env fr hp m tmps w)
    (h : opK G K env fr hp o k = some r) {t : TypeId} {x : Operand} {f : Nat} (ho : o.op = .fieldAddr t x f) : QRes G N env fr hp m tmps w o k r .pure := by
  unfold opK at h
  rw [ho] at h
  simp only at h
  split at h
  · rename_i y hy
    exact pure_q hh hf (Instr.fieldAt t ((⟨tmps, []⟩ : Act).eval x) f) (by simp only [execOp, ho]) (fieldAddrK_ok (hf.opT hy) h)
  · cases h
theorem q_field {K : G.KT} {o : Oper} {k : G.Fr → G.Hp → G.D → Option β} (hh : HRel G N hp m w) (hf : FRel G env fr hp m tmps w)
    (h : opK G K env fr hp o k = some r) {t : TypeId} {x : Operand} {f : Nat} (ho : o.op = .field t x f) : QRes G N env fr hp m tmps w o k r .pure := by
  unfold opK at h
  rw [ho] at h
  simp only at h
  split at h
  · rename_i y hy
    exact pure_q hh hf (Instr.field t ((⟨tmps, []⟩ : Act).eval x) f) (by simp only [execOp, ho]) (fieldK_ok (hf.opT hy) h)
  · cases h
theorem q_indexAddr (hok : G.Ok) {K : G.KT} {o : Oper} {k : G.Fr → G.Hp → G.D → Option β} (hh : HRel G N hp m w) (hf : FRel G env fr hp m tmps w)
    (h : opK G K env fr hp o k = some r) {t : TypeId} {x i : Operand} (ho : o.op = .indexAddr t x i) : QRes G N env fr hp m tmps w o k r .pure := by
  unfold opK at h
  rw [ho] at h
  simp only at h
  split at h
  · rename_i y z hy hz
    exact pure_q hh hf (Instr.indexAt t ((⟨tmps, []⟩ : Act).eval x) ((⟨tmps, []⟩ : Act).eval i)) (by simp only [execOp, ho]) (indexAddrK_ok hok hh (hf.opT hy) (hf.opT hz) h)
  · cases h
theorem q_index {K : G.KT} {o : Oper} {k : G.Fr → G.Hp → G.D → Option β} (hh : HRel G N hp m w) (hf : FRel G env fr hp m tmps w)
    (h : opK G K env fr hp o k = some r) {t : TypeId} {x i : Operand} (ho : o.op = .index t x i) : QRes G N env fr hp m tmps w o k r .pure := by
  unfold opK at h
  rw [ho] at h
  simp only at h
  split at h
  · rename_i y z hy hz
    exact pure_q hh hf (Instr.index t ((⟨tmps, []⟩ : Act).eval x) ((⟨tmps, []⟩ : Act).eval i)) (by simp only [execOp, ho]) (indexK_ok (hf.opT hy) (hf.opT hz) h)
  · cases h
theorem q_extract {K : G.KT} {o : Oper} {k : G.Fr → G.Hp → G.D → Option β} (hh : HRel G N hp m w) (hf : FRel G env fr hp m tmps w)
    (h : opK G K env fr hp o k = some r) {t : Tmp} {i : Nat} (ho : o.op = .extract (.tmp t) i) : QRes G N env fr hp m tmps w o k r .pure := by
  unfold opK at h
  rw [ho] at h
  simp only at h
  exact pure_q hh hf (Instr.extract ((⟨tmps, []⟩ : Act).eval (.tmp t)) i) (by simp only [execOp, ho]) (extractK_ok (hf.get t) h)
theorem opK_makeMap {K : G.KT} {o : Oper} {k : G.Fr → G.Hp → G.D → Option β} {next : Act → World → Prop} {Q : Exit → Act → World → Prop} (hh : HRel G N hp m w) (hf : FRel G env fr hp m tmps w)
    (h : opK G K env fr hp o k = some r) (hn : After G N env hp m w tmps k r (opTg G env fr o) fun v w' => next ((⟨tmps, []⟩ : Act).put o.dst v) w') {t : TypeId} (ho : o.op = .makeMap t none) : o.wp P ⟨tmps, []⟩ w next Q := by
  unfold opK at h
  rw [ho] at h
  simp only at h
  exact made_wp hf hn (Instr.makeMap t none) (by simp only [execOp, ho, Option.map_none]) (makeMapK_ok hh h)
theorem opK_mapUpdate {K : G.KT} {o : Oper} {k : G.Fr → G.Hp → G.D → Option β} {next : Act → World → Prop} {Q : Exit → Act → World → Prop} (hh : HRel G N hp m w) (hf : FRel G env fr hp m tmps w)
    (h : opK G K env fr hp o k = some r) (hn : After G N env hp m w tmps k r (opTg G env fr o) fun v w' => next ((⟨tmps, []⟩ : Act).put o.dst v) w') {t : TypeId} {a s x : Operand} (ho : o.op = .mapUpdate t a s x) : o.wp P ⟨tmps, []⟩ w next Q := by
  unfold opK at h
  rw [ho] at h
  simp only at h
  split at h
  · rename_i y z u hy hz hu
    obtain ⟨w1, hp1, h1, h2, h3, h4, h5, h6⟩ := mapUpdK_ok hh (hf.opT hy) (hf.opT hz) (hf.opT hu) h
    have hex : (execOp (⟨tmps, []⟩ : Act).eval o).run P w = .ok .skip w1 := by
      simp only [execOp, ho, Sem.run_bind, h1, Result.andThen_ok, Sem.run_pure]
    unfold Oper.wp
    rw [hex]
    exact hn fr hp1 m w1 (.t (.c .junk)) undef h2 (hf.keep h3 (Nat.le_of_eq h4.symm)) h5 trivial (h3.kp (Nat.le_of_eq h4.symm)) h6 (by unfold opTg; rw [ho]; trivial)
  · cases h
theorem q_lookup {K : G.KT} {o : Oper} {k : G.Fr → G.Hp → G.D → Option β} (hh : HRel G N hp m w) (hf : FRel G env fr hp m tmps w)
    (h : opK G K env fr hp o k = some r) {t : TypeId} {a s : Operand} (ho : o.op = .lookup t a s false) : QRes G N env fr hp m tmps w o k r .all := by
  unfold opK at h
  rw [ho] at h
  simp only at h
  split at h
  · rename_i y z hy hz
    exact load_q hh hf (Instr.lookup t ((⟨tmps, []⟩ : Act).eval a) ((⟨tmps, []⟩ : Act).eval s) false) (by simp only [execOp, ho]) (lookK_ok hh (hf.opT hy) (hf.opT hz) h)
  · cases h
theorem opK_call (hok : G.Ok) {K : G.KT} (hK : CallOk G K) {o : Oper} {k : G.Fr → G.Hp → G.D → Option β} {next : Act → World → Prop} {Q : Exit → Act → World → Prop} (hh : HRel G N hp m w) (hf : FRel G env fr hp m tmps w)
    (h : opK G K env fr hp o k = some r) (hn : After G N env hp m w tmps k r (opTg G env fr o) fun v w' => next ((⟨tmps, []⟩ : Act).put o.dst v) w') {c : Call} (ho : o.op = .call c) : o.wp P ⟨tmps, []⟩ w next Q := by
  unfold opK at h
  rw [ho] at h
  simp only at h
  exact callK_ok hok hK ho hh hf h hn
theorem opK_ok (hok : G.Ok) {K : G.KT} (hK : CallOk G K) {o : Oper} {k : G.Fr → G.Hp → G.D → Option β} {next : Act → World → Prop} {Q : Exit → Act → World → Prop} (hh : HRel G N hp m w) (hf : FRel G env fr hp m tmps w)
    (h : opK G K env fr hp o k = some r) (hn : After G N env hp m w tmps k r (opTg G env fr o) fun v w' => next ((⟨tmps, []⟩ : Act).put o.dst v) w') : o.wp P ⟨tmps, []⟩ w next Q := by
  cases ho : o.op with
  | move _ => exact (q_move hh hf h ho).wp hn
  | assign _ => exact (q_assign hh hf h ho).wp hn
  | pick _ _ _ => exact (q_pick hh hf h ho).wp hn
  | alloc _ => exact opK_alloc hh hf h hn ho
  | box _ _ => exact opK_box hh hf h hn ho
  | build _ _ => exact (q_build hh hf h ho).wp hn
  | buildSlice _ _ _ => exact opK_buildSlice hok hh hf h hn ho
  | load _ _ => exact (q_load hok hh hf h ho).wp hn
  | store _ _ _ => exact opK_store hok hh hf h hn ho
  | nilCheck _ => exact (q_nilCheck hh hf h ho).wp hn
  | binOp _ _ _ _ _ => exact (q_binOp hh hf h ho).wp hn
  | unOp _ _ _ => exact (q_unOp hh hf h ho).wp hn
  | convert _ _ _ => exact (q_convert hh hf h ho).wp hn
  | makeFunc _ _ _ => exact (q_makeFunc hh hf h ho).wp hn
  | makeSlice _ _ _ => exact opK_makeSlice hok hh hf h hn ho
  | slice t x lo hi mx =>
    cases mx with
    | none => exact (q_slice hok hh hf h ho).wp hn
    | some _ => unfold opK at h; rw [ho] at h; cases h
  | fieldAddr _ _ _ => exact (q_fieldAddr hh hf h ho).wp hn
  | field _ _ _ => exact (q_field hh hf h ho).wp hn
  | indexAddr _ _ _ => exact (q_indexAddr hok hh hf h ho).wp hn
  | index _ _ _ => exact (q_index hh hf h ho).wp hn
  | extract x i =>
    cases x with
    | tmp t => exact (q_extract hh hf h ho).wp hn
    | const _ => unfold opK at h; rw [ho] at h; cases h
    | global _ => unfold opK at h; rw [ho] at h; cases h
    | func _ => unfold opK at h; rw [ho] at h; cases h
  | call _ => exact opK_call hok hK hh hf h hn ho
  | makeMap t x =>
    cases x with
    | none => exact opK_makeMap hh hf h hn ho
    | some _ => unfold opK at h; rw [ho] at h; cases h
  | mapUpdate _ _ _ _ => exact opK_mapUpdate hh hf h hn ho
  | lookup t a s c =>
    cases c with
    | false => exact (q_lookup hh hf h ho).wp hn
    | true => unfold opK at h; rw [ho] at h; cases h
  | _ => unfold opK at h; rw [ho] at h; cases h
end
end Go.Proofs.Ytmdghocpelkcoaa
