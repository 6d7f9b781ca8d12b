/- The typed reading of one operation. -/
import Derived.Test.YtmdghocpelkcoaaEvm
namespace Go.Proofs.Ytmdghocpelkcoaa
open Go.RowKit

variable {P : Program} (G : Sg P) {β : Type}
/-- The functions that are known: what a call with these arguments comes to. -/
abbrev Sg.KT := (β : Type) → FuncId → List (TV G.U G.El) → List (OV G.U G.El) → (List Nat → List (OV G.U G.El) → DV G.U G.El → Option β) → Option β
/-- What refers to rows that a call may have moved is forgotten. -/
def junkCs (l : List Nat) (c : G.C) : G.C := if (refs G c).any (fun o => l.contains o) then .junk else c
def junkTs (l : List Nat) : G.T → G.T
  | .c x => .c (junkCs G l x)
  | .agg cs => .agg (cs.map (junkCs G l))
def junkDs (l : List Nat) : G.D → G.D
  | .t x => .t (junkTs G l x)
  | .tup vs => .tup (vs.map (junkTs G l))
def aftK (env : G.Env) (fr : G.Fr) (mv : List Nat) (k : G.Fr → Option β) : Option β := match mv with
  | [] => k fr
  | x :: l => if (x :: l).all (envFree G env) = true then k (fr.map (junkDs G (x :: l))) else none
def opTs (env : G.Env) (fr : G.Fr) : List Operand → Option (List G.T)
  | [] => some []
  | x :: xs => match opT G env fr x, opTs env fr xs with
    | some y, some ys => some (y :: ys)
    | _, _ => none
def partsT (env : G.Env) (fr : G.Fr) : List (Nat × Operand) → Option (List (Nat × G.T))
  | [] => some []
  | (i, x) :: xs => match opT G env fr x, partsT env fr xs with
    | some y, some ys => some ((i, y) :: ys)
    | _, _ => none
def optT (env : G.Env) (fr : G.Fr) : Option Operand → Option (Option G.T)
  | none => some none
  | some x => match opT G env fr x with
    | some y => some (some y)
    | none => none
def sameOp : Operand → Operand → Bool
  | .tmp a, .tmp b => a == b
  | _, _ => false
def moveK (env : G.Env) (fr : G.Fr) (hp : G.Hp) (ty : TypeId) (x : Operand) (k : G.Hp → G.D → Option β) : Option β := match x with
  | .const (.slice none 0 0) => match G.elt ty with
    | some u => k (hp ++ [.row false u []]) (.t (.c (.os hp.length)))
    | none => none
  | .tmp t => k hp (getS G env fr t)
  | x => match opT G env fr x with
    | some y => k hp (.t y)
    | none => none
def pvB (hp : G.Hp) : List G.C → Option (List G.P')
  | [] => some []
  | c :: cs => match c with
    | .pv p => match pvB hp cs with
      | some ps => some (p :: ps)
      | none => none
    | .os o => match hp[o]?, pvB hp cs with
      | some (.row _ u l), some ps => some (.sl u l :: ps)
      | _, _ => none
    | _ => none
def unB (u : G.U) (hp : G.Hp) (t : G.T) : Option (G.El u) := match G.ag u, t with
  | true, .agg cs => match pvB G hp cs with
    | some ps => G.unrow u ps
    | none => none
  | false, .c c => match pvB G hp [c] with
    | some ps => G.unrow u ps
    | none => none
  | _, _ => none
def toT (u : G.U) (x : G.El u) : G.T := match G.ag u, G.row u x with
  | false, p :: _ => .c (.pv p)
  | _, ps => .agg (ps.map .pv)
def callK (K : G.KT) (env : G.Env) (fr : G.Fr) (hp : G.Hp) (c : Call) (k : G.Fr → G.Hp → G.D → Option β) : Option β := match c.callee with
  | .builtin b => match opTs G env fr c.args.toList with
    | some ts => match b, c.argTypes.toList, ts with
      | .len, [t], [x] => match isMapT P t with
        | true => mapLenK G hp t x fun y => k fr hp (.t y)
        | false => lenK G P hp t x fun y => k fr hp (.t y)
      | .append, [t, t2], [s, x] => appendK G env fr hp t t2 s x fun fr hp y => k fr hp (.t y)
      | .max, _, ts => extremeK G maxZ ts fun y => k fr hp (.t y)
      | .min, _, ts => extremeK G minZ ts fun y => k fr hp (.t y)
      | _, _, _ => none
    | none => none
  | .value f => match opT G env fr f, opTs G env fr c.args.toList with
    | some (.c (.fn u r F)), some [t] => match unB G u hp t with
      | some x => (F x).bind fun y => k fr hp (.t (toT G r y))
      | none => none
    | some (.c (.clo g caps)), some ts => K β g (ts ++ caps.map fun o => .c (.ptr o 0)) hp fun mv hp d => aftK G env fr mv fun fr => k fr hp d
    | _, _ => none
  | _ => none
def opK (K : G.KT) (env : G.Env) (fr : G.Fr) (hp : G.Hp) (o : Oper) (k : G.Fr → G.Hp → G.D → Option β) : Option β := match o.op with
  | .move x => moveK G env fr hp o.type x (k fr)
  | .assign x => moveK G env fr hp o.type x (k fr)
  | .pick c a b => match opT G env fr c, opT G env fr a, opT G env fr b with
    | some (.c (.pv (.val (.bool c)))), some a, some b => pickK G c a b fun y => k fr hp (.t y)
    | _, _, _ => none
  | .alloc t => allocK G P hp t fun hp y => k fr hp (.t y)
  | .box _ x => match opT G env fr x with
    | some x => boxK G hp x fun hp y => k fr hp (.t y)
    | none => none
  | .build t ps => match partsT G env fr ps.toList with
    | some ps => buildK G P t ps fun y => k fr hp (.t y)
    | none => none
  | .buildSlice t n ps => match partsT G env fr ps.toList with
    | some ps => buildSliceK G hp t n ps fun hp y => k fr hp (.t y)
    | none => none
  | .load t a => match opT G env fr a with
    | some a => loadK G hp t a fun y => k fr hp (.t y)
    | none => none
  | .store t a x => match opT G env fr a, opT G env fr x with
    | some a, some x => storeK G P hp t a x fun hp => k fr hp (.t (.c .junk))
    | _, _ => none
  | .nilCheck x => match opT G env fr x with
    | some x => nilCheckK G x fun y => k fr hp (.t y)
    | none => none
  | .binOp op ty x y _ => match opT G env fr x, opT G env fr y with
    | some x, some y => match valOf G x, valOf G y with
      | some a, some b => binK P op ty a b fun v => k fr hp (.t (pval G v))
      | _, _ => eqAggK G op ty x y fun v => k fr hp (.t (pval G v))
    | _, _ => none
  | .unOp op _ x => match opT G env fr x with
    | some x => match valOf G x with
      | some a => unK op a fun v => k fr hp (.t (pval G v))
      | none => none
    | none => none
  | .convert s t x => match opT G env fr x with
    | some x => convertK G P s t x fun y => k fr hp (.t y)
    | none => none
  | .makeFunc fn first caps => match opTs G env fr caps.toList with
    | some cs => makeFuncK G fn first.size cs fun y => k fr hp (.t y)
    | none => none
  | .makeSlice t n c => match opT G env fr n, opT G env fr c with
    | some a, some b => makeK G hp t a b (sameOp n c) fun hp y => k fr hp (.t y)
    | _, _ => none
  | .slice t x lo hi none => match opT G env fr x, optT G env fr lo, optT G env fr hi with
    | some x, some lo, some hi => sliceK G P t x lo hi fun y => k fr hp (.t y)
    | _, _, _ => none
  | .fieldAddr t x f => match opT G env fr x with
    | some x => fieldAddrK G t x f fun y => k fr hp (.t y)
    | none => none
  | .field t x f => match opT G env fr x with
    | some x => fieldK G P t x f fun y => k fr hp (.t y)
    | none => none
  | .indexAddr t x i => match opT G env fr x, opT G env fr i with
    | some x, some i => indexAddrK G hp t x i fun y => k fr hp (.t y)
    | _, _ => none
  | .index t x i => match opT G env fr x, opT G env fr i with
    | some x, some i => indexK G P t x i fun y => k fr hp (.t y)
    | _, _ => none
  | .extract (.tmp t) i => extractK G (getS G env fr t) i fun y => k fr hp (.t y)
  | .makeMap t none => makeMapK G P hp t fun hp y => k fr hp (.t y)
  | .mapUpdate t a s x => match opT G env fr a, opT G env fr s, opT G env fr x with
    | some a, some s, some x => mapUpdK G hp t a s x fun hp => k fr hp (.t (.c .junk))
    | _, _, _ => none
  | .lookup t a s false => match opT G env fr a, opT G env fr s with
    | some a, some s => lookK G P hp t a s fun y => k fr hp (.t y)
    | _, _ => none
  | .call c => callK G K env fr hp c k
  | _ => none

/-- What a known call must keep. -/
def CallOk (K : G.KT) : Prop := ∀ (β : Type) f ts hp k (r : β), K β f ts hp k = some r → (∃ fn, P.funcs[f]? = some fn ∧ fn.name ≠ "runtime.NumGoroutine" ∧ fn.body.isNone = false) ∧
  ∀ N m w vs, HRel G N hp m w → RepTs G w (Rof G hp m w) hp.length m ts vs →
    Calls P f vs.toArray w fun e w' => ∃ v hp' m' d mv, e = .returned v ∧ HRel G N hp' m' w' ∧ Kp G hp m w hp' m' w' ∧ (∀ o, o < hp.length → o ∉ mv → m' o = m o) ∧ hp.length ≤ hp'.length ∧ Below N w w' ∧ RepD G w' (Rof G hp' m' w') hp'.length m' d v ∧ k mv hp' d = some r ∧ (G.byref f = false → ∀ b, b < w.heap.size → w'.heap[b]? = w.heap[b]?)

section
variable {G} {w w' : World} {m m' : Nat → Value} {r : β} {N : Nat} {hp hp' : G.Hp} {env : G.Env} {fr : G.Fr} {tmps : Array Value}
theorem FRel.opTs (h : FRel G env fr hp m tmps w) : ∀ {xs : List Operand} {ys : List G.T}, opTs G env fr xs = some ys → RepTs G w (Rof G hp m w) hp.length m ys (xs.map (⟨tmps, []⟩ : Act).eval)
  | [], ys, he => by cases he; exact .nil
  | x :: xs, ys, he => by
    unfold Proofs.Ytmdghocpelkcoaa.opTs at he
    split at he
    · rename_i y zs h1 h2
      cases he
      exact .cons (h.opT h1) (h.opTs h2)
    · cases he
theorem FRel.partsT (h : FRel G env fr hp m tmps w) : ∀ {xs : List (Nat × Operand)} {ys : List (Nat × G.T)}, partsT G env fr xs = some ys →
    (xs.map fun p => (p.1, (⟨tmps, []⟩ : Act).eval p.2)).map (·.1) = ys.map (·.1) ∧ RepTs G w (Rof G hp m w) hp.length m (ys.map (·.2)) ((xs.map fun p => (p.1, (⟨tmps, []⟩ : Act).eval p.2)).map (·.2))
  | [], ys, he => by cases he; exact ⟨rfl, .nil⟩
  | (i, x) :: xs, ys, he => by
    unfold Proofs.Ytmdghocpelkcoaa.partsT at he
    split at he
    · rename_i y zs h1 h2
      cases he
      obtain ⟨h3, h4⟩ := h.partsT h2
      exact ⟨by simp only [List.map_cons, h3], .cons (h.opT h1) h4⟩
    · cases he
theorem FRel.optT (h : FRel G env fr hp m tmps w) {x : Option Operand} {y : Option G.T} (he : optT G env fr x = some y) : RepOpt G w (Rof G hp m w) hp.length m y (x.map (⟨tmps, []⟩ : Act).eval) := by
  unfold Proofs.Ytmdghocpelkcoaa.optT at he
  split at he
  · cases he; trivial
  · split at he
    · rename_i h1; cases he; exact h.opT h1
    · cases he
theorem run_zeroValue_any {t : TypeId} {z : Value} {w : World} (h : (zeroValue t).run P w = .ok z w) (w' : World) : (zeroValue t).run P w' = .ok z w' := by
  unfold zeroValue at h ⊢
  simp only [Sem.run_bind, typeInfo, run_program, Result.andThen_ok] at h ⊢
  cases hi : P.info? t with
  | none => simp [hi] at h
  | some i =>
    simp only [hi, Sem.run_pure, Result.andThen_ok] at h ⊢
    cases hz : i.zero with
    | none => simp [hz] at h
    | some v => simp only [hz, Sem.run_pure, Result.ok.injEq] at h ⊢; exact ⟨h.1, trivial⟩
theorem buildK_ok {R : Nat → Prop} {n : Nat} {t : TypeId} {xs : List (Nat × G.T)} {vs : Array (Nat × Value)} {K : G.T → Option β} (hx : vs.toList.map (·.1) = xs.map (·.1))
    (hr : RepTs G w R n m (xs.map (·.2)) (vs.toList.map (·.2))) (h : buildK G P t xs K = some r) : ∃ v x, (∀ w, (Instr.build t vs).run P w = .ok v w) ∧ RepT G w R n m x v ∧ K x = some r := by
  unfold buildK at h
  split at h
  · rename_i fs zc hu hz
    split at h
    · rename_i pl hpl
      split at h
      · rename_i cs hcs
        obtain ⟨z, h1', h2, _⟩ := zeroCells_ok (w := w) (R := R) (n := n) (m := m) hz
        have h1 : ∀ w, (zeroValue t).run P w = .ok z w := by
          intro w'
          exact run_zeroValue_any h1' w'
        obtain ⟨ws, h3, h4⟩ := fillC_ok hx hr _ _ _ h2 hcs
        have hmap : ∀ (w : World) (l : List Field) (pl : List (Nat × Nat)), placesOf P l = some pl → (l.mapM fun f => (do pure (f.offset, ← sizeOf f.type) : Sem (Nat × Nat))).run P w = .ok pl w := by
          intro w l
          induction l with
          | nil => intro pl h; cases h; rfl
          | cons f l ih =>
            intro pl h
            unfold placesOf at h
            split at h
            · rename_i i l' hi hl'
              cases h
              have := ih l' hl'
              simp [List.mapM_cons, sizeOf, typeInfo, hi] at this ⊢
              rw [this]; rfl
            · cases h
        refine ⟨.agg ws, .agg cs, fun w => ?_, ⟨ws.toList, by simp, h4⟩, h⟩
        unfold Instr.build
        simp only [Sem.run_bind, h1 w, Result.andThen_ok, run_underlying hu, Array.mapM_eq_mapM_toList, Sem.run_map]
        rw [hmap w fs.toList pl hpl]
        simp only [Result.andThen_ok, List.getElem?_toArray]
        rw [h3]
        rfl
      · cases h
    · cases h
  · cases h

theorem wp_val {o : Oper} {a : Act} {s : Sem Value} {v : Value} {next : Act → World → Prop} {Q : Exit → Act → World → Prop} (hex : execOp a.eval o = (do pure (.value (← s)))) (hr : s.run P w = .ok v w') (h : next (a.put o.dst v) w') : o.wp P a w next Q := by
  unfold Oper.wp
  rw [hex]
  simp only [Sem.run_bind, hr, Result.andThen_ok, Sem.run_pure]
  exact h
/-- The world later on: no older block has turned. -/
def Later (w w' : World) : Prop := ∀ b, b < w.heap.size → w'.heap[b]? = w.heap[b]?
/-- Which memory that was there an operation turns: unknown, none, one object's. -/
def opTg (G : Sg P) (env : G.Env) (fr : G.Fr) (o : Oper) : Option (Option Nat) := match o.op with
  | .store _ a _ => match opT G env fr a with
    | some (.c (.ptr q _)) => some (some q)
    | _ => none
  | .mapUpdate .. => none
  | .call c => match c.callee with
    | .builtin .append => none
    | .builtin _ => some none
    | .value (.func f) => if G.byref f = true then none else some none
    | _ => none
  | _ => some none
def TgB (m : Nat → Value) (w w' : World) : Option (Option Nat) → Prop
  | none => True
  | some none => Later w w'
  | some (some q) => ∀ b, b < w.heap.size → blkOf (m q) ≠ some b → w'.heap[b]? = w.heap[b]?
theorem TgB.of_later {m : Nat → Value} {w w' : World} (h : Later w w') : ∀ tg, TgB m w w' tg
  | none => trivial
  | some none => h
  | some (some _) => fun b hb _ => h b hb
theorem TgB.refl (m : Nat → Value) (w : World) (tg : Option (Option Nat)) : TgB m w w tg := TgB.of_later (fun _ _ => rfl) tg
def After (G : Sg P) (N : Nat) (env : G.Env) (hp : G.Hp) (m : Nat → Value) (w : World) (tmps : Array Value) (k : G.Fr → G.Hp → G.D → Option β) (r : β) (tg : Option (Option Nat)) (next : Value → World → Prop) : Prop :=
  ∀ fr' hp' m' w' d v, HRel G N hp' m' w' → FRel G env fr' hp' m' tmps w' → Below N w w' → RepD G w' (Rof G hp' m' w') hp'.length m' d v → Kp G hp m w hp' m' w' → k fr' hp' d = some r → TgB m w w' tg → next v w'

theorem junkCs_or (l : List Nat) (c : G.C) : (junkCs G l c = .junk) ∨ (junkCs G l c = c ∧ ∀ o ∈ refs G c, o ∉ l) := by
  unfold junkCs
  by_cases h : (refs G c).any (fun o => l.contains o) = true
  · rw [if_pos h]; exact .inl rfl
  · rw [if_neg h]
    refine .inr ⟨rfl, fun o ho hl => h ?_⟩
    exact List.any_eq_true.2 ⟨o, ho, by simpa using hl⟩
section
variable {R R' : Nat → Prop} {n n' : Nat}
theorem RepC.junks (l : List Nat) (h1 : ∀ b, R b → R' b) (h2 : ∀ b, R b → w'.heap[b]? = w.heap[b]?) (hn : n ≤ n') (hm : ∀ o', o' ∉ l → o' < n → m' o' = m o') {c : G.C} {v : Value}
    (h : RepC G w R n m c v) : RepC G w' R' n' m' (junkCs G l c) v := by
  rcases junkCs_or l c with e | ⟨e, hx⟩
  · rw [e]; trivial
  · rw [e]; exact h.mono h1 h2 hn fun o' ho' => hm o' (hx o' ho')
theorem RepL.junks (l : List Nat) (h1 : ∀ b, R b → R' b) (h2 : ∀ b, R b → w'.heap[b]? = w.heap[b]?) (hn : n ≤ n') (hm : ∀ o', o' ∉ l → o' < n → m' o' = m o') {cs : List G.C} {vs : List Value}
    (h : RepL G w R n m cs vs) : RepL G w' R' n' m' (cs.map (junkCs G l)) vs :=
  ⟨by simpa using h.1, fun i c hi => by
    rw [List.getElem?_map] at hi
    cases hc : cs[i]? with
    | none => rw [hc] at hi; cases hi
    | some c0 =>
      rw [hc] at hi; cases hi
      obtain ⟨x, h3, h4⟩ := h.2 i c0 hc
      exact ⟨x, h3, h4.junks l h1 h2 hn hm⟩⟩
theorem RepT.junks (l : List Nat) (h1 : ∀ b, R b → R' b) (h2 : ∀ b, R b → w'.heap[b]? = w.heap[b]?) (hn : n ≤ n') (hm : ∀ o', o' ∉ l → o' < n → m' o' = m o') {t : G.T} {v : Value}
    (h : RepT G w R n m t v) : RepT G w' R' n' m' (junkTs G l t) v := by
  cases t with
  | c x => exact RepC.junks l h1 h2 hn hm h
  | agg cs => obtain ⟨vs, e, hl⟩ := h; exact ⟨vs, e, hl.junks l h1 h2 hn hm⟩
theorem RepD.junks (l : List Nat) (h1 : ∀ b, R b → R' b) (h2 : ∀ b, R b → w'.heap[b]? = w.heap[b]?) (hn : n ≤ n') (hm : ∀ o', o' ∉ l → o' < n → m' o' = m o') {d : G.D} {v : Value}
    (h : RepD G w R n m d v) : RepD G w' R' n' m' (junkDs G l d) v := by
  cases d with
  | t x => exact RepT.junks l h1 h2 hn hm h
  | tup ts =>
    obtain ⟨vs, e, hl, hv⟩ := h
    refine ⟨vs, e, by simpa using hl, fun i t hi => ?_⟩
    rw [List.getElem?_map] at hi
    cases hc : ts[i]? with
    | none => rw [hc] at hi; cases hi
    | some t0 =>
      rw [hc] at hi; cases hi
      obtain ⟨x, h3, h4⟩ := hv i t0 hc
      exact ⟨x, h3, h4.junks l h1 h2 hn hm⟩
end
theorem aftK_ok {mv : List Nat} {k : G.Fr → Option β} (hf : FRel G env fr hp m tmps w) (hk : Kp G hp m w hp' m' w') (hm : ∀ o, o < hp.length → o ∉ mv → m' o = m o) (hl : hp.length ≤ hp'.length) (h : aftK G env fr mv k = some r) :
    ∃ fr', FRel G env fr' hp' m' tmps w' ∧ k fr' = some r := by
  unfold aftK at h
  split at h
  · exact ⟨fr, ⟨hf.len, fun t d hd => (hf.fr t d hd).mono hk.ro hk.heap hl (fun o _ ho => hm o ho (by simp)), fun t d hd => ⟨(hf.env t d hd).1, (hf.env t d hd).2.mono hk.ro hk.heap hl (fun o _ ho => hm o ho (by simp))⟩⟩, h⟩
  · rename_i x l
    split at h
    · rename_i hall
      refine ⟨_, ⟨by simp [hf.len], fun t d hd => ?_, fun t d hd => ⟨(hf.env t d hd).1, (hf.env t d hd).2.mono hk.ro hk.heap hl (fun o hr ho => hm o ho fun hmem => ?_)⟩⟩, h⟩
      · rw [List.getElem?_map] at hd
        cases hc : fr[t]? with
        | none => rw [hc] at hd; cases hd
        | some d0 => rw [hc] at hd; cases hd; exact (hf.fr t d0 hc).junks (x :: l) hk.ro hk.heap hl (fun o hn ho => hm o ho hn)
      · have h1 := List.all_eq_true.1 hall o hmem
        have h2 := List.all_eq_true.1 h1 _ (List.mem_of_getElem? hd)
        simp only [Bool.not_eq_true', List.contains_eq_mem, decide_eq_false_iff_not] at h2
        exact h2 hr
    · cases h
theorem moveK_ok {ty : TypeId} {x : Operand} {k : G.Hp → G.D → Option β} (hh : HRel G N hp m w) (hf : FRel G env fr hp m tmps w) (h : moveK G env fr hp ty x k = some r) :
    ∃ hp' m' d, HRel G N hp' m' w ∧ FRel G env fr hp' m' tmps w ∧ RepD G w (Rof G hp' m' w) hp'.length m' d ((⟨tmps, []⟩ : Act).eval x) ∧ k hp' d = some r ∧ Kp G hp m w hp' m' w := by
  unfold moveK at h
  split at h
  · split at h
    · rename_i u hu
      obtain ⟨h1, h2⟩ := new_row (w' := w) (v := .slice none 0 0) hh (Nat.le_refl _) (fun _ _ => rfl) (l := ([] : List (G.El u))) (World.ownsRow_nil w N _ _) (fun b hb => by cases hb) (by intro k x j p hk; simp at hk) (by simp)
      refine ⟨_, _, .t (.c (.os hp.length)), h1, hf.keep h2 (by simp), ?_, h, h2.kp (by simp)⟩
      exact os_new (w := w) (R := fun _ => True) (.slice none 0 0) rfl _
    · cases h
  · rename_i t
    exact ⟨hp, m, _, hh, hf, hf.get t, h, Kp.refl _ _ _⟩
  · split at h
    · rename_i y hy
      exact ⟨hp, m, .t y, hh, hf, hf.opT hy, h, Kp.refl _ _ _⟩
    · cases h
theorem pickK_ok {R : Nat → Prop} {n : Nat} {c : Bool} {a b : G.T} {va vb : Value} {K : G.T → Option β} (ha : RepT G w R n m a va) (hb : RepT G w R n m b vb) (h : pickK G c a b K = some r) :
    ∃ x, RepT G w R n m x (if c then va else vb) ∧ K x = some r := by
  unfold pickK at h
  split at h
  · rename_i x y
    obtain ⟨rfl, _⟩ := valOf_rep (v := .bool x) rfl ha
    obtain ⟨rfl, _⟩ := valOf_rep (v := .bool y) rfl hb
    exact ⟨_, by cases c <;> exact RepT_val rfl, h⟩
  · rename_i k x k' y
    split at h
    · rename_i hk; subst hk
      obtain ⟨rfl, _⟩ := valOf_rep (v := .int k x) rfl ha
      obtain ⟨rfl, _⟩ := valOf_rep (v := .int k y) rfl hb
      exact ⟨_, by cases c <;> exact RepT_val rfl, h⟩
    · cases h
  · cases c
    · exact ⟨_, hb, h⟩
    · exact ⟨_, ha, h⟩
theorem RepTs.append {R : Nat → Prop} {n : Nat} {xs ys : List G.T} {vs us : List Value} (h : RepTs G w R n m xs vs) (k : RepTs G w R n m ys us) : RepTs G w R n m (xs ++ ys) (vs ++ us) := by
  induction h with
  | nil => exact k
  | cons hx _ ih => exact .cons hx ih
theorem caps_rep {R : Nat → Prop} {n : Nat} : ∀ {caps : List Nat} {vs : List Value}, vs.length = caps.length → (∀ (i o : Nat), caps[i]? = some o → o < n ∧ ∃ b : Nat, m o = .pointer (some ⟨b, 0, none⟩) ∧ vs[i]? = some (Value.pointer (some ⟨b, 0, none⟩))) →
    RepTs G w R n m (caps.map fun o => .c (.ptr o 0)) vs
  | [], vs, h, _ => by obtain rfl : vs = [] := List.eq_nil_of_length_eq_zero h; exact .nil
  | o :: caps, [], h, _ => by simp at h
  | o :: caps, v :: vs, h, hc => by
    obtain ⟨h1, b, h2, h3⟩ := hc 0 o rfl
    cases h3
    exact .cons ⟨h1, b, h2, rfl⟩ (caps_rep (by simpa using h) fun i o' hi => hc (i + 1) o' hi)
theorem sameOp_eval {x y : Operand} (h : sameOp x y = true) (a : Act) : a.eval x = a.eval y := by
  unfold sameOp at h
  split at h
  · rename_i p q
    have : p = q := by simpa using h
    rw [this]
  · cases h
end

section
variable {G} {w w' w0 : World} {R R' : Nat → Prop} {n n' : Nat} {m m' : Nat → Value} {r : β} {N : Nat} {hp hp' : G.Hp} {env : G.Env} {fr : G.Fr} {tmps : Array Value}
theorem RepP_row {o : Nat} {lk : Bool} {u : G.U} {l : List (G.El u)} (hR : ∀ b, R b → b < w.heap.size) (h : RepO G w R n m N o (.row lk u l)) : RepP G w (fun b => b < w.heap.size) (.sl u l) (m o) := by
  obtain ⟨xs, h1, h2, h3⟩ := h
  rcases h1.2 with ⟨e, e'⟩ | ⟨g, cap, cur, e, f1, f2, f3, f4, f5, f6⟩
  · have : l = [] := List.eq_nil_of_length_eq_zero e'
    subst this
    rw [e]
    exact RepP.sl u [] none 0 0 0 (fun _ _ => undef) (by simp) (by simp) (by simp) (by simp)
  · rw [e]
    refine RepP.sl u l _ g 0 cap (fun k j => (xs[k * G.sz u + j]?).getD undef) f3 (fun _ => ⟨rfl, (Array.getElem?_eq_some_iff.1 f2).1⟩) (fun k x j p hk hj => ?_) (fun k x j p hk hj => ?_)
    · obtain ⟨cv, c1, _⟩ := h2 k x j p hk hj
      have hlt := (List.getElem?_eq_some_iff.1 c1).1
      rw [h1.1] at hlt
      have hc := h1
      rw [e] at hc
      rw [Nat.zero_add, hc.cellAt _ hlt, c1]
      rfl
    · obtain ⟨cv, c1, c2⟩ := h2 k x j p hk hj
      simp only [c1, Option.getD_some]
      exact RepP.mono G hR (fun _ _ => rfl) c2
theorem pvB_ok (hok : G.Ok) (hh : HRel G N hp m w) : ∀ {cs : List G.C} {ps : List G.P'} {vs : List Value}, pvB G hp cs = some ps → RepL G w (Rof G hp m w) hp.length m cs vs →
    vs.length = ps.length ∧ ∀ (j : Nat) (p : G.P'), ps[j]? = some p → ∃ x, vs[j]? = some x ∧ RepP G w (fun b => b < w.heap.size) p x
  | [], ps, vs, h, hl => by cases h; exact ⟨hl.1, by simp⟩
  | c :: cs, ps, vs, h, hl => by
    cases vs with
    | nil => have := hl.1; simp at this
    | cons v vs =>
      have htl : RepL G w (Rof G hp m w) hp.length m cs vs := by have := hl.drop 1; simpa using this
      obtain ⟨v', hv, hrep⟩ := hl.2 0 c rfl
      cases hv
      unfold pvB at h
      split at h
      · rename_i p
        split at h
        · rename_i ps' hps
          cases h
          obtain ⟨h1, h2⟩ := pvB_ok hok hh hps htl
          refine ⟨by simp [h1], fun j q hj => ?_⟩
          cases j with
          | zero => cases hj; exact ⟨v, rfl, RepP.mono G (fun b hb => hb.1) (fun _ _ => rfl) hrep⟩
          | succ j => exact h2 j q hj
        · cases h
      · rename_i o
        split at h
        · rename_i lk u l ps' ho hps
          cases h
          obtain ⟨h1, h2⟩ := pvB_ok hok hh hps htl
          refine ⟨by simp [h1], fun j q hj => ?_⟩
          cases j with
          | zero =>
            cases hj
            obtain ⟨_, rfl, _⟩ := hrep
            exact ⟨_, rfl, RepP_row (fun b hb => hb.1) (hh.obj o _ ho)⟩
          | succ j => exact h2 j q hj
        · cases h
      · cases h
theorem toT_of (hok : G.Ok) {u : G.U} {x : G.El u} {v : Value} {vs : List Value} (hag : match G.ag u with | true => v = .agg vs.toArray | false => vs = [v]) (h1 : vs.length = G.sz u)
    (h2 : ∀ (j : Nat) (p : G.P'), (G.row u x)[j]? = some p → ∃ y, vs[j]? = some y ∧ RepP G w R p y) : RepT G w R n m (toT G u x) v := by
  unfold toT
  cases hu : G.ag u with
  | true =>
    rw [hu] at hag
    subst hag
    exact ⟨vs, rfl, RepL_pv (by rw [hok.row_sz]; exact h1) h2⟩
  | false =>
    rw [hu] at hag
    subst hag
    cases hr : G.row u x with
    | nil => have := hok.row_sz u x; rw [hr, ← h1] at this; cases this
    | cons p ps =>
      obtain ⟨y, h3, h4⟩ := h2 0 p (by rw [hr]; rfl)
      cases h3
      exact h4
theorem unB_rep (hok : G.Ok) (hh : HRel G N hp m w) {u : G.U} {t : G.T} {x : G.El u} {v : Value} (h : unB G u hp t = some x) (ht : RepT G w (Rof G hp m w) hp.length m t v) : RepU G w (fun b => b < w.heap.size) u x v := by
  unfold unB at h
  split at h
  · rename_i cs hag
    split at h
    · rename_i ps hps
      obtain ⟨vs, rfl, hl⟩ := ht
      obtain ⟨h1, h2⟩ := pvB_ok hok hh hps hl
      obtain ⟨h3, h4⟩ := unrow_ok hok h h1 h2
      exact ⟨vs, by rw [hag], h3, h4⟩
    · cases h
  · rename_i c hag
    split at h
    · rename_i ps hps
      obtain ⟨h1, h2⟩ := pvB_ok hok hh (vs := [v]) hps ⟨rfl, fun i c' hi => by
        cases i with
        | zero => cases hi; exact ⟨v, rfl, ht⟩
        | succ i => cases hi⟩
      obtain ⟨h3, h4⟩ := unrow_ok hok h h1 h2
      exact ⟨[v], by rw [hag], h3, h4⟩
    · cases h
  · cases h

theorem RepU.toT (hok : G.Ok) {u : G.U} {x : G.El u} {v : Value} (h : RepU G w R u x v) : RepT G w R n m (toT G u x) v := by
  obtain ⟨vs, h1, h2, h3⟩ := h
  exact toT_of hok h1 h2 h3
theorem RepU.flat (hok : G.Ok) {u : G.U} (hf : G.flat u = true) {x : G.El u} {v : Value} (h : RepU G w R u x v) : RepU G w' R' u x v := by
  obtain ⟨vs, h1, h2, h3⟩ := h
  refine ⟨vs, h1, h2, fun j p hj => ?_⟩
  obtain ⟨y, h4, h5⟩ := h3 j p hj
  obtain ⟨q, rfl⟩ := hok.flat u hf x p (List.mem_of_getElem? hj)
  cases h5 with
  | val _ hv => exact ⟨_, h4, .val _ hv⟩
end
end Go.Proofs.Ytmdghocpelkcoaa
