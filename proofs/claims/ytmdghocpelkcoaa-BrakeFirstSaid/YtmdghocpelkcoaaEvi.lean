/- The typed reading: functions whose text is read where they are called. -/
import Derived.Test.YtmdghocpelkcoaaEv19
namespace Go.Proofs.Ytmdghocpelkcoaa
open Go.RowKit

/-- A function that is read in place: where (how many objects there are), what it may turn, its text. -/
structure Inl (U : Type) : Type where
  f : FuncId
  n : Nat
  ids : List Nat
  ps : List Nat
  code : Code
  an : An U
  ntmps : Nat
  res : List ResultVar
variable {P : Program} (G : Sg P) {β : Type}
def restO (ids : List Nat) : Nat → G.Hp → G.Hp → G.Hp
  | _, [], [] => []
  | _, [], _ :: hp' => .dead :: hp'
  | i, ob :: l, ob' :: l' => (if ids.contains i then ob' else ob) :: restO ids (i + 1) l l'
  | _, _ :: _, [] => []
def tupOf : List G.T → G.D
  | [t] => .t t
  | ts => .tup ts
def mvOf (ids ps : List Nat) (hp : G.Hp) : List Nat := ids.filter fun o => !ps.contains o && match hp[o]? with
  | some ob => ob.mov
  | none => false
def inlRun (i : Inl G.U) (K : G.KT) (ts : List G.T) (hp : G.Hp) (k : List Nat → G.Hp → G.D → Option β) : Option β :=
  ev G K i.code i.an β (List.replicate i.ntmps none) (frame0 G i.ntmps ts) (headO G i.ids 0 hp ++ [.pins i.ps]) fun e fr hp' => match e with
    | .exit _ => none
    | _ => match resTs G (List.replicate i.ntmps none) fr hp' i.res with
      | some ts => k (mvOf G i.ids i.ps hp) (restO G i.ids 0 hp hp') (tupOf G ts)
      | none => none
def lookI : List (Inl G.U) → FuncId → Nat → Option (Inl G.U)
  | [], _, _ => none
  | i :: l, f, n => if i.f = f ∧ i.n = n then some i else lookI l f n
/-- The calls known: those of the list are read in place (to a depth), the others as K0 says. -/
def inlK (l : List (Inl G.U)) (K0 : G.KT) : Nat → G.KT
  | 0 => K0
  | d + 1 => fun _ f ts hp k => match lookI G l f hp.length with
    | some i => if G.byref f = true then inlRun G i (inlK l K0 d) ts hp k else none
    | none => K0 _ f ts hp k
def InlOk (l : List (Inl G.U)) : Prop := ∀ i ∈ l, ∃ fn, P.funcs[i.f]? = some fn ∧ fn.name ≠ "runtime.NumGoroutine" ∧ fn.body = some i.code ∧ fn.ntmps = i.ntmps ∧ fn.results = i.res.toArray
section
variable {G} {w w' w0 : World} {m m' : Nat → Value} {r : β} {N : Nat} {hp hp' : G.Hp}
theorem restO_get (ids : List Nat) : ∀ (i : Nat) (hp hp' : G.Hp) (o : Nat), hp.length ≤ hp'.length → (restO G ids i hp hp')[o]? = match hp[o]? with
    | some ob => if ids.contains (i + o) then hp'[o]? else some ob
    | none => if o = hp.length then (hp'[o]?).map (fun _ => .dead) else hp'[o]?
  | _, [], [], o, _ => by simp [restO]
  | _, [], _ :: hp', 0, _ => by simp [restO]
  | _, [], _ :: hp', o + 1, _ => by simp [restO]
  | i, ob :: l, [], o, h => by simp at h
  | i, ob :: l, ob' :: l', 0, h => by
    show some (if ids.contains i then ob' else ob) = _
    simp only [List.getElem?_cons_zero, Nat.add_zero]
    split <;> rfl
  | i, ob :: l, ob' :: l', o + 1, h => by
    show (restO G ids (i + 1) l l')[o]? = _
    rw [restO_get ids (i + 1) l l' o (by simpa using h), show i + 1 + o = i + (o + 1) from by omega]
    simp only [List.getElem?_cons_succ, List.length_cons, Nat.add_right_cancel_iff]
theorem restO_length (ids : List Nat) : ∀ (i : Nat) (hp hp' : G.Hp), hp.length ≤ hp'.length → (restO G ids i hp hp').length = hp'.length
  | _, [], [], _ => rfl
  | _, [], _ :: hp', _ => rfl
  | i, ob :: l, [], h => by simp at h
  | i, ob :: l, ob' :: l', h => by simp [restO, restO_length ids (i + 1) l l' (by simpa using h)]
theorem tupOf_ok {R : Nat → Prop} {n : Nat} {ts : List G.T} {vs : List Value} (h : RepTs G w R n m ts vs) : RepD G w R n m (tupOf G ts) (match vs with | [v] => v | vs => .tuple vs.toArray) := by
  cases h with
  | nil => exact ⟨[], rfl, rfl, fun i t hi => by cases hi⟩
  | cons h1 h2 =>
    cases h2 with
    | nil => exact h1
    | cons h3 h4 => exact ⟨_, rfl, (RepTs.cons h1 (.cons h3 h4)).length, (RepTs.cons h1 (.cons h3 h4)).get⟩
theorem inlRun_ok (hok : G.Ok) {K : G.KT} (hK : CallOk G K) {i : Inl G.U} {fn : Func} (hf : P.funcs[i.f]? = some fn) (hb : fn.body = some i.code) (hn : fn.ntmps = i.ntmps) (hres : fn.results = i.res.toArray) {ts : List G.T} {k : List Nat → G.Hp → G.D → Option β}
    (h : inlRun G i K ts hp k = some r) {vs : List Value} (hh : HRel G N hp m w) (ha : RepTs G w (Rof G hp m w) hp.length m ts vs) :
    Calls P i.f vs.toArray w fun e w' => ∃ v hp' m' d mv, e = .returned v ∧ HRel G N hp' m' w' ∧ Kp G hp m w hp' m' w' ∧ (∀ o, o < hp.length → o ∉ mv → m' o = m o) ∧ hp.length ≤ hp'.length ∧ Below N w w' ∧ RepD G w' (Rof G hp' m' w') hp'.length m' d v ∧ k mv hp' d = some r := by
  have hlen := ha.length
  obtain ⟨q1, q2⟩ := Inner.headRel hh i.ids
  obtain ⟨q3, q4⟩ := q1.ext (w' := w) (m' := m) (Nat.le_refl _) (fun _ _ => rfl) [.pins i.ps] (fun _ _ => rfl) (fun j ob hi => by
    cases j with
    | zero => cases hi; trivial
    | succ j => cases hi) (fun j ob b hi hl _ => by
    cases j with
    | zero => cases hi; cases hl
    | succ j => cases hi) (fun j j' ob ob' b hi _ hl _ _ _ => by
    cases j with
    | zero => cases hi; cases hl
    | succ j => cases hi)
  have hrl : Rl G N w (List.replicate i.ntmps none) (frame0 G i.ntmps ts) (headO G i.ids 0 hp ++ [.pins i.ps]) m (vs.toArray ++ Array.replicate (fn.ntmps - vs.toArray.size) undef) w := by
    refine ⟨q3, ⟨by simp [frame0, hlen, hn], fun t d hd => ?_, fun t d hd => ?_⟩, Below.refl _ _⟩
    · unfold frame0 at hd
      rw [List.getElem?_append] at hd
      split at hd
      · rename_i hlt
        rw [List.length_map] at hlt
        rw [List.getElem?_map] at hd
        cases ht : ts[t]? with
        | none => rw [ht] at hd; cases hd
        | some x =>
          rw [ht] at hd
          cases hd
          obtain ⟨v, h1, h2⟩ := ha.get t x ht
          have e : (vs.toArray ++ Array.replicate (fn.ntmps - vs.toArray.size) undef).getD t undef = v := by
            have hlt' : t < vs.length := by omega
            rw [List.getElem?_eq_getElem hlt'] at h1
            simp only [Option.some.injEq] at h1
            simp [Array.getElem?_append, hlt', h1]
          rw [e]
          exact RepT.mono (fun b hb => q4.ro b (q2 b hb)) (fun _ _ => rfl) (by rw [List.length_append, headO_length]; omega) (fun _ _ _ => rfl) h2
      · rw [List.getElem?_replicate] at hd
        split at hd
        · cases hd; trivial
        · cases hd
    · rw [List.getElem?_replicate] at hd
      split at hd <;> cases hd
  refine calls_of_wp hf hb (ev_ok hok hK i.code hrl h ?_)
  intro e fr' hp' m' tmps' w' h1 h2' _ h4
  have h2 := (q4.kp (by simp)).trans h2'
  have fin : (match resTs G (List.replicate i.ntmps none) fr' hp' i.res with
      | some ts => k (mvOf G i.ids i.ps hp) (restO G i.ids 0 hp hp') (tupOf G ts)
      | none => none) = some r → ∃ v, (results fn tmps').run P w' = .ok v w' ∧ ∃ u hp' m' d mv, Ending.returned v = .returned u ∧ HRel G N hp' m' w' ∧ Kp G hp m w hp' m' w' ∧ (∀ o, o < hp.length → o ∉ mv → m' o = m o) ∧ hp.length ≤ hp'.length ∧ Below N w w' ∧ RepD G w' (Rof G hp' m' w') hp'.length m' d u ∧ k mv hp' d = some r := by
    intro h4
    split at h4
    · rename_i ts' hts
      obtain ⟨vs', h5, h6⟩ := resTs_ok (P := P) hok h1.hh h1.hf i.res hts
      have hle : hp.length ≤ hp'.length := by have := h2.len; rw [headO_length] at this; exact this
      have hl2 : (restO G i.ids 0 hp hp').length = hp'.length := restO_length _ _ _ _ hle
      have hhead : ∀ (o : Nat) (ob : G.O), hp[o]? = some ob → (headO G i.ids 0 hp)[o]? = some (if i.ids.contains o then ob else lockO G ob) := fun o ob ho => by
        rw [headO_get, ho, Option.map_some, Nat.zero_add]
      have hget : ∀ (o : Nat), (restO G i.ids 0 hp hp')[o]? = match hp[o]? with
          | some ob => if i.ids.contains o then hp'[o]? else some ob
          | none => if o = hp.length then (hp'[o]?).map (fun _ => .dead) else hp'[o]? := fun o => by rw [restO_get _ _ _ _ _ hle, Nat.zero_add]
      obtain ⟨c1, c2, _⟩ := h1.hh.cover (hp2 := restO G i.ids 0 hp hp') (by
        rw [hl2]
        intro o ob ho
        rw [hget] at ho
        have same : hp'[o]? = some ob → ob = .dead ∨ ∃ ob', hp'[o]? = some ob' ∧ Cov G hp'.length ob' ob := fun ho => .inr ⟨ob, ho, cov_lock rfl (h1.hh.obj o ob ho).lt⟩
        cases h0 : hp[o]? with
        | none =>
          rw [h0] at ho
          simp only at ho
          split at ho
          · rw [Option.map_eq_some_iff] at ho
            obtain ⟨_, _, rfl⟩ := ho
            exact .inl rfl
          · exact same ho
        | some ob0 =>
          rw [h0] at ho
          simp only at ho
          split at ho
          · exact same ho
          · rename_i hne
            cases ho
            have h7 := hhead o ob h0
            rw [if_neg hne] at h7
            refine .inr ⟨_, h2.lk o _ h7 (lockO_lockd ob), cov_lock (lockO_idem ob) fun q hq => ?_⟩
            have := (hh.obj o ob h0).lt q hq
            omega)
      have hmap : ∀ o, o < hp.length → o ∉ mvOf G i.ids i.ps hp → m' o = m o := by
        intro o ho hmv
        have h0 := List.getElem?_eq_getElem ho
        by_cases hps : o ∈ i.ps
        · exact h2'.pn hp.length i.ps o (by rw [List.getElem?_append_right (by rw [headO_length]; omega), headO_length]; simp) hps (by rw [List.length_append, headO_length]; omega)
        refine (h2.mv o _ (hhead o _ h0) ?_).1
        split
        · rename_i hin
          unfold mvOf at hmv
          rw [List.mem_filter, h0] at hmv
          cases hm : (hp[o]).mov with
          | false => rfl
          | true => exact absurd ⟨by simpa using hin, by simp [hm, hps]⟩ hmv
        · exact lockO_mov _
      refine ⟨_, ?_, _, _, m', tupOf G ts', mvOf G i.ids i.ps hp, rfl, c1, ⟨fun b hb => c2 b (h2.ro b (q2 b hb)), fun b hb => h2.heap b (q2 b hb), fun o ob ho hl => ?_, fun o ob ho hm => ?_, by omega, fun q os o hq ho hl => h2.pn q os o (by rw [hhead q _ hq]; split <;> rfl) ho (by rw [headO_length]; exact hl)⟩, hmap, by omega, h1.bl,
        (tupOf_ok h6).mono c2 (fun _ _ => rfl) (Nat.le_of_eq hl2.symm) (fun _ _ _ => rfl), h4⟩
      · show (do let vs ← fn.results.mapM (resM tmps'); pure (if h : vs.size = 1 then vs[0] else Value.tuple vs) : Sem Value).run P w' = _
        rw [hres]
        simp only [Sem.run_bind, Array.mapM_eq_mapM_toList, Sem.run_map, h5, Result.andThen_ok, Sem.run_pure]
        congr 1
        cases vs' with
        | nil => rfl
        | cons a vs' => cases vs' with
          | nil => rfl
          | cons b vs' => simp
      · rw [hget, ho]
        simp only
        split
        · rename_i hin
          have h7 := hhead o ob ho
          rw [if_pos hin] at h7
          exact h2.lk o ob h7 hl
        · rfl
      · have h7 := hhead o ob ho
        obtain ⟨e1, ob1, h8, h9⟩ := h2.mv o _ h7 (by split; exact hm; exact lockO_mov ob)
        refine ⟨e1, ?_⟩
        rw [hget, ho]
        simp only
        split
        · exact ⟨ob1, h8, h9⟩
        · exact ⟨ob, rfl, hm⟩
    · cases h4
  cases e with
  | normal => exact ⟨rfl, fin h4⟩
  | ret => exact ⟨rfl, fin h4⟩
  | exit id => cases h4
theorem lookI_mem : ∀ {l : List (Inl G.U)} {f : FuncId} {n : Nat} {i : Inl G.U}, lookI G l f n = some i → i ∈ l ∧ i.f = f
  | [], f, n, i, h => by cases h
  | j :: l, f, n, i, h => by
    unfold lookI at h
    split at h
    · rename_i e; cases h; exact ⟨List.mem_cons_self, e.1⟩
    · obtain ⟨h1, h2⟩ := lookI_mem h
      exact ⟨List.mem_cons_of_mem _ h1, h2⟩
theorem inlK_ok (hok : G.Ok) {l : List (Inl G.U)} (hl : InlOk G l) {K0 : G.KT} (h0 : CallOk G K0) : ∀ d, CallOk G (inlK G l K0 d)
  | 0 => h0
  | d + 1 => by
    intro β f ts hp k r h
    unfold inlK at h
    split at h
    · rename_i i hi
      split at h
      · rename_i hby
        obtain ⟨hmem, rfl⟩ := lookI_mem hi
        obtain ⟨fn, h1, h2, h3, h4, h5⟩ := hl i hmem
        refine ⟨⟨fn, h1, h2, by rw [h3]; rfl⟩, fun N m w vs hh hr => ?_⟩
        refine (inlRun_ok hok (inlK_ok hok hl h0 d) h1 h3 h4 h5 h hh hr).mono ?_
        rintro e w' ⟨v, hp', m', d, mv, g1, g2, g3, g4, g5, g6, g7, g8⟩
        exact ⟨v, hp', m', d, mv, g1, g2, g3, g4, g5, g6, g7, g8, fun hf => by rw [hby] at hf; cases hf⟩
      · cases h
    · exact h0 β f ts hp k r h
theorem inil : InlOk G [] := fun i hi => by cases hi
theorem icons {f : FuncId} {n : Nat} {ids : List Nat} {an : An G.U} {ps : List Nat} {k : Nat} {res : List ResultVar} {l : List (Inl G.U)} {fn : Func} (hf : P.funcs[f]? = some fn) (hn : (fn.name == "runtime.NumGoroutine") = false) (hb : fn.body.isSome = true) (hk : (fn.ntmps == k) = true) (hres : fn.results = res.toArray) (hl : InlOk G l) :
    InlOk G (⟨f, n, ids, ps, bodyOf fn, an, k, res⟩ :: l) := fun i hi => by
  rcases List.mem_cons.1 hi with rfl | hi
  · obtain ⟨c, hc⟩ := Option.isSome_iff_exists.1 hb
    exact ⟨fn, hf, by simpa using hn, by unfold bodyOf; rw [hc]; rfl, by simpa using hk, hres⟩
  · exact hl i hi
end
end Go.Proofs.Ytmdghocpelkcoaa
