/- The typed reading: functions, and calls of functions that are known. -/
import Derived.Test.YtmdghocpelkcoaaEv18
namespace Go.Proofs.Ytmdghocpelkcoaa
open Go.RowKit

variable {P : Program} (G : Sg P) {β : Type}
structure Fe : Type where
  ps : List (Pk G.U)
  rs : List G.U
  fn : TyP G ps → Option (TyU G rs)
def unR (u : G.U) (hp : G.Hp) (t : G.T) : Option (G.El u) := match t with
  | .c (.rp cells) => G.unrow u cells
  | .c (.ptr o 0) => match hp[o]? with
    | some (.box cs) => match pvB G hp cs with
      | some ps => G.unrow u ps
      | none => none
    | some (.lock cs) => match pvB G hp cs with
      | some ps => G.unrow u ps
      | none => none
    | _ => none
  | _ => none
def castF {u u' r r' : G.U} (F : G.El u' → Option (G.El r')) : Option (G.El u → Option (G.El r)) :=
  @dite _ (u' = u) (G.deq u' u) (fun h1 => @dite _ (r' = r) (G.deq r' r) (fun h2 => some (h1 ▸ h2 ▸ F)) (fun _ => none)) (fun _ => none)
/-- What a closure has captured. -/
def decC (hp : G.Hp) : (ps : List (Pk G.U)) → List Nat → Option (TyP G ps)
  | [], [] => some ()
  | .rp u :: ps, o :: os => match unR G u hp (.c (.ptr o 0)), decC hp ps os with
    | some x, some y => some (x, y)
    | _, _ => none
  | _, _ => none
def decF (tbl : FuncId → Option (Fe G)) (hp : G.Hp) (u r : G.U) (t : G.T) : Option (G.El u → Option (G.El r)) := match t with
  | .c (.fn _ _ F) => castF G F
  | .c (.clo g caps) => if G.flat r = true ∧ G.byref g = false then (match tbl g with
    | some ⟨.v u' :: rest, [r'], fn⟩ => match decC G hp rest caps with
      | some y => castF G (u' := u') (r' := r') (fun x => fn (x, y))
      | none => none
    | _ => none) else none
  | _ => none
def decA (tbl : FuncId → Option (Fe G)) (hp : G.Hp) : (ps : List (Pk G.U)) → List G.T → Option (TyP G ps)
  | [], [] => some ()
  | .v u :: ps, t :: ts => match unB G u hp t, decA tbl hp ps ts with
    | some x, some y => some (x, y)
    | _, _ => none
  | .rp u :: ps, t :: ts => match unR G u hp t, decA tbl hp ps ts with
    | some x, some y => some (x, y)
    | _, _ => none
  | .fn u r :: ps, t :: ts => match decF G tbl hp u r t, decA tbl hp ps ts with
    | some x, some y => some (x, y)
    | _, _ => none
  | _, _ => none
def tblK (tbl : FuncId → Option (Fe G)) : G.KT := fun _ f ts hp k => match tbl f with
  | some fe => match decA G tbl hp fe.ps ts with
    | some x => (fe.fn x).bind fun y => k [] (hp ++ newO G fe.rs y) (resD G hp.length fe.rs y)
    | none => none
  | none => none
def altK (dom : FuncId → Bool) (K1 K2 : G.KT) : G.KT := fun β f ts hp k => match dom f with
  | true => K1 β f ts hp k
  | false => K2 β f ts hp k
structure FnOk (f : FuncId) (fe : Fe G) : Prop where
  plain : ∃ fn, P.funcs[f]? = some fn ∧ fn.name ≠ "runtime.NumGoroutine" ∧ fn.body.isNone = false
  ok : ∀ x y, fe.fn x = some y → ∀ w vs, Args G w (argT G fe.ps x) vs → Calls P f vs.toArray w (Ret G fe.rs y w)

section
variable {G} {w w' w0 : World} {R R' : Nat → Prop} {n n' : Nat} {m m' : Nat → Value} {r : β} {N : Nat} {hp hp' : G.Hp} {env : G.Env} {fr : G.Fr} {tmps : Array Value}
theorem RepTs.length {a : List G.T} {b : List Value} (h : RepTs G w R n m a b) : b.length = a.length := by
  induction h with
  | nil => rfl
  | cons _ _ ih => simp [ih]
theorem RepTs.get {a : List G.T} {b : List Value} (h : RepTs G w R n m a b) : ∀ (i : Nat) (t : G.T), a[i]? = some t → ∃ x, b[i]? = some x ∧ RepT G w R n m t x := by
  induction h with
  | nil => intro i t hi; cases hi
  | cons h _ ih =>
    intro i t hi
    cases i with
    | zero => cases hi; exact ⟨_, rfl, h⟩
    | succ i => exact ih i t hi
theorem fn_ok (hok : G.Ok) {K : G.KT} (hK : CallOk G K) {f : FuncId} {fn : Func} {c : Code} (hf : P.funcs[f]? = some fn) (hb : fn.body = some c) {an : An G.U} {ts : List G.T} {rs : List G.U} {y : TyU G rs} {k : Nat} (hk : fn.ntmps = k)
    {res : List ResultVar} (hres : fn.results = res.toArray) (h : evF G K c an k res rs ts = some y) {w : World} {vs : List Value} (ha : Args G w ts vs) : Calls P f vs.toArray w (Ret G rs y w) := by
  subst hk
  have hlen := ha.length
  have hro : ∀ b, AllRo w b → Rof G [] (fun _ => undef) w b := fun b hb => ⟨hb, fun ⟨o, ob, ho, _⟩ => by simp at ho⟩
  have hrl : Rl G w.heap.size w (List.replicate fn.ntmps none) (frame0 G fn.ntmps ts) [] (fun _ => undef) (vs.toArray ++ Array.replicate (fn.ntmps - vs.toArray.size) undef) w := by
    refine ⟨⟨fun o ob ho => by simp at ho, fun o o' ob ob' b ho => by simp at ho, Nat.le_refl _⟩, ⟨by simp [frame0, hlen], fun t d hd => ?_, fun t d hd => ?_⟩, Below.refl _ _⟩
    · unfold frame0 at hd
      rw [List.getElem?_append] at hd
      split at hd
      · rename_i hlt
        rw [List.length_map] at hlt
        rw [List.getElem?_map] at hd
        cases ht : ts[t]? with
        | none => rw [ht] at hd; cases hd
        | some x =>
          rw [ht] at hd
          cases hd
          obtain ⟨v, h1, h2⟩ := ha.get t x ht
          have e : (vs.toArray ++ Array.replicate (fn.ntmps - vs.toArray.size) undef).getD t undef = v := by
            have hlt' : t < vs.length := by omega
            rw [List.getElem?_eq_getElem hlt'] at h1
            simp only [Option.some.injEq] at h1
            simp [Array.getElem?_append, hlt', h1]
          rw [e]
          exact RepT.mono hro (fun _ _ => rfl) (Nat.le_refl _) (fun _ _ _ => rfl) h2
      · rw [List.getElem?_replicate] at hd
        split at hd
        · cases hd; trivial
        · cases hd
    · rw [List.getElem?_replicate] at hd
      split at hd <;> cases hd
  refine calls_of_wp hf hb (ev_ok hok hK c hrl h ?_)
  intro e fr' hp' m' tmps' w' h1 _ _ h4
  have fin : (match resTs G (List.replicate fn.ntmps none) fr' hp' res with
      | some ts => match decRes G hp' rs ts with
        | some (y, os) => if nodupB os then some y else none
        | none => none
      | none => none) = some y → ∃ v, (results fn tmps').run P w' = .ok v w' ∧ Ret G rs y w (.returned v) w' := by
    intro h4
    split at h4
    · rename_i ts' hts
      split at h4
      · rename_i y' os hdec
        split at h4
        · rename_i hnd
          cases h4
          obtain ⟨vs', h5, h6⟩ := resTs_ok (P := P) hok h1.hh h1.hf res hts
          refine ⟨_, ?_, ret_ok hok h1.hh h1.bl hdec hnd h6⟩
          show (do let vs ← fn.results.mapM (resM tmps'); pure (if h : vs.size = 1 then vs[0] else Value.tuple vs) : Sem Value).run P w' = _
          rw [hres]
          simp only [Sem.run_bind, Array.mapM_eq_mapM_toList, Sem.run_map, h5, Result.andThen_ok, Sem.run_pure]
          congr 1
          cases vs' with
          | nil => rfl
          | cons a vs' => cases vs' with
            | nil => rfl
            | cons b vs' => simp
        · cases h4
      · cases h4
    · cases h4
  cases e with
  | normal => exact ⟨rfl, fin h4⟩
  | ret => exact ⟨rfl, fin h4⟩
  | exit id => cases h4

theorem unB_ok (hok : G.Ok) (hh : HRel G N hp m w) {u : G.U} {t : G.T} {x : G.El u} {v : Value} (h : unB G u hp t = some x) (ht : RepT G w (Rof G hp m w) hp.length m t v) : RepT G w (AllRo w) 0 (fun _ => undef) (toT G u x) v :=
  RepU.toT hok (unB_rep hok hh h ht)
theorem unR_ok (hok : G.Ok) (hh : HRel G N hp m w) {u : G.U} {t : G.T} {x : G.El u} {v : Value} (h : unR G u hp t = some x) (ht : RepT G w (Rof G hp m w) hp.length m t v) : RepT G w (AllRo w) 0 (fun _ => undef) (.c (.rp (G.row u x))) v := by
  have box : ∀ (o : Nat) (cs : List G.C) (ps : List G.P'), RepO G w (Rof G hp m w) hp.length m N o (.box cs) → pvB G hp cs = some ps → G.unrow u ps = some x → RepT G w (Rof G hp m w) hp.length m (.c (.ptr o 0)) v →
      RepT G w (AllRo w) 0 (fun _ => undef) (.c (.rp (G.row u x))) v := by
    rintro o cs ps ⟨b, t, vs, e1, e2, e3, e4, e5⟩ hps hx ⟨_, b', e6, rfl⟩
    rw [e1] at e6
    cases e6
    obtain ⟨h1, h2⟩ := pvB_ok hok hh hps e4
    obtain ⟨h3, h4⟩ := unrow_ok hok hx h1 h2
    refine ⟨b, 0, rfl, (Array.getElem?_eq_some_iff.1 e3).1, fun j p hj => ?_⟩
    obtain ⟨y, h5, h6⟩ := h4 j p hj
    refine ⟨y, ?_, h6⟩
    rw [Nat.zero_add, cell_of_row w b j vs t (0, 0) e3]
    simpa using h5
  unfold unR at h
  split at h
  · rename_i cells
    obtain ⟨b, off, rfl, hb, hc⟩ := ht
    obtain ⟨h1, h2⟩ := hok.unrow u cells x h
    refine ⟨b, off, rfl, hb.1, fun j p hj => ?_⟩
    have hlt : j < cells.length := by
      have := (List.getElem?_eq_some_iff.1 hj).1
      rw [hok.row_sz] at this
      omega
    obtain ⟨q, h3, h4⟩ := h2 j _ (List.getElem?_eq_getElem hlt)
    rw [hj] at h3
    cases h3
    obtain ⟨cv, h5, h6⟩ := hc j _ (List.getElem?_eq_getElem hlt)
    exact ⟨cv, h5, RepP.mono G (fun b hb => hb.1) (fun _ _ => rfl) (RepP.weak G h6 h4)⟩
  · rename_i o
    split at h
    · rename_i cs ho
      split at h
      · rename_i ps hps; exact box o cs ps (hh.obj o _ ho) hps h ht
      · cases h
    · rename_i cs ho
      split at h
      · rename_i ps hps; exact box o cs ps (show RepO G w _ _ m N o (.lock cs) from hh.obj o (.lock cs) ho) hps h ht
      · cases h
    · cases h
  · cases h
theorem castF_some {u u' r r' : G.U} {F : G.El u' → Option (G.El r')} {F' : G.El u → Option (G.El r)} (h : castF G F = some F') : ∃ (h1 : u' = u) (h2 : r' = r), h1 ▸ h2 ▸ F = F' := by
  unfold castF at h
  split at h
  · rename_i h1
    split at h
    · rename_i h2; cases h; exact ⟨h1, h2, rfl⟩
    · cases h
  · cases h
theorem decC_ok (hok : G.Ok) (hh : HRel G N hp m w) : ∀ (ps : List (Pk G.U)) {os : List Nat} {y : TyP G ps} {vs : List Value}, decC G hp ps os = some y →
    vs.length = os.length → (∀ (i o : Nat), os[i]? = some o → o < hp.length ∧ ∃ b : Nat, m o = .pointer (some ⟨b, 0, none⟩) ∧ vs[i]? = some (Value.pointer (some ⟨b, 0, none⟩))) → Args G w (argT G ps y) vs
  | [], [], y, vs, _, hl, _ => by obtain rfl : vs = [] := List.eq_nil_of_length_eq_zero hl; exact .nil
  | [], _ :: _, y, vs, h, _, _ => by cases h
  | .v u :: ps, os, y, vs, h, _, _ => by cases os <;> cases h
  | .fn u r :: ps, os, y, vs, h, _, _ => by cases os <;> cases h
  | .rp u :: ps, [], y, vs, h, _, _ => by cases h
  | .rp u :: ps, o :: os, y, vs, h, hl, hc => by
    unfold decC at h
    split at h
    · rename_i x z hx hz
      cases h
      cases vs with
      | nil => simp at hl
      | cons v vs =>
        obtain ⟨h1, b, h2, h3⟩ := hc 0 o rfl
        cases h3
        exact .cons (unR_ok hok hh hx ⟨h1, b, h2, rfl⟩) (decC_ok hok hh ps hz (by simpa using hl) fun i o' hi => hc (i + 1) o' hi)
    · cases h
theorem resC_flat : ∀ {ps : List G.P'} (k : Nat), (∀ p ∈ ps, ∃ v, p = PV.val v) → resC G k ps = ps.map .pv
  | [], _, _ => rfl
  | p :: ps, k, h => by
    obtain ⟨v, rfl⟩ := h p List.mem_cons_self
    show CV.pv (.val v) :: resC G k ps = _
    rw [resC_flat k fun q hq => h q (List.mem_cons_of_mem _ hq)]
    rfl
theorem Ret.one (hok : G.Ok) {r : G.U} (hf : G.flat r = true) {y : G.El r} {e : Ending} (h : Ret G [r] y w e w') : ∃ v, e = .returned v ∧ Below w.heap.size w w' ∧ RepU G w' (fun _ => True) r y v := by
  obtain ⟨v, rfl, hb, hr⟩ := h
  obtain ⟨m', h1, _, h3⟩ := hr w.heap.size [] (fun _ => undef) ⟨fun o ob ho => by simp at ho, fun o o' ob ob' b ho => by simp at ho, Nat.le_refl _⟩
  refine ⟨v, rfl, hb, ?_⟩
  have h4 : RepT G w' (Rof G ([] ++ newO G [r] y) m' w') ([] ++ newO G [r] y).length m' (resT G 0 r y) v := h3
  unfold resT at h4
  rw [resC_flat 0 (hok.flat r hf y)] at h4
  have hp : ∀ {vs : List Value}, RepL G w' (Rof G ([] ++ newO G [r] y) m' w') ([] ++ newO G [r] y).length m' ((G.row r y).map .pv) vs → vs.length = G.sz r ∧ ∀ (j : Nat) (p : G.P'), (G.row r y)[j]? = some p → ∃ z, vs[j]? = some z ∧ RepP G w' (fun _ => True) p z := by
    intro vs hl
    refine ⟨by rw [hl.1, List.length_map, hok.row_sz], fun j p hj => ?_⟩
    obtain ⟨z, h5, h6⟩ := hl.2 j (.pv p) (by rw [List.getElem?_map, hj]; rfl)
    exact ⟨z, h5, RepP.mono G (fun _ _ => trivial) (fun _ _ => rfl) h6⟩
  cases hag : G.ag r with
  | true =>
    rw [hag] at h4
    obtain ⟨vs, rfl, hl⟩ := h4
    obtain ⟨h5, h6⟩ := hp hl
    exact ⟨vs, by rw [hag], h5, h6⟩
  | false =>
    rw [hag] at h4
    cases hrow : G.row r y with
    | nil => have := hok.row_sz r y; rw [hrow] at this; have := hok.pos r; simp at *; omega
    | cons p ps =>
      rw [hrow] at h4
      have h5 : ps = [] := by
        have h6 := hok.row_sz r y
        rw [hrow, hok.one r hag] at h6
        exact List.eq_nil_of_length_eq_zero (by simpa using h6)
      subst h5
      obtain ⟨h5, h6⟩ := hp (vs := [v]) (by rw [hrow]; exact ⟨rfl, fun i c hi => by
        cases i with
        | zero => cases hi; exact ⟨v, rfl, h4⟩
        | succ i => cases hi⟩)
      exact ⟨[v], by rw [hag], h5, h6⟩
theorem decF_ok (hok : G.Ok) {tbl : FuncId → Option (Fe G)} (htb : ∀ f fe, tbl f = some fe → FnOk G f fe) (hh : HRel G N hp m w) {u r : G.U} {t : G.T} {F : G.El u → Option (G.El r)} {v : Value} (h : decF G tbl hp u r t = some F) (ht : RepT G w (Rof G hp m w) hp.length m t v) :
    RepT G w (AllRo w) 0 (fun _ => undef) (.c (.fn u r F)) v := by
  unfold decF at h
  split at h
  · obtain ⟨rfl, rfl, rfl⟩ := castF_some h
    have h1 := RepT.lower (n' := 0) ht (by intro o ho; cases ho)
    exact RepT.mono (fun b (hb : Rof G hp m w b) => hb.1) (fun _ _ => rfl) (Nat.le_refl _) (by intro o ho; cases ho) h1
  · rename_i g caps
    split at h
    · rename_i hfb
      split at h
      · rename_i u' rest r' fn hfe
        split at h
        · rename_i y hy
          obtain ⟨rfl, rfl, rfl⟩ := castF_some h
          obtain ⟨hpl, hok'⟩ := htb _ _ hfe
          obtain ⟨vs, e1, e2, e3⟩ := ht
          have hargs := decC_ok hok hh rest hy e2 e3
          refine ⟨g, vs, e1, hpl, hfb.1, hfb.2, fun w' hw x z a hx hxa => ?_⟩
          have ha : Args G w' (argT G (.v u' :: rest) (x, y)) (a :: vs) := by
            refine .cons (RepU.toT hok hxa) ?_
            clear hx hxa hok' hfe hy h
            unfold Args at hargs
            generalize argT G rest y = ts at hargs
            clear e1 e2 e3
            induction hargs with
            | nil => exact .nil
            | cons h1 _ ih => exact .cons (RepT.mono (fun b (hb : b < w.heap.size) => by
                have h2 := hw b hb
                rw [Array.getElem?_eq_getElem hb] at h2
                exact (Array.getElem?_eq_some_iff.1 h2).1) (fun b hb => hw b hb) (Nat.le_refl _) (fun _ _ _ => rfl) h1) ih
          exact (hok' (x, y) z hx w' (a :: vs) ha).mono fun e w'' hr => Ret.one hok hfb.1 hr
        · cases h
      · cases h
    · cases h
  · cases h
theorem decA_ok (hok : G.Ok) {tbl : FuncId → Option (Fe G)} (htb : ∀ f fe, tbl f = some fe → FnOk G f fe) (hh : HRel G N hp m w) : ∀ (ps : List (Pk G.U)) {ts : List G.T} {x : TyP G ps} {vs : List Value}, decA G tbl hp ps ts = some x → RepTs G w (Rof G hp m w) hp.length m ts vs → Args G w (argT G ps x) vs
  | [], [], x, vs, _, hr => by cases hr; exact .nil
  | [], _ :: _, x, vs, h, _ => by cases h
  | .v u :: ps, [], x, vs, h, _ => by cases h
  | .rp u :: ps, [], x, vs, h, _ => by cases h
  | .fn u r :: ps, [], x, vs, h, _ => by cases h
  | .fn u r :: ps, t :: ts, x, vs, h, hr => by
    unfold decA at h
    split at h
    · rename_i y z hy hz
      cases h
      cases hr with
      | cons h1 h2 => exact .cons (decF_ok hok htb hh hy h1) (decA_ok hok htb hh ps hz h2)
    · cases h
  | .v u :: ps, t :: ts, x, vs, h, hr => by
    unfold decA at h
    split at h
    · rename_i y z hy hz
      cases h
      cases hr with
      | cons h1 h2 => exact .cons (unB_ok hok hh hy h1) (decA_ok hok htb hh ps hz h2)
    · cases h
  | .rp u :: ps, t :: ts, x, vs, h, hr => by
    unfold decA at h
    split at h
    · rename_i y z hy hz
      cases h
      cases hr with
      | cons h1 h2 => exact .cons (unR_ok hok hh hy h1) (decA_ok hok htb hh ps hz h2)
    · cases h
theorem tblK_ok (hok : G.Ok) {tbl : FuncId → Option (Fe G)} (h : ∀ f fe, tbl f = some fe → FnOk G f fe) : CallOk G (tblK G tbl) := by
  intro β f ts hp k r hk
  unfold tblK at hk
  split at hk
  · rename_i fe hfe
    obtain ⟨h1, h2⟩ := h f fe hfe
    refine ⟨h1, fun N m w vs hh hr => ?_⟩
    split at hk
    · rename_i x hx
      rw [Option.bind_eq_some_iff] at hk
      obtain ⟨y, hy, hk⟩ := hk
      refine (h2 x y hy w vs (decA_ok hok h hh fe.ps hx hr)).mono ?_
      rintro e w' ⟨v, rfl, hb, hret⟩
      obtain ⟨m', h3, h4, h5⟩ := hret N hp m hh
      exact ⟨v, _, m', _, [], rfl, h3, h4.kp (by simp), fun o ho _ => h4.map o ho, by simp, hb.mono hh.base, h5, hk, fun _ b hlt => hb.block b hlt⟩
    · cases hk
  · cases hk
theorem altK_ok {dom : FuncId → Bool} {K1 K2 : G.KT} (h1 : CallOk G K1) (h2 : CallOk G K2) : CallOk G (altK G dom K1 K2) := by
  intro β f ts hp k r hk
  unfold altK at hk
  split at hk
  · exact h1 β f ts hp k r hk
  · exact h2 β f ts hp k r hk
end

section
variable {P : Program} (G : Sg P)
def lookF (l : List (FuncId × Fe G)) (f : FuncId) : Option (Fe G) := match l with
  | [] => none
  | (g, fe) :: l => if g = f then some fe else lookF l f
def lstK (l : List (FuncId × Fe G)) : G.KT := tblK G (lookF G l)
def bodyOf (fn : Func) : Code := fn.body.getD .skip
def AllOk (l : List (FuncId × Fe G)) : Prop := ∀ p ∈ l, FnOk G p.1 p.2
variable {G}
theorem lnil : AllOk G [] := fun p hp => by cases hp
theorem lcons {f : FuncId} {fe : Fe G} {l : List (FuncId × Fe G)} (h : FnOk G f fe) (hl : AllOk G l) : AllOk G ((f, fe) :: l) := fun p hp => by
  rcases List.mem_cons.1 hp with rfl | hp
  · exact h
  · exact hl p hp
theorem lookF_mem : ∀ {l : List (FuncId × Fe G)} {f : FuncId} {fe : Fe G}, lookF G l f = some fe → (f, fe) ∈ l
  | [], f, fe, h => by cases h
  | (g, fe') :: l, f, fe, h => by
    unfold lookF at h
    split at h
    · rename_i e; subst e; cases h; exact List.mem_cons_self
    · exact List.mem_cons_of_mem _ (lookF_mem h)
theorem lstK_ok (hok : G.Ok) {l : List (FuncId × Fe G)} (h : AllOk G l) : CallOk G (lstK G l) := tblK_ok hok fun f fe hf => h (f, fe) (lookF_mem hf)
theorem fnOk_of (hok : G.Ok) {K : G.KT} (hK : CallOk G K) {f : FuncId} {fn : Func} (hf : P.funcs[f]? = some fn) (hn : (fn.name == "runtime.NumGoroutine") = false) (hb : fn.body.isSome = true) {an : An G.U} {k : Nat} (hk : (fn.ntmps == k) = true) {res : List ResultVar} {fe : Fe G} (hres : fn.results = res.toArray)
    (hev : ∀ x : TyP G fe.ps, evF G K (bodyOf fn) an k res fe.rs (argT G fe.ps x) = fe.fn x) : FnOk G f fe := by
  obtain ⟨c, hc⟩ := Option.isSome_iff_exists.1 hb
  have hbo : bodyOf fn = c := by unfold bodyOf; rw [hc]; rfl
  refine ⟨⟨fn, hf, by simpa using hn, by rw [hc]; rfl⟩, fun x y hy w vs ha => ?_⟩
  have h := hev x
  rw [hbo, hy] at h
  exact fn_ok hok hK hf hc (by simpa using hk) hres h ha
end
end Go.Proofs.Ytmdghocpelkcoaa
