/- The typed reading of a region that draws its order: what turns no memory is taken first, what turns it comes up alone. -/
import Derived.Test.YtmdghocpelkcoaaEv13
import Derived.OrdersHeld
import Derived.Deep.RegionHeld
namespace Go.Proofs.Ytmdghocpelkcoaa
open Go.RowKit

section
variable {P : Program} {ops : Array Oper} {Q : Exit → Act → World → Prop} {md : Region.Mode}
def ClosedL (md : Region.Mode) (ops : Array Oper) (L : Array Bool) : Prop :=
  ∀ (j : Nat) (o : Oper), ops[j]? = some o → L.getD j false = true → ∀ e ∈ o.after, Region.binds md e = true → L.getD e.on false = true

theorem ClosedL.set {L : Array Bool} {i : Nat} (h : ClosedL md ops L) (hr : i ∈ Region.ready md ops L) : ClosedL md ops (L.setIfInBounds i true) := by
  intro j o ho hl e he hb
  obtain ⟨_, o', ho', hall⟩ := mem_ready.1 hr
  by_cases hij : i = j
  · subst hij
    rw [ho'] at ho; cases ho
    exact getD_set_true (hall e he hb)
  · rw [getD_set_ne false hij] at hl
    exact getD_set_true (h j o ho hl e he hb)

theorem getD_rep (n j : Nat) : (Array.replicate n false).getD j false = false := by
  simp only [Array.getD_eq_getD_getElem?, Array.getElem?_replicate]
  split <;> rfl

theorem ClosedL.rep (n : Nat) : ClosedL md ops (Array.replicate n false) := by
  intro j o _ hl
  rw [getD_rep] at hl; cases hl

def lateOf (md : Region.Mode) (ops : Array Oper) (i : Nat) : List Nat :=
  (List.range ops.size).foldl (fun acc s => match ops[s]? with
    | some o => if o.after.any (fun e => Region.binds md e && (e.on == i || acc.contains e.on)) then s :: acc else acc
    | none => acc) []

theorem late_in {L : Array Bool} {i : Nat} (hc : ClosedL md ops L) : ∀ s ∈ lateOf md ops i, L.getD s false = true → L.getD i false = true := by
  unfold lateOf
  generalize List.range ops.size = l
  suffices H : ∀ (l acc : List Nat), (∀ s ∈ acc, L.getD s false = true → L.getD i false = true) → ∀ s ∈ l.foldl (fun acc s => match ops[s]? with
    | some o => if o.after.any (fun e => Region.binds md e && (e.on == i || acc.contains e.on)) then s :: acc else acc
    | none => acc) acc, L.getD s false = true → L.getD i false = true from H l [] (by simp)
  intro l
  induction l with
  | nil => intro acc h; exact h
  | cons x l ih =>
    intro acc h
    rw [List.foldl_cons]
    apply ih
    split
    · rename_i o ho
      split
      · rename_i hany
        intro s hs hl
        rcases List.mem_cons.1 hs with rfl | hs
        · obtain ⟨e, he, hb⟩ := Array.any_eq_true'.1 hany
          simp only [Bool.and_eq_true, Bool.or_eq_true, beq_iff_eq, List.contains_iff_mem] at hb
          have h1 := hc _ _ ho hl e he hb.1
          rcases hb.2 with h2 | h2
          · rw [h2] at h1; exact h1
          · exact h _ h2 h1
        · exact h s hs hl
      · exact h
    · exact h

theorem getD_low {L : Array Bool} {i : Nat} (h : L.getD i true = false) : L.getD i false = false := by
  rcases Nat.lt_or_ge i L.size with h' | h'
  · simpa [h'] using h
  · simp [Array.getElem?_eq_none h'] at h

theorem Later.refl (w : World) : Later w w := fun _ _ => rfl
/-- All orders; T tells what each operation may turn. -/
def wpAnyR (P : Program) (md : Region.Mode) (ops : Array Oper) (Q : Exit → Act → World → Prop) (T : Nat → World → World → Prop) : Nat → Array Bool → Act → World → Prop
  | 0, L, a, w => Region.ready md ops L = [] ∧ Q .normal a w
  | f + 1, L, a, w =>
    (Region.ready md ops L = [] → Q .normal a w) ∧
    ∀ i ∈ Region.ready md ops L, wpOp P ops Q i (fun a' w' => T i w w' ∧ wpAnyR P md ops Q T f (L.setIfInBounds i true) a' w') a w
theorem wpAny_of_R {T : Nat → World → World → Prop} : ∀ (f : Nat) (L : Array Bool) (a : Act) (w : World), wpAnyR P md ops Q T f L a w → wpAny P md ops Q f L a w
  | 0, _, _, _, h => h
  | f + 1, _, _, _, h => ⟨h.1, fun i hi => wpOp_mono (fun a' w' h' => wpAny_of_R f _ a' w' h'.2) (h.2 i hi)⟩
theorem wpAnyR_first {T : Nat → World → World → Prop} {S : World → Prop} {i : Nat} {oi : Oper} {v : Value} (hcl : ∀ q w w', q ≠ i → q ∉ lateOf md ops i → q < ops.size → S w → T q w w' → S w') (hi : ops[i]? = some oi) (hsel : ∀ (j : Nat) (o : Oper) cs b, ops[j]? = some o → o.op ≠ .select cs b)
    (hQ : ∀ c a w, Q (.panic c) (a.put oi.dst v) w → Q (.panic c) a w) (hT : ∀ w, T i w w) :
    ∀ (f : Nat) (L : Array Bool) (a : Act) (w : World), ClosedL md ops L →
      (∀ j oj, ops[j]? = some oj → j ≠ i → L.getD j true = false → (∀ e ∈ oj.after, Region.binds md e = true → e.on ≠ i) → oi.apart ops oj = true) →
      i ∈ Region.ready md ops L → YieldsIf P ops S oi v a → S w →
      wpAnyR P md ops Q T f (L.setIfInBounds i true) (a.put oi.dst v) w → wpAnyR P md ops Q T (f + 1) L a w := by
  intro f
  induction f with
  | zero =>
    intro L a w hc _ hr hy hS H
    refine ⟨fun h => (by rw [h] at hr; cases hr), fun j hj => ?_⟩
    by_cases hji : j = i
    · subst hji
      exact hy.wpOp hi hS ⟨hT w, H⟩
    · have := ready_mono hj hji
      rw [H.1] at this
      cases this
  | succ f ih =>
    intro L a w hc hfree hr hy hS H
    have hun := (mem_ready.1 hr).1
    refine ⟨fun h => (by rw [h] at hr; cases hr), fun j hj => ?_⟩
    by_cases hji : j = i
    · subst hji
      exact hy.wpOp hi hS ⟨hT w, H⟩
    · have h1 := H.2 j (ready_mono hj hji)
      obtain ⟨hjun, oj, hoj, hall⟩ := mem_ready.1 hj
      have hnot : ∀ e ∈ oj.after, Region.binds md e = true → e.on ≠ i := fun e he hb heq => by
        have h2 := hall e he hb
        rw [heq, getD_low hun] at h2
        cases h2
      have h2 := wpOp_putIf hoj (hfree j oj hoj hji hjun hnot) (fun cs b => hsel i oi cs b hi) (fun cs b => hsel j oj cs b hoj) hQ hy h1
      have hfree' : ∀ k ok, ops[k]? = some ok → k ≠ i → (L.setIfInBounds j true).getD k true = false →
          (∀ e ∈ ok.after, Region.binds md e = true → e.on ≠ i) → oi.apart ops ok = true := fun k ok hk hki hun' hno => by
        refine hfree k ok hk hki ?_ hno
        by_cases hjk : j = k
        · subst hjk; exact hjun
        · rw [getD_set_ne true hjk] at hun'; exact hun'
      refine wpOp_mono (fun a' w' h3 => ?_) h2
      obtain ⟨hy', hl', hW'⟩ := h3
      refine ⟨hl', ?_⟩
      rw [Array.setIfInBounds_comm _ _ (Ne.symm hji)] at hW'
      have hS' : S w' := by
        by_cases hjm : j ∈ lateOf md ops i
        · exfalso
          have h4 := late_in (hc.set hj) j hjm (by
            have hsz : j < L.size := by
              rcases Nat.lt_or_ge j L.size with h' | h'
              · exact h'
              · simp [Array.getElem?_eq_none h'] at hjun
            simp [hsz])
          rw [getD_set_ne false hji, getD_low hun] at h4
          cases h4
        · exact hcl j w w' hji hjm (Array.getElem?_eq_some_iff.1 hoj).1 hS hl'
      exact ih (L.setIfInBounds j true) a' w' (hc.set hj) hfree' (ready_mono hr (Ne.symm hji)) hy' hS' hW'
/-- How many operations have not come up. -/
def remL (L : Array Bool) : Nat := L.toList.countP (!·)
theorem remL_set {L : Array Bool} {i : Nat} (h : L.getD i true = false) : remL L = remL (L.setIfInBounds i true) + 1 := by
  have hlt : i < L.size := by
    rcases Nat.lt_or_ge i L.size with h' | h'
    · exact h'
    · simp [Array.getElem?_eq_none h'] at h
  have hv : L.toList[i]? = some false := by
    simp [hlt] at h
    simp [hlt, h]
  have key : ∀ (l : List Bool) (i : Nat), l[i]? = some false → l.countP (!·) = (l.set i true).countP (!·) + 1 := by
    intro l
    induction l with
    | nil => intro i h; cases h
    | cons x l ih =>
      intro i h
      cases i with
      | zero => cases h; simp
      | succ i =>
        have := ih i h
        simp only [List.set_cons_succ, List.countP_cons]
        omega
  unfold remL
  rw [key _ _ hv, Array.toList_setIfInBounds]
theorem remL_rep (n : Nat) : remL (Array.replicate n false) = n := by
  unfold remL
  rw [Array.toList_replicate, List.countP_replicate]
  rfl
end

variable {P : Program} (G : Sg P) {β : Type}
/-- Does an operation turn no memory, and does it look into memory? -/
def isQ (P : Program) (o : Oper) : Option Bool := match o.op with
  | .move _ | .assign _ | .pick .. | .build .. | .nilCheck _ | .binOp .. | .unOp .. | .convert .. | .makeFunc .. | .slice .. | .fieldAddr .. | .field .. | .indexAddr .. | .index .. | .extract .. => some false
  | .load .. => some true
  | .lookup .. => some true
  | .call c => match c.callee with
    | .builtin .len => some (c.argTypes.toList.any (isMapT P))
    | .builtin .max => some false
    | .builtin .min => some false
    | _ => none
  | _ => none
def firstQ (P : Program) (ops : Array Oper) : List Nat → Option (Nat × Oper × Bool)
  | [] => none
  | i :: l => match ops[i]? with
    | some o => match isQ P o with
      | some ld => some (i, o, ld)
      | none => firstQ P ops l
    | none => firstQ P ops l
/-- An object that stands where it stands: a variable of the call's own. -/
def stands (hp : G.Hp) (o : Nat) : Bool := match hp[o]? with
  | some (.box _) => true
  | some (.lock _) => true
  | _ => false
def liveAt (hp : G.Hp) (o : Nat) : Bool := match hp[o]? with
  | some ob => ob.live
  | none => false
/-- The variable that an address goes back to. -/
def rootT (env : G.Env) (fr : G.Fr) (ops : Array Oper) : Nat → Operand → Option Nat
  | 0, _ => none
  | n + 1, .tmp t => match ops.toList.find? fun o => o.dst == some t with
    | some o => match o.op with
      | .fieldAddr _ x _ => rootT env fr ops n x
      | _ => none
    | none => match getS G env fr t with
      | .t (.c (.ptr o _)) => some o
      | _ => none
  | _, _ => none
def tgS (env : G.Env) (fr : G.Fr) (hp : G.Hp) (ops : Array Oper) (o : Oper) : Option (Option Nat) := match o.op with
  | .store _ a _ => match rootT G env fr ops 8 a with
    | some q => if stands G hp q = true then some (some q) else none
    | none => none
  | .mapUpdate .. => none
  | .call c => match c.callee with
    | .builtin .append => none
    | .builtin _ => some none
    | .value (.func f) => if G.byref f = true then none else some none
    | _ => none
  | _ => some none
def tgsOf (env : G.Env) (fr : G.Fr) (hp : G.Hp) (ops : Array Oper) : List (Option (Option Nat)) := ops.toList.map (tgS G env fr hp ops)
def tgAt (tgs : List (Option (Option Nat))) (i : Nat) : Option (Option Nat) := (tgs[i]?).getD none
def tgOk (st dy : Option (Option Nat)) : Bool := match st with
  | none => true
  | some x => decide (dy = some x)
def ldOk1 (hp : G.Hp) : Option (Option Nat) → Ldk → Bool
  | some none, _ => true
  | some (some q'), .obj o => q' != o && (liveAt G hp q' && liveAt G hp o)
  | some (some q'), .fgn => liveAt G hp q'
  | _, _ => false
/-- May an operation that looks at memory be taken first? -/
def ldOk (hp : G.Hp) (ops : Array Oper) (tgs : List (Option (Option Nat))) (j : Nat) (ld : Ldk) : Bool := match ld with
  | .pure => true
  | ld => (List.range ops.size).all fun q => q == j || ((lateOf .any ops j).contains q || ldOk1 G hp (tgAt tgs q) ld)
/-- The frames that an operation may stand before, its guard decided. -/
def frs (ops : Array Oper) (fr : G.Fr) (o : Oper) : List G.Fr := match o.guard with
  | none => [fr]
  | some (j, _) => match (ops[j]?).bind (·.dst) with
    | some t => [fr, fr.set t (bV G true), fr.set t (bV G false)]
    | none => [fr]
/-- A variable that is made in a region that draws: when it is made is left open. -/
structure Hs where
  i : Nat
  t : Tmp
  ty : TypeId
  k : Nat
  zs : List Value
def zeroVals (P : Program) (t : TypeId) : Option (List Value) := match P.info? t with
  | some i => match i.zero with
    | some z => if z.cells.toList.all Value.oneCell' then some z.cells.toList else none
    | none => none
  | none => none
def hoistL (env : G.Env) (ops : Array Oper) : List Nat → Nat → List Hs
  | [], _ => []
  | i :: l, k => match ops[i]? with
    | some o => match o.op, o.guard, o.dst with
      | .alloc ty, none, some t => match env[t]? with
        | some (some _) => hoistL env ops l k
        | _ => match zeroVals P ty with
          | some zs => ⟨i, t, ty, k, zs⟩ :: hoistL env ops l (k + 1)
          | none => hoistL env ops l k
      | _, _, _ => hoistL env ops l k
    | none => hoistL env ops l k
def pwOk : List Hs → Bool
  | [] => true
  | h :: l => (l.all fun h' => h'.i != h.i && (h'.k != h.k && h'.t != h.t)) && pwOk l
/-- No other operation writes their slots, and all differ. -/
def hsOk (ops : Array Oper) (H : List Hs) : Bool := pwOk H && H.all fun h => (List.range ops.size).all fun q => q == h.i || match ops[q]? with
    | some o => decide (o.dst ≠ some h.t)
    | none => true
def junkAt (fr : G.Fr) (t : Nat) : Bool := match fr[t]? with
  | some (.t (.c .junk)) => true
  | _ => false
def pendOk (H : List Hs) (L : Array Bool) (fr : G.Fr) : Bool := H.all fun h => L.getD h.i false || junkAt G fr h.t
def zsC (zs : List Value) : List G.C := zs.map fun v => .pv (.val v)
def hsL (H : List Hs) (L : Array Bool) : Array Bool := H.foldl (fun L h => L.setIfInBounds h.i true) L
def hsF (H : List Hs) (fr : G.Fr) : G.Fr := H.foldl (fun fr h => fr.set h.t (.t (.c (.ptr h.k 0)))) fr
def hsP (H : List Hs) (hp : G.Hp) : G.Hp := H.foldl (fun hp h => hp.set h.k (.box (zsC G h.zs))) hp
def depOn (ops : Array Oper) (q i : Nat) : Bool := match ops[q]? with
  | some o => o.after.any fun e => Region.binds .any e && e.on == i
  | none => false
def drawK (K : G.KT) (env : G.Env) (ops : Array Oper) (tgs : List (Option (Option Nat))) (H : List Hs) : Nat → Array Bool → G.Fr → G.Hp → (G.Fr → G.Hp → Option β) → Option β
  | 0, L, fr, hp, k => match Region.ready .any ops L with
    | [] => k fr hp
    | _ => none
  | f + 1, L, fr, hp, k => match Region.ready .any ops L with
    | [] => k fr hp
    | i0 :: l0 => if pendOk G H L fr = true then (match (i0 :: l0).filter fun i => !(H.any fun h => h.i == i) with
      | [] => if ((Region.ready .any ops (hsL H L)).all fun q => (H.filter fun h => !L.getD h.i false).all fun h => depOn ops q h.i) = true then
          drawK K env ops tgs H f (hsL (H.filter fun h => !L.getD h.i false) L) (hsF G (H.filter fun h => !L.getD h.i false) fr) (hsP G (H.filter fun h => !L.getD h.i false) hp) k else none
      | i :: rest => match firstQ P ops (i :: rest) with
        | some (j, o, _) => if Region.free .any ops L j = true ∧ ((frs G ops fr o).all fun fr => ldOk G hp ops tgs j (ldkOf G env fr o)) = true then
            stepK G K env ops fr hp o fun fr hp => drawK K env ops tgs H f (L.setIfInBounds j true) fr hp k else none
        | none => match rest, ops[i]? with
          | [], some o => if ((Region.ready .any ops (hsL H L)).all fun q => (i0 :: l0).contains q) = true ∧ ((frs G ops fr o).all fun fr => tgOk (tgAt tgs i) (opTg G env fr o)) = true then
              stepK G K env ops fr hp o fun fr hp => drawK K env ops tgs H f (L.setIfInBounds i true) fr hp k else none
          | _, _ => none) else none
def hsFr (H : List Hs) (fr : G.Fr) : G.Fr := H.foldl (fun fr h => fr.set h.t (.t (.c .junk))) fr
def drawAll (K : G.KT) (env : G.Env) (ops : Array Oper) (fr : G.Fr) (hp : G.Hp) (k : G.Fr → G.Hp → Option β) : Option β :=
  if hsOk ops (hoistL G env ops (Region.ready .any ops (Array.replicate ops.size false)) hp.length) = true then
    drawK G K env ops (tgsOf G env fr hp ops) (hoistL G env ops (Region.ready .any ops (Array.replicate ops.size false)) hp.length) (ops.size + 1) (Array.replicate ops.size false)
      (hsFr G (hoistL G env ops (Region.ready .any ops (Array.replicate ops.size false)) hp.length) fr) (hp ++ (hoistL G env ops (Region.ready .any ops (Array.replicate ops.size false)) hp.length).map fun h => .pend h.zs) k
  else none

section
variable {G} {w w' w0 : World} {m m' : Nat → Value} {r : β} {N : Nat} {hp hp' : G.Hp} {env : G.Env} {fr : G.Fr} {tmps : Array Value}
theorem q_call {K : G.KT} {o : Oper} {k : G.Fr → G.Hp → G.D → Option β} {c : Call} (hh : HRel G N hp m w) (hf : FRel G env fr hp m tmps w) (h : callK G K env fr hp c k = some r) (ho : o.op = .call c) (hq : c.callee = .builtin .len ∨ c.callee = .builtin .max ∨ c.callee = .builtin .min) :
    QRes G N env fr hp m tmps w o k r (match c.callee with | .builtin .len => if c.argTypes.toList.any (isMapT P) = true then .all else .pure | _ => .pure) := by
  obtain ⟨dst, op, ty, pos, after, guard⟩ := o
  simp only at ho
  subst ho
  obtain ⟨callee, args, ats⟩ := c
  unfold callK at h
  simp only at h hq
  have fin : ∀ (b : Builtin) (s : Sem Value) (v : Value) (w' : World), (∀ cs, builtin b ats ty cs (args.map (⟨tmps, []⟩ : Act).eval) = (do pure (.value (← s)) : Sem Next)) → s.run P w' = .ok v w' →
      (execOp (⟨tmps, []⟩ : Act).eval (Oper.mk dst (.call ⟨.builtin b, args, ats⟩) ty pos after guard)).run P w' = .ok (.value v) w' := by
    intro b s v w' he hr
    simp only [execOp, resolve, Sem.run_bind, Sem.run_pure, Result.andThen_ok, invoke]
    rw [he]
    simp only [Sem.run_bind, hr, Result.andThen_ok, Sem.run_pure]
  rcases hq with rfl | rfl | rfl
  · simp only at h
    split at h
    · rename_i ts hts
      have hargs := hf.opTs hts
      generalize hv : args.toList.map (⟨tmps, []⟩ : Act).eval = vs at hargs
      have harr : args.map (⟨tmps, []⟩ : Act).eval = vs.toArray := by rw [map_arr, hv]
      split at h
      · rename_i t x _ hat
        cases hargs with
        | cons hx ht =>
          cases ht
          have e1 : ats = #[t] := Array.toList_inj.1 hat
          split at h
          · rename_i hm
            obtain ⟨v, y, h1, h2, h3⟩ := mapLenK_ok (ty := ty) hh hx h
            have e2 : ats.toList.any (isMapT P) = true := by rw [hat]; simp [hm]
            simp only [e2, if_true]
            exact ⟨v, hp, m, .t y, fun w' hw => fin _ (Builtin.len_ ats ty (args.map (⟨tmps, []⟩ : Act).eval)) v w' (fun _ => rfl) (by rw [harr, e1]; exact h1 w' hw), hh, hf, h2, Kp.refl _ _ _, h3⟩
          obtain ⟨v, y, h1, h2, h3⟩ := lenK_ok (ty := ty) hh hx h
          exact ⟨v, hp, m, .t y, fun w' _ => fin _ (Builtin.len_ ats ty (args.map (⟨tmps, []⟩ : Act).eval)) v w' (fun _ => rfl) (by rw [harr, e1]; exact h1 w'), hh, hf, h2, Kp.refl _ _ _, h3⟩
      all_goals first
        | (cases h; done)
        | (exfalso; contradiction)
    · cases h
  · simp only at h
    split at h
    · rename_i ts hts
      have hargs := hf.opTs hts
      generalize hv : args.toList.map (⟨tmps, []⟩ : Act).eval = vs at hargs
      have harr : args.map (⟨tmps, []⟩ : Act).eval = vs.toArray := by rw [map_arr, hv]
      obtain ⟨v, y, h1, h2, h3⟩ := maxK_ok (P := P) (ts := ats) (ty := ty) hargs h
      exact ⟨v, hp, m, .t y, fun w' _ => fin _ (Builtin.max_ ats ty (args.map (⟨tmps, []⟩ : Act).eval)) v w' (fun _ => rfl) (by rw [harr]; exact h1 w'), hh, hf, h2, Kp.refl _ _ _, h3⟩
    · cases h
  · simp only at h
    split at h
    · rename_i ts hts
      have hargs := hf.opTs hts
      generalize hv : args.toList.map (⟨tmps, []⟩ : Act).eval = vs at hargs
      have harr : args.map (⟨tmps, []⟩ : Act).eval = vs.toArray := by rw [map_arr, hv]
      obtain ⟨v, y, h1, h2, h3⟩ := minK_ok (P := P) (ts := ats) (ty := ty) hargs h
      exact ⟨v, hp, m, .t y, fun w' _ => fin _ (Builtin.min_ ats ty (args.map (⟨tmps, []⟩ : Act).eval)) v w' (fun _ => rfl) (by rw [harr]; exact h1 w'), hh, hf, h2, Kp.refl _ _ _, h3⟩
    · cases h
theorem q_all (hok : G.Ok) {K : G.KT} {o : Oper} {k : G.Fr → G.Hp → G.D → Option β} {ld : Bool} (hh : HRel G N hp m w) (hf : FRel G env fr hp m tmps w) (h : opK G K env fr hp o k = some r) (hq : isQ P o = some ld) : QRes G N env fr hp m tmps w o k r (ldkOf G env fr o) := by
  unfold isQ at hq
  have pure : ldkOf G env fr o = .pure → QRes G N env fr hp m tmps w o k r .pure → QRes G N env fr hp m tmps w o k r (ldkOf G env fr o) := fun e h => by rw [e]; exact h
  cases ho : o.op with
  | load t a => exact q_load hok hh hf h ho
  | lookup t a s c =>
    have e : ldkOf G env fr o = .all := by unfold ldkOf; rw [ho]
    rw [e]
    cases c with
    | false => exact q_lookup hh hf h ho
    | true => unfold opK at h; rw [ho] at h; cases h
  | move x => exact pure (by unfold ldkOf; rw [ho]) (q_move hh hf h ho)
  | assign x => exact pure (by unfold ldkOf; rw [ho]) (q_assign hh hf h ho)
  | pick c a b => exact pure (by unfold ldkOf; rw [ho]) (q_pick hh hf h ho)
  | build t ps => exact pure (by unfold ldkOf; rw [ho]) (q_build hh hf h ho)
  | nilCheck x => exact pure (by unfold ldkOf; rw [ho]) (q_nilCheck hh hf h ho)
  | binOp op t x y u => exact pure (by unfold ldkOf; rw [ho]) (q_binOp hh hf h ho)
  | unOp op t x => exact pure (by unfold ldkOf; rw [ho]) (q_unOp hh hf h ho)
  | convert s t x => exact pure (by unfold ldkOf; rw [ho]) (q_convert hh hf h ho)
  | makeFunc f a b => exact pure (by unfold ldkOf; rw [ho]) (q_makeFunc hh hf h ho)
  | slice t x lo hi mx =>
    cases mx with
    | none => exact pure (by unfold ldkOf; rw [ho]) (q_slice hok hh hf h ho)
    | some _ => unfold opK at h; rw [ho] at h; cases h
  | fieldAddr t x f => exact pure (by unfold ldkOf; rw [ho]) (q_fieldAddr hh hf h ho)
  | field t x f => exact pure (by unfold ldkOf; rw [ho]) (q_field hh hf h ho)
  | indexAddr t x i => exact pure (by unfold ldkOf; rw [ho]) (q_indexAddr hok hh hf h ho)
  | index t x i => exact pure (by unfold ldkOf; rw [ho]) (q_index hh hf h ho)
  | extract x i =>
    cases x with
    | tmp t => exact pure (by unfold ldkOf; rw [ho]) (q_extract hh hf h ho)
    | const _ => unfold opK at h; rw [ho] at h; cases h
    | global _ => unfold opK at h; rw [ho] at h; cases h
    | func _ => unfold opK at h; rw [ho] at h; cases h
  | call c =>
    rw [ho] at hq
    unfold opK at h
    rw [ho] at h
    have e : ldkOf G env fr o = (match c.callee with | .builtin .len => if c.argTypes.toList.any (isMapT P) = true then .all else .pure | _ => .pure) := by unfold ldkOf; rw [ho]; rfl
    rw [e]
    revert hq
    simp only
    split <;> intro hq
    · rename_i hc
      exact q_call hh hf h ho (.inl hc)
    · rename_i hc
      exact q_call hh hf h ho (.inr (.inl hc))
    · rename_i hc
      exact q_call hh hf h ho (.inr (.inr hc))
    · cases hq
  | _ => rw [ho] at hq; cases hq
theorem frs_cases {ops : Array Oper} {o : Oper} {k : G.Fr → G.Hp → Option β} {K : G.KT} {X : Prop} (hr : Rl G N w0 env fr hp m tmps w) (h : stepK G K env ops fr hp o k = some r)
    (exec : ∀ fr1 : G.Fr, fr1 ∈ frs G ops fr o → FRel G env fr1 hp m tmps w → execK G K env fr1 hp o k = some r → Region.wanted o (yielded ops tmps) = true → X)
    (skip : ∀ fr1 : G.Fr, FRel G env fr1 hp m tmps w → skipK G env fr1 hp o k = some r → Region.wanted o (yielded ops tmps) = false → X) : X := by
  unfold stepK at h
  split at h
  · rename_i hg
    exact exec fr (by unfold frs; rw [hg]; simp) hr.hf h (by simp [Region.wanted, hg])
  · rename_i j want hg
    split at h
    · rename_i t ht
      split at h
      · cases h
      · rename_i b hfr hne
        have hb : tmps.getD t undef = .bool b := by
          have h0 : RepT G w (Rof G hp m w) hp.length m (.c (.pv (.val (.bool b)))) (tmps.getD t undef) := hr.hf.fr t _ hfr
          exact (valOf_rep (v := .bool b) rfl h0).1
        have hy := yielded_of ht hb
        have hin : ∀ c : Bool, fr.set t (bV G c) ∈ frs G ops fr o := by
          intro c
          unfold frs
          rw [hg]
          simp only [ht]
          cases c <;> simp
        have hfs : ∀ c, b = c → FRel G env (fr.set t (bV G c)) hp m tmps w := by
          intro c hc
          subst hc
          have := hr.hf.set (t := t) (d := bV G b) (v := .bool b) (RepP.val _ rfl) (fun x hx => hne x hx)
          have hs : tmps.setIfInBounds t (.bool b) = tmps := by
            apply Array.ext_getElem?
            intro i
            rw [Array.getElem?_setIfInBounds]
            split
            · rename_i hi
              subst hi
              rcases Nat.lt_or_ge t tmps.size with h | h
              · simp [h] at hb
                simp [h, hb]
              · simp [h]
            · rfl
          rw [hs] at this
          exact this
        cases want <;> cases b <;> simp only [cond_true, cond_false] at h
        · exact exec _ (hin _) (hfs _ rfl) h (by simp [Region.wanted, hg, hy])
        · exact skip _ (hfs _ rfl) h (by simp [Region.wanted, hg, hy])
        · exact skip _ (hfs _ rfl) h (by simp [Region.wanted, hg, hy])
        · exact exec _ (hin _) (hfs _ rfl) h (by simp [Region.wanted, hg, hy])
      · rename_i hfr _
        have hb : tmps.getD t undef = .tuple #[] := by
          obtain ⟨vs, h1, h2, _⟩ := hr.hf.fr t _ hfr
          obtain rfl : vs = [] := List.eq_nil_of_length_eq_zero h2
          exact h1
        exact skip _ hr.hf h (by simp [Region.wanted, hg, unyielded ht hb])
      · cases h
    · cases h
theorem stepQ_ok (hok : G.Ok) {K : G.KT} {ops : Array Oper} {o : Oper} {ld : Bool} {k : G.Fr → G.Hp → Option β} {C : Ldk → Prop} (hr : Rl G N w0 env fr hp m tmps w) (h : stepK G K env ops fr hp o k = some r) (hq : isQ P o = some ld) (hC : ∀ fr1 ∈ frs G ops fr o, C (ldkOf G env fr1 o)) (hC0 : C .pure) :
    ∃ v fr' hp' m' ld, C ld ∧ YieldsIf P ops (fun w' => LdSame G hp m w w' ld) o v ⟨tmps, []⟩ ∧ Rl G N w0 env fr' hp' m' ((⟨tmps, []⟩ : Act).put o.dst v).tmps w ∧ Kp G hp m w hp' m' w ∧ (⟨tmps, []⟩ : Act).put o.dst v = ⟨((⟨tmps, []⟩ : Act).put o.dst v).tmps, []⟩ ∧
      ((⟨tmps, []⟩ : Act).put o.dst v).tmps.size = tmps.size ∧ k fr' hp' = some r := by
  refine frs_cases hr h ?_ ?_
  · intro fr1 hin hf h hw
    obtain ⟨v, hp1, m1, d, h1, h2, h3, h4, h5, h6⟩ := q_all hok hr.hh hf h hq
    obtain ⟨fr2, h7, h8, h9, h10⟩ := setK_ok h6 h3 h4
    exact ⟨v, fr2, hp1, m1, _, hC fr1 hin, .inl ⟨hw, h1⟩, ⟨h2, h7, hr.bl⟩, h5, h9, h10, h8⟩
  · intro fr1 hf h hw
    obtain ⟨fr2, h7, h8, h9, h10⟩ := setK_ok (v := undef) h hf ⟨[], rfl, rfl, by simp⟩
    exact ⟨undef, fr2, hp, m, .pure, hC0, .inr ⟨hw, rfl⟩, ⟨hr.hh, h7, hr.bl⟩, Kp.refl _ _ _, h9, h10, h8⟩

theorem firstQ_spec {ops : Array Oper} : ∀ {l : List Nat} {j : Nat} {o : Oper} {ld : Bool}, firstQ P ops l = some (j, o, ld) → j ∈ l ∧ ops[j]? = some o ∧ isQ P o = some ld
  | [], j, o, ld, h => by cases h
  | i :: l, j, o, ld, h => by
    unfold firstQ at h
    split at h
    · rename_i o' ho
      split at h
      · rename_i ld' hq
        cases h
        exact ⟨List.mem_cons_self, ho, hq⟩
      · obtain ⟨h1, h2⟩ := firstQ_spec h
        exact ⟨List.mem_cons_of_mem _ h1, h2⟩
    · obtain ⟨h1, h2⟩ := firstQ_spec h
      exact ⟨List.mem_cons_of_mem _ h1, h2⟩
def TgR (m : Nat → Value) (tgs : List (Option (Option Nat))) (i : Nat) (w w' : World) : Prop := w.heap.size ≤ w'.heap.size ∧ TgB m w w' (tgAt tgs i)
/-- What is known of the variables whose making is left open. -/
structure HsW (G : Sg P) (env : G.Env) (ops : Array Oper) (H : List Hs) (nS : Nat) : Prop where
  op : ∀ h ∈ H, ∃ o z, ops[h.i]? = some o ∧ o.op = .alloc h.ty ∧ o.guard = none ∧ o.dst = some h.t ∧ (∀ w, (zeroValue h.ty).run P w = .ok z w) ∧ z.cells.toList = h.zs ∧ ∀ x ∈ h.zs, x.oneCell' = true
  env : ∀ h ∈ H, ∀ d, env[h.t]? ≠ some (some d)
  k : ∀ h ∈ H, nS ≤ h.k
  dst : ∀ h ∈ H, ∀ (q : Nat) (o : Oper), ops[q]? = some o → q ≠ h.i → o.dst ≠ some h.t
  nd : ∀ h ∈ H, ∀ h' ∈ H, h' = h ∨ (h'.i ≠ h.i ∧ h'.k ≠ h.k ∧ h'.t ≠ h.t)
  pw : H.Pairwise fun h h' => h'.i ≠ h.i
  rdy : ∀ h ∈ H, h.i ∈ Region.ready .any ops (Array.replicate ops.size false)
structure PI (G : Sg P) (N : Nat) (w0 : World) (env : G.Env) (ops : Array Oper) (H : List Hs) (hpS : G.Hp) (mS : Nat → Value) (wS : World) (sz : Nat) (L L' : Array Bool) (fr : G.Fr) (hp : G.Hp) (m : Nat → Value) (tmps : Array Value) (w : World) : Prop where
  rl : Rl G N w0 env fr hp m tmps w
  kp : Kp G hpS mS wS hp m w
  clo : ClosedL .any ops L'
  szL : L.size = ops.size
  szL' : L'.size = ops.size
  szT : tmps.size = sz
  le : ∀ i : Nat, L.getD i false = true → L'.getD i false = true
  ge : ∀ i : Nat, L'.getD i false = true → L.getD i false = true ∨ ∃ h ∈ H, h.i = i
  pd : ∀ h ∈ H, L.getD h.i false = false → hp[h.k]? = some (.pend h.zs)
  al : ∀ h ∈ H, L.getD h.i false = false → (L'.getD h.i false = false ∧ m h.k = .tuple #[]) ∨ (L'.getD h.i false = true ∧ tmps.getD h.t undef = m h.k ∧ ∃ b, m h.k = .pointer (some ⟨b, 0, none⟩))
theorem getD_tf {L : Array Bool} {i : Nat} (h : i < L.size) : L.getD i true = L.getD i false := by simp [h]
theorem getD_lt {L : Array Bool} {i : Nat} (h : L.getD i true = false) : i < L.size := by
  rcases Nat.lt_or_ge i L.size with h' | h'
  · exact h'
  · simp [Array.getElem?_eq_none h'] at h
theorem getD_lt' {L : Array Bool} {i : Nat} (h : L.getD i false = true) : i < L.size := by
  rcases Nat.lt_or_ge i L.size with h' | h'
  · exact h'
  · simp [Array.getElem?_eq_none h'] at h
theorem getD_set_t {L : Array Bool} {i j : Nat} (h : (L.setIfInBounds i true).getD j false = true) : L.getD j false = true ∨ j = i := by
  by_cases e : i = j
  · exact .inr e.symm
  · rw [getD_set_ne false e] at h; exact .inl h
theorem getD_set_f {L : Array Bool} {i j : Nat} (hi : i < L.size) (h : (L.setIfInBounds i true).getD j false = false) : L.getD j false = false ∧ j ≠ i := by
  by_cases e : i = j
  · subst e; simp [hi] at h
  · rw [getD_set_ne false e] at h; exact ⟨h, fun e' => e e'.symm⟩
theorem RepC.nok {R : Nat → Prop} {n k : Nat} {c : G.C} {v : Value} (h : RepC G w R n m c v) (hk : m k = .tuple #[]) : k ∉ refs G c := by
  intro hr
  cases c with
  | os o =>
    have e : k = o := by simpa [refs] using hr
    subst e
    obtain ⟨_, h1, h2⟩ := h
    rw [h1, hk] at h2; cases h2
  | ptr o f =>
    have e : k = o := by simpa [refs] using hr
    subst e
    obtain ⟨_, b, h1, _⟩ := h
    rw [hk] at h1; cases h1
  | ep u o i j =>
    have e : k = o := by simpa [refs] using hr
    subst e
    obtain ⟨_, b, _, _, h1, _⟩ := h
    rw [hk] at h1; cases h1
  | clo f caps =>
    obtain ⟨vs, _, _, h3⟩ := h
    have hr' : k ∈ caps := hr
    obtain ⟨i, hi, e⟩ := List.mem_iff_getElem.1 hr'
    obtain ⟨_, b, h1, _⟩ := h3 i k (by rw [List.getElem?_eq_getElem hi, e])
    rw [hk] at h1; cases h1
  | junk => cases hr
  | pv p => cases hr
  | rp cells => cases hr
  | fn u r F => cases hr
theorem RepL.nok {R : Nat → Prop} {n k : Nat} {cs : List G.C} {vs : List Value} (h : RepL G w R n m cs vs) (hk : m k = .tuple #[]) : k ∉ cs.flatMap (refs G) := by
  intro hr
  obtain ⟨c, hc, hr⟩ := List.mem_flatMap.1 hr
  obtain ⟨i, hi, rfl⟩ := List.mem_iff_getElem.1 hc
  obtain ⟨x, _, h2⟩ := h.2 i _ (List.getElem?_eq_getElem hi)
  exact h2.nok hk hr
theorem RepT.nok {R : Nat → Prop} {n k : Nat} {t : G.T} {v : Value} (h : RepT G w R n m t v) (hk : m k = .tuple #[]) : k ∉ refsT t := by
  cases t with
  | c x => exact RepC.nok h hk
  | agg cs => obtain ⟨vs, _, hl⟩ := h; exact hl.nok hk
theorem RepD.nok {R : Nat → Prop} {n k : Nat} {d : G.D} {v : Value} (h : RepD G w R n m d v) (hk : m k = .tuple #[]) : k ∉ refsD d := by
  cases d with
  | t x => exact RepT.nok h hk
  | tup ts =>
    obtain ⟨vs, _, _, hv⟩ := h
    intro hr
    obtain ⟨t, ht, hr⟩ := List.mem_flatMap.1 hr
    obtain ⟨i, hi, rfl⟩ := List.mem_iff_getElem.1 ht
    obtain ⟨x, _, h2⟩ := hv i _ (List.getElem?_eq_getElem hi)
    exact h2.nok hk hr
theorem RepO.nok {R : Nat → Prop} {n k o : Nat} {ob : G.O} (h : RepO G w R n m N o ob) (hk : m k = .tuple #[]) : k ∉ refsO ob := by
  cases ob with
  | box cs => obtain ⟨b, t, vs, _, _, _, e4, _⟩ := h; exact e4.nok hk
  | lock cs => obtain ⟨b, t, vs, _, _, _, e4, _⟩ := h; exact e4.nok hk
  | _ => intro hr; cases hr
section
variable {ops : Array Oper} {H : List Hs} {hpS : G.Hp} {mS : Nat → Value} {wS : World} {sz : Nat} {L L' : Array Bool} {tgs : List (Option (Option Nat))}
theorem HsW.now (hw : HsW G env ops H hpS.length) {h : Hs} (hh : h ∈ H) (hL : L.size = ops.size) (hun : L.getD h.i false = false) : h.i ∈ Region.ready .any ops L := by
  obtain ⟨o, z, h1, _⟩ := hw.op h hh
  obtain ⟨_, o', h2, h3⟩ := mem_ready.1 (hw.rdy h hh)
  rw [h1] at h2
  cases h2
  have hlt : h.i < L.size := by rw [hL]; exact (Array.getElem?_eq_some_iff.1 h1).1
  exact mem_ready.2 ⟨by rw [getD_tf hlt]; exact hun, o, h1, fun e he hb => by have := h3 e he hb; rw [getD_rep] at this; cases this⟩
/-- A variable is made before the reading has it made. -/
theorem PI.early (hw : HsW G env ops H hpS.length) (pi : PI G N w0 env ops H hpS mS wS sz L L' fr hp m tmps w) {h : Hs} (hh : h ∈ H) (hun : L.getD h.i false = false) (hun' : L'.getD h.i false = false) (hj : junkAt G fr h.t = true) (hr' : h.i ∈ Region.ready .any ops L')
    {Q : Exit → Act → World → Prop} {X : Act → World → Prop} (hX : ∀ m' tmps' w', PI G N w0 env ops H hpS mS wS sz L (L'.setIfInBounds h.i true) fr hp m' tmps' w' → TgR mS tgs h.i w w' → X ⟨tmps', []⟩ w') : wpOp P ops Q h.i X ⟨tmps, []⟩ w := by
  obtain ⟨o, z, h1, h2, h3, h4, h5, h6, h7⟩ := hw.op h hh
  have hpd := pi.pd h hh hun
  have hmk : m h.k = .tuple #[] := by
    rcases pi.al h hh hun with ⟨_, e⟩ | ⟨e, _⟩
    · exact e
    · rw [hun'] at e; cases e
  have hfr : fr[h.t]? = some (.t (.c .junk)) := by
    unfold junkAt at hj
    split at hj
    · assumption
    · cases hj
  have hlt : h.t < tmps.size := by rw [pi.rl.hf.len]; exact (List.getElem?_eq_some_iff.1 hfr).1
  unfold wpOp
  rw [h1]
  simp only [Region.wanted, h3, if_true]
  refine .inl (wp_val (s := Instr.alloc h.ty true (.tuple #[])) (v := .pointer (some ⟨w.heap.size, 0, none⟩)) (w' := w.alloc (.cells z.cells h.ty)) (by simp only [execOp, h2]) (by simp [Instr.alloc, h5, newVar, newRow, newObj, Sem.run]) ?_)
  have hput : (⟨tmps, []⟩ : Act).put o.dst (.pointer (some ⟨w.heap.size, 0, none⟩)) = ⟨tmps.setIfInBounds h.t (.pointer (some ⟨w.heap.size, 0, none⟩)), []⟩ := by rw [h4]; rfl
  rw [hput]
  have hold : ∀ b, b < w.heap.size → (w.alloc (.cells z.cells h.ty)).heap[b]? = w.heap[b]? := fun b hb => heap_alloc_old w _ hb
  have hro : ∀ b, Rof G hp m w b → Rof G hp (mAt m h.k (.pointer (some ⟨w.heap.size, 0, none⟩))) (w.alloc (.cells z.cells h.ty)) b := by
    rintro b ⟨hb1, hb2⟩
    refine ⟨by simp; omega, ?_⟩
    rintro ⟨q, ob, hq, hl, hbk⟩
    by_cases e : q = h.k
    · subst e
      rw [mAt_same] at hbk
      obtain rfl : w.heap.size = b := by simpa [blkOf] using hbk
      omega
    · rw [mAt_other _ _ _ e] at hbk
      exact hb2 ⟨q, ob, hq, hl, hbk⟩
  have hsame : ∀ b, Rof G hp m w b → (w.alloc (.cells z.cells h.ty)).heap[b]? = w.heap[b]? := fun b hb => hold b hb.1
  refine hX (mAt m h.k (.pointer (some ⟨w.heap.size, 0, none⟩))) _ _ ⟨⟨⟨fun q ob hq => ?_, fun q q' ob ob' b hq hq' hl hl' hb hb' => ?_, by have := pi.rl.hh.base; simp; omega⟩, ⟨by simp [pi.rl.hf.len], fun t d hd => ?_, fun t d hd => ?_⟩, pi.rl.bl.trans ((Below.refl _ _).alloc pi.rl.hh.base _)⟩,
    ⟨fun b hb => hro b (pi.kp.ro b hb), fun b hb => (hsame b (pi.kp.ro b hb)).trans (pi.kp.heap b hb), pi.kp.lk, fun q ob hq hm => ?_, pi.kp.len, fun q os p hq hp' hl => ?_⟩, pi.clo.set hr', pi.szL, by simp [pi.szL'], by simp [pi.szT], fun i hi => getD_set_true (pi.le i hi), fun i hi => ?_, pi.pd, fun h' hh' hun2 => ?_⟩ ⟨by simp, TgB.of_later hold _⟩
  · by_cases e : q = h.k
    · subst e
      rw [hpd] at hq
      cases hq
      exact .inr ⟨w.heap.size, h.ty, z.cells, mAt_same _ _ _, pi.rl.hh.base, heap_alloc_new w _, h6, h7⟩
    · have hnk := (pi.rl.hh.obj q ob hq).nok hmk
      exact (pi.rl.hh.obj q ob hq).mono hro hsame (Nat.le_refl _) (fun o' ho' _ => mAt_other _ _ _ (fun e' => hnk (e' ▸ ho'))) (mAt_other _ _ _ e) (fun b hl hb => hold b ((pi.rl.hh.obj q ob hq).blk hl hb).2)
  · by_cases e : q = h.k <;> by_cases e' : q' = h.k
    · rw [e, e']
    · subst e
      rw [mAt_same] at hb
      obtain rfl : w.heap.size = b := by simpa [blkOf] using hb
      rw [mAt_other _ _ _ e'] at hb'
      have := ((pi.rl.hh.obj q' ob' hq').blk hl' hb').2
      omega
    · subst e'
      rw [mAt_same] at hb'
      obtain rfl : w.heap.size = b := by simpa [blkOf] using hb'
      rw [mAt_other _ _ _ e] at hb
      have := ((pi.rl.hh.obj q ob hq).blk hl hb).2
      omega
    · rw [mAt_other _ _ _ e] at hb
      rw [mAt_other _ _ _ e'] at hb'
      exact pi.rl.hh.sep q q' ob ob' b hq hq' hl hl' hb hb'
  · by_cases e : h.t = t
    · subst e
      rw [hfr] at hd
      cases hd
      trivial
    · have h8 := pi.rl.hf.fr t d hd
      have hnk := h8.nok hmk
      have h9 : (tmps.setIfInBounds h.t (.pointer (some ⟨w.heap.size, 0, none⟩))).getD t undef = tmps.getD t undef := by simp [e]
      rw [h9]
      exact h8.mono hro hsame (Nat.le_refl _) (fun o' ho' _ => mAt_other _ _ _ (fun e' => hnk (e' ▸ ho')))
  · have e : h.t ≠ t := fun e => hw.env h hh d (e ▸ hd)
    obtain ⟨h8, h9⟩ := pi.rl.hf.env t d hd
    have hnk := h9.nok hmk
    refine ⟨by simpa using h8, ?_⟩
    have h10 : (tmps.setIfInBounds h.t (.pointer (some ⟨w.heap.size, 0, none⟩))).getD t undef = tmps.getD t undef := by simp [e]
    rw [h10]
    exact h9.mono hro hsame (Nat.le_refl _) (fun o' ho' _ => mAt_other _ _ _ (fun e' => hnk (e' ▸ ho')))
  · have h8 := (List.getElem?_eq_some_iff.1 hq).1
    have h9 := hw.k h hh
    obtain ⟨e1, e2⟩ := pi.kp.mv q ob hq hm
    exact ⟨by rw [mAt_other _ _ _ (by omega)]; exact e1, e2⟩
  · have h9 := hw.k h hh
    rw [mAt_other _ _ _ (by omega)]
    exact pi.kp.pn q os p hq hp' hl
  · rcases getD_set_t hi with h8 | h8
    · exact pi.ge i h8
    · exact .inr ⟨h, hh, h8.symm⟩
  · rcases hw.nd h hh h' hh' with rfl | ⟨n1, n2, n3⟩
    · refine .inr ⟨?_, ?_, w.heap.size, mAt_same _ _ _⟩
      · have := getD_lt (mem_ready.1 hr').1
        simp [this]
      · rw [mAt_same]; simp [hlt]
    · rw [getD_set_ne false (fun e => n1 e.symm), mAt_other _ _ _ n2]
      have hne : h.t ≠ h'.t := fun e => n3 e.symm
      have h9 : (tmps.setIfInBounds h.t (.pointer (some ⟨w.heap.size, 0, none⟩))).getD h'.t undef = tmps.getD h'.t undef := by simp [hne]
      rw [h9]
      exact pi.al h' hh' hun2
/-- The reading has the variable made. -/
theorem PI.resolve (hw : HsW G env ops H hpS.length) (pi : PI G N w0 env ops H hpS mS wS sz L L' fr hp m tmps w) {h : Hs} (hh : h ∈ H) (hun : L.getD h.i false = false) (hun' : L'.getD h.i false = true) :
    PI G N w0 env ops H hpS mS wS sz (L.setIfInBounds h.i true) L' (fr.set h.t (.t (.c (.ptr h.k 0)))) (hp.set h.k (.box (zsC G h.zs))) m tmps w := by
  have hpd := pi.pd h hh hun
  have hlt := (List.getElem?_eq_some_iff.1 hpd).1
  obtain ⟨ht, b0, hb0⟩ : tmps.getD h.t undef = m h.k ∧ ∃ b, m h.k = .pointer (some ⟨b, 0, none⟩) := by
    rcases pi.al h hh hun with ⟨e, _⟩ | ⟨_, e⟩
    · rw [hun'] at e; cases e
    · exact e
  have hli : h.i < L.size := by
    obtain ⟨o, z, h1, _⟩ := hw.op h hh
    rw [pi.szL]; exact (Array.getElem?_eq_some_iff.1 h1).1
  have hnew : RepO G w (Rof G ((hp.map fun x => x).set h.k (.box (zsC G h.zs))) m w) hp.length m N h.k (.box (zsC G h.zs)) := by
    rcases pi.rl.hh.obj h.k _ hpd with e | ⟨b, t, vs, e1, e2, e3, e4, e5⟩
    · rw [hb0] at e; cases e
    · refine ⟨b, t, vs, e1, e2, e3, ⟨by simp [zsC, ← e4], fun i c hi => ?_⟩, by rw [e4]; exact e5⟩
      unfold zsC at hi
      rw [List.getElem?_map] at hi
      cases hz : h.zs[i]? with
      | none => rw [hz] at hi; cases hi
      | some v => rw [hz] at hi; cases hi; exact ⟨v, by rw [e4]; exact hz, RepP.val v (e5 v (List.mem_of_getElem? hz))⟩
  obtain ⟨g1, g2, g3⟩ := pi.rl.hh.turn (w' := w) (m' := m) (ob' := .box (zsC G h.zs)) (f := fun x => x) hpd rfl (Nat.le_refl _) (fun _ _ _ => rfl) (fun _ _ => rfl) (fun b _ hb => .inl hb) (.inl ⟨fun _ => rfl, rfl⟩) hnew
  rw [map_id'] at g1 g2
  have hk := hw.k h hh
  refine ⟨⟨g1, FRel.put ((⟨pi.rl.hf.len, fun t d hd => (pi.rl.hf.fr t d hd).mono g2 (fun _ _ => rfl) (by simp) (fun _ _ _ => rfl), fun t d hd => ⟨(pi.rl.hf.env t d hd).1, (pi.rl.hf.env t d hd).2.mono g2 (fun _ _ => rfl) (by simp) (fun _ _ _ => rfl)⟩⟩ : FRel G env fr (hp.set h.k (.box (zsC G h.zs))) m tmps w)) ?_, pi.rl.bl⟩,
    ⟨fun b hb => g2 b (pi.kp.ro b hb), pi.kp.heap, fun o ob ho hl => ?_, fun o ob ho hm => ?_, by simp only [List.length_set]; exact pi.kp.len, pi.kp.pn⟩, pi.clo, by simp [pi.szL], pi.szL', pi.szT, fun i hi => ?_, fun i hi => ?_, fun h' hh' hun2 => ?_, fun h' hh' hun2 => ?_⟩
  · exact ⟨by simpa using hlt, b0, hb0, by rw [ht]; exact hb0⟩
  · have h8 := (List.getElem?_eq_some_iff.1 ho).1
    rw [List.getElem?_set, if_neg (by omega)]
    exact pi.kp.lk o ob ho hl
  · have h8 := (List.getElem?_eq_some_iff.1 ho).1
    obtain ⟨e1, ob', e2, e3⟩ := pi.kp.mv o ob ho hm
    exact ⟨e1, ob', by rw [List.getElem?_set, if_neg (by omega)]; exact e2, e3⟩
  · rcases getD_set_t hi with h8 | h8
    · exact pi.le i h8
    · rw [h8]; exact hun'
  · rcases pi.ge i hi with h8 | h8
    · exact .inl (getD_set_true h8)
    · exact .inr h8
  · obtain ⟨h8, h9⟩ := getD_set_f hli hun2
    rcases hw.nd h hh h' hh' with rfl | ⟨n1, n2, n3⟩
    · exact absurd rfl h9
    · rw [List.getElem?_set, if_neg (fun e => n2 e.symm)]
      exact pi.pd h' hh' h8
  · obtain ⟨h8, h9⟩ := getD_set_f hli hun2
    exact pi.al h' hh' h8
/-- Another operation has come up. -/
theorem PI.step (hw : HsW G env ops H hpS.length) (pi : PI G N w0 env ops H hpS mS wS sz L L' fr hp m tmps w) {i : Nat} {o : Oper} (ho : ops[i]? = some o) (hi : ∀ h ∈ H, h.i ≠ i) (hr' : i ∈ Region.ready .any ops L') {fr' : G.Fr} {hp' : G.Hp} {m' : Nat → Value} {v : Value} {w' : World}
    (hrl : Rl G N w0 env fr' hp' m' ((⟨tmps, []⟩ : Act).put o.dst v).tmps w') (hkp : Kp G hp m w hp' m' w') (hsz : ((⟨tmps, []⟩ : Act).put o.dst v).tmps.size = tmps.size) :
    PI G N w0 env ops H hpS mS wS sz (L.setIfInBounds i true) (L'.setIfInBounds i true) fr' hp' m' ((⟨tmps, []⟩ : Act).put o.dst v).tmps w' := by
  have hlt : i < ops.size := (Array.getElem?_eq_some_iff.1 ho).1
  refine ⟨hrl, pi.kp.trans hkp, pi.clo.set hr', by simp [pi.szL], by simp [pi.szL'], hsz.trans pi.szT, fun j hj => ?_, fun j hj => ?_, fun h hh hun => ?_, fun h hh hun => ?_⟩
  · rcases getD_set_t hj with h8 | rfl
    · exact getD_set_true (pi.le j h8)
    · have : j < L'.size := by rw [pi.szL']; exact hlt
      simp [this]
  · rcases getD_set_t hj with h8 | rfl
    · rcases pi.ge j h8 with h9 | h9
      · exact .inl (getD_set_true h9)
      · exact .inr h9
    · have : j < L.size := by rw [pi.szL]; exact hlt
      exact .inl (by simp [this])
  · rw [getD_set_ne false (fun e => hi h hh e.symm)] at hun
    exact hkp.lk h.k _ (pi.pd h hh hun) rfl
  · rw [getD_set_ne false (fun e => hi h hh e.symm)] at hun
    rw [getD_set_ne false (fun e => hi h hh e.symm)]
    have h9 := (hkp.mv h.k _ (pi.pd h hh hun) rfl).1
    have h10 : ((⟨tmps, []⟩ : Act).put o.dst v).tmps.getD h.t undef = tmps.getD h.t undef := by
      have hd := hw.dst h hh i o ho (fun e => hi h hh e.symm)
      cases hdst : o.dst with
      | none => rfl
      | some t =>
        have hne : t ≠ h.t := fun e => hd (by rw [hdst, e])
        simp [Act.put, hne]
    rw [h9, h10]
    exact pi.al h hh hun
theorem PI.resolveAll (hw : HsW G env ops H hpS.length) : ∀ (U : List Hs) {L : Array Bool} {fr : G.Fr} {hp : G.Hp}, PI G N w0 env ops H hpS mS wS sz L L' fr hp m tmps w → (∀ h ∈ U, h ∈ H ∧ L.getD h.i false = false ∧ L'.getD h.i false = true) → (U.Pairwise fun h h' => h'.i ≠ h.i) →
    PI G N w0 env ops H hpS mS wS sz (hsL U L) L' (hsF G U fr) (hsP G U hp) m tmps w
  | [], _, _, _, pi, _, _ => pi
  | h :: U, L, fr, hp, pi, hU, hp' => by
    obtain ⟨h1, h2, h3⟩ := hU h List.mem_cons_self
    have hp2 := List.pairwise_cons.1 hp'
    exact PI.resolveAll hw U (pi.resolve hw h1 h2 h3) (fun h' hh' => by
      obtain ⟨g1, g2, g3⟩ := hU h' (List.mem_cons_of_mem _ hh')
      exact ⟨g1, by rw [getD_set_ne false (fun e => hp2.1 h' hh' e.symm)]; exact g2, g3⟩) hp2.2
theorem hsL_size : ∀ (U : List Hs) (L : Array Bool), (hsL U L).size = L.size
  | [], _ => rfl
  | h :: U, L => by
    show (hsL U (L.setIfInBounds h.i true)).size = _
    rw [hsL_size U]; simp
theorem hsL_old : ∀ (U : List Hs) (L : Array Bool) (j : Nat), L.getD j false = true → (hsL U L).getD j false = true
  | [], _, _, h => h
  | _ :: U, _, j, hj => hsL_old U _ j (getD_set_true hj)
theorem hsL_new : ∀ (U : List Hs) (L : Array Bool) (j : Nat), (hsL U L).getD j false = true → L.getD j false = true ∨ ∃ h ∈ U, h.i = j
  | [], _, _, h => .inl h
  | h :: U, L, j, hj => by
    rcases hsL_new U _ j hj with h1 | ⟨h', h1, h2⟩
    · rcases getD_set_t h1 with h3 | h3
      · exact .inl h3
      · exact .inr ⟨h, List.mem_cons_self, h3.symm⟩
    · exact .inr ⟨h', List.mem_cons_of_mem _ h1, h2⟩
theorem hsL_in : ∀ (U : List Hs) (L : Array Bool) (h : Hs), h ∈ U → h.i < L.size → (hsL U L).getD h.i false = true
  | [], _, _, hm, _ => by cases hm
  | h' :: U, L, h, hm, hl => by
    rcases List.mem_cons.1 hm with rfl | hm
    · exact hsL_old U _ _ (by simp [hl])
    · exact hsL_in U _ h hm (by simpa using hl)
/-- What is ready, and is no variable's making, is ready where all variables are made. -/
theorem PI.readyH (hw : HsW G env ops H hpS.length) (pi : PI G N w0 env ops H hpS mS wS sz L L' fr hp m tmps w) {q : Nat} (hq : q ∈ Region.ready .any ops L') (hne : ∀ h ∈ H, h.i ≠ q) : q ∈ Region.ready .any ops (hsL H L) := by
  obtain ⟨h1, o, h2, h3⟩ := mem_ready.1 hq
  have hlt : q < ops.size := (Array.getElem?_eq_some_iff.1 h2).1
  refine mem_ready.2 ⟨?_, o, h2, fun e he hb => ?_⟩
  · rw [getD_tf (by rw [hsL_size, pi.szL]; exact hlt)]
    cases e : (hsL H L).getD q false with
    | false => rfl
    | true =>
      rcases hsL_new H L q e with h4 | ⟨h, hh, h4⟩
      · have := pi.le q h4; rw [getD_low h1] at this; cases this
      · exact absurd h4 (hne h hh)
  · rcases pi.ge _ (h3 e he hb) with h4 | ⟨h, hh, h4⟩
    · exact hsL_old H L _ h4
    · rw [← h4]
      obtain ⟨o', z, h5, _⟩ := hw.op h hh
      exact hsL_in H L h hh (by rw [pi.szL]; exact (Array.getElem?_eq_some_iff.1 h5).1)
theorem drawK_main (hok : G.Ok) {K : G.KT} (hK : CallOk G K) {Q : Exit → Act → World → Prop} (hsel : Region.noSelect ops = true) (hQ : ∀ c a w, ¬ Q (.panic c) a w) (hw : HsW G env ops H hpS.length) (htg : ∀ q q', tgAt tgs q = some (some q') → stands G hpS q' = true) {k : G.Fr → G.Hp → Option β}
    (hn : ∀ fr' hp' m' tmps' w', Rl G N w0 env fr' hp' m' tmps' w' → Kp G hpS mS wS hp' m' w' → tmps'.size = sz → k fr' hp' = some r → Q .normal ⟨tmps', []⟩ w') :
    ∀ (n c : Nat) {L L' : Array Bool} {fr : G.Fr} {hp : G.Hp} {m : Nat → Value} {tmps : Array Value} {w : World}, PI G N w0 env ops H hpS mS wS sz L L' fr hp m tmps w → remL L' ≤ c → drawK G K env ops tgs H n L fr hp k = some r →
    wpAnyR P .any ops Q (TgR mS tgs) (remL L') L' ⟨tmps, []⟩ w := by
  have fin : ∀ {L L' : Array Bool} {fr : G.Fr} {hp : G.Hp} {m : Nat → Value} {tmps : Array Value} {w : World}, PI G N w0 env ops H hpS mS wS sz L L' fr hp m tmps w → Region.ready .any ops L = [] → k fr hp = some r →
      wpAnyR P .any ops Q (TgR mS tgs) (remL L') L' ⟨tmps, []⟩ w := by
    intro L L' fr hp m tmps w pi hrd hk
    have hall : ∀ h ∈ H, L.getD h.i false = true := by
      intro h hh
      cases e : L.getD h.i false with
      | true => rfl
      | false =>
        have := hw.now hh pi.szL e
        rw [hrd] at this; cases this
    have hrd' : Region.ready .any ops L' = [] := by
      rw [List.eq_nil_iff_forall_not_mem]
      intro i hi
      obtain ⟨h1, o, h2, h3⟩ := mem_ready.1 hi
      have h4 : i ∈ Region.ready .any ops L := by
        refine mem_ready.2 ⟨?_, o, h2, fun e he hb => ?_⟩
        · have hlt : i < L.size := by rw [pi.szL]; exact (Array.getElem?_eq_some_iff.1 h2).1
          rw [getD_tf hlt]
          cases e : L.getD i false with
          | false => rfl
          | true =>
            have h5 := pi.le i e
            rw [getD_low h1] at h5; cases h5
        · rcases pi.ge _ (h3 e he hb) with h5 | ⟨h, hh, h5⟩
          · exact h5
          · rw [← h5]; exact hall h hh
      rw [hrd] at h4; cases h4
    have hq := hn fr hp m tmps w pi.rl pi.kp pi.szT hk
    cases remL L' with
    | zero => exact ⟨hrd', hq⟩
    | succ f => exact ⟨fun _ => hq, fun i hi => by rw [hrd'] at hi; cases hi⟩
  have hstand : ∀ {hp : G.Hp} {m : Nat → Value} {w : World}, Kp G hpS mS wS hp m w → ∀ q q', tgAt tgs q = some (some q') → m q' = mS q' := by
    intro hp m w hkp q q' hq
    have h1 := htg q q' hq
    unfold stands at h1
    split at h1
    · rename_i cs hc; exact (hkp.mv q' _ hc rfl).1
    · rename_i cs hc; exact (hkp.mv q' _ hc rfl).1
    · cases h1
  intro n
  induction n with
  | zero =>
    intro c L L' fr hp m tmps w pi _ h
    unfold drawK at h
    split at h
    · rename_i hrd; exact fin pi hrd h
    · cases h
  | succ n ih =>
    intro c
    induction c with
    | zero =>
      intro L L' fr hp m tmps w pi hc h
      have hrd' : ∀ i, i ∉ Region.ready .any ops L' := by
        intro i hi
        have := remL_set (mem_ready.1 hi).1
        omega
      unfold drawK at h
      split at h
      · rename_i hrd; exact fin pi hrd h
      · rename_i i0 l0 hrd
        split at h
        · split at h
          · split at h
            · refine ih 0 (pi.resolveAll hw _ (fun h' hh' => ?_) (hw.pw.filter _)) hc h
              rw [List.mem_filter] at hh'
              have hun : L.getD h'.i false = false := by simpa using hh'.2
              refine ⟨hh'.1, hun, ?_⟩
              cases e : L'.getD h'.i false with
              | true => rfl
              | false => exact absurd (hw.now hh'.1 pi.szL' e) (hrd' _)
            · cases h
          · rename_i i rest hfil
            exfalso
            have hmem : i ∈ (i0 :: l0).filter fun i => !(H.any fun h => h.i == i) := by rw [hfil]; exact List.mem_cons_self
            rw [List.mem_filter, ← hrd] at hmem
            obtain ⟨h1, o, h2, h3⟩ := mem_ready.1 hmem.1
            refine hrd' i (mem_ready.2 ⟨?_, o, h2, fun e he hb => pi.le _ (h3 e he hb)⟩)
            have hlt : i < L'.size := by rw [pi.szL']; exact (Array.getElem?_eq_some_iff.1 h2).1
            rw [getD_tf hlt]
            cases e : L'.getD i false with
            | false => rfl
            | true =>
              rcases pi.ge i e with h5 | ⟨hs, hh, h5⟩
              · rw [getD_low h1] at h5; cases h5
              · have := hmem.2
                simp only [Bool.not_eq_true', List.any_eq_false, beq_iff_eq] at this
                exact absurd h5 (this hs hh)
        · cases h
    | succ c ihc =>
      intro L L' fr hp m tmps w pi hc h
      have h0 := h
      unfold drawK at h
      split at h
      · rename_i hrd; exact fin pi hrd h
      · rename_i i0 l0 hrd
        split at h
        · rename_i hpend
          have early : ∀ q ∈ Region.ready .any ops L', (∃ hs ∈ H, hs.i = q) → wpOp P ops Q q (fun a' w' => TgR mS tgs q w w' ∧ wpAnyR P .any ops Q (TgR mS tgs) (remL (L'.setIfInBounds q true)) (L'.setIfInBounds q true) a' w') ⟨tmps, []⟩ w := by
            rintro q hq ⟨hs, hh, rfl⟩
            have hun' : L'.getD hs.i false = false := getD_low (mem_ready.1 hq).1
            have hun : L.getD hs.i false = false := by
              cases e : L.getD hs.i false with
              | false => rfl
              | true => rw [pi.le _ e] at hun'; cases hun'
            have hj : junkAt G fr hs.t = true := by
              have := List.all_eq_true.1 hpend hs hh
              rw [hun] at this
              simpa using this
            refine pi.early (tgs := tgs) hw hh hun hun' hj hq fun m' tmps' w' pi' hT => ⟨hT, ihc pi' ?_ h0⟩
            have := remL_set (mem_ready.1 hq).1
            omega
          have ready' : ∀ i, i ∈ Region.ready .any ops L → (∀ hs ∈ H, hs.i ≠ i) → i ∈ Region.ready .any ops L' := by
            intro i hi hne
            obtain ⟨h1, o, h2, h3⟩ := mem_ready.1 hi
            refine mem_ready.2 ⟨?_, o, h2, fun e he hb => pi.le _ (h3 e he hb)⟩
            have hlt : i < L'.size := by rw [pi.szL']; exact (Array.getElem?_eq_some_iff.1 h2).1
            rw [getD_tf hlt]
            cases e : L'.getD i false with
            | false => rfl
            | true =>
              rcases pi.ge i e with h5 | ⟨hs, hh, h5⟩
              · rw [getD_low h1] at h5; cases h5
              · exact absurd h5 (hne hs hh)
          split at h
          · split at h
            · rename_i hdep
              by_cases hmade : ∀ h' ∈ H, L.getD h'.i false = false → L'.getD h'.i false = true
              · refine ih _ (pi.resolveAll hw _ (fun h' hh' => ?_) (hw.pw.filter _)) (Nat.le_refl _) h
                rw [List.mem_filter] at hh'
                have hun : L.getD h'.i false = false := by simpa using hh'.2
                exact ⟨hh'.1, hun, hmade h' hh'.1 hun⟩
              · have hex : ∃ h' ∈ H, L.getD h'.i false = false ∧ L'.getD h'.i false = false := by
                  apply Classical.byContradiction
                  intro hno
                  refine hmade fun h' hh' hun => ?_
                  cases e : L'.getD h'.i false with
                  | true => rfl
                  | false => exact absurd ⟨h', hh', hun, e⟩ hno
                obtain ⟨h', hh', hun, hun'⟩ := hex
                have hrd1 := hw.now hh' pi.szL' hun'
                have hrem := remL_set (mem_ready.1 hrd1).1
                rw [hrem]
                refine ⟨fun e => (by rw [e] at hrd1; cases hrd1), fun q hq => ?_⟩
                have hqr := remL_set (mem_ready.1 hq).1
                have hsame : remL (L'.setIfInBounds h'.i true) = remL (L'.setIfInBounds q true) := by omega
                rw [hsame]
                by_cases hqH : ∃ hs ∈ H, hs.i = q
                · exact early q hq hqH
                · exfalso
                  have hq2 := pi.readyH hw hq (fun hs hh e => hqH ⟨hs, hh, e⟩)
                  have h5 := List.all_eq_true.1 (List.all_eq_true.1 hdep q hq2) h' (List.mem_filter.2 ⟨hh', by simpa using hun⟩)
                  obtain ⟨h6, o, h7, h8⟩ := mem_ready.1 hq
                  unfold depOn at h5
                  rw [h7] at h5
                  obtain ⟨e, he, hb⟩ := Array.any_eq_true'.1 h5
                  simp only [Bool.and_eq_true, beq_iff_eq] at hb
                  have := h8 e he hb.1
                  rw [hb.2, hun'] at this
                  cases this
            · cases h
          · rename_i i rest hfil
            have hfm : ∀ q, q ∈ i :: rest → q ∈ Region.ready .any ops L ∧ ∀ hs ∈ H, hs.i ≠ q := by
              intro q hq
              rw [← hfil, List.mem_filter, ← hrd] at hq
              refine ⟨hq.1, fun hs hh e => ?_⟩
              have := hq.2
              simp only [Bool.not_eq_true', List.any_eq_false, beq_iff_eq] at this
              exact this hs hh e
            split at h
            · rename_i j o ld hfq
              obtain ⟨h1, h2, h3⟩ := firstQ_spec hfq
              obtain ⟨hjL, hjH⟩ := hfm j h1
              have hjL' := ready' j hjL hjH
              split at h
              · rename_i hcond
                have hC := hcond.2
                rw [List.all_eq_true] at hC
                obtain ⟨v, fr1, hp1, m1, ldk, hld, h4, h5, h6, h7, h8, h9⟩ := stepQ_ok (C := fun ld => ldOk G hp ops tgs j ld = true) hok pi.rl h h3 hC rfl
                have hrem := remL_set (mem_ready.1 hjL').1
                rw [hrem]
                refine wpAnyR_first (v := v) (S := fun w' => LdSame G hp m w w' ldk ∧ w.heap.size ≤ w'.heap.size) ?_ h2 (Region.noSelect_spec hsel) (fun c a w h => absurd h (hQ c (a.put o.dst v) w)) (fun _ => ⟨Nat.le_refl _, TgB.refl _ _ _⟩) _ L' _ w pi.clo ?_ hjL' ?_ ⟨LdSame.refl _ _ _ _, Nat.le_refl _⟩ ?_
                · rintro q w1 w2 hqj hql hqs ⟨hS1, hS2⟩ ⟨hT1, hT2⟩
                  refine ⟨?_, Nat.le_trans hS2 hT1⟩
                  have hone : ldk = .pure ∨ ldOk1 G hp (tgAt tgs q) ldk = true := by
                    unfold ldOk at hld
                    split at hld
                    · exact .inl rfl
                    · have h10 := List.all_eq_true.1 hld q (List.mem_range.2 hqs)
                      simp only [Bool.or_eq_true, beq_iff_eq, List.contains_iff_mem] at h10
                      rcases h10 with h10 | h10 | h10
                      · exact absurd h10 hqj
                      · exact absurd h10 hql
                      · exact .inr h10
                  rcases hone with rfl | hone
                  · trivial
                  · cases htq : tgAt tgs q with
                    | none => rw [htq] at hone; cases hone
                    | some x =>
                      rw [htq] at hT2
                      cases x with
                      | none =>
                        have hT2' : Later w1 w2 := hT2
                        cases ldk with
                        | pure => trivial
                        | obj o' => exact fun b hb hk => (hT2' b (by omega)).trans (hS1 b hb hk)
                        | fgn => exact fun b hb => (hT2' b (by have := hb.1; omega)).trans (hS1 b hb)
                        | all => exact fun b hb => (hT2' b (by omega)).trans (hS1 b hb)
                      | some q' =>
                        have hmq := hstand pi.kp q q' htq
                        have hT2' : ∀ b, b < w1.heap.size → blkOf (mS q') ≠ some b → w2.heap[b]? = w1.heap[b]? := hT2
                        rw [htq] at hone
                        have hliv : ∀ o', liveAt G hp o' = true → ∃ ob : G.O, hp[o']? = some ob ∧ ob.live = true := by
                          intro o' ho'
                          unfold liveAt at ho'
                          split at ho'
                          · rename_i ob hob; exact ⟨ob, hob, ho'⟩
                          · cases ho'
                        cases ldk with
                        | pure => trivial
                        | obj o' =>
                          simp only [ldOk1, Bool.and_eq_true, bne_iff_ne] at hone
                          obtain ⟨ob1, g1, g2⟩ := hliv q' hone.2.1
                          obtain ⟨ob2, g3, g4⟩ := hliv o' hone.2.2
                          exact fun b hb hk => (hT2' b (by omega) (fun e => hone.1 (pi.rl.hh.sep q' o' ob1 ob2 b g1 g3 g2 g4 (hmq ▸ e) hk))).trans (hS1 b hb hk)
                        | fgn =>
                          obtain ⟨ob1, g1, g2⟩ := hliv q' hone
                          exact fun b hb => (hT2' b (by have := hb.1; omega) (fun e => hb.2 ⟨q', ob1, g1, g2, hmq ▸ e⟩)).trans (hS1 b hb)
                        | all => cases hone
                · intro j' oj hj' hne hun hno
                  refine Region.free_spec h2 hcond.1 j' oj hj' hne ?_ hno
                  have hlt : j' < ops.size := (Array.getElem?_eq_some_iff.1 hj').1
                  rw [getD_tf (by rw [pi.szL]; exact hlt)]
                  cases e : L.getD j' false with
                  | false => rfl
                  | true => have := pi.le j' e; rw [getD_low hun] at this; cases this
                · rcases h4 with ⟨a1, a2⟩ | a
                  · exact .inl ⟨a1, fun w' hw => a2 w' hw.1⟩
                  · exact .inr a
                · rw [h7]
                  exact ih _ (pi.step hw h2 hjH hjL' h5 h6 h8) (Nat.le_refl _) h9
              · cases h
            · split at h
              · rename_i o ho hnone
                obtain ⟨hiL, hiH⟩ := hfm i List.mem_cons_self
                have hiL' := ready' i hiL hiH
                split at h
                · rename_i hcnd
                  have hrdy := hcnd.1
                  have htg' := hcnd.2
                  rw [List.all_eq_true] at htg'
                  have hrem := remL_set (mem_ready.1 hiL').1
                  rw [hrem]
                  refine ⟨fun e => (by rw [e] at hiL'; cases hiL'), fun q hq => ?_⟩
                  have hqr := remL_set (mem_ready.1 hq).1
                  have hsame : remL (L'.setIfInBounds i true) = remL (L'.setIfInBounds q true) := by omega
                  rw [hsame]
                  by_cases hqH : ∃ hs ∈ H, hs.i = q
                  · exact early q hq hqH
                  · have hq2 := pi.readyH hw hq (fun hs hh e => hqH ⟨hs, hh, e⟩)
                    have hq3 : q ∈ i0 :: l0 := by have := List.all_eq_true.1 hrdy q hq2; simpa using this
                    have hq4 : q ∈ (i0 :: l0).filter fun i => !(H.any fun h => h.i == i) := List.mem_filter.2 ⟨hq3, by
                      simp only [Bool.not_eq_true', List.any_eq_false, beq_iff_eq]
                      exact fun hs hh e => hqH ⟨hs, hh, e⟩⟩
                    rw [hfil] at hq4
                    obtain rfl : q = i := by simpa using hq4
                    unfold wpOp
                    rw [ho]
                    refine frs_cases pi.rl h ?_ ?_
                    · intro fr1 hin hf h hw1
                      simp only [hw1, if_true]
                      refine .inl (opK_ok hok hK pi.rl.hh hf h ?_)
                      intro fr2 hp1 m1 w1 d v h1 h2 h3 h4 h5 h6 h7
                      obtain ⟨fr3, h8, h9, h10, h11⟩ := setK_ok h6 h2 h4
                      refine ⟨⟨h3.size, ?_⟩, ?_⟩
                      · have h12 := htg' fr1 hin
                        unfold tgOk at h12
                        cases htq : tgAt tgs q with
                        | none => trivial
                        | some x =>
                          rw [htq] at h12
                          have h13 := of_decide_eq_true h12
                          rw [h13] at h7
                          cases x with
                          | none => exact h7
                          | some q' =>
                            have := hstand pi.kp q q' htq
                            exact fun b hb hne => h7 b hb (this ▸ hne)
                      · rw [h10]
                        exact ih _ (pi.step hw ho hiH hiL' ⟨h1, h8, pi.rl.bl.trans h3⟩ h5 h11) (Nat.le_refl _) h9
                    · intro fr1 hf h hw1
                      simp only [hw1, Bool.false_eq_true, if_false]
                      obtain ⟨fr3, h8, h9, h10, h11⟩ := setK_ok (v := undef) h hf ⟨[], rfl, rfl, by simp⟩
                      refine ⟨⟨Nat.le_refl _, TgB.refl _ _ _⟩, ?_⟩
                      rw [h10]
                      exact ih _ (pi.step hw ho hiH hiL' ⟨pi.rl.hh, h8, pi.rl.bl⟩ (Kp.refl _ _ _) h11) (Nat.le_refl _) h9
                · cases h
              · cases h
        · cases h
end
theorem zeroVals_ok {t : TypeId} {zs : List Value} (h : zeroVals P t = some zs) : ∃ z, (∀ w, (zeroValue t).run P w = .ok z w) ∧ z.cells.toList = zs ∧ ∀ x ∈ zs, x.oneCell' = true := by
  unfold zeroVals at h
  split at h
  · rename_i i hi
    split at h
    · rename_i z hz
      split at h
      · rename_i hall
        cases h
        exact ⟨z, fun w => by simp [zeroValue, typeInfo, hi, hz], rfl, fun x hx => List.all_eq_true.1 hall x hx⟩
      · cases h
    · cases h
  · cases h
theorem hoistL_wf {ops : Array Oper} : ∀ (l : List Nat) (k : Nat), (∀ h ∈ hoistL G env ops l k, h.i ∈ l ∧ k ≤ h.k ∧ (∀ d, env[h.t]? ≠ some (some d)) ∧ ∃ o z, ops[h.i]? = some o ∧ o.op = .alloc h.ty ∧ o.guard = none ∧ o.dst = some h.t ∧ (∀ w, (zeroValue h.ty).run P w = .ok z w) ∧ z.cells.toList = h.zs ∧ ∀ x ∈ h.zs, x.oneCell' = true) ∧
    ∀ (j : Nat) (h : Hs), (hoistL G env ops l k)[j]? = some h → h.k = k + j
  | [], k => ⟨fun h hh => (by cases hh), fun j h hj => (by cases hj)⟩
  | i :: l, k => by
    have skip : (∀ h ∈ hoistL G env ops l k, h.i ∈ i :: l ∧ k ≤ h.k ∧ (∀ d, env[h.t]? ≠ some (some d)) ∧ ∃ o z, ops[h.i]? = some o ∧ o.op = .alloc h.ty ∧ o.guard = none ∧ o.dst = some h.t ∧ (∀ w, (zeroValue h.ty).run P w = .ok z w) ∧ z.cells.toList = h.zs ∧ ∀ x ∈ h.zs, x.oneCell' = true) ∧
        ∀ (j : Nat) (h : Hs), (hoistL G env ops l k)[j]? = some h → h.k = k + j := by
      obtain ⟨h1, h2⟩ := hoistL_wf (ops := ops) l k
      exact ⟨fun h hh => ⟨List.mem_cons_of_mem _ (h1 h hh).1, (h1 h hh).2⟩, h2⟩
    unfold hoistL
    split
    · rename_i o ho
      split
      · rename_i ty t h1 h2 h3
        split
        · exact skip
        · rename_i hne
          split
          · rename_i zs hz
            obtain ⟨z, z1, z2, z3⟩ := zeroVals_ok hz
            obtain ⟨g1, g2⟩ := hoistL_wf (ops := ops) l (k + 1)
            refine ⟨fun h hh => ?_, fun j h hj => ?_⟩
            · rcases List.mem_cons.1 hh with rfl | hh
              · exact ⟨List.mem_cons_self, Nat.le_refl _, fun d hd => hne d hd, o, z, ho, h1, h2, h3, z1, z2, z3⟩
              · obtain ⟨q1, q2, q3⟩ := g1 h hh
                exact ⟨List.mem_cons_of_mem _ q1, by omega, q3⟩
            · cases j with
              | zero => cases hj; rfl
              | succ j =>
                have := g2 j h hj
                omega
          · exact skip
      · exact skip
    · exact skip
theorem pwOk_of : ∀ {H : List Hs}, pwOk H = true → (H.Pairwise fun h h' => h'.i ≠ h.i) ∧ ∀ h ∈ H, ∀ h' ∈ H, h' = h ∨ (h'.i ≠ h.i ∧ h'.k ≠ h.k ∧ h'.t ≠ h.t)
  | [], _ => ⟨.nil, fun h hh => (by cases hh)⟩
  | h :: l, hp => by
    simp only [pwOk, Bool.and_eq_true, List.all_eq_true, bne_iff_ne] at hp
    obtain ⟨h1, h2⟩ := pwOk_of (H := l) (by simpa using hp.2)
    refine ⟨List.pairwise_cons.2 ⟨fun h' hh' => (hp.1 h' hh').1, h1⟩, fun a ha b hb => ?_⟩
    rcases List.mem_cons.1 ha with rfl | ha' <;> rcases List.mem_cons.1 hb with rfl | hb'
    · exact .inl rfl
    · obtain ⟨n1, n2, n3⟩ := hp.1 b hb'
      exact .inr ⟨n1, n2, n3⟩
    · obtain ⟨n1, n2, n3⟩ := hp.1 a ha'
      exact .inr ⟨fun e => n1 e.symm, fun e => n2 e.symm, fun e => n3 e.symm⟩
    · exact h2 a ha' b hb'
theorem hsFr_ok : ∀ (H : List Hs) {fr : G.Fr}, FRel G env fr hp m tmps w → FRel G env (hsFr G H fr) hp m tmps w
  | [], _, h => h
  | a :: H, _, h => hsFr_ok H (h.put (t := a.t) (d := .t (.c .junk)) trivial)
theorem drawAll_ok (hok : G.Ok) {K : G.KT} (hK : CallOk G K) {ops : Array Oper} {Q : Exit → Act → World → Prop} (hsel : Region.noSelect ops = true) (hQ : ∀ c a w, ¬ Q (.panic c) a w) {k : G.Fr → G.Hp → Option β} (hr : Rl G N w0 env fr hp m tmps w) (h : drawAll G K env ops fr hp k = some r)
    (hn : ∀ fr' hp' m' tmps' w', Rl G N w0 env fr' hp' m' tmps' w' → Kp G hp m w hp' m' w' → tmps'.size = tmps.size → k fr' hp' = some r → Q .normal ⟨tmps', []⟩ w') : wpAny P .any ops Q ops.size (Array.replicate ops.size false) ⟨tmps, []⟩ w := by
  unfold drawAll at h
  generalize hH : hoistL G env ops (Region.ready .any ops (Array.replicate ops.size false)) hp.length = H at h
  obtain ⟨g1, g2⟩ := hoistL_wf (G := G) (env := env) (ops := ops) (Region.ready .any ops (Array.replicate ops.size false)) hp.length
  rw [hH] at g1 g2
  split at h
  · rename_i hok2
    unfold hsOk at hok2
    rw [Bool.and_eq_true] at hok2
    obtain ⟨p1, p2⟩ := pwOk_of hok2.1
    have hw : HsW G env ops H hp.length := ⟨fun h hh => (g1 h hh).2.2.2, fun h hh => (g1 h hh).2.2.1, fun h hh => (g1 h hh).2.1, fun h hh q o hq hne e => by
      have h3 := List.all_eq_true.1 (List.all_eq_true.1 hok2.2 h hh) q (List.mem_range.2 (Array.getElem?_eq_some_iff.1 hq).1)
      rw [hq] at h3
      simp only [Bool.or_eq_true, beq_iff_eq, decide_eq_true_iff] at h3
      rcases h3 with h3 | h3
      · exact hne h3
      · exact h3 e, p2, p1, fun h hh => (g1 h hh).1⟩
    have hm1 : ∀ o, o < hp.length → (fun o => if o < hp.length then m o else Value.tuple #[]) o = m o := fun o ho => if_pos ho
    have hm2 : ∀ i, (fun o => if o < hp.length then m o else Value.tuple #[]) (hp.length + i) = .tuple #[] := fun i => if_neg (by omega)
    obtain ⟨e1, e2⟩ := hr.hh.ext (w' := w) (m' := fun o => if o < hp.length then m o else Value.tuple #[]) (Nat.le_refl _) (fun _ _ => rfl) (H.map fun h => .pend h.zs) hm1 (fun i ob hi => by
        rw [List.getElem?_map] at hi
        cases hz : H[i]? with
        | none => rw [hz] at hi; cases hi
        | some x => rw [hz] at hi; cases hi; exact .inl (hm2 i)) (fun i ob b _ _ hb => by
        rw [if_neg (by omega)] at hb; cases hb) (fun i j ob ob' b _ _ _ _ hb _ => by
        rw [if_neg (by omega)] at hb; cases hb)
    have hpi : PI G N w0 env ops H hp m w tmps.size (Array.replicate ops.size false) (Array.replicate ops.size false) (hsFr G H fr) (hp ++ H.map fun h => .pend h.zs) (fun o => if o < hp.length then m o else Value.tuple #[]) tmps w := by
      refine ⟨⟨e1, hsFr_ok H (hr.hf.keep e2 (by simp)), hr.bl⟩, e2.kp (by simp), ClosedL.rep _, by simp, by simp, rfl, fun i hi => hi, fun i hi => .inl hi, fun h hh _ => ?_, fun h hh _ => .inl ⟨getD_rep _ _, ?_⟩⟩
      · obtain ⟨j, hj, rfl⟩ := List.mem_iff_getElem.1 hh
        have hk := g2 j _ (List.getElem?_eq_getElem hj)
        rw [hk, List.getElem?_append_right (by omega), Nat.add_sub_cancel_left, List.getElem?_map, List.getElem?_eq_getElem hj]
        rfl
      · obtain ⟨j, hj, rfl⟩ := List.mem_iff_getElem.1 hh
        have hk := g2 j _ (List.getElem?_eq_getElem hj)
        rw [hk]
        exact hm2 j
    have htg : ∀ q q', tgAt (tgsOf G env fr hp ops) q = some (some q') → stands G hp q' = true := by
      intro q q' hq
      unfold tgAt tgsOf at hq
      rw [List.getElem?_map] at hq
      cases ho : ops.toList[q]? with
      | none => rw [ho] at hq; cases hq
      | some o =>
        rw [ho] at hq
        have hq' : tgS G env fr hp ops o = some (some q') := hq
        unfold tgS at hq'
        split at hq'
        · split at hq'
          · split at hq'
            · rename_i hs; cases hq'; exact hs
            · cases hq'
          · cases hq'
        · cases hq'
        · split at hq'
          · cases hq'
          · cases hq'
          · split at hq' <;> cases hq'
          · cases hq'
        · cases hq'
    have := drawK_main hok hK hsel hQ hw htg hn (ops.size + 1) _ hpi (Nat.le_refl _) h
    rw [remL_rep] at this
    exact wpAny_of_R _ _ _ _ this
  · cases h
end
end Go.Proofs.Ytmdghocpelkcoaa
