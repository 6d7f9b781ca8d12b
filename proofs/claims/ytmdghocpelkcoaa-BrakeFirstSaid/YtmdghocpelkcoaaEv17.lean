/- The typed reading of a whole function. -/
import Derived.Test.YtmdghocpelkcoaaEv16
namespace Go.Proofs.Ytmdghocpelkcoaa
open Go.RowKit

inductive Pk (U : Type) : Type where
  | v (u : U)
  | rp (u : U)
  | fn (u r : U)
variable {P : Program} (G : Sg P) {β : Type}
def TyP : List (Pk G.U) → Type
  | [] => Unit
  | .v u :: ps => G.El u × TyP ps
  | .rp u :: ps => G.El u × TyP ps
  | .fn u r :: ps => (G.El u → Option (G.El r)) × TyP ps
def TyU : List G.U → Type
  | [] => Unit
  | [u] => G.El u
  | u :: v :: us => G.El u × TyU (v :: us)
def argT : (ps : List (Pk G.U)) → TyP G ps → List G.T
  | [], _ => []
  | .v u :: ps, (x, y) => toT G u x :: argT ps y
  | .rp u :: ps, (x, y) => .c (.rp (G.row u x)) :: argT ps y
  | .fn u r :: ps, (x, y) => .c (.fn u r x) :: argT ps y
/-- A result's cell: plain, nil, or a row of the call's own. -/
inductive Src (U : Type) (El : U → Type) : Type where
  | val (x : Value)
  | own (o : Nat) (u : U) (l : List (El u))
def srcC (hp : G.Hp) : G.C → Option (Src G.U G.El)
  | .pv (.val v) => some (.val v)
  | .os o => match hp[o]? with
    | some (.row _ u l) => if G.flat u then some (.own o u l) else none
    | _ => none
  | _ => none
def srcs (hp : G.Hp) : List G.C → Option (List (Src G.U G.El))
  | [] => some []
  | c :: cs => match srcC G hp c, srcs hp cs with
    | some s, some l => some (s :: l)
    | _, _ => none
def Src.pv {U : Type} {El : U → Type} : Src U El → PV U El
  | .val v => .val v
  | .own _ u l => .sl u l
def Src.objs {U : Type} {El : U → Type} : List (Src U El) → List Nat
  | [] => []
  | .val _ :: l => objs l
  | .own o _ _ :: l => o :: objs l
def rcells (u : G.U) : G.T → Option (List G.C)
  | .c x => if G.ag u then none else some [x]
  | .agg cs => if G.ag u then some cs else none
def decRes (hp : G.Hp) : (rs : List G.U) → List G.T → Option (TyU G rs × List Nat)
  | [], [] => some ((), [])
  | [u], [t] => match rcells G u t with
    | some cs => match srcs G hp cs with
      | some ss => match G.unrow u (ss.map Src.pv) with
        | some x => some (x, Src.objs ss)
        | none => none
      | none => none
    | none => none
  | u :: v :: us, t :: ts => match rcells G u t with
    | some cs => match srcs G hp cs, decRes hp (v :: us) ts with
      | some ss, some (y, os) => match G.unrow u (ss.map Src.pv) with
        | some x => some ((x, y), Src.objs ss ++ os)
        | none => none
      | _, _ => none
    | none => none
  | _, _ => none
def nodupB : List Nat → Bool
  | [] => true
  | x :: xs => !xs.contains x && nodupB xs
def resTs (env : G.Env) (fr : G.Fr) (hp : G.Hp) : List ResultVar → Option (List G.T)
  | [] => some []
  | .tmp t :: rs => match getS G env fr t, resTs env fr hp rs with
    | .t x, some l => some (x :: l)
    | _, _ => none
  | .cell a ty :: rs => match getS G env fr a with
    | .t x => loadK G hp ty x fun y => match resTs env fr hp rs with
      | some l => some (y :: l)
      | none => none
    | _ => none
def frame0 (n : Nat) (ts : List G.T) : G.Fr := ts.map DV.t ++ List.replicate (n - ts.length) (.t (.c .junk))
/-- The result of a function, as plain data. -/
def evF (K : G.KT) (c : Code) (an : An G.U) (n : Nat) (res : List ResultVar) (rs : List G.U) (ts : List G.T) : Option (TyU G rs) :=
  ev G K c an (TyU G rs) (List.replicate n none) (frame0 G n ts) [] fun e fr hp => match e with
    | .exit _ => none
    | _ => match resTs G (List.replicate n none) fr hp res with
      | some ts => match decRes G hp rs ts with
        | some (y, os) => if nodupB os then some y else none
        | none => none
      | none => none

/-- How the caller takes a result: its rows are the caller's own from now on. -/
def resC : Nat → List G.P' → List G.C
  | _, [] => []
  | n, .val v :: ps => .pv (.val v) :: resC n ps
  | n, .sl _ _ :: ps => .os n :: resC (n + 1) ps
def resO : List G.P' → G.Hp
  | [] => []
  | .val _ :: ps => resO ps
  | .sl u l :: ps => .row false u l :: resO ps
def resT (n : Nat) (u : G.U) (x : G.El u) : G.T := match G.ag u, resC G n (G.row u x) with
  | false, c :: _ => .c c
  | _, cs => .agg cs
def newO : (rs : List G.U) → TyU G rs → G.Hp
  | [], _ => []
  | [u], x => resO G (G.row u x)
  | u :: v :: us, (x, y) => resO G (G.row u x) ++ newO (v :: us) y
def resL : Nat → (rs : List G.U) → TyU G rs → List G.T
  | _, [], _ => []
  | n, [u], x => [resT G n u x]
  | n, u :: v :: us, (x, y) => resT G n u x :: resL (n + (resO G (G.row u x)).length) (v :: us) y
def resD (n : Nat) (rs : List G.U) (y : TyU G rs) : G.D := match resL G n rs y with
  | [t] => .t t
  | ts => .tup ts

def AllRo (w : World) (b : Nat) : Prop := b < w.heap.size
def Args (w : World) (ts : List G.T) (vs : List Value) : Prop := RepTs G w (AllRo w) 0 (fun _ => undef) ts vs
/-- What a call leaves, for whoever called it. -/
def Ret (rs : List G.U) (y : TyU G rs) (w : World) (e : Ending) (w' : World) : Prop :=
  ∃ v, e = .returned v ∧ Below w.heap.size w w' ∧ ∀ N hp m, HRel G N hp m w →
    ∃ m', HRel G N (hp ++ newO G rs y) m' w' ∧ Keep G hp m w (hp ++ newO G rs y) m' w' ∧ RepD G w' (Rof G (hp ++ newO G rs y) m' w') (hp ++ newO G rs y).length m' (resD G hp.length rs y) v

def resM (tmps : Array Value) : ResultVar → Sem Value
  | .tmp t => pure (tmps.getD t undef)
  | .cell a t => do loadVar t (← asAddr (tmps.getD a undef))
section
variable {G} {w w' w0 : World} {R R' : Nat → Prop} {n n' : Nat} {m m' : Nat → Value} {r : β} {N : Nat} {hp hp' : G.Hp} {env : G.Env} {fr : G.Fr} {tmps : Array Value}
theorem asAddr_of {ty : TypeId} {va v : Value} (h : (Instr.loadAt ty va).run P w = .ok v w) : (do loadVar ty (← asAddr va) : Sem Value).run P w = .ok v w := by
  unfold Instr.loadAt at h
  cases va with
  | pointer o =>
    cases o with
    | none => simp [Instr.sureAddr] at h
    | some o => simpa [Instr.sureAddr, asAddr] using h
  | _ => simp [Instr.sureAddr] at h
theorem resTs_ok (hok : G.Ok) (hh : HRel G N hp m w) (hf : FRel G env fr hp m tmps w) : ∀ (rs : List ResultVar) {ts : List G.T}, resTs G env fr hp rs = some ts →
    ∃ vs : List Value, (rs.mapM (resM tmps)).run P w = .ok vs w ∧ RepTs G w (Rof G hp m w) hp.length m ts vs
  | [], ts, h => by cases h; exact ⟨[], rfl, .nil⟩
  | .tmp t :: rs, ts, h => by
    unfold resTs at h
    split at h
    · rename_i x l hx hl
      cases h
      obtain ⟨vs, h1, h2⟩ := resTs_ok hok hh hf rs hl
      have h3 := hf.get t
      rw [hx] at h3
      refine ⟨_ :: vs, ?_, .cons h3 h2⟩
      rw [List.mapM_cons]
      simp only [resM, Sem.run_bind, Sem.run_pure, Result.andThen_ok, h1]
    · cases h
  | .cell a ty :: rs, ts, h => by
    unfold resTs at h
    split at h
    · rename_i x hx
      have h3 := hf.get a
      rw [hx] at h3
      obtain ⟨v, y, ⟨b, _, _, h4'⟩, h5, h6⟩ := loadK_ok (P := P) hok hh h3 h
      have h4 := h4' w rfl
      split at h6
      · rename_i l hl
        cases h6
        obtain ⟨vs, h1, h2⟩ := resTs_ok hok hh hf rs hl
        refine ⟨v :: vs, ?_, .cons h5 h2⟩
        rw [List.mapM_cons]
        have h7 : (resM tmps (.cell a ty)).run P w = .ok v w := by
          exact asAddr_of h4
        simp only [Sem.run_bind, h7, Result.andThen_ok, h1, Sem.run_pure]
      · cases h6
    · cases h
end
end Go.Proofs.Ytmdghocpelkcoaa
