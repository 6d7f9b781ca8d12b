/- Joined by merge.py: Ev15, Evr, Ev16, Ev17, Ev18, Ev19, Evi, Ev20, Ev21, EvL. -/
import Derived.Test.YtgbicnkpnhifgaaGreatDoorM01
import Derived.LoopN
import Derived.Lib.SliceRun
import Derived.ProofKit
import Derived.Deep.Slices
import Derived.Deep.Fields
import Derived.ChangeSame
import Derived.OpenShut
import Derived.KernelRfl
import Derived.Test.YtgbicnkpnhifgaaGreatDoorChecked
import Derived.Test.YtgbicnkpnhifgaaGreatDoorRows
set_option linter.unusedSectionVars false
set_option linter.unusedVariables false
set_option linter.unusedSimpArgs false
namespace Go.Proofs.YtgbicnkpnhifgaaGreatDoor
open Go.RowKit
inductive Ex where
 | normal
 | exit (id:Nat)
 | ret
 deriving DecidableEq
def Ex.to:Ex → Exit
 | .normal=>.normal
 | .exit id=>.exit id
 | .ret=>.ret
structure Jn (U:Type):Type where
 same:List Nat
 ids:List Nat
 head:Tp U
 exits:List (Ex × Tp U)
variable {P:Program} (G:Sg P) {β:Type}
def addEnv (env:G.Env) (fr:G.Fr):List Nat → G.Env → G.Env
 | [],e=>e
 | t :: ts,e=>if t < fr.length ∧ t < e.length then addEnv env fr ts (e.set t (some (getS G env fr t))) else addEnv env fr ts e
def baseFr (env:G.Env) (fr:G.Fr):List Nat → G.Fr → G.Fr
 | [],f=>f
 | t :: ts,f=>if t < fr.length ∧ t < env.length then baseFr env fr ts (f.set t (getS G env fr t)) else baseFr env fr ts f
def junkFr (n:Nat):G.Fr:=List.replicate n (.t (.c .junk))
def headO (ids:List Nat):Nat → G.Hp → G.Hp
 | _,[]=>[]
 | i,ob :: l=>(if ids.contains i then ob else lockO G ob) :: headO ids (i + 1) l
def baseO (ids:List Nat):Nat → G.Hp → G.Hp
 | _,[]=>[]
 | i,ob :: l=>(if ids.contains i && !ob.lockd then .dead else ob) :: baseO ids (i + 1) l
def TyX:List (Ex × Tp G.U) → Type
 | []=>Empty
 | [(_,T)]=>G.Ty T
 | (_,T) :: x :: xs=>G.Ty T ⊕ TyX (x :: xs)
def decX (n:Nat) (env:G.Env) (e:Ex) (fr:G.Fr) (hp:G.Hp):(xs:List (Ex × Tp G.U)) → Option (TyX G xs)
 | []=>none
 | [(e',T)]=>if e = e' then decT G n env fr hp T else none
 | (e',T) :: x :: xs=>if e = e' then (decT G n env fr hp T).map .inl else (decX n env e fr hp (x :: xs)).map .inr
def contX (fr:G.Fr) (hp:G.Hp) (k:Ex → G.Fr → G.Hp → Option β):(xs:List (Ex × Tp G.U)) → TyX G xs → Option β
 | [],_=>none
 | [(e,T)],y=>k e (encT G T y hp.length fr) (encH G T y hp)
 | (e,T) :: x :: xs,y=>match y with
  | .inl y=>k e (encT G T y hp.length fr) (encH G T y hp)
  | .inr y=>contX fr hp k (x :: xs) y
section
variable {G} {w w' w0:World} {R R':Nat → Prop} {n n':Nat} {m m':Nat → Value} {r:β} {N:Nat} {hp hp' hp0:G.Hp} {env env':G.Env} {fr fr':G.Fr} {tmps:Array Value} [Held]
theorem headO_get:∀ (ids:List Nat) (i:Nat) (hp:G.Hp) (o:Nat),(headO G ids i hp)[o]? = (hp[o]?).map fun ob=>if ids.contains (i + o) then ob else lockO G ob
 | _,_,[],o=>rfl
 | ids,i,ob :: l,0=>rfl
 | ids,i,ob :: l,o + 1=>by
  show (headO G ids (i + 1) l)[o]? = _
  rw [headO_get ids (i + 1) l o,show i + 1 + o = i + (o + 1) from by omega]
  rfl
theorem baseO_get:∀ (ids:List Nat) (i:Nat) (hp:G.Hp) (o:Nat),(baseO G ids i hp)[o]? = (hp[o]?).map fun ob=>if ids.contains (i + o) && !ob.lockd then .dead else ob
 | _,_,[],o=>rfl
 | ids,i,ob :: l,0=>rfl
 | ids,i,ob :: l,o + 1=>by
  show (baseO G ids (i + 1) l)[o]? = _
  rw [baseO_get ids (i + 1) l o,show i + 1 + o = i + (o + 1) from by omega]
  rfl
theorem headO_length:∀ (ids:List Nat) (i:Nat) (hp:G.Hp),(headO G ids i hp).length = hp.length
 | _,_,[]=>rfl
 | ids,i,ob :: l=>by simp [headO,headO_length ids (i + 1) l]
theorem baseO_length:∀ (ids:List Nat) (i:Nat) (hp:G.Hp),(baseO G ids i hp).length = hp.length
 | _,_,[]=>rfl
 | ids,i,ob :: l=>by simp [baseO,baseO_length ids (i + 1) l]
theorem lockO_lockd (ob:G.O):(lockO G ob).lockd = true:=by cases ob <;> rfl
theorem lockO_idem (ob:G.O):lockO G (lockO G ob) = lockO G ob:=by cases ob <;> rfl
theorem lockO_of (ob:G.O) (h:ob.lockd = true):lockO G ob = ob:=by
 cases ob with
 | dead=>rfl
 | pins _=>rfl
 | pend _=>rfl
 | pendr _ _=>rfl
 | box cs=>cases h
 | lock cs=>rfl
 | row lk u l =>
  have:lk = true:=h
  subst this;rfl
 | ab lk a d =>
  have:lk = true:=h
  subst this;rfl
theorem RepO.lt {o:Nat} {ob:G.O} (h:RepO G w R n m N o ob):∀ q ∈ refsO ob,q < n:=by
 cases ob with
 | dead=>intro q hq;cases hq
 | pins _=>intro q hq;cases hq
 | pend _=>intro q hq;cases hq
 | pendr _ _=>intro q hq;cases hq
 | row lk u l=>intro q hq;cases hq
 | ab lk a d=>intro q hq;cases hq
 | box cs=>obtain ⟨b,t,vs,_,_,_,e4,_⟩:=h;exact e4.lt
 | lock cs=>obtain ⟨b,t,vs,_,_,_,e4,_⟩:=h;exact e4.lt
structure Inner (G:Sg P) (ids:List Nat) (hp0 hp:G.Hp):Prop where
 refs:∀ (o:Nat) (ob:G.O),hp0[o]? = some ob → ∀ q ∈ refsO ob,q < hp0.length
 old:∀ (o:Nat) (ob:G.O),hp0[o]? = some ob → ids.contains o = false ∨ ob.lockd = true → hp[o]? = some (lockO G ob)
theorem Inner.head (hh:HRel G N hp0 m w) (ids:List Nat):Inner G ids hp0 (headO G ids 0 hp0) :=
 ⟨fun o ob ho=>(hh.obj o ob ho).lt,fun o ob ho h=>by
  rw [headO_get,ho,Option.map_some,Nat.zero_add]
  rcases h with h | h
  ·rw [h];rfl
  ·rw [lockO_of ob h];split <;> rfl⟩
theorem Inner.on {ids:List Nat} (h:Inner G ids hp0 hp) (k:Kp G hp m w hp' m' w'):Inner G ids hp0 hp' :=
 ⟨h.refs,fun o ob ho hc=>k.lk o _ (h.old o ob ho hc) (lockO_lockd ob)⟩
theorem refs_lock (ob:G.O):refsO (lockO G ob) = refsO ob:=by cases ob <;> rfl
theorem lockO_mov (ob:G.O):(lockO G ob).mov = false:=by cases ob <;> rfl
theorem Inner.headRel (hh:HRel G N hp0 m w) (ids:List Nat):HRel G N (headO G ids 0 hp0) m w ∧ ∀ b,Rof G hp0 m w b → Rof G (headO G ids 0 hp0) m w b:=by
 have hc:=hh.cover (hp2:=headO G ids 0 hp0) fun o ob ho=>?_
 exact ⟨hc.1,hc.2.1⟩
 rw [headO_get,Nat.zero_add] at ho
 cases h0:hp0[o]? with
 | none=>rw [h0] at ho;cases ho
 | some ob0 =>
  rw [h0,Option.map_some] at ho
  have hlt:=(hh.obj o ob0 h0).lt
  rw [headO_length]
  split at ho
  ·cases ho;exact .inr ⟨_,rfl,cov_lock rfl hlt⟩
  ·cases ho;exact .inr ⟨ob0,rfl,cov_lock (by rw [lockO_idem]) (by rw [refs_lock];exact hlt)⟩
theorem Inner.leave (hok:G.Ok) {ids:List Nat} {m0:Nat → Value} (hh0:HRel G N hp0 m0 w0) (h:Inner G ids hp0 hp) (hk:Kp G (headO G ids 0 hp0) m0 w0 hp m w) (hh:HRel G N hp m w) (hf:FRel G env fr hp m tmps w) {T:Tp G.U} {y:G.Ty T} (hd:decT G hp0.length env fr hp T = some y) :
  ∃ m2,(∀ o,o < hp0.length → m2 o = m o) ∧ HRel G N (encH G T y (baseO G ids 0 hp0)) m2 w ∧ (∀ b,Rof G hp m w b → Rof G (encH G T y (baseO G ids 0 hp0)) m2 w b) ∧ hp0.length ≤ (encH G T y (baseO G ids 0 hp0)).length ∧ Kp G hp0 m0 w0 (encH G T y (baseO G ids 0 hp0)) m2 w ∧
   ∀ {env':G.Env} {fr2:G.Fr},FRel G env' fr2 (encH G T y (baseO G ids 0 hp0)) m2 tmps w → FRel G env' (encT G T y hp0.length fr2) (encH G T y (baseO G ids 0 hp0)) m2 tmps w:=by
 have hBl:(baseO G ids 0 hp0).length = hp0.length:=baseO_length _ _ _
 have hB:∀ (o:Nat) (ob:G.O),(baseO G ids 0 hp0)[o]? = some ob → (∃ p ∈ T.objs,p.1 = o) ∨ ob = .dead ∨ ∃ ob',hp[o]? = some ob' ∧ ob'.lockd = true ∧ Cov G (baseO G ids 0 hp0).length ob' ob:=by
  intro o ob ho
  rw [hBl]
  rw [baseO_get,Nat.zero_add] at ho
  cases h0:hp0[o]? with
  | none=>rw [h0] at ho;cases ho
  | some ob0 =>
   rw [h0,Option.map_some] at ho
   split at ho
   ·cases ho;exact .inr (.inl rfl)
   ·rename_i hne
    cases ho
    refine .inr (.inr ⟨lockO G ob,h.old o ob h0 ?_,lockO_lockd ob,cov_lock (lockO_idem ob) (h.refs o ob h0)⟩)
    cases hi:ids.contains o with
    | false=>exact .inl rfl
    | true=>rw [hi] at hne;exact .inr (by simpa using hne)
 rw [← hBl] at hd
 obtain ⟨m2,g1,g2,g3,g4,g5,g6,g7⟩:=decT_ok hok hh hf hd hB
 simp only [hBl] at g1 g4 g5 g6 g7
 have h1:=(Inner.headRel hh0 ids).2
 refine ⟨m2,g1,g2,g3,g4,⟨fun b hb=>g3 b (hk.ro b (h1 b hb)),fun b hb=>hk.heap b (h1 b hb),fun o ob ho hl=>?_,fun o ob ho hm=>?_,g4,fun q os o hq ho hl=>?_,fun o ob b ho hl hv hb=>hk.hlk o ob b (by rw [headO_get,ho,Option.map_some,lockO_of ob hl];split <;> rfl) hl hv hb⟩,g7⟩
 ·have hlt:=(List.getElem?_eq_some_iff.1 ho).1
  rw [g6 o hlt]
  have h2:=h.old o ob ho (.inr hl)
  rw [lockO_of ob hl] at h2
  exact encR_keep T.objs _ _ _ g5 o ob h2 hl (by rw [baseO_get,ho,Option.map_some,hl];simp)
 ·have hlt:=(List.getElem?_eq_some_iff.1 ho).1
  obtain ⟨e1,ob1,h7,h8⟩:=hk.mv o (if ids.contains (0 + o) then ob else lockO G ob) (by rw [headO_get,ho];rfl) (by split;exact hm;exact lockO_mov ob)
  refine ⟨(g1 o hlt).trans e1,(encH G T y (baseO G ids 0 hp0))[o]'(by omega),List.getElem?_eq_getElem _,?_⟩
  have h9:=List.getElem?_eq_getElem (l:=encH G T y (baseO G ids 0 hp0)) (i:=o) (by omega)
  rw [g6 o hlt] at h9
  rcases encR_src T.objs _ _ _ g5 o _ h9 with ⟨h10,_⟩ | h10 | ⟨_,_,ob',h10,_,h11⟩
  ·rw [baseO_get,ho,Option.map_some] at h10
   split at h10
   ·rw [← Option.some.inj h10];rfl
   ·rw [← Option.some.inj h10];exact hm
  ·rw [h10];rfl
  ·rw [h7] at h10
   cases h10
   rw [← h11];exact h8
 ·rw [g1 o hl]
  exact hk.pn q os o (by rw [headO_get,hq,Option.map_some];split <;> rfl) ho (by rw [headO_length];exact hl)
theorem Inner.again (hok:G.Ok) {ids:List Nat} {m0:Nat → Value} (h:Inner G ids hp0 hp) (hk:Kp G (headO G ids 0 hp0) m0 w0 hp m w) (hh:HRel G N hp m w) (hf:FRel G env fr hp m tmps w) {T:Tp G.U} {y:G.Ty T} (hd:decT G hp0.length env fr hp T = some y) (hids:∀ i,ids.contains i = true → ∃ p ∈ T.objs,p.1 = i) :
  ∃ m2,(∀ o,o < hp0.length → m2 o = m o) ∧ HRel G N (encH G T y (headO G ids 0 hp0)) m2 w ∧ (∀ b,Rof G hp m w b → Rof G (encH G T y (headO G ids 0 hp0)) m2 w b) ∧ hp0.length ≤ (encH G T y (headO G ids 0 hp0)).length ∧ Inner G ids hp0 (encH G T y (headO G ids 0 hp0)) ∧ Kp G (headO G ids 0 hp0) m0 w0 (encH G T y (headO G ids 0 hp0)) m2 w ∧
   ∀ {env':G.Env} {fr2:G.Fr},FRel G env' fr2 (encH G T y (headO G ids 0 hp0)) m2 tmps w → FRel G env' (encT G T y hp0.length fr2) (encH G T y (headO G ids 0 hp0)) m2 tmps w:=by
 have hBl:(headO G ids 0 hp0).length = hp0.length:=headO_length _ _ _
 have hB:∀ (o:Nat) (ob:G.O),(headO G ids 0 hp0)[o]? = some ob → (∃ p ∈ T.objs,p.1 = o) ∨ ob = .dead ∨ ∃ ob',hp[o]? = some ob' ∧ ob'.lockd = true ∧ Cov G (headO G ids 0 hp0).length ob' ob:=by
  intro o ob ho
  rw [hBl]
  rw [headO_get,Nat.zero_add] at ho
  cases h0:hp0[o]? with
  | none=>rw [h0] at ho;cases ho
  | some ob0 =>
   rw [h0,Option.map_some] at ho
   split at ho
   ·rename_i hi;exact .inl (hids o hi)
   ·rename_i hne
    cases ho
    exact .inr (.inr ⟨lockO G ob0,h.old o ob0 h0 (.inl (by simpa using hne)),lockO_lockd ob0,cov_lock (by rw [lockO_idem]) (by rw [refs_lock];exact h.refs o ob0 h0)⟩)
 rw [← hBl] at hd
 obtain ⟨m2,g1,g2,g3,g4,g5,g6,g7⟩:=decT_ok hok hh hf hd hB
 simp only [hBl] at g1 g4 g5 g6 g7
 have keep:∀ (o:Nat) (ob:G.O),hp0[o]? = some ob → ids.contains o = false ∨ ob.lockd = true → (encH G T y (headO G ids 0 hp0))[o]? = some (lockO G ob):=by
  intro o ob ho hcase
  have hlt:=(List.getElem?_eq_some_iff.1 ho).1
  rw [g6 o hlt]
  refine encR_keep T.objs _ _ _ g5 o _ (h.old o ob ho hcase) (lockO_lockd ob) ?_
  rw [headO_get,ho,Option.map_some,Nat.zero_add]
  rcases hcase with hc | hc
  ·rw [hc];rfl
  ·rw [lockO_of ob hc];split <;> rfl
 refine ⟨m2,g1,g2,g3,g4,⟨h.refs,keep⟩,⟨fun b hb=>g3 b (hk.ro b hb),hk.heap,fun o ob ho hl=>?_,fun o ob ho hm=>?_,by rw [hBl];exact g4,fun q os o hq ho hl=>?_,hk.hlk⟩,g7⟩
 ·rw [headO_get,Nat.zero_add] at ho
  cases h0:hp0[o]? with
  | none=>rw [h0] at ho;cases ho
  | some ob0 =>
   rw [h0,Option.map_some] at ho
   split at ho
   ·cases ho
    have:=keep o ob h0 (.inr hl)
    rwa [lockO_of ob hl] at this
   ·rename_i hne
    cases ho
    exact keep o ob0 h0 (.inl (by simpa using hne))
 ·have hlt:=(List.getElem?_eq_some_iff.1 ho).1
  rw [hBl] at hlt
  obtain ⟨e1,ob1,h7,h8⟩:=hk.mv o ob ho hm
  refine ⟨(g1 o hlt).trans e1,(encH G T y (headO G ids 0 hp0))[o]'(by omega),List.getElem?_eq_getElem _,?_⟩
  have h9:=List.getElem?_eq_getElem (l:=encH G T y (headO G ids 0 hp0)) (i:=o) (by omega)
  rw [g6 o hlt] at h9
  rcases encR_src T.objs _ _ _ g5 o _ h9 with ⟨h10,_⟩ | h10 | ⟨_,_,ob',h10,_,h11⟩
  ·rw [ho] at h10
   rw [← Option.some.inj h10];exact hm
  ·rw [h10];rfl
  ·rw [h7] at h10
   cases h10
   rw [← h11];exact h8
 ·rw [hBl] at hl
  rw [g1 o hl]
  exact hk.pn q os o hq ho (by rw [hBl];exact hl)
end
end Go.Proofs.YtgbicnkpnhifgaaGreatDoor

namespace Go.Proofs.YtgbicnkpnhifgaaGreatDoor
open Go.RowKit
section
variable {B:Nat} {A A':World}
theorem Turns.cells (h:Turns B A A') {b:Nat} {vs:Array Value} {t:TypeId} {r:Nat × Nat} (hb:A.heap[b]? = some (.cells vs t r)):A'.heap[b]? = some (.cells vs t r):=by
 obtain ⟨row,hg,hr⟩:=h
 have hlt:b < A.heap.size:=(Array.getElem?_eq_some_iff.1 hb).1
 refine (hg.block b hlt fun e=>?_).trans hb
 obtain ⟨_,o,ho,hc⟩:=hr b e.symm
 rw [hb] at ho;cases ho;cases hc
theorem Turns.cell (h:Turns B A A') {a:Addr} {v:Value} (hc:A.cell? a = some v):A'.cell? a = some v:=by
 unfold World.cell? at hc ⊢
 cases hb:A.heap[a.block]? with
 | none=>simp [hb] at hc
 | some o =>
  cases o with
  | cells vs t r=>rw [h.cells hb];simpa [hb] using hc
  | _=>simp [hb] at hc
theorem Turns.size (h:Turns B A A'):A.heap.size ≤ A'.heap.size:=by
 obtain ⟨row,hg,_⟩:=h;exact hg.size
theorem Turns.low (h:Turns B A A') {b:Nat} (hb:b < B) (hs:b < A.heap.size):A'.heap[b]? = A.heap[b]?:=by
 obtain ⟨row,hg,hr⟩:=h
 refine hg.block b hs fun e=>?_
 have:=(hr b e.symm).1
 omega
theorem Turns.owns (h:Turns B A A') {N:Nat} {e:TypeId} {sz:Nat} {v:Value} {k:Nat} {xs:List Value} (hr:A.ownsRow N e sz v k xs):A'.ownsRow N e sz v k xs:=by
 obtain ⟨row,hg,hrow⟩:=h
 refine hr.kept hg ?_
 rcases hr.2 with ⟨rfl,_⟩ | ⟨g,cap,cur,rfl,_,hgb,_⟩
 ·exact .inl rfl
 ·refine .inr fun e'=>?_
  have e2:row = some g:=by simpa [Value.ownBlock] using e'.symm
  obtain ⟨_,o,ho,hc⟩:=hrow g e2
  rw [hgb] at ho;cases ho;cases hc
theorem Turns.below (h:Turns B A A') {n:Nat} {w:World} (hb:Below n w A) (hn:n ≤ B) (hs:n ≤ A.heap.size):Below n w A':=by
 obtain ⟨row,hg,hr⟩:=h
 exact hb.grown hg hs fun k e=>Nat.le_trans hn (hr k e).1
end
variable {P:Program} (G:Sg P) {β:Type}
def noFnC:G.C → Bool
 | .fn _ _ _=>false
 | _=>true
def noFnT:G.T → Bool
 | .c x=>noFnC G x
 | .agg cs=>cs.all (noFnC G)
def noFnD:G.D → Bool
 | .t x=>noFnT G x
 | .tup vs=>vs.all (noFnT G)
def calmO:G.O → Bool
 | .ab _ _ _=>false
 | .box cs=>cs.all (noFnC G)
 | .lock cs=>cs.all (noFnC G)
 | _=>true
def calm (env:G.Env) (fr:G.Fr) (hp:G.Hp):Bool:=hp.all (calmO G) && (fr.all (noFnD G) && env.all fun x=>match x with
 | some d=>noFnD G d
 | none=>true)
def leafOps:Code → Option (Array Oper)
 | .region _ ops false=>if (ops.toList.all fun o=>match o.op with | .defer _=>false | _=>true) = true then some ops else none
 | .block _ c=>leafOps c
 | _=>none
def noRange:Code → Bool
 | .rangeFunc _ _ _ _=>false
 | .seq a b=>noRange a && noRange b
 | .cond _ a b=>noRange a && noRange b
 | .block _ c=>noRange c
 | .loop c=>noRange c
 | .scope c=>noRange c
 | _=>true
def mkD (D:Nat):Deferred:={ target:=.collected D,args:=#[] }
def Marks (nr:Bool) (B:Nat) (ds ds':List Deferred) (w:World):Prop :=
 ∃ Ds:List Nat,ds' = Ds.map mkD ++ ds ∧ Ds.Nodup ∧ (∀ D ∈ Ds,B ≤ D ∧ w.heap[D]? = some (.deferred (some []))) ∧ (nr = true → Ds = [])
def setA:List Tmp → List G.T → G.Fr → G.Fr
 | p :: ps,x :: xs,fr=>setA ps xs (fr.set p (.t x))
 | _,_,fr=>fr
section
variable {G} {w w' w0:World} {R R':Nat → Prop} {n n':Nat} {m m':Nat → Value} {r:β} {N:Nat} {hp hp':G.Hp} {env:G.Env} {fr:G.Fr} {tmps:Array Value} {ds:List Deferred} [Held] {B:Nat} {A A':World}
theorem RepP.turn (h:Turns B A A') (h1:∀ b,R b → R' b) {p:G.P'} {v:Value} (hp:RepP G A R p v):RepP G A' R' p v:=by
 induction hp with
 | val x h=>exact .val x h
 | mpn t u=>exact .mpn t u
 | sl u l A b off cap c hcap ha hc hr ih=>exact .sl u l A b off cap c hcap (fun hp=>⟨(ha hp).1,h1 _ (ha hp).2⟩) (fun k x j p hk hj=>h.cell (hc k x j p hk hj)) ih
theorem RepC.turn (h:Turns B A A') (h1:∀ b,R b → R' b) {c:G.C} (hc:noFnC G c = true) {v:Value} (hr:RepC G A R n m c v):RepC G A' R' n m c v:=by
 cases c with
 | junk=>trivial
 | pv p=>exact RepP.turn h h1 hr
 | os o=>exact hr
 | ptr o off=>exact hr
 | rp cells =>
  obtain ⟨b,off,e,hb,hcl⟩:=hr
  refine ⟨b,off,e,h1 b hb,fun j p hj=>?_⟩
  obtain ⟨cv,h3,h4⟩:=hcl j p hj
  exact ⟨cv,h.cell h3,RepP.turn h h1 h4⟩
 | ep u o i j=>exact hr
 | bs u o k=>exact hr
 | pre o k=>exact hr
 | clo f caps=>exact hr
 | fn u r F=>cases hc
theorem RepL.turn (h:Turns B A A') (h1:∀ b,R b → R' b) {cs:List G.C} (hc:cs.all (noFnC G) = true) {vs:List Value} (hr:RepL G A R n m cs vs):RepL G A' R' n m cs vs :=
 ⟨hr.1,fun i c hi=>by
  obtain ⟨x,h3,h4⟩:=hr.2 i c hi
  exact ⟨x,h3,h4.turn h h1 (List.all_eq_true.1 hc c (List.mem_of_getElem? hi))⟩⟩
theorem RepT.turn (h:Turns B A A') (h1:∀ b,R b → R' b) {t:G.T} (hc:noFnT G t = true) {v:Value} (hr:RepT G A R n m t v):RepT G A' R' n m t v:=by
 cases t with
 | c x=>exact RepC.turn h h1 hc hr
 | agg cs=>obtain ⟨vs,e,hl⟩:=hr;exact ⟨vs,e,hl.turn h h1 hc⟩
theorem RepD.turn (h:Turns B A A') (h1:∀ b,R b → R' b) {d:G.D} (hc:noFnD G d = true) {v:Value} (hr:RepD G A R n m d v):RepD G A' R' n m d v:=by
 cases d with
 | t x=>exact RepT.turn h h1 hc hr
 | tup ts =>
  obtain ⟨vs,e,hl,hv⟩:=hr
  refine ⟨vs,e,hl,fun i t hi=>?_⟩
  obtain ⟨x,h3,h4⟩:=hv i t hi
  exact ⟨x,h3,h4.turn h h1 (List.all_eq_true.1 hc t (List.mem_of_getElem? hi))⟩
theorem RowRep.turn (h:Turns B A A') (h1:∀ b,R b → R' b) {u:G.U} {l:List (G.El u)} {xs:List Value} (hr:RowRep G A R u l xs):RowRep G A' R' u l xs:=fun k x j p hk hj=>by
 obtain ⟨cv,h2,h3⟩:=hr k x j p hk hj
 exact ⟨cv,h2,RepP.turn h h1 h3⟩
theorem RepO.turn (h:Turns B A A') (h1:∀ b,R b → R' b) {o:Nat} {ob:G.O} (hc:calmO G ob = true) (hr:RepO G A R n m N o ob):RepO G A' R' n m N o ob:=by
 cases ob with
 | dead=>trivial
 | pins os=>trivial
 | ab lk a d=>cases hc
 | pend zs =>
  rcases hr with e | ⟨b,t,vs,e1,e2,e3,e4⟩
  ·exact .inl e
  ·exact .inr ⟨b,t,vs,e1,e2,h.cells e3,e4⟩
 | pendr u l =>
  rcases hr with e | ⟨xs,e1,e2,e3⟩
  ·exact .inl e
  ·exact .inr ⟨xs,h.owns e1,e2.turn h h1,e3⟩
 | box cs=>obtain ⟨b,t,vs,e1,e2,e3,e4,e5⟩:=hr;exact ⟨b,t,vs,e1,e2,h.cells e3,e4.turn h h1 hc,e5⟩
 | lock cs=>obtain ⟨b,t,vs,e1,e2,e3,e4,e5⟩:=hr;exact ⟨b,t,vs,e1,e2,h.cells e3,e4.turn h h1 hc,e5⟩
 | row lk u l=>obtain ⟨xs,e1,e2,e3⟩:=hr;exact ⟨xs,h.owns e1,e2.turn h h1,e3⟩
theorem Turns.rof (h:Turns B A A'):∀ b,Rof G hp m A b → Rof G hp m A' b:=fun _ hb=>⟨Nat.lt_of_lt_of_le hb.1 h.size,hb.2⟩
theorem HRel.turned (h:Turns B A A') (hc:hp.all (calmO G) = true) (hN:N ≤ B) (hh:HRel G N hp m A):HRel G N hp m A' :=
 ⟨fun o ob ho=>(hh.obj o ob ho).turn h h.rof (List.all_eq_true.1 hc ob (List.mem_of_getElem? ho)),hh.sep,Nat.le_trans hh.base h.size,hh.held,hh.gh.mono fun b hb=>h.low (by omega) (by have:=hh.base;omega)⟩
theorem FRel.turn (h:Turns B A A') (hc:calm G env fr hp = true) (hf:FRel G env fr hp m tmps A):FRel G env fr hp m tmps A':=by
 unfold calm at hc
 simp only [Bool.and_eq_true] at hc
 refine ⟨hf.len,fun t d hd=>(hf.fr t d hd).turn h h.rof (List.all_eq_true.1 hc.2.1 d (List.mem_of_getElem? hd)),fun t d hd=>⟨(hf.env t d hd).1,(hf.env t d hd).2.turn h h.rof ?_⟩⟩
 have:=List.all_eq_true.1 hc.2.2 (some d) (List.mem_of_getElem? hd)
 exact this
theorem Rl.turn (h:Turns B A A') (hc:calm G env fr hp = true) (hN:N ≤ B) (hr:Rl G N w0 env fr hp m tmps A):Rl G N w0 env fr hp m tmps A':=by
 have hc':hp.all (calmO G) = true:=by unfold calm at hc;simp only [Bool.and_eq_true] at hc;exact hc.1
 exact ⟨hr.hh.turned h hc' hN,hr.hf.turn h hc,h.below hr.bl hN hr.hh.base⟩
theorem Kp.turn (h:Turns w.heap.size A A') (hh:HRel G N hp m w) (hk:Kp G hp m w hp' m' A):Kp G hp m w hp' m' A':=by
 refine ⟨fun b hb=>h.rof b (hk.ro b hb),fun b hb=>?_,hk.lk,hk.mv,hk.len,hk.pn,fun o ob b ho hl hv hb=>?_⟩
 ·exact (h.low hb.1 (hk.ro b hb).1).trans (hk.heap b hb)
 ·have h1:=hk.hlk o ob b ho hl hv hb
  have hlt:b < w.heap.size:=((hh.obj o ob ho).blk hv hb).2
  have:b < A.heap.size:=by
   rw [Array.getElem?_eq_getElem hlt] at h1
   exact (Array.getElem?_eq_some_iff.1 h1).1
  exact (h.low hlt this).trans h1
theorem Kp.others (hh:HRel G N hp m w) (hc:hp.all (calmO G) = true) (hk:Kp G hp m w hp' m' w') (hb:Below N w w'):KeepsOthers w w':=by
 refine ⟨hb.size,fun k o ho hno=>?_⟩
 have hlt:k < w.heap.size:=(Array.getElem?_eq_some_iff.1 ho).1
 by_cases hS:Held.S k
 ·exact (hb.block k (hh.held k hS)).trans ho
 by_cases hO:∃ (q:Nat) (ob:G.O),hp[q]? = some ob ∧ ob.live = true ∧ blkOf (m q) = some k
 ·exfalso
  obtain ⟨q,ob,hq,hl,hbk⟩:=hO
  have hob:=hh.obj q ob hq
  have hcq:=List.all_eq_true.1 hc ob (List.mem_of_getElem? hq)
  have nocell:∀ vs t r,w.heap[k]? = some (.cells vs t r) → False:=fun vs t r e=>by rw [ho] at e;cases e;cases hno
  have norow:∀ {u:G.U} {l:List (G.El u)} {xs:List Value},w.ownsRow N (G.ty u) (G.sz u) (m q) l.length xs → False:=by
   intro u l xs h
   rcases h.2 with ⟨e,_⟩ | ⟨g,cap,cur,e,_,hgb,_⟩
   ·rw [e] at hbk;cases hbk
   ·rw [e] at hbk;cases hbk;exact nocell _ _ _ hgb
  cases ob with
  | dead=>cases hl
  | pins os=>cases hl
  | ab lk a d=>cases hcq
  | pend zs =>
   rcases hob with e | ⟨b,t,vs,e1,e2,e3,_⟩
   ·rw [e] at hbk;cases hbk
   ·rw [e1] at hbk;cases hbk;exact nocell _ _ _ e3
  | pendr u l =>
   rcases hob with e | ⟨xs,e1,_⟩
   ·rw [e] at hbk;cases hbk
   ·exact norow e1
  | box cs=>obtain ⟨b,t,vs,e1,e2,e3,_⟩:=hob;rw [e1] at hbk;cases hbk;exact nocell _ _ _ e3
  | lock cs=>obtain ⟨b,t,vs,e1,e2,e3,_⟩:=hob;rw [e1] at hbk;cases hbk;exact nocell _ _ _ e3
  | row lk u l=>obtain ⟨xs,e1,_⟩:=hob;exact norow e1
 ·exact (hk.heap k ⟨hlt,fun h=>h.elim hS hO⟩).trans ho
theorem leaf_ok {l n:Nat} {Post:Act → World → Prop}:∀ {c:Code} {ops:Array Oper} {Q:Exit → Act → World → Prop},leafOps c = some ops → ∀ {a:Act} {w:World},
  wpList P ops (fun e a w=>e = .normal ∧ Post a w) ops.toList a w → (∀ a w,Post a w → Q .normal a w) → c.wpIn (Fence.wide.inRound l) n P Q a w:=by
 intro c
 induction c with
 | region id ops0 draw =>
  intro ops Q h a w hw hq
  cases draw with
  | true=>cases h
  | false =>
   unfold leafOps at h
   split at h
   ·rename_i hd
    cases h
    refine wpIn_mono (wpIn_region_list (wpListIn_round (fun ⟨a,w,h⟩=>by cases h.1) _ (fun o ho c hc=>?_) hw)) ?_
    ·have:=List.all_eq_true.1 hd o ho
     rw [hc] at this;cases this
    ·rintro e a w ⟨rfl,h⟩;exact hq a w h
   ·cases h
 | block id c ih =>
  intro ops Q h a w hw hq
  exact wpIn_block (ih h hw fun a w h=>hq a w h)
 | _=>intro ops Q h;cases h
theorem Marks.refl (nr:Bool) (B:Nat) (ds:List Deferred) (w:World):Marks nr B ds ds w:=⟨[],rfl,.nil,fun _ h=>(by cases h),fun _=>rfl⟩
theorem Marks.weak {nr nr':Bool} {B B':Nat} {ds ds':List Deferred} {w:World} (h:Marks nr B ds ds' w) (hn:nr' = true → nr = true) (hB:B' ≤ B):Marks nr' B' ds ds' w:=by
 obtain ⟨Ds,h1,h2,h3,h4⟩:=h
 exact ⟨Ds,h1,h2,fun D hD=>⟨Nat.le_trans hB (h3 D hD).1,(h3 D hD).2⟩,fun e=>h4 (hn e)⟩
theorem Marks.one {nr:Bool} (hn:nr = false) {B D:Nat} {ds:List Deferred} {w:World} (hB:B ≤ D) (h:w.heap[D]? = some (.deferred (some []))):Marks nr B ds (mkD D :: ds) w :=
 ⟨[D],rfl,List.nodup_cons.2 ⟨by simp,List.nodup_nil⟩,fun q hq=>by simp at hq;subst hq;exact ⟨hB,h⟩,fun e=>by rw [hn] at e;cases e⟩
theorem Kp.stands (hh:HRel G N hp m w) (hk:Kp G hp m w hp' m' w') {D:Nat} (hD:N ≤ D) (h:w.heap[D]? = some (.deferred (some []))):w'.heap[D]? = some (.deferred (some [])):=by
 refine (hk.heap D ⟨(Array.getElem?_eq_some_iff.1 h).1,?_⟩).trans h
 rintro (hS | ⟨q,ob,hq,hl,hbk⟩)
 ·have:=hh.held D hS;omega
 ·have hob:=hh.obj q ob hq
  have nocell:∀ vs t r,w.heap[D]? = some (.cells vs t r) → False:=fun vs t r e=>by rw [h] at e;cases e
  have norow:∀ {u:G.U} {l:List (G.El u)} {xs:List Value},w.ownsRow N (G.ty u) (G.sz u) (m q) l.length xs → False:=by
   intro u l xs h
   rcases h.2 with ⟨e,_⟩ | ⟨g,cap,cur,e,_,hgb,_⟩
   ·rw [e] at hbk;cases hbk
   ·rw [e] at hbk;cases hbk;exact nocell _ _ _ hgb
  cases ob with
  | dead=>cases hl
  | pins os=>cases hl
  | ab lk a d =>
   obtain ⟨_,o,ho,hno⟩:=RepA.obj hob.1 hbk
   rw [h] at ho;cases ho
   exact hno _ rfl
  | pend zs =>
   rcases hob with e | ⟨b,t,vs,e1,e2,e3,_⟩
   ·rw [e] at hbk;cases hbk
   ·rw [e1] at hbk;cases hbk;exact nocell _ _ _ e3
  | pendr u l =>
   rcases hob with e | ⟨xs,e1,_⟩
   ·rw [e] at hbk;cases hbk
   ·exact norow e1
  | box cs=>obtain ⟨b,t,vs,e1,e2,e3,_⟩:=hob;rw [e1] at hbk;cases hbk;exact nocell _ _ _ e3
  | lock cs=>obtain ⟨b,t,vs,e1,e2,e3,_⟩:=hob;rw [e1] at hbk;cases hbk;exact nocell _ _ _ e3
  | row lk u l=>obtain ⟨xs,e1,_⟩:=hob;exact norow e1
theorem Marks.keep {nr:Bool} {B:Nat} {d1 d2:List Deferred} (h:Marks nr B d1 d2 w) (hB:N ≤ B) (hh:HRel G N hp m w) (hk:Kp G hp m w hp' m' w'):Marks nr B d1 d2 w':=by
 obtain ⟨Ds,h1,h2,h3,h4⟩:=h
 exact ⟨Ds,h1,h2,fun D hD=>⟨(h3 D hD).1,hk.stands hh (Nat.le_trans hB (h3 D hD).1) (h3 D hD).2⟩,h4⟩
theorem Marks.trans {nr nr1 nr2:Bool} {B:Nat} {d1 d2 d3:List Deferred} {w1 w2:World} (h:Marks nr1 B d1 d2 w1) (k:Marks nr2 w1.heap.size d2 d3 w2) (h':Marks nr1 B d1 d2 w2) (hn:nr = true → nr1 = true ∧ nr2 = true) (hB:B ≤ w1.heap.size):Marks nr B d1 d3 w2:=by
 obtain ⟨Ds,h1,h2,h3,h4⟩:=h
 obtain ⟨Es,k1,k2,k3,k4⟩:=k
 obtain ⟨Ds',g1,g2,g3,g4⟩:=h'
 have hDD:Ds' = Ds:=by
  have e:=g1.symm.trans h1
  have e2:Ds'.map mkD = Ds.map mkD:=List.append_cancel_right e
  have hinj:∀ (x y:List Nat),x.map mkD = y.map mkD → x = y:=by
   intro x
   induction x with
   | nil=>intro y h;cases y with | nil=>rfl | cons b y=>simp at h
   | cons a x ih =>
    intro y h
    cases y with
    | nil=>simp at h
    | cons b y =>
     simp only [List.map_cons,List.cons.injEq] at h
     have:a = b:=by have:=h.1;simp [mkD] at this;exact this
     rw [this,ih y h.2]
  exact hinj _ _ e2
 subst hDD
 refine ⟨Es ++ Ds',?_,?_,?_,?_⟩
 ·rw [k1,h1,List.map_append,List.append_assoc]
 ·rw [List.nodup_append]
  refine ⟨k2,h2,fun a ha b hb e=>?_⟩
  subst e
  have:=(k3 a ha).1
  have:=(Array.getElem?_eq_some_iff.1 (h3 a hb).2).1
  omega
 ·intro D hD
  rcases List.mem_append.1 hD with hD | hD
  ·exact ⟨Nat.le_trans hB (k3 D hD).1,(k3 D hD).2⟩
  ·exact ⟨(g3 D hD).1,(g3 D hD).2⟩
 ·intro e
  rw [h4 (hn e).1,k4 (hn e).2];rfl
theorem leavesM {fn:Func} {tmps:Array Value} {R:Ending → World → Prop} {Z:World → Prop} {n:Nat}:∀ (Ds:List Nat),Ds.Nodup → ∀ {w:World},(∀ D ∈ Ds,B ≤ D ∧ w.heap[D]? = some (.deferred (some []))) → Z w → (Ds = [] ∨ ∀ A A',Z A → Turns B A A' → Z A') →
  (∀ A,Z A → ∃ v,(results fn tmps).run P A = .ok v A ∧ R (.returned v) A) → LeavesInM Fence.wide n P fn tmps R (Ds.map mkD) .returning w
 | [],_,w,_,hz,_,hr=>hr w hz
 | D :: Ds,hn,w,hD,hz,hs,hr=>by
  obtain ⟨hn1,hn2⟩:=List.nodup_cons.1 hn
  have hs':∀ A A',Z A → Turns B A A' → Z A':=hs.resolve_left (by simp)
  obtain ⟨hB,h1⟩:=hD D List.mem_cons_self
  refine ⟨by simp,.inl ⟨D,_,rfl,run_takeDeferred h1,?_⟩⟩
  refine leavesM Ds hn2 (fun q hq=>⟨(hD q (List.mem_cons_of_mem _ hq)).1,(World.putObj_heap_other (fun (e:q = D)=>hn1 (by rw [← e];exact hq))).trans (hD q (List.mem_cons_of_mem _ hq)).2⟩) (hs' _ _ hz (Turns.putObj _ hB h1 rfl)) (.inr hs') hr
theorem calls_marks {f:FuncId} {fn:Func} {c:Code} {args:Array Value} {w:World} {R:Ending → World → Prop} (hf:P.funcs[f]? = some fn) (hb:fn.body = some c)
  (h:c.wp P (fun e a w1=>(e = .normal ∨ e = .ret) ∧ ∃ nr,Marks nr B [] a.defers w1 ∧ ∃ Z:World → Prop,Z w1 ∧ (nr = true ∨ ∀ A A',Z A → Turns B A A' → Z A') ∧ ∀ A,Z A → ∃ v,(results fn a.tmps).run P A = .ok v A ∧ R (.returned v) A)
   { tmps:=args ++ Array.replicate (fn.ntmps - args.size) undef,defers:=[] } w):Calls P f args w R:=by
 rw [← callsIn_wide (n:=0)]
 refine callsIn_of_wp_marks hf hb trivial (wpIn_mono (wpIn_wide.2 h) ?_)
 rintro e a w1 ⟨he,nr,⟨Ds,h1,h2,h3,h4⟩,Z,hz,hs,hr⟩
 rw [List.append_nil] at h1
 have:=leavesM (n:=0) Ds h2 h3 hz (hs.imp (fun e=>h4 e) id) hr
 rw [← h1] at this
 rcases he with rfl | rfl
 ·exact this
 ·exact this
theorem setA_ok:∀ {ps:List Tmp} {xs:List G.T} {vs:List Value} {fr:G.Fr} {tmps:Array Value},RepTs G w (Rof G hp m w) hp.length m xs vs → (∀ p ∈ ps,∀ d,env[p]? ≠ some (some d)) → FRel G env fr hp m tmps w →
  FRel G env (setA G ps xs fr) hp m ((ps.zip vs).foldl (fun t p=>t.setIfInBounds p.1 p.2) tmps) w
 | [],_,_,_,_,_,_,hf=>by simpa [setA] using hf
 | p :: ps,_,_,fr,tmps,.nil,_,hf=>by simpa [setA] using hf
 | p :: ps,x :: xs,v :: vs,fr,tmps,.cons h1 h2,hp,hf=>by
  unfold setA
  simp only [List.zip_cons_cons,List.foldl_cons]
  exact setA_ok h2 (fun q hq=>hp q (List.mem_cons_of_mem _ hq)) (hf.set (d:=.t x) h1 (hp p List.mem_cons_self))
end
end Go.Proofs.YtgbicnkpnhifgaaGreatDoor

namespace Go.Proofs.YtgbicnkpnhifgaaGreatDoor
noncomputable section
open Go.RowKit
inductive An (U:Type):Type where
 | nil
 | node (x:Option (Jn U)) (l r:An U)
def An.x {U:Type}:An U → Option (Jn U)
 | .nil=>none
 | .node x _ _=>x
def An.l {U:Type}:An U → An U
 | .nil=>.nil
 | .node _ l _=>l
def An.r {U:Type}:An U → An U
 | .nil=>.nil
 | .node _ _ r=>r
def big:Nat:=18446744073709551616
def iterF {σ ρ:Type} (F:σ → Option (σ ⊕ ρ)):Nat → σ → Option ρ
 | 0,_=>none
 | n + 1,s=>(F s).bind fun x=>match x with
  | .inl s=>iterF F n s
  | .inr r=>some r
variable {P:Program} (G:Sg P) {β:Type}
def inEx (j:Jn G.U) (n:Nat) (env:G.Env) (e:Ex) (fr:G.Fr) (hp:G.Hp):Option (G.Ty j.head ⊕ TyX G j.exits):=match e with
 | .normal=>(decT G n env fr hp j.head).map .inl
 | e=>(decX G n env e fr hp j.exits).map .inr
def unrollF (F:(Ex → G.Fr → G.Hp → Option β) → G.Fr → G.Hp → Option β) (k:Ex → G.Fr → G.Hp → Option β):Nat → G.Fr → G.Hp → Option β
 | 0,_,_=>none
 | n + 1,fr,hp=>F (fun e fr hp=>match e with
  | .normal=>unrollF F k n fr hp
  | e=>k e fr hp) fr hp
def blkF (x:Option (Jn G.U)):List Nat:=match x with
 | none=>[]
 | some j=>j.ids
def foldR {σ τ:Type} (F:σ → τ → Option σ):List τ → σ → Option σ
 | [],s=>some s
 | x :: l,s=>(F s x).bind fun s=>foldR F l s
def slOf (u:G.U):G.O → Option (List (G.El u))
 | .box [.pv (.sl u' l)]=>match G.deq u' u with
  | isTrue e=>some (e ▸ l)
  | isFalse _=>none
 | .lock [.pv (.sl u' l)]=>match G.deq u' u with
  | isTrue e=>some (e ▸ l)
  | isFalse _=>none
 | _=>none
def stillE (env:G.Env) (hp:G.Hp):Bool:=env.all fun x=>match x with
 | some d=>(refsD d).all fun o=>match hp[o]? with
  | some ob=>!ob.mov
  | none=>false
 | none=>true
def calmH (env:G.Env) (hp:G.Hp):Bool:=hp.all (calmO G) && env.all fun x=>match x with
 | some d=>noFnD G d
 | none=>true
def rndK (K:G.KT) (env:G.Env) (n:Nat) (T:Tp G.U) (ps:List Tmp) (oa ob:Array Oper) (h0:G.Hp) (fl:Nat) (s:G.Ty T) (ts:List G.T):Option (G.Ty T) :=
 opsK G K env oa oa.toList (setA G ps ts (junkFr G fl)) (encH G T s h0) fun fr hp=>if calm G env fr hp = true then opsK G K env ob ob.toList fr hp fun fr hp=>match decT G n env fr hp T with
  | some s=>if calmH G env (encH G T s h0) = true then some s else none
  | none=>none
 else none
def rngOk (env:G.Env) (h0:G.Hp) (j:Jn G.U) (b:Bool) (ps:List Tmp) (bx:Nat):Bool :=
 j.head.slots.isEmpty && ((!(j.head.objs.map (·.1)).contains bx) && ((ps.all fun p=>match env[p]? with | some (some _)=>false | _=>true) && ((ps.length == match b with | true=>2 | false=>1) && stillE G env h0)))
def ev (K:G.KT):Code → An G.U → (β:Type) → G.Env → G.Fr → G.Hp → (Ex → G.Fr → G.Hp → Option β) → Option β
 | .skip,_,_,_,fr,hp,k=>k .normal fr hp
 | .region _ ops draw,_,_,env,fr,hp,k=>match draw with
  | false=>opsK G K env ops ops.toList fr hp (k .normal)
  | true=>if Region.noSelect ops = true then drawAll G K env ops fr hp (k .normal) else none
 | .seq a b,an,β,env,fr,hp,k=>match an.x with
  | none=>ev K a an.l β env fr hp fun e fr hp=>match e with
   | .normal=>ev K b an.r β env fr hp k
   | e=>k e fr hp
  | some j=>(ev K a an.l (TyX G j.exits) (addEnv G env fr j.same env) fr (headO G j.ids 0 hp) fun e fr' hp'=>decX G hp.length (addEnv G env fr j.same env) e fr' hp' j.exits).bind fun y =>
    contX G (baseFr G env fr j.same (junkFr G fr.length)) (baseO G j.ids 0 hp) (fun e fr hp=>match e with
     | .normal=>ev K b an.r β env fr hp k
     | e=>k e fr hp) j.exits y
 | .cond c a b,an,β,env,fr,hp,k=>match opT G env fr c with
  | some (.c (.pv (.val (.bool t))))=>cond t (ev K a an.l β env fr hp k) (ev K b an.r β env fr hp k)
  | _=>none
 | .block id c,an,β,env,fr,hp,k=>ev K c an.l β env (frzL G env (blkF G an.x) fr hp).1 (frzL G env (blkF G an.x) fr hp).2 fun e fr hp=>match e with
  | .exit id'=>if id' = id then k .normal fr hp else k (.exit id') fr hp
  | e=>k e fr hp
 | .loop c,an,β,env,fr,hp,k=>match an.x with
  | none=>unrollF G (fun k fr hp=>ev K c an.l β env fr hp k) k 8 fr hp
  | some j=>match decT G hp.length (addEnv G env fr j.same env) fr (headO G (j.head.objs.map (·.1)) 0 hp) j.head with
   | some s=>(iterF (fun s=>ev K c an.l (G.Ty j.head ⊕ TyX G j.exits) (addEnv G env fr j.same env) (encT G j.head s hp.length (junkFr G fr.length)) (encH G j.head s (headO G (j.head.objs.map (·.1)) 0 hp))
      (inEx G j hp.length (addEnv G env fr j.same env))) big s).bind fun y =>
     contX G (baseFr G env fr j.same (junkFr G fr.length)) (baseO G (j.head.objs.map (·.1)) 0 hp) k j.exits y
   | none=>none
 | .exit id,_,_,_,fr,hp,k=>k (.exit id) fr hp
 | .ret,_,_,_,fr,hp,k=>k .ret fr hp
 | .rangeFunc g ps assign body,an,_,env,fr,hp,k=>match an.x,opT G env fr g with
  | some j,some (.c (.clo gf [bx]))=>match G.seqf gf,leafOps assign,leafOps body,hp[bx]? with
   | some (b,u),some oa,some ob,some obj=>match slOf G u obj with
    | some l=>if rngOk G (addEnv G env fr j.same env) (headO G (j.head.objs.map (·.1)) 0 hp) j b ps.toList bx = true then match decT G hp.length (addEnv G env fr j.same env) fr (headO G (j.head.objs.map (·.1)) 0 hp) j.head with
      | some s0=>if calmH G (addEnv G env fr j.same env) (encH G j.head s0 (headO G (j.head.objs.map (·.1)) 0 hp)) = true then
        (if l.length ≤ 16777216 then foldR (fun s x=>rndK G K (addEnv G env fr j.same env) hp.length j.head ps.toList oa ob (headO G (j.head.objs.map (·.1)) 0 hp) fr.length s (argS G b u x)) (ordS b l) s0 else none).bind fun s =>
         (decX G hp.length (addEnv G env fr j.same env) .normal (junkFr G fr.length) (encH G j.head s (headO G (j.head.objs.map (·.1)) 0 hp)) j.exits).bind fun y =>
          contX G (baseFr G env fr j.same (junkFr G fr.length)) (baseO G (j.head.objs.map (·.1)) 0 hp) k j.exits y
       else none
      | none=>none
     else none
    | none=>none
   | _,_,_,_=>none
  | _,_=>none
 | _,_,_,_,_,_,_=>none
section
variable {G} {w w' w0:World} {R R':Nat → Prop} {n n':Nat} {m m':Nat → Value} {r:β} {N:Nat} {hp hp' hp0 hp2:G.Hp} {env env' e:G.Env} {fr fr':G.Fr} {tmps:Array Value} {ds:List Deferred} [Held]
theorem addEnv_rel (hf:FRel G env fr hp m tmps w):∀ (ts:List Nat) {e:G.Env},FRel G e fr hp m tmps w → FRel G (addEnv G env fr ts e) fr hp m tmps w
 | [],_,he=>he
 | t :: ts,e,he=>by
  unfold addEnv
  split
  ·rename_i hc
   refine addEnv_rel hf ts ⟨he.len,he.fr,fun q d hq=>?_⟩
   rw [List.getElem?_set] at hq
   by_cases h:t = q
   ·subst h
    rw [if_pos rfl,if_pos hc.2] at hq
    cases hq
    exact ⟨by rw [hf.len];exact hc.1,hf.get t⟩
   ·rw [if_neg h] at hq;exact he.env q d hq
  ·exact addEnv_rel hf ts he
theorem addEnv_old:∀ (ts:List Nat) {e:G.Env},(∀ (t:Nat) (d:G.D),env[t]? = some (some d) → e[t]? = some (some d)) → ∀ (t:Nat) (d:G.D),env[t]? = some (some d) → (addEnv G env fr ts e)[t]? = some (some d)
 | [],_,he=>he
 | t :: ts,e,he=>by
  unfold addEnv
  split
  ·refine addEnv_old ts fun q d hq=>?_
   rw [List.getElem?_set]
   by_cases h:t = q
   ·subst h
    rename_i hc
    rw [if_pos rfl,if_pos hc.2]
    unfold getS
    rw [hq]
   ·rw [if_neg h];exact he q d hq
  ·exact addEnv_old ts he
theorem addEnv_has:∀ (ts:List Nat) {e:G.Env},(∀ t ∈ ts,t < fr.length → t < e.length → (addEnv G env fr ts e)[t]? = some (some (getS G env fr t))) ∧
  ∀ t,e[t]? = some (some (getS G env fr t)) → (addEnv G env fr ts e)[t]? = some (some (getS G env fr t))
 | [],e=>⟨fun t ht=>(by cases ht),fun _ h=>h⟩
 | s :: ts,e=>by
  unfold addEnv
  split
  ·rename_i hc
   obtain ⟨h1,h2⟩:=addEnv_has ts (e:=e.set s (some (getS G env fr s)))
   refine ⟨fun t ht hl he=>?_,fun t ht=>h2 t ?_⟩
   ·rcases List.mem_cons.1 ht with rfl | ht
    ·exact h2 t (by rw [List.getElem?_set,if_pos rfl,if_pos he])
    ·exact h1 t ht hl (by simpa using he)
   ·rw [List.getElem?_set]
    by_cases hst:s = t
    ·subst hst;rw [if_pos rfl,if_pos hc.2]
    ·rw [if_neg hst];exact ht
  ·rename_i hc
   obtain ⟨h1,h2⟩:=addEnv_has ts (e:=e)
   refine ⟨fun t ht hl he=>?_,h2⟩
   rcases List.mem_cons.1 ht with rfl | ht
   ·exact absurd ⟨hl,he⟩ hc
   ·exact h1 t ht hl he
theorem FRel.junk (h:FRel G env' fr' hp m tmps w) {m2:Nat → Value} {n0:Nat} (hro:∀ b,Rof G hp m w b → Rof G hp2 m2 w b) (hlow:∀ o,o < n0 → m2 o = m o) (hle:n0 ≤ hp2.length) (henv:∀ (t:Nat) (d:G.D),env[t]? = some (some d) → env'[t]? = some (some d) ∧ ∀ o ∈ refsD d,o < n0) (hn:tmps.size = n) :
  FRel G env (junkFr G n) hp2 m2 tmps w:=by
 refine ⟨by simp [junkFr,hn],fun t d hd=>?_,fun t d hd=>?_⟩
 ·unfold junkFr at hd
  rw [List.getElem?_replicate] at hd
  split at hd
  ·cases hd;trivial
  ·cases hd
 ·obtain ⟨h1,h2⟩:=henv t d hd
  obtain ⟨h3,h4⟩:=h.env t d h1
  refine ⟨h3,?_⟩
  have h5:=h4.lower h2
  exact h5.mono hro (fun _ _=>rfl) hle (fun o _ ho=>hlow o ho)
theorem baseFr_rel (h:FRel G env' fr' hp m tmps w) {m2:Nat → Value} {n0:Nat} (hro:∀ b,Rof G hp m w b → Rof G hp2 m2 w b) (hlow:∀ o,o < n0 → m2 o = m o) (hle:n0 ≤ hp2.length):∀ (ts:List Nat),(∀ t ∈ ts,t < fr.length → t < env.length → env'[t]? = some (some (getS G env fr t)) ∧ ∀ o ∈ refsD (getS G env fr t),o < n0) →
  ∀ {f:G.Fr},FRel G env f hp2 m2 tmps w → FRel G env (baseFr G env fr ts f) hp2 m2 tmps w
 | [],_,_,hf=>hf
 | t :: ts,hts,f,hf=>by
  unfold baseFr
  split
  ·rename_i hc
   refine baseFr_rel h hro hlow hle ts (fun q hq=>hts q (List.mem_cons_of_mem _ hq)) (hf.put ?_)
   obtain ⟨h1,h2⟩:=hts t List.mem_cons_self hc.1 hc.2
   have h4:=(h.env t _ h1).2.lower h2
   exact h4.mono hro (fun _ _=>rfl) hle (fun o _ ho=>hlow o ho)
  ·exact baseFr_rel h hro hlow hle ts (fun q hq=>hts q (List.mem_cons_of_mem _ hq)) hf
theorem contX_ok {n:Nat} {ex:Ex} {k:Ex → G.Fr → G.Hp → Option β} {frB:G.Fr} {hpB:G.Hp}:∀ (xs:List (Ex × Tp G.U)) {z:TyX G xs},decX G n env ex fr hp xs = some z → contX G frB hpB k xs z = some r →
  ∃ (T:Tp G.U) (y:G.Ty T),decT G n env fr hp T = some y ∧ k ex (encT G T y hpB.length frB) (encH G T y hpB) = some r
 | [],_,hd,_=>by cases hd
 | [(e',T)],z,hd,hc=>by
  have hd':(if ex = e' then decT G n env fr hp T else none) = some (show G.Ty T from z):=hd
  split at hd'
  ·rename_i he;subst he;exact ⟨T,z,hd',hc⟩
  ·cases hd'
 | (e',T) :: x :: xs,z,hd,hc=>by
  have hd':(if ex = e' then (decT G n env fr hp T).map .inl else (decX G n env ex fr hp (x :: xs)).map .inr) = some (show G.Ty T ⊕ TyX G (x :: xs) from z):=hd
  split at hd'
  ·rename_i he
   subst he
   rw [Option.map_eq_some_iff] at hd'
   obtain ⟨y,hy,rfl⟩:=hd'
   exact ⟨T,y,hy,hc⟩
  ·rw [Option.map_eq_some_iff] at hd'
   obtain ⟨y,hy,rfl⟩:=hd'
   exact contX_ok (x :: xs) hy hc
theorem leave_ok (hok:G.Ok) {ids same:List Nat} {m0:Nat → Value} {tmps0:Array Value} {w1:World} (hf0:FRel G env fr hp0 m0 tmps0 w1) (hh0:HRel G N hp0 m0 w1) (hkp:Kp G (headO G ids 0 hp0) m0 w1 hp' m' w') (hin:Inner G ids hp0 hp')
  (hr:Rl G N w0 (addEnv G env fr same env) fr' hp' m' tmps w') (hsz:tmps.size = fr.length) {xs:List (Ex × Tp G.U)} {z:TyX G xs} {ex:Ex} {k:Ex → G.Fr → G.Hp → Option β}
  (hd:decX G hp0.length (addEnv G env fr same env) ex fr' hp' xs = some z) (hc:contX G (baseFr G env fr same (junkFr G fr.length)) (baseO G ids 0 hp0) k xs z = some r) :
  ∃ fr2 hp2 m2,Rl G N w0 env fr2 hp2 m2 tmps w' ∧ Kp G hp0 m0 w1 hp2 m2 w' ∧ k ex fr2 hp2 = some r:=by
 obtain ⟨T,y,h1,h2⟩:=contX_ok xs hd hc
 obtain ⟨m2,h3,h4,h5,h6,h7,h8⟩:=hin.leave hok hh0 hkp hr.hh hr.hf h1
 rw [baseO_length] at h2
 refine ⟨_,_,m2,⟨h4,h8 ?_,hr.bl⟩,h7,h2⟩
 have hlow:∀ (t:Nat),∀ o ∈ refsD (getS G env fr t),o < hp0.length:=fun t=>(hf0.get t).lt
 have hj:FRel G env (junkFr G fr.length) (encH G T y (baseO G ids 0 hp0)) m2 tmps w':=hr.hf.junk h5 h3 h6 (fun t d hd=>⟨addEnv_old same (fun _ _ h=>h) t d hd,(hf0.env t d hd).2.lt⟩) hsz
 exact baseFr_rel (env:=env) (fr:=fr) hr.hf h5 h3 h6 same (fun t ht hl he=>⟨(addEnv_has same).1 t ht hl he,hlow t⟩) hj
theorem FRel.to (h:FRel G env fr hp m tmps w) (hro:∀ b,Rof G hp m w b → Rof G hp2 m w b) (hl:hp.length ≤ hp2.length):FRel G env fr hp2 m tmps w :=
 ⟨h.len,fun t d hd=>(h.fr t d hd).mono hro (fun _ _=>rfl) hl (fun _ _ _=>rfl),fun t d hd=>⟨(h.env t d hd).1,(h.env t d hd).2.mono hro (fun _ _=>rfl) hl (fun _ _ _=>rfl)⟩⟩
theorem Rl.draw (h:Rl G N w0 env fr hp m tmps w):Rl G N w0 env fr hp m tmps { w with drawn:=w.drawn + 1 }:=by
 have hro:∀ b,Rof G hp m w b → Rof G hp m { w with drawn:=w.drawn + 1 } b:=fun b hb=>hb
 refine ⟨⟨fun o ob ho=>RepO.mono (w:=w) (w':={ w with drawn:=w.drawn + 1 }) hro (fun _ _=>rfl) (Nat.le_refl _) (fun _ _ _=>rfl) rfl (fun _ _ _=>rfl) (h.hh.obj o ob ho),h.hh.sep,h.hh.base,h.hh.held,h.hh.gh.mono fun _ _=>rfl⟩,⟨h.hf.len,fun t d hd=>RepD.mono (w:=w) (w':={ w with drawn:=w.drawn + 1 }) hro (fun _ _=>rfl) (Nat.le_refl _) (fun _ _ _=>rfl) (h.hf.fr t d hd),fun t d hd=>⟨(h.hf.env t d hd).1,RepD.mono (w:=w) (w':={ w with drawn:=w.drawn + 1 }) hro (fun _ _=>rfl) (Nat.le_refl _) (fun _ _ _=>rfl) (h.hf.env t d hd).2⟩⟩,h.bl.drew⟩
def Goes (G:Sg P) (nr:Bool) (N:Nat) (w0:World) (env:G.Env) (hp:G.Hp) (m:Nat → Value) (w:World) (n:Nat) (ds:List Deferred) (k:Ex → G.Fr → G.Hp → Option β) (r:β) (Q:Exit → Act → World → Prop):Prop :=
 ∀ e fr' hp' m' tmps' w' ds',Rl G N w0 env fr' hp' m' tmps' w' → Kp G hp m w hp' m' w' → tmps'.size = n → Marks nr w.heap.size ds ds' w' → k e fr' hp' = some r → Q e.to ⟨tmps',ds'⟩ w'
theorem Rl.base (hr:Rl G N w0 env fr hp m tmps w):Rl G N w env fr hp m tmps w:=⟨hr.hh,hr.hf,Below.refl _ _⟩
theorem Rl.up {fr':G.Fr} {tmps':Array Value} (h:Rl G N w env' fr' hp' m' tmps' w') (hr:Rl G N w0 env fr hp m tmps w):Rl G N w0 env' fr' hp' m' tmps' w':=⟨h.hh,h.hf,hr.bl.trans h.bl⟩
theorem slOf_ok {u:G.U} {ob:G.O} {l:List (G.El u)} (h:slOf G u ob = some l):ob = .box [.pv (.sl u l)] ∨ ob = .lock [.pv (.sl u l)]:=by
 unfold slOf at h
 split at h
 ·split at h
  ·rename_i e _;subst e;cases h;exact .inl rfl
  ·cases h
 ·split at h
  ·rename_i e _;subst e;cases h;exact .inr rfl
  ·cases h
 ·cases h
theorem ordS_len {α:Type} (b:Bool) (l:List α):(ordS b l).length = l.length:=by cases b <;> simp [ordS]
theorem ordS_mem {α:Type} {b:Bool} {l:List α} {k:Nat} {x:Nat × α} (h:(ordS b l)[k]? = some x):x.2 ∈ l:=by
 have hm:=List.mem_of_getElem? h
 have key:x ∈ l.zipIdx.map (fun p=>(p.2,p.1)):=by cases b <;> simpa [ordS] using hm
 obtain ⟨p,hp,rfl⟩:=List.mem_map.1 key
 exact (List.mem_zipIdx hp).2.2 ▸ List.getElem_mem _
theorem foldR_step {σ τ:Type} {F:σ → τ → Option σ}:∀ {l:List τ} {s0 sN s:σ} {k:Nat} {x:τ},foldR F l s0 = some sN → foldR F (l.take k) s0 = some s → l[k]? = some x → ∃ s',F s x = some s' ∧ foldR F (l.take (k + 1)) s0 = some s'
 | [],_,_,_,_,_,_,_,hx=>by simp at hx
 | y :: l,s0,sN,s,0,x,h,hk,hx=>by
  simp only [List.take_zero,foldR,Option.some.injEq] at hk
  simp only [List.getElem?_cons_zero,Option.some.injEq] at hx
  subst hk;subst hx
  unfold foldR at h
  rw [Option.bind_eq_some_iff] at h
  obtain ⟨s',h1,_⟩:=h
  exact ⟨s',h1,by simp [foldR,h1]⟩
 | y :: l,s0,sN,s,k + 1,x,h,hk,hx=>by
  unfold foldR at h
  rw [Option.bind_eq_some_iff] at h
  obtain ⟨s1,h1,h2⟩:=h
  simp only [List.take_succ_cons,foldR,h1,Option.bind_some] at hk
  simp only [List.getElem?_cons_succ] at hx
  obtain ⟨s',h3,h4⟩:=foldR_step h2 hk hx
  exact ⟨s',h3,by simp only [List.take_succ_cons,foldR,h1,Option.bind_some];exact h4⟩
theorem valC_rep {p:G.P'} (h:∃ v,p = .val v ∧ v.oneCell' = true):RepC G w R n m (.pv p) (valC G (.pv p)):=by
 obtain ⟨v,rfl,h⟩:=h
 exact RepP.val v h
theorem argS_rep {b:Bool} {u:G.U} {x:Nat × G.El u} (h:∀ (j:Nat) (p:G.P'),(G.row u x.2)[j]? = some p → ∃ v,p = .val v ∧ v.oneCell' = true):RepTs G w R n m (argS G b u x) ((argS G b u x).map (valT G)):=by
 have he:RepT G w R n m (elT G u x.2) (valT G (elT G u x.2)):=by
  have agg:RepT G w R n m (.agg ((G.row u x.2).map .pv)) (valT G (.agg ((G.row u x.2).map .pv))):=by
   refine ⟨((G.row u x.2).map .pv).map (valC G),rfl,by simp,fun i c hi=>?_⟩
   rw [List.getElem?_map,Option.map_eq_some_iff] at hi
   obtain ⟨p,hp,rfl⟩:=hi
   refine ⟨valC G (.pv p),by rw [List.getElem?_map,List.getElem?_map,hp];rfl,valC_rep (h i p hp)⟩
  unfold elT
  split
  ·rename_i p ps _ hr
   exact valC_rep (n:=n) (m:=m) (h 0 p (by rw [hr];rfl))
  ·exact agg
 cases b with
 | true=>exact .cons (RepP.val _ rfl) (.cons he .nil)
 | false=>exact .cons he .nil
theorem env_kp {n0:Nat} (hf:FRel G env fr hp m tmps w) (hk:Kp G hp m w hp' m' w') (hs:stillE G env hp = true) (hn:fr.length = n0):FRel G env (junkFr G n0) hp' m' tmps w':=by
 refine ⟨by simp [junkFr,← hn,hf.len],fun t d hd=>?_,fun t d hd=>⟨(hf.env t d hd).1,?_⟩⟩
 ·unfold junkFr at hd
  rw [List.getElem?_replicate] at hd
  split at hd
  ·cases hd;trivial
  ·cases hd
 ·refine (hf.env t d hd).2.mono hk.ro hk.heap hk.len fun o ho hl=>?_
  have h1:=List.all_eq_true.1 hs (some d) (List.mem_of_getElem? hd)
  have h2:=List.all_eq_true.1 h1 o ho
  split at h2
  ·rename_i ob hob
   exact (hk.mv o ob hob (by simpa using h2)).1
  ·cases h2
theorem range_seq (hok:G.Ok) (hh:HRel G N hp m w) {gf:FuncId} {b:Bool} {u:G.U} {bx:Nat} {ob:G.O} {l:List (G.El u)} (hs:G.seqf gf = some (b,u)) (hbx:hp[bx]? = some ob) (hsl:slOf G u ob = some l) (hlen:l.length ≤ 16777216) :
  ∃ B g:Nat,m bx = .pointer (some ⟨B,0,none⟩) ∧ (g = B ∨ Rof G hp m w g) ∧ SeqRun P gf #[.pointer (some ⟨B,0,none⟩)] l.length (argV G b u l) [B,g] w ∧ ∀ x ∈ l,∀ (j:Nat) (p:G.P'),(G.row u x)[j]? = some p → ∃ v,p = .val v ∧ v.oneCell' = true:=by
 have hob:=hh.obj bx ob hbx
 obtain ⟨hflat,_,hrun⟩:=hok.seq gf b u hs
 have key:∃ b t vs,m bx = .pointer (some ⟨b,0,none⟩) ∧ N ≤ b ∧ w.heap[b]? = some (.cells vs t (0,0)) ∧ RepL G w (Rof G hp m w) hp.length m [.pv (.sl u l)] vs.toList ∧ ∀ x ∈ vs.toList,x.oneCell' = true:=by
  rcases slOf_ok hsl with rfl | rfl
  ·exact hob
  ·exact hob
 obtain ⟨B,t,vs,e1,_,e3,e4,_⟩:=key
 obtain ⟨v,hv,hrep⟩:=e4.2 0 _ rfl
 have hcell:w.cell? ⟨B,0,none⟩ = some v:=by
  have:vs[0]? = some v:=by rw [← hv,Array.getElem?_toList]
  simp [World.cell?,e3,this]
 cases hrep with
 | sl _ _ A bb off cap c hcap ha hc hrr =>
  have hvals:∀ x ∈ l,∀ (j:Nat) (p:G.P'),(G.row u x)[j]? = some p → ∃ v,p = .val v ∧ v.oneCell' = true:=by
   intro x hx j p hj
   obtain ⟨k,hk⟩:=List.getElem?_of_mem hx
   obtain ⟨v,rfl⟩:=hok.flat u hflat x p (List.mem_of_getElem? hj)
   have h1:=hrr k x j _ hk hj
   have h2:c k j = v:=by cases h1 with | val _ _=>rfl
   have h3:=h1.one
   rw [h2] at h3
   exact ⟨v,rfl,h3⟩
  refine ⟨B,if 0 < l.length then bb else B,e1,?_,hrun w B _ off cap A l hlen hcell ?_ ?_,hvals⟩
  ·split
   ·rename_i hp;exact .inr (ha hp).2
   ·exact .inl rfl
  ·intro hp
   rw [if_pos hp]
   exact (ha hp).1
  ·intro k x j p hk hj
   have hp:0 < l.length:=by have:=(List.getElem?_eq_some_iff.1 hk).1;omega
   rw [if_pos hp]
   obtain ⟨v,rfl⟩:=hok.flat u hflat x p (List.mem_of_getElem? hj)
   refine ⟨v,rfl,(hc k x j _ hk hj).trans ?_⟩
   have:=hrr k x j _ hk hj
   cases this with
   | val _ _=>rfl
theorem ev_ok (hok:G.Ok) {K:G.KT} (hK:CallOk G K) (c:Code):∀ {w0:World} {an:An G.U} {β:Type} {env:G.Env} {fr:G.Fr} {hp:G.Hp} {k:Ex → G.Fr → G.Hp → Option β} {r:β} {m:Nat → Value} {tmps:Array Value} {ds:List Deferred} {w:World} {Q:Exit → Act → World → Prop},
  Rl G N w0 env fr hp m tmps w → ev G K c an β env fr hp k = some r → Goes G (noRange c) N w0 env hp m w tmps.size ds k r Q → c.wp P Q ⟨tmps,ds⟩ w:=by
 induction c with
 | skip =>
  intro w0 an β env fr hp k r m tmps ds w Q hr h hn
  exact wp_skip (hn .normal _ _ _ _ _ _ hr (Kp.refl _ _ _) rfl (Marks.refl _ _ _ _) h)
 | region id ops draw =>
  intro w0 an β env fr hp k r m tmps ds w Q hr h hn
  cases draw with
  | false =>
   exact wp_region_list (opsK_ok hok hK ops.toList hr h fun fr' hp' m' tmps' w' h1 h2 h3 h4=>hn .normal fr' hp' m' tmps' w' ds h1 h2 h3 (Marks.refl _ _ _ _) h4)
  | true =>
   unfold ev at h
   simp only at h
   split at h
   ·rename_i hsel
    let Q0:Exit → Act → World → Prop:=fun e a w=>match e with
     | .panic _=>False
     | e=>Q e a w
    refine wp_mono (Q:=Q0) (wp_region_any hok.mixed (drawAll_ok (Q:=Q0) (w0:=w0) hok hK hsel (fun _ _ _ h=>h) (m:=m) (hr.draw) h fun fr' hp' m' tmps' w' h1 h2 h3 h4=>hn .normal fr' hp' m' tmps' w' ds h1 ⟨h2.ro,h2.heap,h2.lk,h2.mv,h2.len,h2.pn,h2.hlk⟩ h3 (Marks.refl _ _ _ _) h4)) fun e a w h=>?_
    cases e <;> first | exact h | exact h.elim
   ·cases h
 | seq a b iha ihb =>
  intro w0 an β env fr hp k r m tmps ds w Q hr h hn
  apply wp_seq
  have hnr:noRange (.seq a b) = true → noRange a = true ∧ noRange b = true:=fun e=>by simpa [noRange] using e
  have two:∀ {fr1:G.Fr} {hp1:G.Hp} {m1:Nat → Value} {tmps1:Array Value} {w1:World} {ds1:List Deferred},Rl G N w0 env fr1 hp1 m1 tmps1 w1 → Kp G hp m w hp1 m1 w1 → tmps1.size = tmps.size → w.heap.size ≤ w1.heap.size → Marks (noRange a) w.heap.size ds ds1 w1 →
    (ev G K b an.r β env fr1 hp1 k = some r) → b.wp P Q ⟨tmps1,ds1⟩ w1:=by
   intro fr1 hp1 m1 tmps1 w1 ds1 h1 h2 h3 hsz hM h4
   refine ihb h1 h4 fun e2 fr2 hp2 m2 tmps2 w2 ds2 g1 g2 g3 gM g4=>hn e2 fr2 hp2 m2 tmps2 w2 ds2 g1 (h2.trans g2) (g3.trans h3) ?_ g4
   exact hM.trans gM (hM.keep (Nat.le_trans hr.hh.base (Nat.le_refl _)) h1.hh g2) hnr hsz
  have weak:∀ {w1:World} {ds1:List Deferred},Marks (noRange a) w.heap.size ds ds1 w1 → Marks (noRange (.seq a b)) w.heap.size ds ds1 w1:=fun hM=>hM.weak (fun e=>(hnr e).1) (Nat.le_refl _)
  unfold ev at h
  split at h
  ·refine iha hr.base h fun e fr' hp' m' tmps' w' ds' h1 h2 h3 hM h4=>?_
   have h1':=h1.up hr
   cases e with
   | normal=>exact two h1' h2 h3 h1.bl.size hM h4
   | exit id=>exact hn (.exit id) _ _ _ _ _ _ h1' h2 h3 (weak hM) h4
   | ret=>exact hn .ret _ _ _ _ _ _ h1' h2 h3 (weak hM) h4
  ·rename_i j hj
   rw [Option.bind_eq_some_iff] at h
   obtain ⟨y,hy,h⟩:=h
   obtain ⟨g1,g2⟩:=Inner.headRel hr.hh j.ids
   have hf1:FRel G (addEnv G env fr j.same env) fr (headO G j.ids 0 hp) m tmps w:=(addEnv_rel hr.hf j.same hr.hf).to g2 (by rw [headO_length];exact Nat.le_refl _)
   refine iha ⟨g1,hf1,Below.refl N w⟩ hy fun e fr' hp' m' tmps' w' ds' h1 h2 h3 hM h4=>?_
   have h1':Rl G N w0 (addEnv G env fr j.same env) fr' hp' m' tmps' w':=⟨h1.hh,h1.hf,hr.bl.trans h1.bl⟩
   obtain ⟨fr2,hp2,m2x,h5,h6,h7⟩:=leave_ok hok hr.hf hr.hh h2 ((Inner.head hr.hh j.ids).on h2) h1' (h3.trans hr.hf.len) h4 h
   cases e with
   | normal=>exact two h5 h6 h3 h1.bl.size hM h7
   | exit id=>exact hn (.exit id) _ _ _ _ _ _ h5 h6 h3 (weak hM) h7
   | ret=>exact hn .ret _ _ _ _ _ _ h5 h6 h3 (weak hM) h7
 | cond c a b iha ihb =>
  intro w0 an β env fr hp k r m tmps ds w Q hr h hn
  have hnr:noRange (.cond c a b) = true → noRange a = true ∧ noRange b = true:=fun e=>by simpa [noRange] using e
  unfold ev at h
  split at h
  ·rename_i t ht
   obtain ⟨hv,_⟩:=valOf_rep (v:=.bool t) rfl (hr.hf.opT (ds:=ds) ht)
   refine wp_cond hv ?_
   cases t with
   | true=>exact iha hr h fun e fr' hp' m' tmps' w' ds' h1 h2 h3 hM h4=>hn e fr' hp' m' tmps' w' ds' h1 h2 h3 (hM.weak (fun e=>(hnr e).1) (Nat.le_refl _)) h4
   | false=>exact ihb hr h fun e fr' hp' m' tmps' w' ds' h1 h2 h3 hM h4=>hn e fr' hp' m' tmps' w' ds' h1 h2 h3 (hM.weak (fun e=>(hnr e).2) (Nat.le_refl _)) h4
  ·cases h
 | block id c ih =>
  intro w0 an β env fr hp k r m tmps ds w Q hr h hn
  apply wp_block
  unfold ev at h
  obtain ⟨hr2,hk2⟩:=frzL_ok (blkF G an.x) hr
  refine ih hr2 h fun e fr' hp' m' tmps' w' ds' h1 h2' h3 hM h4=>?_
  have h2:=hk2.trans h2'
  cases e with
  | normal=>exact hn .normal _ _ _ _ _ _ h1 h2 h3 hM h4
  | ret=>exact hn .ret _ _ _ _ _ _ h1 h2 h3 hM h4
  | exit id' =>
   simp only at h4
   show (if id' = id then Q .normal _ _ else Q (.exit id') _ _)
   split at h4
   ·rename_i hi;rw [if_pos hi];exact hn .normal _ _ _ _ _ _ h1 h2 h3 hM h4
   ·rename_i hi;rw [if_neg hi];exact hn (.exit id') _ _ _ _ _ _ h1 h2 h3 hM h4
 | loop c ih =>
  intro w0 an β env fr hp k r m tmps ds w Q hr h hn
  unfold ev at h
  split at h
  ·refine wp_loop_rounds 8 ?_
   have go:∀ (n:Nat) (fr1:G.Fr) (hp1:G.Hp) (m1:Nat → Value) (tmps1:Array Value) (w1:World) (ds1:List Deferred),Rl G N w0 env fr1 hp1 m1 tmps1 w1 → Kp G hp m w hp1 m1 w1 → tmps1.size = tmps.size → w.heap.size ≤ w1.heap.size → Marks (noRange c) w.heap.size ds ds1 w1 →
     unrollF G (fun k fr hp=>ev G K c an.l _ env fr hp k) k n fr1 hp1 = some r → Code.rounds P c Q n ⟨tmps1,ds1⟩ w1:=by
    intro n
    induction n with
    | zero=>intro fr1 hp1 m1 tmps1 w1 ds1 _ _ _ _ _ hi;cases hi
    | succ n ihn =>
     intro fr1 hp1 m1 tmps1 w1 ds1 hrl hkp hsz hws hM1 hi
     unfold unrollF at hi
     rw [rounds_succ]
     refine ih hrl.base hi fun e fr' hp' m' tmps' w' ds' h1 h2 h3 hM h4=>?_
     have hM':Marks (noRange c) w.heap.size ds ds' w':=hM1.trans hM (hM1.keep hr.hh.base hrl.hh h2) (fun e=>⟨e,e⟩) hws
     have hws':=Nat.le_trans hws h1.bl.size
     have h1':=h1.up hrl
     cases e with
     | normal=>exact ihn _ _ _ _ _ _ h1' (hkp.trans h2) (h3.trans hsz) hws' hM' h4
     | exit id=>exact hn (.exit id) _ _ _ _ _ _ h1' (hkp.trans h2) (h3.trans hsz) hM' h4
     | ret=>exact hn .ret _ _ _ _ _ _ h1' (hkp.trans h2) (h3.trans hsz) hM' h4
   exact go 8 fr hp m tmps w ds hr (Kp.refl _ _ _) rfl (Nat.le_refl _) (Marks.refl _ _ _ _) h
  ·rename_i j hj
   split at h
   ·rename_i s hs
    rw [Option.bind_eq_some_iff] at h
    obtain ⟨y,hy,h⟩:=h
    refine wp_loop_rounds big ?_
    have hids:∀ i,(j.head.objs.map (·.1)).contains i = true → ∃ p ∈ j.head.objs,p.1 = i:=by
     intro i hi
     rw [List.contains_iff_mem,List.mem_map] at hi
     exact hi
    have hrefs:∀ (t:Nat) (d:G.D),(addEnv G env fr j.same env)[t]? = some (some d) → ∀ o ∈ refsD d,o < hp.length:=fun t d hd =>
     ((addEnv_rel hr.hf j.same hr.hf).env t d hd).2.lt
    have start:∀ (fr1:G.Fr) (hp1:G.Hp) (m1:Nat → Value) (tmps1:Array Value) (w1:World) (s1:G.Ty j.head),Kp G (headO G (j.head.objs.map (·.1)) 0 hp) m w hp1 m1 w1 → Rl G N w0 (addEnv G env fr j.same env) fr1 hp1 m1 tmps1 w1 → tmps1.size = tmps.size → Inner G (j.head.objs.map (·.1)) hp hp1 →
      decT G hp.length (addEnv G env fr j.same env) fr1 hp1 j.head = some s1 →
      ∃ m2,Rl G N w0 (addEnv G env fr j.same env) (encT G j.head s1 hp.length (junkFr G fr.length)) (encH G j.head s1 (headO G (j.head.objs.map (·.1)) 0 hp)) m2 tmps1 w1 ∧
       Inner G (j.head.objs.map (·.1)) hp (encH G j.head s1 (headO G (j.head.objs.map (·.1)) 0 hp)) ∧ Kp G (headO G (j.head.objs.map (·.1)) 0 hp) m w (encH G j.head s1 (headO G (j.head.objs.map (·.1)) 0 hp)) m2 w1:=by
     intro fr1 hp1 m1 tmps1 w1 s1 hk0 h1 h2 h3 h4
     obtain ⟨m2,g1,g2,g3,g4,g5,g6,g7⟩:=h3.again hok hk0 h1.hh h1.hf h4 hids
     have hjk:=h1.hf.junk (hp2:=encH G j.head s1 (headO G (j.head.objs.map (·.1)) 0 hp)) (env:=addEnv G env fr j.same env) g3 g1 g4 (fun t d hd=>⟨hd,hrefs t d hd⟩) (h2.trans hr.hf.len)
     exact ⟨m2,⟨g2,g7 hjk,h1.bl⟩,g5,g6⟩
    have go:∀ (n:Nat) (s1:G.Ty j.head) (m1:Nat → Value) (tmps1:Array Value) (w1:World) (ds1:List Deferred),tmps1.size = tmps.size → w.heap.size ≤ w1.heap.size → Marks (noRange c) w.heap.size ds ds1 w1 →
      Rl G N w0 (addEnv G env fr j.same env) (encT G j.head s1 hp.length (junkFr G fr.length)) (encH G j.head s1 (headO G (j.head.objs.map (·.1)) 0 hp)) m1 tmps1 w1 →
      Inner G (j.head.objs.map (·.1)) hp (encH G j.head s1 (headO G (j.head.objs.map (·.1)) 0 hp)) → Kp G (headO G (j.head.objs.map (·.1)) 0 hp) m w (encH G j.head s1 (headO G (j.head.objs.map (·.1)) 0 hp)) m1 w1 →
      iterF (fun s=>ev G K c an.l (G.Ty j.head ⊕ TyX G j.exits) (addEnv G env fr j.same env) (encT G j.head s hp.length (junkFr G fr.length)) (encH G j.head s (headO G (j.head.objs.map (·.1)) 0 hp))
       (inEx G j hp.length (addEnv G env fr j.same env))) n s1 = some y → Code.rounds P c Q n ⟨tmps1,ds1⟩ w1:=by
     intro n
     induction n with
     | zero=>intro s1 m1 tmps1 w1 ds1 _ _ _ _ _ _ hi;cases hi
     | succ n ihn =>
      intro s1 m1 tmps1 w1 ds1 hsz hws hM1 hrl hin hkp hi
      unfold iterF at hi
      rw [Option.bind_eq_some_iff] at hi
      obtain ⟨x,hx,hi⟩:=hi
      rw [rounds_succ]
      refine ih hrl.base hx fun e fr' hp' m' tmps' w' ds' h1b h2 h3 hM h4=>?_
      have hM':Marks (noRange c) w.heap.size ds ds' w':=hM1.trans hM (hM1.keep hr.hh.base hrl.hh h2) (fun e=>⟨e,e⟩) hws
      have hws':=Nat.le_trans hws h1b.bl.size
      have h1:=h1b.up hrl
      have hin':=hin.on h2
      have hkp':=hkp.trans h2
      cases e with
      | normal =>
       unfold inEx at h4
       simp only [Option.map_eq_some_iff] at h4
       obtain ⟨s2,h5,rfl⟩:=h4
       obtain ⟨m2,g1,g2,g3⟩:=start fr' hp' m' tmps' w' s2 hkp' h1 (h3.trans hsz) hin' h5
       exact ihn s2 m2 tmps' w' ds' (h3.trans hsz) hws' hM' g1 g2 g3 hi
      | exit id =>
       unfold inEx at h4
       simp only [Option.map_eq_some_iff] at h4
       obtain ⟨z,h5,rfl⟩:=h4
       cases hi
       obtain ⟨fr2,hp2,m2x,g1,g2,g3⟩:=leave_ok hok hr.hf hr.hh hkp' hin' h1 ((h3.trans hsz).trans hr.hf.len) h5 h
       exact hn (.exit id) _ _ _ _ _ _ g1 g2 (h3.trans hsz) hM' g3
      | ret =>
       unfold inEx at h4
       simp only [Option.map_eq_some_iff] at h4
       obtain ⟨z,h5,rfl⟩:=h4
       cases hi
       obtain ⟨fr2,hp2,m2x,g1,g2,g3⟩:=leave_ok hok hr.hf hr.hh hkp' hin' h1 ((h3.trans hsz).trans hr.hf.len) h5 h
       exact hn .ret _ _ _ _ _ _ g1 g2 (h3.trans hsz) hM' g3
    obtain ⟨q1,q2⟩:=Inner.headRel hr.hh (j.head.objs.map (·.1))
    have hf1:FRel G (addEnv G env fr j.same env) fr (headO G (j.head.objs.map (·.1)) 0 hp) m tmps w:=(addEnv_rel hr.hf j.same hr.hf).to q2 (by rw [headO_length];exact Nat.le_refl _)
    obtain ⟨m2,g1,g2,g3⟩:=start fr _ m tmps w s (Kp.refl _ _ _) ⟨q1,hf1,hr.bl⟩ rfl (Inner.head hr.hh _) hs
    exact go big s m2 tmps w ds rfl (Nat.le_refl _) (Marks.refl _ _ _ _) g1 g2 g3 hy
   ·cases h
 | exit id =>
  intro w0 an β env fr hp k r m tmps ds w Q hr h hn
  exact wp_exit (hn (.exit id) _ _ _ _ _ _ hr (Kp.refl _ _ _) rfl (Marks.refl _ _ _ _) h)
 | ret =>
  intro w0 an β env fr hp k r m tmps ds w Q hr h hn
  exact wp_ret (hn .ret _ _ _ _ _ _ hr (Kp.refl _ _ _) rfl (Marks.refl _ _ _ _) h)
 | rangeFunc g ps assign body _ _ =>
  intro w0 an β env fr hp k r m tmps ds w Q hr h hn
  unfold ev at h
  split at h
  rotate_left
  ·cases h
  rename_i j gf bx hj hg
  split at h
  rotate_left
  ·cases h
  rename_i b u oa ob obj hsq hoa hob hbx
  split at h
  rotate_left
  ·cases h
  rename_i l hsl
  split at h
  rotate_left
  ·cases h
  rename_i hrng
  split at h
  rotate_left
  ·cases h
  rename_i s0 hs0
  split at h
  rotate_left
  ·cases h
  rename_i hcalm0
  rw [Option.bind_eq_some_iff] at h
  obtain ⟨sN,hfold,h⟩:=h
  split at hfold
  rotate_left
  ·cases hfold
  rename_i hlen
  rw [Option.bind_eq_some_iff] at h
  obtain ⟨y,hy,h⟩:=h
  unfold rngOk at hrng
  simp only [Bool.and_eq_true] at hrng
  obtain ⟨hslots,hnb,hps,hpl,hstill⟩:=hrng
  have hids:∀ i,(j.head.objs.map (·.1)).contains i = true → ∃ p ∈ j.head.objs,p.1 = i:=by
   intro i hi
   rw [List.contains_iff_mem,List.mem_map] at hi
   exact hi
  obtain ⟨q1,q2⟩:=Inner.headRel hr.hh (j.head.objs.map (·.1))
  have hf1:FRel G (addEnv G env fr j.same env) fr (headO G (j.head.objs.map (·.1)) 0 hp) m tmps w:=(addEnv_rel hr.hf j.same hr.hf).to q2 (by rw [headO_length];exact Nat.le_refl _)
  obtain ⟨B,g',hmB,hgB,hseq,hvals⟩:=range_seq hok hr.hh hsq hbx hsl hlen
  obtain ⟨vs,e1,e2,e3⟩:=hr.hf.opT (ds:=ds) hg
  obtain ⟨_,B',e4,e5⟩:=e3 0 bx rfl
  have hBB:B' = B:=by rw [hmB] at e4;cases e4;rfl
  subst hBB
  have hvs:vs = [.pointer (some ⟨B',0,none⟩)]:=by
   match vs,e2,e5 with
   | [v],_,e5=>simpa using e5
  have heg:∀ args w,(callFunc gf args).run P w = .ok (.enter gf args) w:=by
   obtain ⟨_,⟨fn,hfn,hne,hbody⟩,_⟩:=hok.seq gf b u hsq
   intro args w
   simp only [callFunc,Sem.run_bind,run_program,Result.andThen_ok,hfn,hne,hbody,Bool.false_eq_true,if_false]
   simp
  obtain ⟨F,hF⟩:∃ F:G.Ty j.head → Nat × G.El u → Option (G.Ty j.head),F = fun s x=>rndK G K (addEnv G env fr j.same env) hp.length j.head ps.toList oa ob (headO G (j.head.objs.map (·.1)) 0 hp) fr.length s (argS G b u x):=⟨_,rfl⟩
  rw [← hF] at hfold
  obtain ⟨h0,hh0⟩:∃ h0:G.Hp,h0 = headO G (j.head.objs.map (·.1)) 0 hp:=⟨_,rfl⟩
  have hlen0:(ordS b l).length = l.length:=ordS_len b l
  have calmP:∀ {s:G.Ty j.head},calmH G (addEnv G env fr j.same env) (encH G j.head s (headO G (j.head.objs.map (·.1)) 0 hp)) = true → (encH G j.head s (headO G (j.head.objs.map (·.1)) 0 hp)).all (calmO G) = true:=by
   intro s hc
   unfold calmH at hc
   simp only [Bool.and_eq_true] at hc
   exact hc.1
  refine wp_range (I:=fun k W=>∃ s mk,foldR F ((ordS b l).take k) s0 = some s ∧ calmH G (addEnv G env fr j.same env) (encH G j.head s (headO G (j.head.objs.map (·.1)) 0 hp)) = true ∧
   HRel G N (encH G j.head s (headO G (j.head.objs.map (·.1)) 0 hp)) mk W ∧ Below N w0 W ∧ Inner G (j.head.objs.map (·.1)) hp (encH G j.head s (headO G (j.head.objs.map (·.1)) 0 hp)) ∧
   Kp G (headO G (j.head.objs.map (·.1)) 0 hp) m w (encH G j.head s (headO G (j.head.objs.map (·.1)) 0 hp)) mk W) hseq (by rw [e1,hvs]) heg ?_ ?_ ?_ ?_ ?_ ?_
  ·intro k hk
   have hx:(ordS b l)[k]? = some ((ordS b l)[k]'(by omega)):=List.getElem?_eq_getElem _
   unfold argV
   rw [hx]
   have hpl':ps.size = match b with | true=>2 | false=>1:=by simpa using hpl
   cases b <;> simp [argS,hpl']
  ·rintro k A A' ⟨s,mk,f1,f2,f3,f4,f5,f6⟩ ht
   exact ⟨s,mk,f1,f2,f3.turned ht (calmP f2) hr.hh.base,ht.below f4 hr.hh.base f3.base,f5,f6.turn ht q1⟩
  ·obtain ⟨m2,a1,a2,a3,a4,a5,a6,a7⟩:=(Inner.head hr.hh (j.head.objs.map (·.1))).again hok (Kp.refl _ _ _) q1 hf1 hs0 hids
   exact ⟨s0,m2,rfl,hcalm0,a2,hr.bl,a5,a6⟩
  ·rintro k W ⟨s,mk,f1,f2,f3,f4,f5,f6⟩ c hc
   have hBk:W.heap[B']? = w.heap[B']?:=by
    refine f6.hlk bx (lockO G obj) B' ?_ (lockO_lockd obj) ?_ (by rw [hmB];rfl)
    ·rw [headO_get,hbx,Option.map_some,Nat.zero_add,if_neg (by simpa using hnb)]
    ·rcases slOf_ok hsl with rfl | rfl <;> rfl
   simp only [List.mem_cons,List.not_mem_nil,or_false] at hc
   rcases hc with rfl | rfl
   ·exact hBk
   ·rcases hgB with rfl | hgB
    ·exact hBk
    ·exact f6.heap _ (q2 _ hgB)
  ·rintro lq k W ⟨s,mk,f1,f2,f3,f4,f5,f6⟩ hk
   have hx:(ordS b l)[k]? = some ((ordS b l)[k]'(by omega)):=List.getElem?_eq_getElem _
   obtain ⟨x,hxe⟩:∃ x,(ordS b l)[k]'(by omega) = x:=⟨_,rfl⟩
   rw [hxe] at hx
   obtain ⟨s',g1,g2⟩:=foldR_step hfold f1 hx
   have hfr:FRel G (addEnv G env fr j.same env) (junkFr G fr.length) (encH G j.head s (headO G (j.head.objs.map (·.1)) 0 hp)) mk tmps W:=env_kp hf1 f6 hstill rfl
   have hargs:RepTs G W (Rof G (encH G j.head s (headO G (j.head.objs.map (·.1)) 0 hp)) mk W) (encH G j.head s (headO G (j.head.objs.map (·.1)) 0 hp)).length mk (argS G b u x) ((argS G b u x).map (valT G)):=argS_rep (hvals x.2 (ordS_mem hx))
   have hps':∀ p ∈ ps.toList,∀ d,(addEnv G env fr j.same env)[p]? ≠ some (some d):=by
    intro p hp d hd
    have:=List.all_eq_true.1 hps p hp
    rw [hd] at this
    cases this
   have hfr0:=setA_ok (ps:=ps.toList) hargs hps' hfr
   have htm:(ps.zip (argV G b u l k)).foldl (fun t (p,v)=>t.setIfInBounds p v) tmps = (ps.toList.zip ((argS G b u x).map (valT G))).foldl (fun t p=>t.setIfInBounds p.1 p.2) tmps:=by
    have:argV G b u l k = ((argS G b u x).map (valT G)).toArray:=by unfold argV;rw [hx]
    rw [this,← Array.foldl_toList,Array.toList_zip]
   show assign.wpIn (Fence.wide.inRound lq) 3 P _ ⟨(ps.zip (argV G b u l k)).foldl (fun t (p,v)=>t.setIfInBounds p v) tmps,[]⟩ W
   rw [htm]
   rw [hF] at g1
   unfold rndK at g1
   refine leaf_ok hoa (opsK_ok (ds:=[]) hok hK oa.toList ⟨f3,hfr0,Below.refl N W⟩ g1 fun fr1 hp1 m1 tmps1 W1 r1 k1 z1 g1'=>⟨rfl,?_⟩) (fun a w h=>h)
   split at g1'
   rotate_left
   ·cases g1'
   rename_i hcalm
   have hcalm1:hp1.all (calmO G) = true:=by unfold calm at hcalm;simp only [Bool.and_eq_true] at hcalm;exact hcalm.1
   refine ⟨k1.others f3 (calmP f2) r1.bl,fun W2 ht=>?_⟩
   have r2:Rl G N W2 (addEnv G env fr j.same env) fr1 hp1 m1 tmps1 W2:=(r1.turn ht hcalm hr.hh.base).base
   refine leaf_ok hob (opsK_ok (ds:=[]) hok hK ob.toList r2 g1' fun fr3 hp3 m3 tmps3 W3 r3 k3 z3 g3=>⟨rfl,?_⟩) (fun a w h=>⟨rfl,h⟩)
   split at g3
   rotate_left
   ·cases g3
   rename_i s3 hdec
   split at g3
   rotate_left
   ·cases g3
   rename_i hc3
   cases g3
   have hkp3:Kp G (headO G (j.head.objs.map (·.1)) 0 hp) m w hp3 m3 W3:=((f6.trans k1).turn ht q1).trans k3
   obtain ⟨m4,a1,a2,a3,a4,a5,a6,a7⟩:=((f5.on k1).on k3).again hok hkp3 r3.hh r3.hf hdec hids
   exact ⟨k3.others r2.hh hcalm1 r3.bl,s',m4,g2,hc3,a2,(ht.below (f4.trans r1.bl) hr.hh.base r1.hh.base).trans r3.bl,a5,a6⟩
  ·rintro D W hD ⟨s,mk,f1,f2,f3,f4,f5,f6⟩ hDef
   rw [List.take_of_length_le (by omega),hfold] at f1
   cases f1
   have hfr:FRel G (addEnv G env fr j.same env) (junkFr G fr.length) (encH G j.head sN (headO G (j.head.objs.map (·.1)) 0 hp)) mk tmps W:=env_kp hf1 f6 hstill rfl
   obtain ⟨fr2,hp2,m2x,h5,h6,h7⟩:=leave_ok hok hr.hf hr.hh f6 f5 ⟨f3,hfr,f4⟩ hr.hf.len hy h
   exact hn .normal _ _ _ _ _ _ h5 h6 rfl (Marks.one rfl hD hDef) h7
 | _=>intro w0 an β env fr hp k r m tmps ds w Q hr h hn;cases h
end
end
end Go.Proofs.YtgbicnkpnhifgaaGreatDoor

namespace Go.Proofs.YtgbicnkpnhifgaaGreatDoor
noncomputable section
open Go.RowKit
inductive Pk (U:Type):Type where
 | v (u:U)
 | rp (u:U)
 | fn (u r:U)
variable {P:Program} (G:Sg P) {β:Type}
def TyP:List (Pk G.U) → Type
 | []=>Unit
 | .v u :: ps=>G.El u × TyP ps
 | .rp u :: ps=>G.El u × TyP ps
 | .fn u r :: ps=>(G.El u → Option (G.El r)) × TyP ps
def TyU:List G.U → Type
 | []=>Unit
 | [u]=>G.El u
 | u :: v :: us=>G.El u × TyU (v :: us)
def argT:(ps:List (Pk G.U)) → TyP G ps → List G.T
 | [],_=>[]
 | .v u :: ps,(x,y)=>toT G u x :: argT ps y
 | .rp u :: ps,(x,y)=>.c (.rp (G.row u x)) :: argT ps y
 | .fn u r :: ps,(x,y)=>.c (.fn u r x) :: argT ps y
inductive Src (U:Type) (El:U → Type):Type where
 | val (x:Value)
 | own (o:Nat) (u:U) (l:List (El u))
def srcC (hp:G.Hp):G.C → Option (Src G.U G.El)
 | .pv (.val v)=>some (.val v)
 | .os o=>match hp[o]? with
  | some (.row _ u l)=>if G.flat u then some (.own o u l) else none
  | _=>none
 | _=>none
def srcs (hp:G.Hp):List G.C → Option (List (Src G.U G.El))
 | []=>some []
 | c :: cs=>match srcC G hp c,srcs hp cs with
  | some s,some l=>some (s :: l)
  | _,_=>none
def Src.pv {U:Type} {El:U → Type}:Src U El → PV U El
 | .val v=>.val v
 | .own _ u l=>.sl u l
def Src.objs {U:Type} {El:U → Type}:List (Src U El) → List Nat
 | []=>[]
 | .val _ :: l=>objs l
 | .own o _ _ :: l=>o :: objs l
def rcells (u:G.U):G.T → Option (List G.C)
 | .c x=>if G.ag u then none else some [x]
 | .agg cs=>if G.ag u then some cs else none
def decRes (hp:G.Hp):(rs:List G.U) → List G.T → Option (TyU G rs × List Nat)
 | [],[]=>some ((),[])
 | [u],[t]=>match rcells G u t with
  | some cs=>match srcs G hp cs with
   | some ss=>match G.unrow u (ss.map Src.pv) with
    | some x=>some (x,Src.objs ss)
    | none=>none
   | none=>none
  | none=>none
 | u :: v :: us,t :: ts=>match rcells G u t with
  | some cs=>match srcs G hp cs,decRes hp (v :: us) ts with
   | some ss,some (y,os)=>match G.unrow u (ss.map Src.pv) with
    | some x=>some ((x,y),Src.objs ss ++ os)
    | none=>none
   | _,_=>none
  | none=>none
 | _,_=>none
def resTs (env:G.Env) (fr:G.Fr) (hp:G.Hp):List ResultVar → Option (List G.T)
 | []=>some []
 | .tmp t :: rs=>match getS G env fr t,resTs env fr hp rs with
  | .t x,some l=>some (x :: l)
  | _,_=>none
 | .cell a ty :: rs=>match getS G env fr a with
  | .t x=>loadK G hp ty x fun y=>match resTs env fr hp rs with
   | some l=>some (y :: l)
   | none=>none
  | _=>none
def frame0 (n:Nat) (ts:List G.T):G.Fr:=ts.map DV.t ++ List.replicate (n - ts.length) (.t (.c .junk))
def evF (K:G.KT) (c:Code) (an:An G.U) (n:Nat) (res:List ResultVar) (rs:List G.U) (ts:List G.T):Option (TyU G rs) :=
 ev G K c an (TyU G rs) (List.replicate n none) (frame0 G n ts) [] fun e fr hp=>match e with
  | .exit _=>none
  | _=>if (noRange c || calm G (List.replicate n none) fr hp) = true then (match resTs G (List.replicate n none) fr hp res with
   | some ts=>match decRes G hp rs ts with
    | some (y,os)=>if nodupB os then some y else none
    | none=>none
   | none=>none) else none
def rowsB (u:G.U):List G.P' → Option (List (G.El u))
 | []=>some []
 | p :: ps=>match G.unrow u [p],rowsB u ps with
  | some x,some l=>some (x :: l)
  | _,_=>none
def unMz (u:G.U) (hp:G.Hp) (t:G.T):Option (G.El u):=match t with
 | .c (.bs u' o k)=>match hp[o]? with
  | some (.box cs)=>match pvB G hp cs with
   | some ps=>match rowsB G u' ps with
    | some l=>if G.ag u = false ∧ G.sz u' = 1 ∧ ps.length = k then G.unrow u [.sl u' l] else none
    | none=>none
   | none=>none
  | _=>none
 | t=>unB G u hp t
def decZ (hp:G.Hp):(rs:List G.U) → List G.T → Option (TyU G rs)
 | [],ts=>match ts with
  | []=>some ()
  | _ :: _=>none
 | [u],ts=>match ts with
  | [t]=>unMz G u hp t
  | _=>none
 | u :: v :: us,ts=>match ts with
  | t :: ts=>match unMz G u hp t,decZ hp (v :: us) ts with
   | some x,some y=>some (x,y)
   | _,_=>none
  | []=>none
def evZ (K:G.KT) (c:Code) (an:An G.U) (n:Nat) (res:List ResultVar) (rs:List G.U) (ts:List G.T):Option (TyU G rs) :=
 ev G K c an (TyU G rs) (List.replicate n none) (frame0 G n ts) [] fun e fr hp=>match e with
  | .exit _=>none
  | _=>if (noRange c || calm G (List.replicate n none) fr hp) = true then (match resTs G (List.replicate n none) fr hp res with
   | some ts=>decZ G hp rs ts
   | none=>none) else none
def resFL:(rs:List G.U) → TyU G rs → List G.T
 | [],_=>[]
 | [u],x=>[toT G u x]
 | u :: v :: us,(x,y)=>toT G u x :: resFL (v :: us) y
def tupF:List G.T → G.D
 | [t]=>.t t
 | ts=>.tup ts
def resFD (rs:List G.U) (y:TyU G rs):G.D:=tupF G (resFL G rs y)
def tupV:List Value → Value
 | [v]=>v
 | vs=>.tuple vs.toArray
def resC:Nat → List G.P' → List G.C
 | _,[]=>[]
 | n,.val v :: ps=>.pv (.val v) :: resC n ps
 | n,.sl _ _ :: ps=>.os n :: resC (n + 1) ps
 | n,.mp _ _ _ _ :: ps=>.junk :: resC n ps
def resO:List G.P' → G.Hp
 | []=>[]
 | .val _ :: ps=>resO ps
 | .sl u l :: ps=>.row false u l :: resO ps
 | .mp _ _ _ _ :: ps=>resO ps
def resT (n:Nat) (u:G.U) (x:G.El u):G.T:=match G.ag u,resC G n (G.row u x) with
 | false,c :: _=>.c c
 | _,cs=>.agg cs
def newO:(rs:List G.U) → TyU G rs → G.Hp
 | [],_=>[]
 | [u],x=>resO G (G.row u x)
 | u :: v :: us,(x,y)=>resO G (G.row u x) ++ newO (v :: us) y
def resL:Nat → (rs:List G.U) → TyU G rs → List G.T
 | _,[],_=>[]
 | n,[u],x=>[resT G n u x]
 | n,u :: v :: us,(x,y)=>resT G n u x :: resL (n + (resO G (G.row u x)).length) (v :: us) y
def resD (n:Nat) (rs:List G.U) (y:TyU G rs):G.D:=match resL G n rs y with
 | [t]=>.t t
 | ts=>.tup ts
def AllRo (w:World) (b:Nat):Prop:=b < w.heap.size
def Args (w:World) (ts:List G.T) (vs:List Value):Prop:=RepTs G w (AllRo w) 0 (fun _=>undef) ts vs
def Ret (rs:List G.U) (y:TyU G rs) (w:World) (e:Ending) (w':World):Prop :=
 ∃ v,e = .returned v ∧ Below w.heap.size w w' ∧ ∀ (_:Held) (N:Nat) (hp:G.Hp) (m:Nat → Value),HRel G N hp m w →
  ∃ m',HRel G N (hp ++ newO G rs y) m' w' ∧ Keep G hp m w (hp ++ newO G rs y) m' w' ∧ RepD G w' (Rof G (hp ++ newO G rs y) m' w') (hp ++ newO G rs y).length m' (resD G hp.length rs y) v
def HelRo [Held] (w:World) (b:Nat):Prop:=b < w.heap.size ∧ ¬ Held.S b
def RetZ [Held] (rs:List G.U) (y:TyU G rs) (w:World) (e:Ending) (w':World):Prop :=
 ∃ v,e = .returned v ∧ Below w.heap.size w w' ∧ RepD G w' (HelRo w') 0 (fun _=>undef) (resFD G rs y) v
def resM (tmps:Array Value):ResultVar → Sem Value
 | .tmp t=>pure (tmps.getD t undef)
 | .cell a t=>do loadVar t (← asAddr (tmps.getD a undef))
section
variable {G} {w w' w0:World} {R R':Nat → Prop} {n n':Nat} {m m':Nat → Value} {r:β} {N:Nat} {hp hp':G.Hp} {env:G.Env} {fr:G.Fr} {tmps:Array Value} [Held]
theorem asAddr_of {ty:TypeId} {va v:Value} (h:(Instr.loadAt ty va).run P w = .ok v w):(do loadVar ty (← asAddr va):Sem Value).run P w = .ok v w:=by
 unfold Instr.loadAt at h
 cases va with
 | pointer o =>
  cases o with
  | none=>simp [Instr.sureAddr] at h
  | some o=>simpa [Instr.sureAddr,asAddr] using h
 | _=>simp [Instr.sureAddr] at h
theorem resTs_ok (hok:G.Ok) (hh:HRel G N hp m w) (hf:FRel G env fr hp m tmps w):∀ (rs:List ResultVar) {ts:List G.T},resTs G env fr hp rs = some ts →
  ∃ vs:List Value,(rs.mapM (resM tmps)).run P w = .ok vs w ∧ RepTs G w (Rof G hp m w) hp.length m ts vs
 | [],ts,h=>by cases h;exact ⟨[],rfl,.nil⟩
 | .tmp t :: rs,ts,h=>by
  unfold resTs at h
  split at h
  ·rename_i x l hx hl
   cases h
   obtain ⟨vs,h1,h2⟩:=resTs_ok hok hh hf rs hl
   have h3:=hf.get t
   rw [hx] at h3
   refine ⟨_ :: vs,?_,.cons h3 h2⟩
   rw [List.mapM_cons]
   simp only [resM,Sem.run_bind,Sem.run_pure,Result.andThen_ok,h1]
  ·cases h
 | .cell a ty :: rs,ts,h=>by
  unfold resTs at h
  split at h
  ·rename_i x hx
   have h3:=hf.get a
   rw [hx] at h3
   obtain ⟨v,y,⟨b,_,_,h4'⟩,h5,h6⟩:=loadK_ok (P:=P) hok hh h3 h
   have h4:=h4' w rfl
   split at h6
   ·rename_i l hl
    cases h6
    obtain ⟨vs,h1,h2⟩:=resTs_ok hok hh hf rs hl
    refine ⟨v :: vs,?_,.cons h5 h2⟩
    rw [List.mapM_cons]
    have h7:(resM tmps (.cell a ty)).run P w = .ok v w:=by
     exact asAddr_of h4
    simp only [Sem.run_bind,h7,Result.andThen_ok,h1,Sem.run_pure]
   ·cases h6
  ·cases h
end
end
end Go.Proofs.YtgbicnkpnhifgaaGreatDoor

namespace Go.Proofs.YtgbicnkpnhifgaaGreatDoor
noncomputable section
open Go.RowKit
variable {P:Program} {G:Sg P} {β:Type}
section
variable {w w' w0:World} {R R':Nat → Prop} {n n' L:Nat} {m m' mc:Nat → Value} {r:β} {N:Nat} {hp hp' hpc:G.Hp} {env:G.Env} {fr:G.Fr} {tmps:Array Value} [Held]
inductive CellRel (G:Sg P) (hpc:G.Hp) (mc:Nat → Value):List G.P' → List Value → List (Option Nat) → Prop where
 | nil:CellRel G hpc mc [] [] []
 | val (v:Value) (h1:v.oneCell' = true) {qs vs S} (h:CellRel G hpc mc qs vs S):CellRel G hpc mc (.val v :: qs) (v :: vs) S
 | nl (u:G.U) {qs vs S} (h:CellRel G hpc mc qs vs S):CellRel G hpc mc (.sl u [] :: qs) (.slice none 0 0 :: vs) (none :: S)
 | mp (t:TypeId) (u:G.U) (b:Bool) (l:List (ByteArray × G.El u)) (v:Value) (h1:v.oneCell' = true) {qs vs S} (h:CellRel G hpc mc qs vs S):CellRel G hpc mc (.mp t u b l :: qs) (v :: vs) S
 | ow (o:Nat) (lk:Bool) (u:G.U) (l:List (G.El u)) (ho:hpc[o]? = some (.row lk u l)) (hf:G.flat u = true) (h1:(mc o).oneCell' = true) {qs vs S} (h:CellRel G hpc mc qs vs S):CellRel G hpc mc (.sl u l :: qs) (mc o :: vs) (some o :: S)
theorem cells_rel:∀ {cs:List G.C} {ss:List (Src G.U G.El)} {vs:List Value} {qs:List G.P'},srcs G hpc cs = some ss → RepL G w R n mc cs vs → qs.length = cs.length →
  (∀ (j:Nat) (p:G.P'),(ss.map Src.pv)[j]? = some p → ∃ q,qs[j]? = some q ∧ Weak G p q) → ∃ S:List (Option Nat),S.filterMap id = Src.objs ss ∧ CellRel G hpc mc qs vs S
 | [],ss,vs,qs,h,hl,hq,_=>by
  cases h
  have e1:vs = []:=List.eq_nil_of_length_eq_zero hl.1
  have e2:qs = []:=List.eq_nil_of_length_eq_zero hq
  subst e1;subst e2
  exact ⟨[],rfl,.nil⟩
 | c :: cs,ss,vs,qs,h,hl,hq,hw=>by
  unfold srcs at h
  split at h
  ·rename_i s ss' hs hss
   cases h
   cases vs with
   | nil=>have:=hl.1;simp at this
   | cons v vs =>
    cases qs with
    | nil=>simp at hq
    | cons q qs =>
     have htl:RepL G w R n mc cs vs:=by have:=hl.drop 1;simpa using this
     obtain ⟨S,h1,h2⟩:=cells_rel hss htl (by simpa using hq) (fun j p hj=>hw (j + 1) p hj)
     obtain ⟨q',hq',hweak⟩:=hw 0 _ rfl
     cases hq'
     obtain ⟨v',hv',hrep⟩:=hl.2 0 c rfl
     cases hv'
     unfold srcC at hs
     split at hs
     ·rename_i x
      cases hs
      cases hrep with
      | val _ hx =>
       rcases hweak with h3 | ⟨h3,u,h4⟩ | ⟨h3,t,u,h4⟩
       ·cases h3
        exact ⟨S,h1,.val _ hx h2⟩
       ·cases h3
        cases h4
        exact ⟨none :: S,h1,.nl u h2⟩
       ·cases h3
        cases h4
        exact ⟨S,h1,.mp t u _ _ _ hx h2⟩
     ·rename_i o
      split at hs
      ·rename_i lk u l ho
       split at hs
       ·rename_i hflat
        cases hs
        rcases hweak with h3 | ⟨h3,_⟩ | ⟨h3,_⟩
        ·cases h3
         obtain ⟨_,rfl,h5⟩:=hrep
         exact ⟨some o :: S,by simp [Src.objs,h1],.ow o lk u l ho hflat h5 h2⟩
        ·cases h3
        ·cases h3
       ·cases hs
      ·cases hs
     ·cases hs
  ·cases h
def OneRel (G:Sg P) (hpc:G.Hp) (mc:Nat → Value) (u:G.U) (x:G.El u) (v:Value) (S:List (Option Nat)):Prop :=
 ∃ ws,CellRel G hpc mc (G.row u x) ws S ∧ match G.ag u with
  | true=>v = .agg ws.toArray
  | false=>ws = [v]
def ResRel (G:Sg P) (hpc:G.Hp) (mc:Nat → Value):(rs:List G.U) → TyU G rs → List Value → List (Option Nat) → Prop
 | [],_,vs,S=>vs = [] ∧ S = []
 | [u],x,vs,S=>∃ v,vs = [v] ∧ OneRel G hpc mc u x v S
 | u :: v :: us,(x,y),vs,S=>∃ v0 vs' S1 S2,vs = v0 :: vs' ∧ S = S1 ++ S2 ∧ OneRel G hpc mc u x v0 S1 ∧ ResRel G hpc mc (v :: us) y vs' S2
theorem one_rel (hok:G.Ok) {u:G.U} {t:G.T} {cs:List G.C} {ss:List (Src G.U G.El)} {x:G.El u} {v:Value} (h1:rcells G u t = some cs) (h2:srcs G hpc cs = some ss) (h3:G.unrow u (ss.map Src.pv) = some x) (h4:RepT G w R n mc t v) :
  ∃ S:List (Option Nat),S.filterMap id = Src.objs ss ∧ OneRel G hpc mc u x v S:=by
 obtain ⟨h5,h6⟩:=hok.unrow u _ x h3
 have hlen:∀ {cs:List G.C} {ss:List (Src G.U G.El)},srcs G hpc cs = some ss → ss.length = cs.length:=by
  intro cs
  induction cs with
  | nil=>intro ss h;cases h;rfl
  | cons c cs ih =>
   intro ss h
   unfold srcs at h
   split at h
   ·rename_i _ _ _ hss;cases h;simp [ih hss]
   ·cases h
 have hl:=hlen h2
 have hq:(G.row u x).length = cs.length:=by rw [hok.row_sz,← h5,List.length_map,hl]
 unfold rcells at h1
 split at h1
 ·rename_i c
  split at h1
  ·cases h1
  ·rename_i hag
   cases h1
   obtain ⟨S,h7,h8⟩:=cells_rel (w:=w) (R:=R) (n:=n) (vs:=[v]) h2 ⟨rfl,fun i c' hi=>by
    cases i with
    | zero=>cases hi;exact ⟨v,rfl,h4⟩
    | succ i=>cases hi⟩ hq h6
   exact ⟨S,h7,[v],h8,by rw [show G.ag u = false from by simpa using hag]⟩
 ·rename_i cs'
  split at h1
  ·rename_i hag
   cases h1
   obtain ⟨vs,rfl,hl⟩:=h4
   obtain ⟨S,h7,h8⟩:=cells_rel h2 hl hq h6
   exact ⟨S,h7,vs,h8,by rw [hag]⟩
  ·cases h1
theorem dec_rel (hok:G.Ok):∀ (rs:List G.U) {ts:List G.T} {vs:List Value} {y:TyU G rs} {os:List Nat},decRes G hpc rs ts = some (y,os) → RepTs G w R n mc ts vs → ∃ S:List (Option Nat),S.filterMap id = os ∧ ResRel G hpc mc rs y vs S
 | [],[],vs,y,os,h,hr=>by cases h;cases hr;exact ⟨[],rfl,rfl,rfl⟩
 | [],_ :: _,vs,y,os,h,hr=>by cases h
 | [u],[],vs,y,os,h,hr=>by cases h
 | [u],[t],vs,y,os,h,hr=>by
  unfold decRes at h
  split at h
  ·rename_i cs hcs
   split at h
   ·rename_i ss hss
    split at h
    ·rename_i x hx
     cases h
     cases hr with
     | cons h1 h2 =>
      cases h2
      obtain ⟨S,h3,h4⟩:=one_rel hok hcs hss hx h1
      exact ⟨S,h3,_,rfl,h4⟩
    ·cases h
   ·cases h
  ·cases h
 | [u],_ :: _ :: _,vs,y,os,h,hr=>by cases h
 | u :: u' :: us,[],vs,y,os,h,hr=>by cases h
 | u :: u' :: us,t :: ts,vs,y,os,h,hr=>by
  unfold decRes at h
  split at h
  ·rename_i cs hcs
   split at h
   ·rename_i ss y' os' hss hd
    split at h
    ·rename_i x hx
     cases h
     cases hr with
     | cons h1 h2 =>
      obtain ⟨S,h3,h4⟩:=one_rel hok hcs hss hx h1
      obtain ⟨S2,h5,h6⟩:=dec_rel hok (u' :: us) hd h2
      exact ⟨S ++ S2,by rw [List.filterMap_append,h3,h5],_,_,S,S2,rfl,rfl,h4,h6⟩
    ·cases h
   ·cases h
  ·cases h
theorem nodupO_get {S:List (Option Nat)} (h:nodupB (S.filterMap id) = true):∀ (i j o:Nat),S[i]? = some (some o) → S[j]? = some (some o) → i = j:=by
 induction S with
 | nil=>intro i j o hi;cases hi
 | cons s S ih =>
  intro i j o hi hj
  have hmem:∀ q:Nat,S[q]? = some (some o) → o ∈ S.filterMap id:=fun q hq=>List.mem_filterMap.2 ⟨some o,List.mem_of_getElem? hq,rfl⟩
  cases s with
  | none =>
   cases i with
   | zero=>cases hi
   | succ i =>
    cases j with
    | zero=>cases hj
    | succ j=>exact congrArg _ (ih h i j o hi hj)
  | some q =>
   have h':(!(S.filterMap id).contains q && nodupB (S.filterMap id)) = true:=by simpa [nodupB] using h
   rw [Bool.and_eq_true] at h'
   have hq:q ∉ S.filterMap id:=by simpa using h'.1
   cases i with
   | zero =>
    cases hi
    cases j with
    | zero=>rfl
    | succ j=>exact absurd (hmem j hj) hq
   | succ i =>
    cases j with
    | zero=>cases hj;exact absurd (hmem i hi) hq
    | succ j=>exact congrArg _ (ih h'.2 i j o hi hj)
def hd (mc:Nat → Value):Option Nat → Value
 | some o=>mc o
 | none=>.slice none 0 0
theorem cells_rep {qs:List G.P'} {vs:List Value} {S:List (Option Nat)} (h:CellRel G hpc mc qs vs S):∀ {k:Nat},(∀ (i:Nat) (s:Option Nat),S[i]? = some s → m' (k + i) = hd mc s) → k + S.length ≤ L → RepL G w' R' L m' (resC G k qs) vs:=by
 induction h with
 | nil=>intro k _ _;exact ⟨rfl,fun i c hi=>by cases hi⟩
 | val v h1 _ ih =>
  intro k hm hk
  have:=ih hm hk
  refine ⟨by simp [resC,this.1],fun i c hi=>?_⟩
  cases i with
  | zero=>cases hi;exact ⟨v,rfl,RepP.val v h1⟩
  | succ i=>exact this.2 i c hi
 | mp t u b l v h1 _ ih =>
  intro k hm hk
  have:=ih hm hk
  refine ⟨by simp [resC,this.1],fun i c hi=>?_⟩
  cases i with
  | zero=>cases hi;exact ⟨v,rfl,trivial⟩
  | succ i=>exact this.2 i c hi
 | nl u _ ih =>
  intro k hm hk
  simp only [List.length_cons] at hk
  have:=ih (k:=k + 1) (fun i s hi=>by rw [show k + 1 + i = k + (i + 1) from by omega];exact hm (i + 1) s hi) (by omega)
  refine ⟨by simp [resC,this.1],fun i c hi=>?_⟩
  cases i with
  | zero=>cases hi;exact ⟨_,rfl,by omega,(hm 0 none rfl).symm,rfl⟩
  | succ i=>exact this.2 i c hi
 | ow o lk u l ho hf h1 _ ih =>
  intro k hm hk
  simp only [List.length_cons] at hk
  have:=ih (k:=k + 1) (fun i s hi=>by rw [show k + 1 + i = k + (i + 1) from by omega];exact hm (i + 1) s hi) (by omega)
  refine ⟨by simp [resC,this.1],fun i c hi=>?_⟩
  cases i with
  | zero=>cases hi;exact ⟨_,rfl,by omega,(hm 0 (some o) rfl).symm,h1⟩
  | succ i=>exact this.2 i c hi
theorem cells_new {qs:List G.P'} {vs:List Value} {S:List (Option Nat)} (h:CellRel G hpc mc qs vs S):(resO G qs).length = S.length ∧ ∀ (i:Nat) (ob:G.O),(resO G qs)[i]? = some ob →
  ∃ s u l,S[i]? = some s ∧ ob = .row false u l ∧ match s with
   | some o=>(∃ lk,hpc[o]? = some (.row lk u l)) ∧ G.flat u = true
   | none=>l = []:=by
 induction h with
 | nil=>exact ⟨rfl,fun i ob hi=>by cases hi⟩
 | val v h1 _ ih=>exact ih
 | mp t u b l v h1 _ ih=>exact ih
 | nl u _ ih =>
  refine ⟨by simp [resO,ih.1],fun i ob hi=>?_⟩
  cases i with
  | zero=>cases hi;exact ⟨none,u,[],rfl,rfl,rfl⟩
  | succ i=>exact ih.2 i ob hi
 | ow o lk u l ho hf h1 _ ih =>
  refine ⟨by simp [resO,ih.1],fun i ob hi=>?_⟩
  cases i with
  | zero=>cases hi;exact ⟨some o,u,l,rfl,rfl,⟨lk,ho⟩,hf⟩
  | succ i=>exact ih.2 i ob hi
def NewRel (G:Sg P) (hpc:G.Hp) (S:List (Option Nat)) (news:G.Hp):Prop:=news.length = S.length ∧ ∀ (i:Nat) (ob:G.O),news[i]? = some ob →
  ∃ s u l,S[i]? = some s ∧ ob = .row false u l ∧ match s with
   | some o=>(∃ lk,hpc[o]? = some (.row lk u l)) ∧ G.flat u = true
   | none=>l = []
theorem NewRel.append {S1 S2:List (Option Nat)} {a b:G.Hp} (h1:NewRel G hpc S1 a) (h2:NewRel G hpc S2 b):NewRel G hpc (S1 ++ S2) (a ++ b):=by
 refine ⟨by simp [h1.1,h2.1],fun i ob hi=>?_⟩
 rw [List.getElem?_append] at hi ⊢
 rw [h1.1] at hi
 split at hi
 ·rename_i hlt;rw [if_pos hlt];exact h1.2 i ob hi
 ·rename_i hlt;rw [if_neg hlt];exact h2.2 _ ob hi
theorem one_rep {u:G.U} {x:G.El u} {v:Value} {S:List (Option Nat)} (h:OneRel G hpc mc u x v S) {k:Nat} (hm:∀ (i:Nat) (s:Option Nat),S[i]? = some s → m' (k + i) = hd mc s) (hk:k + S.length ≤ L) :
  RepT G w' R' L m' (resT G k u x) v ∧ NewRel G hpc S (resO G (G.row u x)):=by
 obtain ⟨ws,h1,h2⟩:=h
 refine ⟨?_,cells_new h1⟩
 have h3:RepL G w' R' L m' (resC G k (G.row u x)) ws:=cells_rep h1 hm hk
 unfold resT
 cases hag:G.ag u with
 | true =>
  rw [hag] at h2
  cases h2
  exact ⟨ws,rfl,h3⟩
 | false =>
  rw [hag] at h2
  cases h2
  cases hc:resC G k (G.row u x) with
  | nil=>rw [hc] at h3;have:=h3.1;simp at this
  | cons c cs =>
   rw [hc] at h3
   obtain ⟨y,h4,h5⟩:=h3.2 0 c rfl
   cases h4
   exact h5
theorem res_rep:∀ (rs:List G.U) {y:TyU G rs} {vs:List Value} {S:List (Option Nat)} {k:Nat},ResRel G hpc mc rs y vs S → (∀ (i:Nat) (s:Option Nat),S[i]? = some s → m' (k + i) = hd mc s) → k + S.length ≤ L →
  RepTs G w' R' L m' (resL G k rs y) vs ∧ NewRel G hpc S (newO G rs y)
 | [],y,vs,S,k,h,_,_=>by obtain ⟨rfl,rfl⟩:=h;exact ⟨.nil,rfl,fun i ob hi=>by cases hi⟩
 | [u],y,vs,S,k,h,hm,hk=>by
  obtain ⟨v,rfl,h1⟩:=h
  obtain ⟨h2,h3⟩:=one_rep (w':=w') (R':=R') h1 hm hk
  exact ⟨.cons h2 .nil,h3⟩
 | u :: u' :: us,(x,y),vs,S,k,h,hm,hk=>by
  obtain ⟨v0,vs',S1,S2,rfl,rfl,h1,h2⟩:=h
  rw [List.length_append] at hk
  obtain ⟨h3,h4⟩:=one_rep (L:=L) (w':=w') (R':=R') h1 (k:=k) (fun i s hi=>hm i s (by rw [List.getElem?_append_left (List.getElem?_eq_some_iff.1 hi).1];exact hi)) (by omega)
  obtain ⟨h5,h6⟩:=res_rep (u' :: us) (k:=k + (resO G (G.row u x)).length) h2 (fun i s hi=>by
   rw [h4.1,Nat.add_assoc]
   exact hm (S1.length + i) s (by rw [List.getElem?_append_right (by omega)];simpa using hi)) (by rw [h4.1];omega)
  exact ⟨.cons h3 h5,h4.append h6⟩
theorem ret_ok (hok:G.Ok) (hh:HRel G w.heap.size hpc mc w') (hb:Below w.heap.size w w') {rs:List G.U} {ts:List G.T} {vs:List Value} {y:TyU G rs} {os:List Nat} (hd1:decRes G hpc rs ts = some (y,os)) (hnd:nodupB os = true)
  (hr:RepTs G w' (Rof G hpc mc w') hpc.length mc ts vs):Ret G rs y w (.returned (match vs with | [v]=>v | vs=>.tuple vs.toArray)) w':=by
 obtain ⟨S,hS,hrel⟩:=dec_rel hok rs hd1 hr
 rw [← hS] at hnd
 have hobj:=hh.obj
 have hsep:=hh.sep
 clear hh
 refine ⟨_,rfl,hb,fun _ N hp m h0=>?_⟩
 let m':Nat → Value:=fun o=>if o < hp.length then m o else hd mc ((S[o - hp.length]?).getD none)
 have hm1:∀ o,o < hp.length → m' o = m o:=fun o ho=>if_pos ho
 have hm2:∀ (i:Nat) (s:Option Nat),S[i]? = some s → m' (hp.length + i) = hd mc s:=by
  intro i s hi
  show (if hp.length + i < hp.length then _ else _) = _
  rw [if_neg (by omega),Nat.add_sub_cancel_left,hi]
  rfl
 have hnew:=(res_rep (w':=w') (R':=fun _=>True) (L:=hp.length + S.length) (m':=m') rs hrel hm2 (Nat.le_refl _)).2
 have hblk:∀ (i:Nat) (s:Option Nat) (b:Nat),S[i]? = some s → blkOf (m' (hp.length + i)) = some b → ∃ o,s = some o ∧ blkOf (mc o) = some b:=by
  intro i s b hi hbk
  rw [hm2 i s hi] at hbk
  cases s with
  | none=>cases hbk
  | some o=>exact ⟨o,rfl,hbk⟩
 obtain ⟨h1,h2⟩:=h0.ext (w':=w') hb.size (fun b hlt=>hb.block b hlt) (newO G rs y) hm1
  (fun i ob hi=>by
   obtain ⟨s,u,l,h3,rfl,h4⟩:=hnew.2 i ob hi
   show ∃ xs,_
   rw [hm2 i s h3]
   cases s with
   | none =>
    cases h4
    exact ⟨[],World.ownsRow_nil w' N _ _,fun k x j p hk=>by simp at hk,by simp⟩
   | some o =>
    obtain ⟨⟨lk,h5⟩,hflat⟩:=h4
    obtain ⟨xs,h6,h7,h8⟩:=hobj o _ h5
    refine ⟨xs,⟨h6.1,?_⟩,fun k x j p hk hj=>?_,h8⟩
    ·rcases h6.2 with h9 | ⟨g,cap,cur,e,f1,f2⟩
     ·exact .inl h9
     ·exact .inr ⟨g,cap,cur,e,Nat.le_trans h0.base f1,f2⟩
    ·obtain ⟨cv,c1,c2⟩:=h7 k x j p hk hj
     obtain ⟨v,rfl⟩:=hok.flat u hflat x p (List.mem_of_getElem? hj)
     cases c2 with
     | val _ hv=>exact ⟨_,c1,.val _ hv⟩)
  (fun i ob b hi hl hbk=>by
   obtain ⟨s,u,l,h3,rfl,h4⟩:=hnew.2 i ob hi
   obtain ⟨o,rfl,h5⟩:=hblk i s b h3 hbk
   obtain ⟨⟨lk,h6⟩,_⟩:=h4
   exact ((hobj o _ h6).blk rfl h5).1)
  (fun i j ob ob' b hi hj hl hl' hbi hbj=>by
   obtain ⟨s,u,l,h3,rfl,h4⟩:=hnew.2 i ob hi
   obtain ⟨s',u',l',h3',rfl,h4'⟩:=hnew.2 j ob' hj
   obtain ⟨o,rfl,h5⟩:=hblk i s b h3 hbi
   obtain ⟨o',rfl,h5'⟩:=hblk j s' b h3' hbj
   obtain ⟨⟨lk,h6⟩,_⟩:=h4
   obtain ⟨⟨lk',h6'⟩,_⟩:=h4'
   have:o = o':=hsep o o' _ _ b h6 h6' rfl rfl h5 h5'
   subst this
   exact nodupO_get hnd i j o h3 h3')
 refine ⟨m',h1,h2,?_⟩
 have hL:(hp ++ newO G rs y).length = hp.length + S.length:=by rw [List.length_append,hnew.1]
 have h3:=(res_rep (w':=w') (R':=Rof G (hp ++ newO G rs y) m' w') (L:=hp.length + S.length) (m':=m') rs hrel hm2 (Nat.le_refl _)).1
 rw [← hL] at h3
 unfold resD
 generalize hts:resL G hp.length rs y = ts' at h3
 cases h3 with
 | nil=>exact ⟨[],rfl,rfl,fun i t hi=>by cases hi⟩
 | @cons x0 xs0 v0 vs0 h4 h5 =>
  cases h5 with
  | nil=>exact h4
  | @cons x1 xs1 v1 vs' h6 h7 =>
   have h8:=RepTs.cons h4 (.cons h6 h7)
   clear h4 h6 h7
   refine ⟨v0 :: v1 :: vs',rfl,?_,?_⟩
   ·have hll:∀ {a:List G.T} {b:List Value},RepTs G w' (Rof G (hp ++ newO G rs y) m' w') (hp ++ newO G rs y).length m' a b → b.length = a.length:=by
     intro a b h;induction h with
     | nil=>rfl
     | cons _ _ ih=>simp [ih]
    exact hll h8
   ·have hll:∀ {a:List G.T} {b:List Value},RepTs G w' (Rof G (hp ++ newO G rs y) m' w') (hp ++ newO G rs y).length m' a b → ∀ (i:Nat) (t:G.T),a[i]? = some t → ∃ x,b[i]? = some x ∧ RepT G w' (Rof G (hp ++ newO G rs y) m' w') (hp ++ newO G rs y).length m' t x:=by
     intro a b h
     induction h with
     | nil=>intro i t hi;cases hi
     | cons h _ ih =>
      intro i t hi
      cases i with
      | zero=>cases hi;exact ⟨_,rfl,h⟩
      | succ i=>exact ih i t hi
    exact hll h8
end
end
end Go.Proofs.YtgbicnkpnhifgaaGreatDoor

namespace Go.Proofs.YtgbicnkpnhifgaaGreatDoor
noncomputable section
open Go.RowKit
variable {P:Program} (G:Sg P) {β:Type}
structure Fe:Type where
 ps:List (Pk G.U)
 rs:List G.U
 fn:TyP G ps → Option (TyU G rs)
def unR (u:G.U) (hp:G.Hp) (t:G.T):Option (G.El u):=match t with
 | .c (.rp cells)=>G.unrow u cells
 | .c (.ptr o 0)=>match hp[o]? with
  | some (.box cs)=>match pvB G hp cs with
   | some ps=>G.unrow u ps
   | none=>none
  | some (.lock cs)=>match pvB G hp cs with
   | some ps=>G.unrow u ps
   | none=>none
  | _=>none
 | _=>none
def castF {u u' r r':G.U} (F:G.El u' → Option (G.El r')):Option (G.El u → Option (G.El r)) :=
 @dite _ (u' = u) (G.deq u' u) (fun h1=>@dite _ (r' = r) (G.deq r' r) (fun h2=>some (h1 ▸ h2 ▸ F)) (fun _=>none)) (fun _=>none)
def decC (hp:G.Hp):(ps:List (Pk G.U)) → List Nat → Option (TyP G ps)
 | [],[]=>some ()
 | .rp u :: ps,o :: os=>match unR G u hp (.c (.ptr o 0)),decC hp ps os with
  | some x,some y=>some (x,y)
  | _,_=>none
 | _,_=>none
def decF (tbl:FuncId → Option (Fe G)) (hp:G.Hp) (u r:G.U) (t:G.T):Option (G.El u → Option (G.El r)):=match t with
 | .c (.fn _ _ F)=>castF G F
 | .c (.clo g caps)=>if G.flat r = true ∧ G.byref g = false ∧ G.fz g = false then (match tbl g with
  | some ⟨.v u' :: rest,[r'],fn⟩=>match decC G hp rest caps with
   | some y=>castF G (u':=u') (r':=r') (fun x=>fn (x,y))
   | none=>none
  | _=>none) else none
 | _=>none
def decA (tbl:FuncId → Option (Fe G)) (hp:G.Hp):(ps:List (Pk G.U)) → List G.T → Option (TyP G ps)
 | [],[]=>some ()
 | .v u :: ps,t :: ts=>match unB G u hp t,decA tbl hp ps ts with
  | some x,some y=>some (x,y)
  | _,_=>none
 | .rp u :: ps,t :: ts=>match unR G u hp t,decA tbl hp ps ts with
  | some x,some y=>some (x,y)
  | _,_=>none
 | .fn u r :: ps,t :: ts=>match decF G tbl hp u r t,decA tbl hp ps ts with
  | some x,some y=>some (x,y)
  | _,_=>none
 | _,_=>none
def unV (u:G.U) (t:G.T):Option (G.El u):=match G.ag u,t with
 | true,.agg cs=>match pvs G cs with
  | some ps=>G.unrow u ps
  | none=>none
 | false,.c c=>match pvs G [c] with
  | some ps=>G.unrow u ps
  | none=>none
 | _,_=>none
def decV:(ps:List (Pk G.U)) → List G.T → Option (TyP G ps)
 | [],[]=>some ()
 | .v u :: ps,t :: ts=>match unV G u t,decV ps ts with
  | some x,some y=>some (x,y)
  | _,_=>none
 | _,_=>none
def tblK (tbl:FuncId → Option (Fe G)):G.KT:=fun _ f ts hp k=>match tbl f with
 | some fe=>match G.fz f with
  | false=>match decA G tbl hp fe.ps ts with
   | some x=>(fe.fn x).bind fun y=>k [] (hp ++ newO G fe.rs y) (resD G hp.length fe.rs y)
   | none=>none
  | true=>match decV G fe.ps ts with
   | some x=>(fe.fn x).bind fun y=>k [] hp (resFD G fe.rs y)
   | none=>none
 | none=>none
def altK (dom:FuncId → Bool) (K1 K2:G.KT):G.KT:=fun β f ts hp k=>match dom f with
 | true=>K1 β f ts hp k
 | false=>K2 β f ts hp k
structure FnOk (f:FuncId) (fe:Fe G):Prop where
 plain:∃ fn,P.funcs[f]? = some fn ∧ fn.name ≠ "runtime.NumGoroutine" ∧ fn.body.isNone = false
 ok:G.fz f = false → ∀ x y,fe.fn x = some y → ∀ w vs,G.gh w → Args G w (argT G fe.ps x) vs → Calls P f vs.toArray w (Ret G fe.rs y w)
 okz:G.fz f = true → ∀ (_:Held) x y,fe.fn x = some y → ∀ w vs,GhOk G w.heap.size w → (∀ b,Held.S b → b < w.heap.size) → RepTs G w (HelRo w) 0 (fun _=>undef) (argT G fe.ps x) vs → Calls P f vs.toArray w (RetZ G fe.rs y w)
section
variable {G} {w w' w0:World} {R R':Nat → Prop} {n n':Nat} {m m':Nat → Value} {r:β} {N:Nat} {hp hp':G.Hp} {env:G.Env} {fr:G.Fr} {tmps:Array Value} [Held]
theorem RepTs.length {a:List G.T} {b:List Value} (h:RepTs G w R n m a b):b.length = a.length:=by
 induction h with
 | nil=>rfl
 | cons _ _ ih=>simp [ih]
theorem RepTs.get {a:List G.T} {b:List Value} (h:RepTs G w R n m a b):∀ (i:Nat) (t:G.T),a[i]? = some t → ∃ x,b[i]? = some x ∧ RepT G w R n m t x:=by
 induction h with
 | nil=>intro i t hi;cases hi
 | cons h _ ih =>
  intro i t hi
  cases i with
  | zero=>cases hi;exact ⟨_,rfl,h⟩
  | succ i=>exact ih i t hi
end
section
variable {G} {w w' w0:World} {R R':Nat → Prop} {n n':Nat} {m m':Nat → Value} {r:β} {N:Nat} {hp hp':G.Hp} {env:G.Env} {fr:G.Fr} {tmps:Array Value}
theorem fn_ok (hok:G.Ok) {K:G.KT} (hK:CallOk G K) {f:FuncId} {fn:Func} {c:Code} (hf:P.funcs[f]? = some fn) (hb:fn.body = some c) {an:An G.U} {ts:List G.T} {rs:List G.U} {y:TyU G rs} {k:Nat} (hk:fn.ntmps = k)
  {res:List ResultVar} (hres:fn.results = res.toArray) (h:evF G K c an k res rs ts = some y) {w:World} {vs:List Value} (hgh:G.gh w) (ha:Args G w ts vs):Calls P f vs.toArray w (Ret G rs y w):=by
 subst hk
 have hlen:=ha.length
 have hro:∀ b,AllRo w b → Rof G [] (fun _=>undef) w b:=fun b hb=>⟨hb,fun h=>h.elim (fun h=>h) fun ⟨o,ob,ho,_⟩=>by simp at ho⟩
 have hrl:Rl G w.heap.size w (List.replicate fn.ntmps none) (frame0 G fn.ntmps ts) [] (fun _=>undef) (vs.toArray ++ Array.replicate (fn.ntmps - vs.toArray.size) undef) w:=by
  refine ⟨⟨fun o ob ho=>by simp at ho,fun o o' ob ob' b ho=>by simp at ho,Nat.le_refl _,fun _ h=>h.elim,hgh,fun b hb=>⟨G.gh_lt w hgh b hb,fun h=>h.elim⟩⟩,⟨by simp [frame0,hlen],fun t d hd=>?_,fun t d hd=>?_⟩,Below.refl _ _⟩
  ·unfold frame0 at hd
   rw [List.getElem?_append] at hd
   split at hd
   ·rename_i hlt
    rw [List.length_map] at hlt
    rw [List.getElem?_map] at hd
    cases ht:ts[t]? with
    | none=>rw [ht] at hd;cases hd
    | some x =>
     rw [ht] at hd
     cases hd
     obtain ⟨v,h1,h2⟩:=ha.get t x ht
     have e:(vs.toArray ++ Array.replicate (fn.ntmps - vs.toArray.size) undef).getD t undef = v:=by
      have hlt':t < vs.length:=by omega
      rw [List.getElem?_eq_getElem hlt'] at h1
      simp only [Option.some.injEq] at h1
      simp [Array.getElem?_append,hlt',h1]
     rw [e]
     exact RepT.mono hro (fun _ _=>rfl) (Nat.le_refl _) (fun _ _ _=>rfl) h2
   ·rw [List.getElem?_replicate] at hd
    split at hd
    ·cases hd;trivial
    ·cases hd
  ·rw [List.getElem?_replicate] at hd
   split at hd <;> cases hd
 refine calls_marks (B:=w.heap.size) hf hb (ev_ok hok hK c hrl h ?_)
 intro e fr' hp' m' tmps' w1 ds' hr1 _ _ hM h4
 have fin:∀ w',Rl G w.heap.size w (List.replicate fn.ntmps none) fr' hp' m' tmps' w' → (match resTs G (List.replicate fn.ntmps none) fr' hp' res with
   | some ts=>match decRes G hp' rs ts with
    | some (y,os)=>if nodupB os then some y else none
    | none=>none
   | none=>none) = some y → ∃ v,(results fn tmps').run P w' = .ok v w' ∧ Ret G rs y w (.returned v) w':=by
  intro w' h1 h4
  split at h4
  ·rename_i ts' hts
   split at h4
   ·rename_i y' os hdec
    split at h4
    ·rename_i hnd
     cases h4
     obtain ⟨vs',h5,h6⟩:=resTs_ok (P:=P) hok h1.hh h1.hf res hts
     refine ⟨_,?_,ret_ok hok h1.hh h1.bl hdec hnd h6⟩
     show (do let vs ← fn.results.mapM (resM tmps');pure (if h:vs.size = 1 then vs[0] else Value.tuple vs):Sem Value).run P w' = _
     rw [hres]
     simp only [Sem.run_bind,Array.mapM_eq_mapM_toList,Sem.run_map,h5,Result.andThen_ok,Sem.run_pure]
     congr 1
     cases vs' with
     | nil=>rfl
     | cons a vs'=>cases vs' with
      | nil=>rfl
      | cons b vs'=>simp
    ·cases h4
   ·cases h4
  ·cases h4
 have fin2:∀ {X:Option (TyU G rs)},(if (noRange c || calm G (List.replicate fn.ntmps none) fr' hp') = true then X else none) = some y → X = some y ∧ (noRange c = true ∨ ∀ A A',Rl G w.heap.size w (List.replicate fn.ntmps none) fr' hp' m' tmps' A → Turns w.heap.size A A' → Rl G w.heap.size w (List.replicate fn.ntmps none) fr' hp' m' tmps' A'):=by
  intro X hX
  split at hX
  ·rename_i hc
   refine ⟨hX,?_⟩
   rcases Bool.or_eq_true_iff.1 hc with e | e
   ·exact .inl e
   ·exact .inr fun A A' hA ht=>hA.turn ht e (Nat.le_refl _)
  ·cases hX
 cases e with
 | normal=>obtain ⟨g1,g2⟩:=fin2 h4;exact ⟨.inl rfl,_,hM,_,hr1,g2,fun A hA=>fin A hA g1⟩
 | ret=>obtain ⟨g1,g2⟩:=fin2 h4;exact ⟨.inr rfl,_,hM,_,hr1,g2,fun A hA=>fin A hA g1⟩
 | exit id=>cases h4
end
section
variable {G} {w w' w0:World} {R R':Nat → Prop} {n n':Nat} {m m':Nat → Value} {r:β} {N:Nat} {hp hp':G.Hp} {env:G.Env} {fr:G.Fr} {tmps:Array Value} [Held]
theorem unB_ok (hok:G.Ok) (hh:HRel G N hp m w) {u:G.U} {t:G.T} {x:G.El u} {v:Value} (h:unB G u hp t = some x) (ht:RepT G w (Rof G hp m w) hp.length m t v):RepT G w (AllRo w) 0 (fun _=>undef) (toT G u x) v :=
 RepU.toT hok (unB_rep hok hh h ht)
theorem unR_ok (hok:G.Ok) (hh:HRel G N hp m w) {u:G.U} {t:G.T} {x:G.El u} {v:Value} (h:unR G u hp t = some x) (ht:RepT G w (Rof G hp m w) hp.length m t v):RepT G w (AllRo w) 0 (fun _=>undef) (.c (.rp (G.row u x))) v:=by
 have box:∀ (o:Nat) (cs:List G.C) (ps:List G.P'),RepO G w (Rof G hp m w) hp.length m N o (.box cs) → pvB G hp cs = some ps → G.unrow u ps = some x → RepT G w (Rof G hp m w) hp.length m (.c (.ptr o 0)) v →
   RepT G w (AllRo w) 0 (fun _=>undef) (.c (.rp (G.row u x))) v:=by
  rintro o cs ps ⟨b,t,vs,e1,e2,e3,e4,e5⟩ hps hx ⟨_,b',e6,rfl⟩
  rw [e1] at e6
  cases e6
  obtain ⟨h1,h2⟩:=pvB_ok hok hh hps e4
  obtain ⟨h3,h4⟩:=unrow_ok hok hx h1 h2
  refine ⟨b,0,rfl,(Array.getElem?_eq_some_iff.1 e3).1,fun j p hj=>?_⟩
  obtain ⟨y,h5,h6⟩:=h4 j p hj
  refine ⟨y,?_,h6⟩
  rw [Nat.zero_add,cell_of_row w b j vs t (0,0) e3]
  simpa using h5
 unfold unR at h
 split at h
 ·rename_i cells
  obtain ⟨b,off,rfl,hb,hc⟩:=ht
  obtain ⟨h1,h2⟩:=hok.unrow u cells x h
  refine ⟨b,off,rfl,hb.1,fun j p hj=>?_⟩
  have hlt:j < cells.length:=by
   have:=(List.getElem?_eq_some_iff.1 hj).1
   rw [hok.row_sz] at this
   omega
  obtain ⟨q,h3,h4⟩:=h2 j _ (List.getElem?_eq_getElem hlt)
  rw [hj] at h3
  cases h3
  obtain ⟨cv,h5,h6⟩:=hc j _ (List.getElem?_eq_getElem hlt)
  exact ⟨cv,h5,RepP.mono G (fun b hb=>hb.1) (fun _ _=>rfl) (RepP.weak G h6 h4)⟩
 ·rename_i o
  split at h
  ·rename_i cs ho
   split at h
   ·rename_i ps hps;exact box o cs ps (hh.obj o _ ho) hps h ht
   ·cases h
  ·rename_i cs ho
   split at h
   ·rename_i ps hps;exact box o cs ps (show RepO G w _ _ m N o (.lock cs) from hh.obj o (.lock cs) ho) hps h ht
   ·cases h
  ·cases h
 ·cases h
theorem castF_some {u u' r r':G.U} {F:G.El u' → Option (G.El r')} {F':G.El u → Option (G.El r)} (h:castF G F = some F'):∃ (h1:u' = u) (h2:r' = r),h1 ▸ h2 ▸ F = F':=by
 unfold castF at h
 split at h
 ·rename_i h1
  split at h
  ·rename_i h2;cases h;exact ⟨h1,h2,rfl⟩
  ·cases h
 ·cases h
theorem decC_ok (hok:G.Ok) (hh:HRel G N hp m w):∀ (ps:List (Pk G.U)) {os:List Nat} {y:TyP G ps} {vs:List Value},decC G hp ps os = some y →
  vs.length = os.length → (∀ (i o:Nat),os[i]? = some o → o < hp.length ∧ ∃ b:Nat,m o = .pointer (some ⟨b,0,none⟩) ∧ vs[i]? = some (Value.pointer (some ⟨b,0,none⟩))) → Args G w (argT G ps y) vs
 | [],[],y,vs,_,hl,_=>by obtain rfl:vs = []:=List.eq_nil_of_length_eq_zero hl;exact .nil
 | [],_ :: _,y,vs,h,_,_=>by cases h
 | .v u :: ps,os,y,vs,h,_,_=>by cases os <;> cases h
 | .fn u r :: ps,os,y,vs,h,_,_=>by cases os <;> cases h
 | .rp u :: ps,[],y,vs,h,_,_=>by cases h
 | .rp u :: ps,o :: os,y,vs,h,hl,hc=>by
  unfold decC at h
  split at h
  ·rename_i x z hx hz
   cases h
   cases vs with
   | nil=>simp at hl
   | cons v vs =>
    obtain ⟨h1,b,h2,h3⟩:=hc 0 o rfl
    cases h3
    exact .cons (unR_ok hok hh hx ⟨h1,b,h2,rfl⟩) (decC_ok hok hh ps hz (by simpa using hl) fun i o' hi=>hc (i + 1) o' hi)
  ·cases h
theorem resC_flat:∀ {ps:List G.P'} (k:Nat),(∀ p ∈ ps,∃ v,p = PV.val v) → resC G k ps = ps.map .pv
 | [],_,_=>rfl
 | p :: ps,k,h=>by
  obtain ⟨v,rfl⟩:=h p List.mem_cons_self
  show CV.pv (.val v) :: resC G k ps = _
  rw [resC_flat k fun q hq=>h q (List.mem_cons_of_mem _ hq)]
  rfl
end
section
variable {G} {w w' w0:World} {R R':Nat → Prop} {n n':Nat} {m m':Nat → Value} {r:β} {N:Nat} {hp hp':G.Hp} {env:G.Env} {fr:G.Fr} {tmps:Array Value}
theorem Ret.one (hok:G.Ok) {r:G.U} (hf:G.flat r = true) {y:G.El r} {e:Ending} (hgh:G.gh w) (h:Ret G [r] y w e w'):∃ v,e = .returned v ∧ Below w.heap.size w w' ∧ RepU G w' (fun _=>True) r y v:=by
 obtain ⟨v,rfl,hb,hr⟩:=h
 obtain ⟨m',h1,_,h3⟩:=hr held0 w.heap.size [] (fun _=>undef) ⟨fun o ob ho=>by simp at ho,fun o o' ob ob' b ho=>by simp at ho,Nat.le_refl _,fun _ h=>h.elim,hgh,fun b hb=>⟨G.gh_lt w hgh b hb,fun h=>h.elim⟩⟩
 refine ⟨v,rfl,hb,?_⟩
 have h4:RepT G w' (Rof G ([] ++ newO G [r] y) m' w') ([] ++ newO G [r] y).length m' (resT G 0 r y) v:=h3
 unfold resT at h4
 rw [resC_flat 0 (hok.flat r hf y)] at h4
 have hp:∀ {vs:List Value},RepL G w' (Rof G ([] ++ newO G [r] y) m' w') ([] ++ newO G [r] y).length m' ((G.row r y).map .pv) vs → vs.length = G.sz r ∧ ∀ (j:Nat) (p:G.P'),(G.row r y)[j]? = some p → ∃ z,vs[j]? = some z ∧ RepP G w' (fun _=>True) p z:=by
  intro vs hl
  refine ⟨by rw [hl.1,List.length_map,hok.row_sz],fun j p hj=>?_⟩
  obtain ⟨z,h5,h6⟩:=hl.2 j (.pv p) (by rw [List.getElem?_map,hj];rfl)
  exact ⟨z,h5,RepP.mono G (fun _ _=>trivial) (fun _ _=>rfl) h6⟩
 cases hag:G.ag r with
 | true =>
  rw [hag] at h4
  obtain ⟨vs,rfl,hl⟩:=h4
  obtain ⟨h5,h6⟩:=hp hl
  exact ⟨vs,by rw [hag],h5,h6⟩
 | false =>
  rw [hag] at h4
  cases hrow:G.row r y with
  | nil=>have:=hok.row_sz r y;rw [hrow] at this;have:=hok.pos r;simp at *;omega
  | cons p ps =>
   rw [hrow] at h4
   have h5:ps = []:=by
    have h6:=hok.row_sz r y
    rw [hrow,hok.one r hag] at h6
    exact List.eq_nil_of_length_eq_zero (by simpa using h6)
   subst h5
   obtain ⟨h5,h6⟩:=hp (vs:=[v]) (by rw [hrow];exact ⟨rfl,fun i c hi=>by
    cases i with
    | zero=>cases hi;exact ⟨v,rfl,h4⟩
    | succ i=>cases hi⟩)
   exact ⟨[v],by rw [hag],h5,h6⟩
end
section
variable {G} {w w' w0:World} {R R':Nat → Prop} {n n':Nat} {m m':Nat → Value} {r:β} {N:Nat} {hp hp':G.Hp} {env:G.Env} {fr:G.Fr} {tmps:Array Value} [Held]
theorem decF_ok (hok:G.Ok) {tbl:FuncId → Option (Fe G)} (htb:∀ f fe,tbl f = some fe → FnOk G f fe) (hh:HRel G N hp m w) {u r:G.U} {t:G.T} {F:G.El u → Option (G.El r)} {v:Value} (h:decF G tbl hp u r t = some F) (ht:RepT G w (Rof G hp m w) hp.length m t v) :
  RepT G w (AllRo w) 0 (fun _=>undef) (.c (.fn u r F)) v:=by
 unfold decF at h
 split at h
 ·obtain ⟨rfl,rfl,rfl⟩:=castF_some h
  have h1:=RepT.lower (n':=0) ht (by intro o ho;cases ho)
  exact RepT.mono (fun b (hb:Rof G hp m w b)=>hb.1) (fun _ _=>rfl) (Nat.le_refl _) (by intro o ho;cases ho) h1
 ·rename_i g caps
  split at h
  ·rename_i hfb
   split at h
   ·rename_i u' rest r' fn hfe
    split at h
    ·rename_i y hy
     obtain ⟨rfl,rfl,rfl⟩:=castF_some h
     obtain ⟨hpl,hok',_⟩:=htb _ _ hfe
     obtain ⟨vs,e1,e2,e3⟩:=ht
     have hargs:=decC_ok hok hh rest hy e2 e3
     refine ⟨g,vs,e1,hpl,hfb.1,hfb.2.1,fun w' hw hgh x z a hx hxa=>?_⟩
     have ha:Args G w' (argT G (.v u' :: rest) (x,y)) (a :: vs):=by
      refine .cons (RepU.toT hok hxa) ?_
      clear hx hxa hok' hfe hy h
      unfold Args at hargs
      generalize argT G rest y = ts at hargs
      clear e1 e2 e3
      induction hargs with
      | nil=>exact .nil
      | cons h1 _ ih=>exact .cons (RepT.mono (fun b (hb:b < w.heap.size)=>by
        have h2:=hw b hb
        rw [Array.getElem?_eq_getElem hb] at h2
        exact (Array.getElem?_eq_some_iff.1 h2).1) (fun b hb=>hw b hb) (Nat.le_refl _) (fun _ _ _=>rfl) h1) ih
     exact (hok' hfb.2.2 (x,y) z hx w' (a :: vs) hgh ha).mono fun e w'' hr=>Ret.one hok hfb.1 hgh hr
    ·cases h
   ·cases h
  ·cases h
 ·cases h
theorem decA_ok (hok:G.Ok) {tbl:FuncId → Option (Fe G)} (htb:∀ f fe,tbl f = some fe → FnOk G f fe) (hh:HRel G N hp m w):∀ (ps:List (Pk G.U)) {ts:List G.T} {x:TyP G ps} {vs:List Value},decA G tbl hp ps ts = some x → RepTs G w (Rof G hp m w) hp.length m ts vs → Args G w (argT G ps x) vs
 | [],[],x,vs,_,hr=>by cases hr;exact .nil
 | [],_ :: _,x,vs,h,_=>by cases h
 | .v u :: ps,[],x,vs,h,_=>by cases h
 | .rp u :: ps,[],x,vs,h,_=>by cases h
 | .fn u r :: ps,[],x,vs,h,_=>by cases h
 | .fn u r :: ps,t :: ts,x,vs,h,hr=>by
  unfold decA at h
  split at h
  ·rename_i y z hy hz
   cases h
   cases hr with
   | cons h1 h2=>exact .cons (decF_ok hok htb hh hy h1) (decA_ok hok htb hh ps hz h2)
  ·cases h
 | .v u :: ps,t :: ts,x,vs,h,hr=>by
  unfold decA at h
  split at h
  ·rename_i y z hy hz
   cases h
   cases hr with
   | cons h1 h2=>exact .cons (unB_ok hok hh hy h1) (decA_ok hok htb hh ps hz h2)
  ·cases h
 | .rp u :: ps,t :: ts,x,vs,h,hr=>by
  unfold decA at h
  split at h
  ·rename_i y z hy hz
   cases h
   cases hr with
   | cons h1 h2=>exact .cons (unR_ok hok hh hy h1) (decA_ok hok htb hh ps hz h2)
  ·cases h
theorem pvZ_ok (hok:G.Ok) (hh:HRel G N hp m w):∀ {cs:List G.C} {ps:List G.P'} {vs:List Value},pvB G hp cs = some ps → RepL G w (Rof G hp m w) hp.length m cs vs →
  vs.length = ps.length ∧ ∀ (j:Nat) (p:G.P'),ps[j]? = some p → ∃ x,vs[j]? = some x ∧ RepP G w (HelRo w) p x
 | [],ps,vs,h,hl=>by cases h;exact ⟨hl.1,by simp⟩
 | c :: cs,ps,vs,h,hl=>by
  have hro:∀ b,Rof G hp m w b → HelRo w b:=fun b hb=>⟨hb.1,fun hS=>hb.2 (.inl hS)⟩
  cases vs with
  | nil=>have:=hl.1;simp at this
  | cons v vs =>
   have htl:RepL G w (Rof G hp m w) hp.length m cs vs:=by have:=hl.drop 1;simpa using this
   obtain ⟨v',hv,hrep⟩:=hl.2 0 c rfl
   cases hv
   unfold pvB at h
   split at h
   ·rename_i p
    split at h
    ·rename_i ps' hps
     cases h
     obtain ⟨h1,h2⟩:=pvZ_ok hok hh hps htl
     refine ⟨by simp [h1],fun j q hj=>?_⟩
     cases j with
     | zero=>cases hj;exact ⟨v,rfl,RepP.mono G hro (fun _ _=>rfl) hrep⟩
     | succ j=>exact h2 j q hj
    ·cases h
   ·rename_i o
    split at h
    ·rename_i lk u l ps' ho hps
     cases h
     obtain ⟨h1,h2⟩:=pvZ_ok hok hh hps htl
     refine ⟨by simp [h1],fun j q hj=>?_⟩
     cases j with
     | zero =>
      cases hj
      obtain ⟨_,rfl,_⟩:=hrep
      have hrow:=hh.obj o _ ho
      exact ⟨_,rfl,RepP_row' hro (fun g hg=>⟨(hrow.blk rfl hg).2,fun hS=>by
       have h5:=hh.held g hS
       have h6:=(hrow.blk rfl hg).1
       omega⟩) hrow⟩
     | succ j=>exact h2 j q hj
    ·cases h
   ·rename_i o k
    split at h
    ·rename_i lk u d ps' ho hps
     split at h
     ·rename_i hk
      cases h
      obtain ⟨h1,h2⟩:=pvZ_ok hok hh hps htl
      refine ⟨by simp [h1],fun j q hj=>?_⟩
      cases j with
      | zero =>
       cases hj
       obtain ⟨hrow,hb⟩:=pre_row hok hh ho hk hrep
       exact ⟨v,rfl,RepP_row' (m:=fun _=>v) hro (fun g hg=>⟨((hh.obj o _ ho).blk rfl (hb g hg)).2,fun hS=>by
        have h5:=hh.held g hS
        have h6:=((hh.obj o _ ho).blk rfl (hb g hg)).1
        omega⟩) hrow⟩
      | succ j=>exact h2 j q hj
     ·cases h
    ·cases h
   ·cases h
theorem unZ_rep (hok:G.Ok) (hh:HRel G N hp m w) {u:G.U} {t:G.T} {x:G.El u} {v:Value} (h:unB G u hp t = some x) (ht:RepT G w (Rof G hp m w) hp.length m t v):RepU G w (HelRo w) u x v:=by
 unfold unB at h
 split at h
 ·rename_i cs hag
  split at h
  ·rename_i ps hps
   obtain ⟨vs,rfl,hl⟩:=ht
   obtain ⟨h1,h2⟩:=pvZ_ok hok hh hps hl
   obtain ⟨h3,h4⟩:=unrow_ok hok h h1 h2
   exact ⟨vs,by rw [hag],h3,h4⟩
  ·cases h
 ·rename_i c hag
  split at h
  ·rename_i ps hps
   obtain ⟨h1,h2⟩:=pvZ_ok hok hh (vs:=[v]) hps ⟨rfl,fun i c' hi=>by
    cases i with
    | zero=>cases hi;exact ⟨v,rfl,ht⟩
    | succ i=>cases hi⟩
   obtain ⟨h3,h4⟩:=unrow_ok hok h h1 h2
   exact ⟨[v],by rw [hag],h3,h4⟩
  ·cases h
 ·cases h
theorem rowsB_ok (hok:G.Ok) {u:G.U} (hs:G.sz u = 1):∀ {ps:List G.P'} {l:List (G.El u)},rowsB G u ps = some l → l.length = ps.length ∧ ∀ (k:Nat) (x:G.El u) (j:Nat) (p:G.P'),l[k]? = some x → (G.row u x)[j]? = some p → j = 0 ∧ ∃ q,ps[k]? = some q ∧ Weak G q p
 | [],l,h=>by cases h;exact ⟨rfl,fun k x j p hk=>by simp at hk⟩
 | q :: ps,l,h=>by
  unfold rowsB at h
  split at h
  ·rename_i x l' h1 h2
   cases h
   obtain ⟨h3,h4⟩:=rowsB_ok hok hs h2
   refine ⟨by simp [h3],fun k y j p hk hj=>?_⟩
   cases k with
   | zero =>
    cases hk
    have hlt:=(List.getElem?_eq_some_iff.1 hj).1
    rw [hok.row_sz,hs] at hlt
    have hj0:j = 0:=by omega
    subst hj0
    obtain ⟨q',e1,e2⟩:=(hok.unrow u [q] x h1).2 0 q rfl
    rw [hj] at e1
    cases e1
    exact ⟨rfl,q,rfl,e2⟩
   | succ k=>exact h4 k y j p hk hj
  ·cases h
theorem unMz_rep (hok:G.Ok) (hh:HRel G N hp m w) {u:G.U} {t:G.T} {x:G.El u} {v:Value} (h:unMz G u hp t = some x) (ht:RepT G w (Rof G hp m w) hp.length m t v):RepU G w (HelRo w) u x v:=by
 unfold unMz at h
 split at h
 ·rename_i u' o k
  split at h
  ·rename_i cs ho
   split at h
   ·rename_i ps hps
    split at h
    ·rename_i l hl
     split at h
     ·rename_i hc
      obtain ⟨hag,hs,hk⟩:=hc
      obtain ⟨_,b,e1,rfl⟩:=ht
      obtain ⟨b',t',vs,e2,hNb,hcell,hrl,h1⟩:=hh.obj o _ ho
      rw [e1] at e2
      cases e2
      obtain ⟨g1,g2⟩:=pvZ_ok hok hh hps hrl
      obtain ⟨r1,r2⟩:=rowsB_ok hok hs hl
      have hbS:HelRo w b:=⟨(Array.getElem?_eq_some_iff.1 hcell).1,fun hS=>by have:=hh.held b hS;omega⟩
      have hrep:RepP G w (HelRo w) (.sl u' l) (.slice (some ⟨b,0,none⟩) k k):=by
       have hlk:l.length = k:=by omega
       rw [← hlk]
       refine RepP.sl u' l _ b 0 l.length (fun q _=>(vs.toList[q]?).getD undef) (Nat.le_refl _) (fun _=>⟨rfl,hbS⟩) (fun q x j p hq hj=>?_) (fun q x j p hq hj=>?_)
       ·obtain ⟨rfl,q',e3,e4⟩:=r2 q x j p hq hj
        obtain ⟨y,e5,e6⟩:=g2 q q' e3
        rw [hs,Nat.mul_one,Nat.zero_add,Nat.add_zero,e5]
        rw [Array.getElem?_toList] at e5
        simp [World.cell?,hcell,e5]
       ·obtain ⟨rfl,q',e3,e4⟩:=r2 q x j p hq hj
        obtain ⟨y,e5,e6⟩:=g2 q q' e3
        simp only [e5,Option.getD_some]
        exact RepP.weak G e6 e4
      obtain ⟨h3,h4⟩:=unrow_ok hok (vs:=[.slice (some ⟨b,0,none⟩) k k]) h rfl (fun j p hj=>by
       cases j with
       | zero=>cases hj;exact ⟨_,rfl,hrep⟩
       | succ j=>cases hj)
      exact ⟨[.slice (some ⟨b,0,none⟩) k k],by rw [hag],h3,h4⟩
     ·cases h
    ·cases h
   ·cases h
  ·cases h
 ·exact unZ_rep hok hh h ht
theorem decZ_ok (hok:G.Ok) (hh:HRel G N hp m w):∀ (rs:List G.U) {ts:List G.T} {y:TyU G rs} {vs:List Value},decZ G hp rs ts = some y → RepTs G w (Rof G hp m w) hp.length m ts vs → RepTs G w (HelRo w) 0 (fun _=>undef) (resFL G rs y) vs
 | [],[],y,vs,h,hr=>by cases hr;exact .nil
 | [],_ :: _,y,vs,h,hr=>by cases h
 | [u],[],y,vs,h,hr=>by cases h
 | [u],[t],y,vs,h,hr=>by
  have h0:unMz G u hp t = some y:=h
  cases hr with
  | cons h1 h2 =>
   cases h2
   have h3:=unMz_rep hok hh h0 h1
   exact .cons (h3.toT hok) .nil
 | [u],_ :: _ :: _,y,vs,h,hr=>by cases h
 | u :: u' :: us,[],y,vs,h,hr=>by cases h
 | u :: u' :: us,t :: ts,y,vs,h,hr=>by
  have h0:(match unMz G u hp t,decZ G hp (u' :: us) ts with
   | some x,some y=>some (x,y)
   | _,_=>none) = some y:=h
  split at h0
  ·rename_i x z hx hz
   cases h0
   cases hr with
   | cons h1 h2=>exact .cons ((unMz_rep hok hh hx h1).toT hok) (decZ_ok hok hh (u' :: us) hz h2)
  ·cases h0
theorem fd_rep {R:Nat → Prop} {n:Nat} {m:Nat → Value} {ts:List G.T} {vs:List Value} (h:RepTs G w R n m ts vs):RepD G w R n m (tupF G ts) (tupV vs):=by
 cases h with
 | nil=>exact ⟨[],rfl,rfl,fun i t hi=>by cases hi⟩
 | cons h1 h2 =>
  cases h2 with
  | nil=>exact h1
  | cons h3 h4=>exact ⟨_,rfl,(RepTs.cons h1 (.cons h3 h4)).length,(RepTs.cons h1 (.cons h3 h4)).get⟩
theorem fnz_ok (hok:G.Ok) {K:G.KT} (hK:CallOk G K) {f:FuncId} {fn:Func} {c:Code} (hf:P.funcs[f]? = some fn) (hb:fn.body = some c) {an:An G.U} {ts:List G.T} {rs:List G.U} {y:TyU G rs} {k:Nat} (hk:fn.ntmps = k)
  {res:List ResultVar} (hres:fn.results = res.toArray) (h:evZ G K c an k res rs ts = some y) {w:World} {vs:List Value} (hgh:GhOk G w.heap.size w) (hS:∀ b,Held.S b → b < w.heap.size) (ha:RepTs G w (HelRo w) 0 (fun _=>undef) ts vs):Calls P f vs.toArray w (RetZ G rs y w):=by
 subst hk
 have hlen:=ha.length
 have hro:∀ b,HelRo w b → Rof G [] (fun _=>undef) w b:=fun b hb=>⟨hb.1,fun h=>h.elim hb.2 fun ⟨o,ob,ho,_⟩=>by simp at ho⟩
 have hrl:Rl G w.heap.size w (List.replicate fn.ntmps none) (frame0 G fn.ntmps ts) [] (fun _=>undef) (vs.toArray ++ Array.replicate (fn.ntmps - vs.toArray.size) undef) w:=by
  refine ⟨⟨fun o ob ho=>by simp at ho,fun o o' ob ob' b ho=>by simp at ho,Nat.le_refl _,hS,hgh⟩,⟨by simp [frame0,hlen],fun t d hd=>?_,fun t d hd=>?_⟩,Below.refl _ _⟩
  ·unfold frame0 at hd
   rw [List.getElem?_append] at hd
   split at hd
   ·rename_i hlt
    rw [List.length_map] at hlt
    rw [List.getElem?_map] at hd
    cases ht:ts[t]? with
    | none=>rw [ht] at hd;cases hd
    | some x =>
     rw [ht] at hd
     cases hd
     obtain ⟨v,h1,h2⟩:=ha.get t x ht
     have e:(vs.toArray ++ Array.replicate (fn.ntmps - vs.toArray.size) undef).getD t undef = v:=by
      have hlt':t < vs.length:=by omega
      rw [List.getElem?_eq_getElem hlt'] at h1
      simp only [Option.some.injEq] at h1
      simp [Array.getElem?_append,hlt',h1]
     rw [e]
     exact RepT.mono hro (fun _ _=>rfl) (Nat.le_refl _) (fun _ _ _=>rfl) h2
   ·rw [List.getElem?_replicate] at hd
    split at hd
    ·cases hd;trivial
    ·cases hd
  ·rw [List.getElem?_replicate] at hd
   split at hd <;> cases hd
 refine calls_marks (B:=w.heap.size) hf hb (ev_ok hok hK c hrl h ?_)
 intro e fr' hp' m' tmps' w1 ds' hr1 _ _ hM h4
 have fin:∀ w',Rl G w.heap.size w (List.replicate fn.ntmps none) fr' hp' m' tmps' w' → (match resTs G (List.replicate fn.ntmps none) fr' hp' res with
   | some ts=>decZ G hp' rs ts
   | none=>none) = some y → ∃ v,(results fn tmps').run P w' = .ok v w' ∧ RetZ G rs y w (.returned v) w':=by
  intro w' h1 h4
  split at h4
  ·rename_i ts' hts
   obtain ⟨vs',h5,h6⟩:=resTs_ok (P:=P) hok h1.hh h1.hf res hts
   refine ⟨tupV vs',?_,_,rfl,h1.bl,fd_rep (decZ_ok hok h1.hh rs h4 h6)⟩
   show (do let vs ← fn.results.mapM (resM tmps');pure (if h:vs.size = 1 then vs[0] else Value.tuple vs):Sem Value).run P w' = _
   rw [hres]
   simp only [Sem.run_bind,Array.mapM_eq_mapM_toList,Sem.run_map,h5,Result.andThen_ok,Sem.run_pure]
   congr 1
   cases vs' with
   | nil=>rfl
   | cons a vs'=>cases vs' with
    | nil=>rfl
    | cons b vs'=>simp [tupV]
  ·cases h4
 have fin2:∀ {X:Option (TyU G rs)},(if (noRange c || calm G (List.replicate fn.ntmps none) fr' hp') = true then X else none) = some y → X = some y ∧ (noRange c = true ∨ ∀ A A',Rl G w.heap.size w (List.replicate fn.ntmps none) fr' hp' m' tmps' A → Turns w.heap.size A A' → Rl G w.heap.size w (List.replicate fn.ntmps none) fr' hp' m' tmps' A'):=by
  intro X hX
  split at hX
  ·rename_i hc
   refine ⟨hX,?_⟩
   rcases Bool.or_eq_true_iff.1 hc with e | e
   ·exact .inl e
   ·exact .inr fun A A' hA ht=>hA.turn ht e (Nat.le_refl _)
  ·cases hX
 cases e with
 | normal=>obtain ⟨g1,g2⟩:=fin2 h4;exact ⟨.inl rfl,_,hM,_,hr1,g2,fun A hA=>fin A hA g1⟩
 | ret=>obtain ⟨g1,g2⟩:=fin2 h4;exact ⟨.inr rfl,_,hM,_,hr1,g2,fun A hA=>fin A hA g1⟩
 | exit id=>cases h4
theorem unV_rep (hok:G.Ok) {R:Nat → Prop} {n:Nat} {u:G.U} {t:G.T} {x:G.El u} {v:Value} (h:unV G u t = some x) (ht:RepT G w R n m t v):RepU G w R u x v:=by
 unfold unV at h
 split at h
 ·rename_i cs hag
  split at h
  ·rename_i ps hps
   obtain ⟨vs,rfl,hl⟩:=ht
   obtain ⟨h1,h2⟩:=pvs_ok hps hl
   obtain ⟨h3,h4⟩:=unrow_ok hok h h1 h2
   exact ⟨vs,by rw [hag],h3,h4⟩
  ·cases h
 ·rename_i c hag
  split at h
  ·rename_i ps hps
   obtain ⟨h1,h2⟩:=pvs_ok (vs:=[v]) hps ⟨rfl,fun i c' hi=>by
    cases i with
    | zero=>cases hi;exact ⟨v,rfl,ht⟩
    | succ i=>cases hi⟩
   obtain ⟨h3,h4⟩:=unrow_ok hok h h1 h2
   exact ⟨[v],by rw [hag],h3,h4⟩
  ·cases h
 ·cases h
theorem decV_ok (hok:G.Ok) {R:Nat → Prop} {n:Nat}:∀ (ps:List (Pk G.U)) {ts:List G.T} {x:TyP G ps} {vs:List Value},decV G ps ts = some x → RepTs G w R n m ts vs → RepTs G w R 0 (fun _=>undef) (argT G ps x) vs
 | [],[],x,vs,_,hr=>by cases hr;exact .nil
 | [],_ :: _,x,vs,h,_=>by cases h
 | .v u :: ps,[],x,vs,h,_=>by cases h
 | .rp u :: ps,ts,x,vs,h,_=>by cases ts <;> cases h
 | .fn u r :: ps,ts,x,vs,h,_=>by cases ts <;> cases h
 | .v u :: ps,t :: ts,x,vs,h,hr=>by
  unfold decV at h
  split at h
  ·rename_i y z hy hz
   cases h
   cases hr with
   | cons h1 h2=>exact .cons ((unV_rep hok hy h1).toT hok) (decV_ok hok ps hz h2)
  ·cases h
theorem fl_refs:∀ (rs:List G.U) (y:TyU G rs),∀ t ∈ resFL G rs y,refsT t = []
 | [],_,t,h=>by cases h
 | [u],x,t,h=>by rw [List.mem_singleton.1 h];exact toT_refs _ _
 | u :: v :: us,(x,y),t,h=>by
  rcases List.mem_cons.1 h with rfl | h
  ·exact toT_refs _ _
  ·exact fl_refs (v :: us) y t h
theorem fd_refs (rs:List G.U) (y:TyU G rs):refsD (resFD G rs y) = []:=by
 unfold resFD
 have h:=fl_refs rs y
 generalize resFL G rs y = ts at h
 unfold tupF
 split
 ·rename_i t
  exact h t (List.mem_singleton.2 rfl)
 ·show List.flatMap refsT _ = []
  rw [List.flatMap_eq_nil_iff]
  exact h
theorem tblK_ok (hok:G.Ok) {tbl:FuncId → Option (Fe G)} (h:∀ f fe,tbl f = some fe → FnOk G f fe):CallOk G (tblK G tbl):=by
 intro β f ts hp k r hk
 unfold tblK at hk
 split at hk
 ·rename_i fe hfe
  obtain ⟨h1,h2,h2z⟩:=h f fe hfe
  refine ⟨h1,fun N m w vs hh hr=>?_⟩
  split at hk
  rename_i hfz
  split at hk
  ·rename_i x hx
   rw [Option.bind_eq_some_iff] at hk
   obtain ⟨y,hy,hk⟩:=hk
   refine (h2 hfz x y hy w vs hh.gh.1 (decA_ok hok h hh fe.ps hx hr)).mono ?_
   rintro e w' ⟨v,rfl,hb,hret⟩
   obtain ⟨m',h3,h4,h5⟩:=hret _ N hp m hh
   exact ⟨v,_,m',_,[],rfl,h3,h4.kp (by simp),fun o ho _=>h4.map o ho,by simp,hb.mono hh.base,h5,hk,fun _ b hlt=>hb.block b hlt⟩
  ·cases hk
  rename_i hfz
  split at hk
  ·rename_i x hx
   rw [Option.bind_eq_some_iff] at hk
   obtain ⟨y,hy,hk⟩:=hk
   have hargs:=decV_ok hok fe.ps hx hr
   refine (h2z hfz ⟨Own G hp m⟩ x y hy w vs ⟨hh.gh.1,fun b hb=>⟨G.gh_lt w hh.gh.1 b hb,fun hO=>by
    rcases hO with hS | ⟨o,ob,ho,hl,hbk⟩
    ·exact (hh.gh.2 b hb).2 hS
    ·have h3:=((hh.obj o ob ho).blk hl hbk).1
     have h4:=(hh.gh.2 b hb).1
     omega⟩⟩ (fun b hb=>?_) hargs).mono ?_
   ·rcases hb with hS | ⟨o,ob,ho,hl,hbk⟩
    ·have:=hh.held b hS
     have:=hh.base
     omega
    ·exact ((hh.obj o ob ho).blk hl hbk).2
   ·rintro e w' ⟨v,rfl,hb,hret⟩
    obtain ⟨g1,g2⟩:=hh.ext (w':=w') (m':=m) hb.size (fun b hlt=>hb.block b hlt) [] (fun _ _=>rfl) (fun i ob hi=>by cases hi) (fun i ob b hi=>by cases hi) (fun i j ob ob' b hi=>by cases hi)
    rw [List.append_nil] at g1 g2
    exact ⟨v,hp,m,_,[],rfl,g1,g2.kp (Nat.le_refl _),fun _ _ _=>rfl,Nat.le_refl _,hb.mono hh.base,hret.mono (fun b hb=>hb) (fun _ _=>rfl) (Nat.zero_le _) (fun o ho=>by rw [fd_refs] at ho;cases ho),hk,fun _ b hlt=>hb.block b hlt⟩
  ·cases hk
 ·cases hk
theorem altK_ok {dom:FuncId → Bool} {K1 K2:G.KT} (h1:CallOk G K1) (h2:CallOk G K2):CallOk G (altK G dom K1 K2):=by
 intro β f ts hp k r hk
 unfold altK at hk
 split at hk
 ·exact h1 β f ts hp k r hk
 ·exact h2 β f ts hp k r hk
end
section
variable {P:Program} (G:Sg P)
def lookF (l:List (FuncId × Fe G)) (f:FuncId):Option (Fe G):=match l with
 | []=>none
 | (g,fe) :: l=>if g = f then some fe else lookF l f
def lstK (l:List (FuncId × Fe G)):G.KT:=tblK G (lookF G l)
def bodyOf (fn:Func):Code:=fn.body.getD .skip
def AllOk (l:List (FuncId × Fe G)):Prop:=∀ p ∈ l,FnOk G p.1 p.2
variable {G}
theorem lnil:AllOk G []:=fun p hp=>by cases hp
theorem lcons {f:FuncId} {fe:Fe G} {l:List (FuncId × Fe G)} (h:FnOk G f fe) (hl:AllOk G l):AllOk G ((f,fe) :: l):=fun p hp=>by
 rcases List.mem_cons.1 hp with rfl | hp
 ·exact h
 ·exact hl p hp
theorem lookF_mem:∀ {l:List (FuncId × Fe G)} {f:FuncId} {fe:Fe G},lookF G l f = some fe → (f,fe) ∈ l
 | [],f,fe,h=>by cases h
 | (g,fe') :: l,f,fe,h=>by
  unfold lookF at h
  split at h
  ·rename_i e;subst e;cases h;exact List.mem_cons_self
  ·exact List.mem_cons_of_mem _ (lookF_mem h)
theorem lstK_ok [Held] (hok:G.Ok) {l:List (FuncId × Fe G)} (h:AllOk G l):CallOk G (lstK G l):=tblK_ok hok fun f fe hf=>h (f,fe) (lookF_mem hf)
theorem fnOk_of (hok:G.Ok) {K:G.KT} (hK:CallOk G K) {f:FuncId} {fn:Func} (hf:P.funcs[f]? = some fn) (hn:(fn.name == "runtime.NumGoroutine") = false) (hb:fn.body.isSome = true) {an:An G.U} {k:Nat} (hk:(fn.ntmps == k) = true) {res:List ResultVar} {fe:Fe G} (hfz:G.fz f = false) (hres:fn.results = res.toArray)
  (hev:∀ x:TyP G fe.ps,evF G K (bodyOf fn) an k res fe.rs (argT G fe.ps x) = fe.fn x):FnOk G f fe:=by
 obtain ⟨c,hc⟩:=Option.isSome_iff_exists.1 hb
 have hbo:bodyOf fn = c:=by unfold bodyOf;rw [hc];rfl
 refine ⟨⟨fn,hf,by simpa using hn,by rw [hc];rfl⟩,fun _ x y hy w vs hgh ha=>?_,fun h=>by rw [hfz] at h;cases h⟩
 have h:=hev x
 rw [hbo,hy] at h
 exact fn_ok hok hK hf hc (by simpa using hk) hres h hgh ha
theorem fnOkz_of (hok:G.Ok) {K:G.KT} (hK:∀ (_:Held),CallOk G K) {f:FuncId} {fn:Func} (hf:P.funcs[f]? = some fn) (hn:(fn.name == "runtime.NumGoroutine") = false) (hb:fn.body.isSome = true) {an:An G.U} {k:Nat} (hk:(fn.ntmps == k) = true) {res:List ResultVar} {fe:Fe G} (hfz:G.fz f = true) (hres:fn.results = res.toArray)
  (hev:∀ x:TyP G fe.ps,evZ G K (bodyOf fn) an k res fe.rs (argT G fe.ps x) = fe.fn x):FnOk G f fe:=by
 obtain ⟨c,hc⟩:=Option.isSome_iff_exists.1 hb
 have hbo:bodyOf fn = c:=by unfold bodyOf;rw [hc];rfl
 refine ⟨⟨fn,hf,by simpa using hn,by rw [hc];rfl⟩,fun h=>(by rw [hfz] at h;cases h),fun _ H x y hy w vs hgh hS ha=>?_⟩
 have h:=hev x
 rw [hbo,hy] at h
 exact fnz_ok hok (hK H) hf hc (by simpa using hk) hres h hgh hS ha
end
end
end Go.Proofs.YtgbicnkpnhifgaaGreatDoor

namespace Go.Proofs.YtgbicnkpnhifgaaGreatDoor
noncomputable section
open Go.RowKit
structure Inl (U:Type):Type where
 f:FuncId
 n:Nat
 ids:List Nat
 ps:List Nat
 code:Code
 an:An U
 ntmps:Nat
 res:List ResultVar
variable {P:Program} (G:Sg P) {β:Type}
def restO (ids:List Nat):Nat → G.Hp → G.Hp → G.Hp
 | _,[],[]=>[]
 | _,[],_ :: hp'=>.dead :: hp'
 | i,ob :: l,ob' :: l'=>(if ids.contains i then ob' else ob) :: restO ids (i + 1) l l'
 | _,_ :: _,[]=>[]
def tupOf:List G.T → G.D
 | [t]=>.t t
 | ts=>.tup ts
def mvOf (ids ps:List Nat) (hp:G.Hp):List Nat:=ids.filter fun o=>!ps.contains o && match hp[o]? with
 | some ob=>ob.mov
 | none=>false
def inlRun (i:Inl G.U) (K:G.KT) (ts:List G.T) (hp:G.Hp) (k:List Nat → G.Hp → G.D → Option β):Option β :=
 ev G K i.code i.an β (List.replicate i.ntmps none) (frame0 G i.ntmps ts) (headO G i.ids 0 hp ++ [.pins i.ps]) fun e fr hp'=>match e with
  | .exit _=>none
  | _=>if (noRange i.code || calm G (List.replicate i.ntmps none) fr hp') = true then (match resTs G (List.replicate i.ntmps none) fr hp' i.res with
   | some ts=>k (mvOf G i.ids i.ps hp) (restO G i.ids 0 hp hp') (tupOf G ts)
   | none=>none) else none
def lookI:List (Inl G.U) → FuncId → Nat → Option (Inl G.U)
 | [],_,_=>none
 | i :: l,f,n=>if i.f = f ∧ i.n = n then some i else lookI l f n
def inlK (l:List (Inl G.U)) (K0:G.KT):Nat → G.KT
 | 0=>K0
 | d + 1=>fun _ f ts hp k=>match lookI G l f hp.length with
  | some i=>if (!quietC G f ts || i.ids.isEmpty) = true then inlRun G i (inlK l K0 d) ts hp k else none
  | none=>K0 _ f ts hp k
def InlOk (l:List (Inl G.U)):Prop:=∀ i ∈ l,∃ fn,P.funcs[i.f]? = some fn ∧ fn.name ≠ "runtime.NumGoroutine" ∧ fn.body = some i.code ∧ fn.ntmps = i.ntmps ∧ fn.results = i.res.toArray
section
variable {G} {w w' w0:World} {m m':Nat → Value} {r:β} {N:Nat} {hp hp':G.Hp} [Held]
theorem restO_get (ids:List Nat):∀ (i:Nat) (hp hp':G.Hp) (o:Nat),hp.length ≤ hp'.length → (restO G ids i hp hp')[o]? = match hp[o]? with
  | some ob=>if ids.contains (i + o) then hp'[o]? else some ob
  | none=>if o = hp.length then (hp'[o]?).map (fun _=>.dead) else hp'[o]?
 | _,[],[],o,_=>by simp [restO]
 | _,[],_ :: hp',0,_=>by simp [restO]
 | _,[],_ :: hp',o + 1,_=>by simp [restO]
 | i,ob :: l,[],o,h=>by simp at h
 | i,ob :: l,ob' :: l',0,h=>by
  show some (if ids.contains i then ob' else ob) = _
  simp only [List.getElem?_cons_zero,Nat.add_zero]
  split <;> rfl
 | i,ob :: l,ob' :: l',o + 1,h=>by
  show (restO G ids (i + 1) l l')[o]? = _
  rw [restO_get ids (i + 1) l l' o (by simpa using h),show i + 1 + o = i + (o + 1) from by omega]
  simp only [List.getElem?_cons_succ,List.length_cons,Nat.add_right_cancel_iff]
theorem restO_length (ids:List Nat):∀ (i:Nat) (hp hp':G.Hp),hp.length ≤ hp'.length → (restO G ids i hp hp').length = hp'.length
 | _,[],[],_=>rfl
 | _,[],_ :: hp',_=>rfl
 | i,ob :: l,[],h=>by simp at h
 | i,ob :: l,ob' :: l',h=>by simp [restO,restO_length ids (i + 1) l l' (by simpa using h)]
theorem tupOf_ok {R:Nat → Prop} {n:Nat} {ts:List G.T} {vs:List Value} (h:RepTs G w R n m ts vs):RepD G w R n m (tupOf G ts) (match vs with | [v]=>v | vs=>.tuple vs.toArray):=by
 cases h with
 | nil=>exact ⟨[],rfl,rfl,fun i t hi=>by cases hi⟩
 | cons h1 h2 =>
  cases h2 with
  | nil=>exact h1
  | cons h3 h4=>exact ⟨_,rfl,(RepTs.cons h1 (.cons h3 h4)).length,(RepTs.cons h1 (.cons h3 h4)).get⟩
theorem inlRun_ok (hok:G.Ok) {K:G.KT} (hK:CallOk G K) {i:Inl G.U} {fn:Func} (hf:P.funcs[i.f]? = some fn) (hb:fn.body = some i.code) (hn:fn.ntmps = i.ntmps) (hres:fn.results = i.res.toArray) {ts:List G.T} {k:List Nat → G.Hp → G.D → Option β}
  (h:inlRun G i K ts hp k = some r) {vs:List Value} (hh:HRel G N hp m w) (ha:RepTs G w (Rof G hp m w) hp.length m ts vs) :
  Calls P i.f vs.toArray w fun e w'=>∃ v hp' m' d mv,e = .returned v ∧ HRel G N hp' m' w' ∧ Kp G hp m w hp' m' w' ∧ (∀ o,o < hp.length → o ∉ mv → m' o = m o) ∧ hp.length ≤ hp'.length ∧ Below N w w' ∧ RepD G w' (Rof G hp' m' w') hp'.length m' d v ∧ k mv hp' d = some r ∧ (i.ids = [] → ∀ b,b < w.heap.size → w'.heap[b]? = w.heap[b]?):=by
 have hlen:=ha.length
 obtain ⟨q1,q2⟩:=Inner.headRel hh i.ids
 obtain ⟨q3,q4⟩:=q1.ext (w':=w) (m':=m) (Nat.le_refl _) (fun _ _=>rfl) [.pins i.ps] (fun _ _=>rfl) (fun j ob hi=>by
  cases j with
  | zero=>cases hi;trivial
  | succ j=>cases hi) (fun j ob b hi hl _=>by
  cases j with
  | zero=>cases hi;cases hl
  | succ j=>cases hi) (fun j j' ob ob' b hi _ hl _ _ _=>by
  cases j with
  | zero=>cases hi;cases hl
  | succ j=>cases hi)
 have hrl:Rl G N w (List.replicate i.ntmps none) (frame0 G i.ntmps ts) (headO G i.ids 0 hp ++ [.pins i.ps]) m (vs.toArray ++ Array.replicate (fn.ntmps - vs.toArray.size) undef) w:=by
  refine ⟨q3,⟨by simp [frame0,hlen,hn],fun t d hd=>?_,fun t d hd=>?_⟩,Below.refl _ _⟩
  ·unfold frame0 at hd
   rw [List.getElem?_append] at hd
   split at hd
   ·rename_i hlt
    rw [List.length_map] at hlt
    rw [List.getElem?_map] at hd
    cases ht:ts[t]? with
    | none=>rw [ht] at hd;cases hd
    | some x =>
     rw [ht] at hd
     cases hd
     obtain ⟨v,h1,h2⟩:=ha.get t x ht
     have e:(vs.toArray ++ Array.replicate (fn.ntmps - vs.toArray.size) undef).getD t undef = v:=by
      have hlt':t < vs.length:=by omega
      rw [List.getElem?_eq_getElem hlt'] at h1
      simp only [Option.some.injEq] at h1
      simp [Array.getElem?_append,hlt',h1]
     rw [e]
     exact RepT.mono (fun b hb=>q4.ro b (q2 b hb)) (fun _ _=>rfl) (by rw [List.length_append,headO_length];omega) (fun _ _ _=>rfl) h2
   ·rw [List.getElem?_replicate] at hd
    split at hd
    ·cases hd;trivial
    ·cases hd
  ·rw [List.getElem?_replicate] at hd
   split at hd <;> cases hd
 refine calls_marks (B:=w.heap.size) hf hb (ev_ok hok hK i.code hrl h ?_)
 intro e fr' hp' m' tmps' w1 ds' hr1 hk1 _ hM h4
 have fin:∀ w',Rl G N w (List.replicate i.ntmps none) fr' hp' m' tmps' w' ∧ Kp G (headO G i.ids 0 hp ++ [.pins i.ps]) m w hp' m' w' → (match resTs G (List.replicate i.ntmps none) fr' hp' i.res with
   | some ts=>k (mvOf G i.ids i.ps hp) (restO G i.ids 0 hp hp') (tupOf G ts)
   | none=>none) = some r → ∃ v,(results fn tmps').run P w' = .ok v w' ∧ ∃ u hp' m' d mv,Ending.returned v = .returned u ∧ HRel G N hp' m' w' ∧ Kp G hp m w hp' m' w' ∧ (∀ o,o < hp.length → o ∉ mv → m' o = m o) ∧ hp.length ≤ hp'.length ∧ Below N w w' ∧ RepD G w' (Rof G hp' m' w') hp'.length m' d u ∧ k mv hp' d = some r ∧ (i.ids = [] → ∀ b,b < w.heap.size → w'.heap[b]? = w.heap[b]?):=by
  rintro w' ⟨h1,h2'⟩
  have h2:=(q4.kp (by simp)).trans h2'
  have hlater:i.ids = [] → ∀ b,b < w.heap.size → w'.heap[b]? = w.heap[b]?:=by
   intro hids b hb
   by_cases hS:Held.S b
   ·exact h1.bl.block b (hh.held b hS)
   by_cases hown:∃ o ob,hp[o]? = some ob ∧ ob.live = true ∧ blkOf (m o) = some b
   ·obtain ⟨o,ob,ho,hl,hbk⟩:=hown
    refine h2.hlk o (lockO G ob) b ?_ (lockO_lockd ob) ?_ hbk
    ·rw [headO_get,ho,Option.map_some,hids];rfl
    ·cases ob <;> first | rfl | exact hl
   ·exact h2.heap b (q2 b ⟨hb,fun h=>h.elim hS hown⟩)
  have fin:(match resTs G (List.replicate i.ntmps none) fr' hp' i.res with
    | some ts=>k (mvOf G i.ids i.ps hp) (restO G i.ids 0 hp hp') (tupOf G ts)
    | none=>none) = some r → ∃ v,(results fn tmps').run P w' = .ok v w' ∧ ∃ u hp' m' d mv,Ending.returned v = .returned u ∧ HRel G N hp' m' w' ∧ Kp G hp m w hp' m' w' ∧ (∀ o,o < hp.length → o ∉ mv → m' o = m o) ∧ hp.length ≤ hp'.length ∧ Below N w w' ∧ RepD G w' (Rof G hp' m' w') hp'.length m' d u ∧ k mv hp' d = some r ∧ (i.ids = [] → ∀ b,b < w.heap.size → w'.heap[b]? = w.heap[b]?):=by
   intro h4
   split at h4
   ·rename_i ts' hts
    obtain ⟨vs',h5,h6⟩:=resTs_ok (P:=P) hok h1.hh h1.hf i.res hts
    have hle:hp.length ≤ hp'.length:=by have:=h2.len;rw [headO_length] at this;exact this
    have hl2:(restO G i.ids 0 hp hp').length = hp'.length:=restO_length _ _ _ _ hle
    have hhead:∀ (o:Nat) (ob:G.O),hp[o]? = some ob → (headO G i.ids 0 hp)[o]? = some (if i.ids.contains o then ob else lockO G ob):=fun o ob ho=>by
     rw [headO_get,ho,Option.map_some,Nat.zero_add]
    have hget:∀ (o:Nat),(restO G i.ids 0 hp hp')[o]? = match hp[o]? with
      | some ob=>if i.ids.contains o then hp'[o]? else some ob
      | none=>if o = hp.length then (hp'[o]?).map (fun _=>.dead) else hp'[o]?:=fun o=>by rw [restO_get _ _ _ _ _ hle,Nat.zero_add]
    obtain ⟨c1,c2,_⟩:=h1.hh.cover (hp2:=restO G i.ids 0 hp hp') (by
     rw [hl2]
     intro o ob ho
     rw [hget] at ho
     have same:hp'[o]? = some ob → ob = .dead ∨ ∃ ob',hp'[o]? = some ob' ∧ Cov G hp'.length ob' ob:=fun ho=>.inr ⟨ob,ho,cov_lock rfl (h1.hh.obj o ob ho).lt⟩
     cases h0:hp[o]? with
     | none =>
      rw [h0] at ho
      simp only at ho
      split at ho
      ·rw [Option.map_eq_some_iff] at ho
       obtain ⟨_,_,rfl⟩:=ho
       exact .inl rfl
      ·exact same ho
     | some ob0 =>
      rw [h0] at ho
      simp only at ho
      split at ho
      ·exact same ho
      ·rename_i hne
       cases ho
       have h7:=hhead o ob h0
       rw [if_neg hne] at h7
       refine .inr ⟨_,h2.lk o _ h7 (lockO_lockd ob),cov_lock (lockO_idem ob) fun q hq=>?_⟩
       have:=(hh.obj o ob h0).lt q hq
       omega)
    have hmap:∀ o,o < hp.length → o ∉ mvOf G i.ids i.ps hp → m' o = m o:=by
     intro o ho hmv
     have h0:=List.getElem?_eq_getElem ho
     by_cases hps:o ∈ i.ps
     ·exact h2'.pn hp.length i.ps o (by rw [List.getElem?_append_right (by rw [headO_length];omega),headO_length];simp) hps (by rw [List.length_append,headO_length];omega)
     refine (h2.mv o _ (hhead o _ h0) ?_).1
     split
     ·rename_i hin
      unfold mvOf at hmv
      rw [List.mem_filter,h0] at hmv
      cases hm:(hp[o]).mov with
      | false=>rfl
      | true=>exact absurd ⟨by simpa using hin,by simp [hm,hps]⟩ hmv
     ·exact lockO_mov _
    refine ⟨_,?_,_,_,m',tupOf G ts',mvOf G i.ids i.ps hp,rfl,c1,⟨fun b hb=>c2 b (h2.ro b (q2 b hb)),fun b hb=>h2.heap b (q2 b hb),fun o ob ho hl=>?_,fun o ob ho hm=>?_,by omega,fun q os o hq ho hl=>h2.pn q os o (by rw [hhead q _ hq];split <;> rfl) ho (by rw [headO_length];exact hl),fun o ob b ho hl hv hb=>h2.hlk o ob b (by rw [hhead o _ ho,lockO_of ob hl];split <;> rfl) hl hv hb⟩,hmap,by omega,h1.bl,
     (tupOf_ok h6).mono c2 (fun _ _=>rfl) (Nat.le_of_eq hl2.symm) (fun _ _ _=>rfl),h4,hlater⟩
    ·show (do let vs ← fn.results.mapM (resM tmps');pure (if h:vs.size = 1 then vs[0] else Value.tuple vs):Sem Value).run P w' = _
     rw [hres]
     simp only [Sem.run_bind,Array.mapM_eq_mapM_toList,Sem.run_map,h5,Result.andThen_ok,Sem.run_pure]
     congr 1
     cases vs' with
     | nil=>rfl
     | cons a vs'=>cases vs' with
      | nil=>rfl
      | cons b vs'=>simp
    ·rw [hget,ho]
     simp only
     split
     ·rename_i hin
      have h7:=hhead o ob ho
      rw [if_pos hin] at h7
      exact h2.lk o ob h7 hl
     ·rfl
    ·have h7:=hhead o ob ho
     obtain ⟨e1,ob1,h8,h9⟩:=h2.mv o _ h7 (by split;exact hm;exact lockO_mov ob)
     refine ⟨e1,?_⟩
     rw [hget,ho]
     simp only
     split
     ·exact ⟨ob1,h8,h9⟩
     ·exact ⟨ob,rfl,hm⟩
   ·cases h4
  exact fin
 have fin2:∀ {X:Option β},(if (noRange i.code || calm G (List.replicate i.ntmps none) fr' hp') = true then X else none) = some r → X = some r ∧ (noRange i.code = true ∨ ∀ A A',(Rl G N w (List.replicate i.ntmps none) fr' hp' m' tmps' A ∧ Kp G (headO G i.ids 0 hp ++ [.pins i.ps]) m w hp' m' A) → Turns w.heap.size A A' → (Rl G N w (List.replicate i.ntmps none) fr' hp' m' tmps' A' ∧ Kp G (headO G i.ids 0 hp ++ [.pins i.ps]) m w hp' m' A')):=by
  intro X hX
  split at hX
  ·rename_i hc
   refine ⟨hX,?_⟩
   rcases Bool.or_eq_true_iff.1 hc with e | e
   ·exact .inl e
   ·exact .inr fun A A' hA ht=>⟨hA.1.turn ht e hh.base,hA.2.turn ht hrl.hh⟩
  ·cases hX
 cases e with
 | normal=>obtain ⟨g1,g2⟩:=fin2 h4;exact ⟨.inl rfl,_,hM,_,⟨hr1,hk1⟩,g2,fun A hA=>fin A hA g1⟩
 | ret=>obtain ⟨g1,g2⟩:=fin2 h4;exact ⟨.inr rfl,_,hM,_,⟨hr1,hk1⟩,g2,fun A hA=>fin A hA g1⟩
 | exit id=>cases h4
theorem lookI_mem:∀ {l:List (Inl G.U)} {f:FuncId} {n:Nat} {i:Inl G.U},lookI G l f n = some i → i ∈ l ∧ i.f = f
 | [],f,n,i,h=>by cases h
 | j :: l,f,n,i,h=>by
  unfold lookI at h
  split at h
  ·rename_i e;cases h;exact ⟨List.mem_cons_self,e.1⟩
  ·obtain ⟨h1,h2⟩:=lookI_mem h
   exact ⟨List.mem_cons_of_mem _ h1,h2⟩
theorem inlK_ok (hok:G.Ok) {l:List (Inl G.U)} (hl:InlOk G l) {K0:G.KT} (h0:CallOk G K0):∀ d,CallOk G (inlK G l K0 d)
 | 0=>h0
 | d + 1=>by
  intro β f ts hp k r h
  unfold inlK at h
  split at h
  ·rename_i i hi
   split at h
   ·rename_i hby
    obtain ⟨hmem,rfl⟩:=lookI_mem hi
    obtain ⟨fn,h1,h2,h3,h4,h5⟩:=hl i hmem
    refine ⟨⟨fn,h1,h2,by rw [h3];rfl⟩,fun N m w vs hh hr=>?_⟩
    refine (inlRun_ok hok (inlK_ok hok hl h0 d) h1 h3 h4 h5 h hh hr).mono ?_
    rintro e w' ⟨v,hp',m',d,mv,g1,g2,g3,g4,g5,g6,g7,g8,g9⟩
    exact ⟨v,hp',m',d,mv,g1,g2,g3,g4,g5,g6,g7,g8,fun hf=>by rw [hf] at hby;exact g9 (List.isEmpty_iff.1 (by simpa using hby))⟩
   ·cases h
  ·exact h0 β f ts hp k r h
theorem inil:InlOk G []:=fun i hi=>by cases hi
theorem icons {f:FuncId} {n:Nat} {ids:List Nat} {an:An G.U} {ps:List Nat} {k:Nat} {res:List ResultVar} {l:List (Inl G.U)} {fn:Func} (hf:P.funcs[f]? = some fn) (hn:(fn.name == "runtime.NumGoroutine") = false) (hb:fn.body.isSome = true) (hk:(fn.ntmps == k) = true) (hres:fn.results = res.toArray) (hl:InlOk G l) :
  InlOk G (⟨f,n,ids,ps,bodyOf fn,an,k,res⟩ :: l):=fun i hi=>by
 rcases List.mem_cons.1 hi with rfl | hi
 ·obtain ⟨c,hc⟩:=Option.isSome_iff_exists.1 hb
  exact ⟨fn,hf,by simpa using hn,by unfold bodyOf;rw [hc];rfl,by simpa using hk,hres⟩
 ·exact hl i hi
end
end
end Go.Proofs.YtgbicnkpnhifgaaGreatDoor

namespace Go.Proofs.YtgbicnkpnhifgaaGreatDoor
noncomputable section
open Go.RowKit
section
variable {P:Program} {G:Sg P}
def evR (G:Sg P) (K:G.KT) (c:Code) (an:An G.U) (n:Nat) (res:List ResultVar) (rs:List G.U) (ts:List G.T):Option (TyU G rs) :=
 ev G K c an (TyU G rs) (List.replicate n none) (frame0 G n ts) [] fun e fr hp=>match e with
  | .ret=>if noRange c = true then (match resTs G (List.replicate n none) fr hp res with
   | some ts=>match decRes G hp rs ts with
    | some (y,os)=>if nodupB os then some y else none
    | none=>none
   | none=>none) else none
  | _=>none
theorem code_ok (hok:G.Ok) {K:G.KT} (hK:CallOk G K) {fn:Func} {c:Code} {an:An G.U} {ts:List G.T} {rs:List G.U} {y:TyU G rs} {k:Nat}
  {res:List ResultVar} (hres:fn.results = res.toArray) (h:evR G K c an k res rs ts = some y) {w:World} {vs:List Value} (hgh:G.gh w) (ha:Args G w ts vs) {tmps:Array Value} (hsz:tmps.size = (frame0 G k ts).length)
  (hpre:∀ i v,vs[i]? = some v → tmps.getD i undef = v):c.wp P (fun e a w'=>e = .ret ∧ bodyPost P fn (Ret G rs y w) e a w') ⟨tmps,[]⟩ w:=by
 have hlen:=ha.length
 have hro:∀ b,AllRo w b → Rof G [] (fun _=>undef) w b:=fun b hb=>⟨hb,fun h=>h.elim (fun h=>h) fun ⟨o,ob,ho,_⟩=>by simp at ho⟩
 have hrl:Rl G w.heap.size w (List.replicate k none) (frame0 G k ts) [] (fun _=>undef) tmps w:=by
  refine ⟨⟨fun o ob ho=>by simp at ho,fun o o' ob ob' b ho=>by simp at ho,Nat.le_refl _,fun _ h=>h.elim,hgh,fun b hb=>⟨G.gh_lt w hgh b hb,fun h=>h.elim⟩⟩,⟨hsz,fun t d hd=>?_,fun t d hd=>?_⟩,Below.refl _ _⟩
  ·unfold frame0 at hd
   rw [List.getElem?_append] at hd
   split at hd
   ·rename_i hlt
    rw [List.length_map] at hlt
    rw [List.getElem?_map] at hd
    cases ht:ts[t]? with
    | none=>rw [ht] at hd;cases hd
    | some x =>
     rw [ht] at hd
     cases hd
     obtain ⟨v,h1,h2⟩:=ha.get t x ht
     rw [hpre t v h1]
     exact RepT.mono hro (fun _ _=>rfl) (Nat.le_refl _) (fun _ _ _=>rfl) h2
   ·rw [List.getElem?_replicate] at hd
    split at hd
    ·cases hd;trivial
    ·cases hd
  ·rw [List.getElem?_replicate] at hd
   split at hd <;> cases hd
 refine ev_ok hok hK c hrl h ?_
 intro e fr' hp' m' tmps' w' ds' h1 _ _ hM h4
 have fin:(match resTs G (List.replicate k none) fr' hp' res with
   | some ts=>match decRes G hp' rs ts with
    | some (y,os)=>if nodupB os then some y else none
    | none=>none
   | none=>none) = some y → ∃ v,(results fn tmps').run P w' = .ok v w' ∧ Ret G rs y w (.returned v) w':=by
  intro h4
  split at h4
  ·rename_i ts' hts
   split at h4
   ·rename_i y' os hdec
    split at h4
    ·rename_i hnd
     cases h4
     obtain ⟨vs',h5,h6⟩:=resTs_ok (P:=P) hok h1.hh h1.hf res hts
     refine ⟨_,?_,ret_ok hok h1.hh h1.bl hdec hnd h6⟩
     show (do let vs ← fn.results.mapM (resM tmps');pure (if h:vs.size = 1 then vs[0] else Value.tuple vs):Sem Value).run P w' = _
     rw [hres]
     simp only [Sem.run_bind,Array.mapM_eq_mapM_toList,Sem.run_map,h5,Result.andThen_ok,Sem.run_pure]
     congr 1
     cases vs' with
     | nil=>rfl
     | cons a vs'=>cases vs' with
      | nil=>rfl
      | cons b vs'=>simp
    ·cases h4
   ·cases h4
  ·cases h4
 cases e with
 | normal=>cases h4
 | ret =>
  simp only at h4
  split at h4
  ·rename_i hnr
   obtain ⟨Ds,e1,_,_,e4⟩:=hM
   rw [e4 hnr] at e1
   exact ⟨rfl,e1,fin h4⟩
  ·cases h4
 | exit id=>cases h4
structure CloneOf (c A B:Code) (t:TypeId):Prop where
 ok:∃ i0 o0 i1 o1 a0 m e yt,c = .seq (.region i0 o0 false) (.seq (.seq (.region i1 o1 false) (.cond (.tmp 4) A .skip)) B) ∧ o0 = #[a0] ∧ o1 = #[m,e] ∧
  a0.op = .assign (.const (.slice none 0 0)) ∧ a0.dst = some 2 ∧ a0.guard = none ∧ m.op = .move (.tmp 0) ∧ m.dst = some 3 ∧ m.guard = none ∧
  e.op = .binOp .eql t (.tmp 3) (.const (.slice none 0 0)) yt ∧ e.dst = some 4 ∧ e.guard = none
def hdC:Code → Code
 | .seq a _=>a
 | c=>c
def tlC:Code → Code
 | .seq _ b=>b
 | c=>c
def thenC:Code → Code
 | .cond _ a _=>a
 | c=>c
def isClone (c:Code) (t:TypeId):Bool:=match c with
 | .seq (.region _ o0 false) (.seq (.seq (.region _ o1 false) (.cond (.tmp 4) _ .skip)) _)=>match o0.toList,o1.toList with
  | [a0],[m,e]=>(match a0.op,a0.dst,a0.guard with
   | .assign (.const (.slice none 0 0)),some 2,none=>true
   | _,_,_=>false) && (match m.op,m.dst,m.guard with
   | .move (.tmp 0),some 3,none=>true
   | _,_,_=>false) && (match e.op,e.dst,e.guard with
   | .binOp .eql t' (.tmp 3) (.const (.slice none 0 0)) _,some 4,none=>t' == t
   | _,_,_=>false)
  | _,_=>false
 | _=>false
theorem isClone_of {c:Code} {t:TypeId} (h:isClone c t = true):CloneOf c (thenC (tlC (hdC (tlC c)))) (tlC (tlC c)) t:=by
 unfold isClone at h
 split at h
 ·rename_i i0 o0 i1 o1 A B
  split at h
  ·rename_i a0 m e h0 h1
   simp only [Bool.and_eq_true] at h
   obtain ⟨⟨ha,hm⟩,he⟩:=h
   split at ha
   ·rename_i p1 p2 p3
    split at hm
    ·rename_i q1 q2 q3
     split at he
     ·rename_i t' yt r1 r2 r3
      have:t' = t:=by simpa using he
      subst this
      exact ⟨i0,o0,i1,o1,a0,m,e,yt,rfl,Array.toList_inj.1 h0,Array.toList_inj.1 h1,p1,p2,p3,q1,q2,q3,r1,r2,r3⟩
     ·cases he
    ·cases hm
   ·cases ha
  ·cases h
 ·cases h
theorem clone_ok (hok:G.Ok) {K:G.KT} (hK:CallOk G K) {f:FuncId} {fn:Func} (hf:P.funcs[f]? = some fn) (hn:(fn.name == "runtime.NumGoroutine") = false) (hb:fn.body.isSome = true) {k:Nat} (hk:(fn.ntmps == k) = true) (hk8:5 ≤ k)
  {res:List ResultVar} (hfz:G.fz f = false) (hres:fn.results = res.toArray) {t:TypeId} (hc:isClone (bodyOf fn) t = true) {u lu:G.U} (hu:G.elt t = some u) {cast:G.El lu → List (G.El u)} (hT:∀ x,argT G [.v lu] (x,()) = [.c (.pv (.sl u (cast x)))])
  {F:G.El lu → Option (G.El lu)}
  (hB:∀ x,evR G K (tlC (tlC (bodyOf fn))) .nil k res [lu] (argT G [.v lu] (x,())) = F x)
  (hA:∀ x y,cast x = [] → F x = some y → evR G K (thenC (tlC (hdC (tlC (bodyOf fn))))) .nil k res [lu] (argT G [.v lu] (x,())) = some y):FnOk G f ⟨[.v lu],[lu],fun x=>F x.1⟩:=by
 obtain ⟨c,hbo⟩:=Option.isSome_iff_exists.1 hb
 have hbc:bodyOf fn = c:=by unfold bodyOf;rw [hbo];rfl
 rw [hbc] at hc hA hB
 refine ⟨⟨fn,hf,by simpa using hn,by rw [hbo];rfl⟩,fun _ x y hy w vs hgh ha=>?_,fun h=>by rw [hfz] at h;cases h⟩
 obtain ⟨x,⟨⟩⟩:=x
 have hy':F x = some y:=hy
 have ha':Args G w (argT G [.v lu] (x,())) vs:=ha
 have ha2:=ha'
 rw [hT x] at ha2
 cases ha2 with
 | cons hx hnil =>
  cases hnil
  rename_i v
  have hx':RepP G w (AllRo w) (.sl u (cast x)) v:=hx
  obtain ⟨A,n,cp,rfl,hnone⟩:∃ (A:Option Addr) (n cp:Nat),v = .slice A n cp ∧ (A = none → cast x = []):=by
   cases hx' with
   | sl _ _ A b off cap c hcap hcell hc hr =>
    refine ⟨A,_,cap,rfl,fun hA=>?_⟩
    rcases Nat.eq_zero_or_pos (cast x).length with h0 | h0
    ·exact List.eq_nil_of_length_eq_zero h0
    ·have:=(hcell h0).1
     rw [hA] at this;cases this
  refine calls_of_wp hf hbo ?_
  obtain ⟨i0,o0,i1,o1,a0,m,e,yt,hcc,h0,h1,p1,p2,p3,q1,q2,q3,r1,r2,r3⟩:=(isClone_of hc).ok
  generalize thenC (tlC (hdC (tlC c))) = cA at *
  generalize tlC (tlC c) = cB at *
  have hkk:fn.ntmps = k:=by simpa using hk
  subst hkk
  have hsz:(#[Value.slice A n cp] ++ Array.replicate (fn.ntmps - 1) undef).size = fn.ntmps:=by simp;omega
  rw [hcc]
  subst h0 h1
  refine wp_seq (wp_region_list ?_)
  have e0:(a0.wp P ⟨[Value.slice A n cp].toArray ++ Array.replicate (fn.ntmps - [Value.slice A n cp].toArray.size) undef,[]⟩ w) = a0.wp P ⟨#[Value.slice A n cp] ++ Array.replicate (fn.ntmps - 1) undef,[]⟩ w:=rfl
  show wpList P _ _ [a0] ⟨#[Value.slice A n cp] ++ Array.replicate (fn.ntmps - 1) undef,[]⟩ w
  unfold wpList
  rw [if_pos (by simp [Region.wanted,p3])]
  refine .inl (wp_valr (v:=.slice none 0 0) (w':=w) (by simp only [execOp,p1];rfl) ?_)
  rw [p2]
  show (Code.seq _ _).wp P _ _ w
  refine wp_seq (wp_seq (wp_region_list ?_))
  generalize ht1:(Act.put ⟨#[Value.slice A n cp] ++ Array.replicate (fn.ntmps - 1) undef,[]⟩ (some 2) (.slice none 0 0)) = a1
  have ha1:a1.tmps.size = fn.ntmps ∧ a1.tmps.getD 0 undef = .slice A n cp ∧ a1 = ⟨a1.tmps,[]⟩:=by
   subst ht1
   refine ⟨by simp [Act.put];omega,?_,rfl⟩
   show ((#[Value.slice A n cp] ++ Array.replicate (fn.ntmps - 1) undef).setIfInBounds 2 (.slice none 0 0)).getD 0 undef = _
   rw [Array.getD_eq_getD_getElem?,Array.getElem?_setIfInBounds,if_neg (by omega),Array.getElem?_append_left (by simp)]
   rfl
  show wpList P _ _ [m,e] a1 w
  unfold wpList
  rw [if_pos (by simp [Region.wanted,q3])]
  refine .inl (wp_valr (v:=.slice A n cp) (w':=w) (by simp only [execOp,q1];show (pure (Next.value (a1.eval (.tmp 0))):Sem Next).run P w = _;rw [show a1.eval (.tmp 0) = a1.tmps.getD 0 undef from rfl,ha1.2.1];rfl) ?_)
  rw [q2]
  generalize ht2:a1.put (some 3) (.slice A n cp) = a2
  have ha2':a2.tmps.size = fn.ntmps ∧ a2.tmps.getD 0 undef = .slice A n cp ∧ a2.tmps.getD 3 undef = .slice A n cp ∧ a2 = ⟨a2.tmps,[]⟩:=by
   subst ht2
   obtain ⟨g1,g2,g3⟩:=ha1
   rw [g3]
   refine ⟨by simp [Act.put,g1],?_,?_,rfl⟩
   ·simp only [Act.put,Array.getD_eq_getD_getElem?] at g2 ⊢
    rw [Array.getElem?_setIfInBounds,if_neg (by omega)]
    exact g2
   ·simp only [Act.put,Array.getD_eq_getD_getElem?]
    rw [Array.getElem?_setIfInBounds,if_pos rfl,if_pos (by omega)]
    rfl
  show wpList P _ _ [e] a2 w
  unfold wpList
  rw [if_pos (by simp [Region.wanted,r3])]
  have hu2:=hok.elt t u hu
  refine .inl (wp_valr (v:=.bool A.isNone) (w':=w) ?_ ?_)
  ·simp only [execOp,r1]
   rw [show a2.eval (.tmp 3) = a2.tmps.getD 3 undef from rfl,ha2'.2.2.1,show a2.eval (.const (.slice none 0 0)) = .slice none 0 0 from rfl]
   have hg:(eqGuard .eql t (.tmp 3) (.const (.slice none 0 0)) (.slice A n cp) (.slice none 0 0)).run P w = .ok () w:=by
    unfold eqGuard;simp
   simp only [Sem.run_bind,hg,Result.andThen_ok,Lib.run_eql_slice_nil w t (G.ty u) A n cp 0 0 hu2,Sem.run_pure]
  rw [r2]
  generalize ht3:a2.put (some 4) (.bool A.isNone) = a3
  have ha3:a3.tmps.size = fn.ntmps ∧ a3.tmps.getD 0 undef = .slice A n cp ∧ a3.eval (.tmp 4) = .bool A.isNone ∧ a3 = ⟨a3.tmps,[]⟩:=by
   subst ht3
   obtain ⟨g1,g2,_,g3⟩:=ha2'
   rw [g3]
   refine ⟨by simp [Act.put,g1],?_,?_,rfl⟩
   ·simp only [Act.put,Array.getD_eq_getD_getElem?] at g2 ⊢
    rw [Array.getElem?_setIfInBounds,if_neg (by omega)]
    exact g2
   ·show (a2.tmps.setIfInBounds 4 (.bool A.isNone)).getD 4 undef = _
    rw [Array.getD_eq_getD_getElem?,Array.getElem?_setIfInBounds,if_pos rfl,if_pos (by omega)]
    rfl
  have hfin:∀ {c:Code},evR G K c .nil fn.ntmps res [lu] (argT G [.v lu] (x,())) = some y → c.wp P (fun e a w'=>e = .ret ∧ bodyPost P fn (Ret G [lu] y w) e a w') ⟨a3.tmps,[]⟩ w:=fun h=>by
   refine code_ok hok hK hres h hgh ha' ?_ ?_
   ·rw [hT];simp [frame0,ha3.1];omega
   ·intro i v hi
    cases i with
    | zero=>cases hi;exact ha3.2.1
    | succ i=>cases hi
  show (Code.cond _ _ _).wp P _ a3 w
  refine wp_cond ha3.2.2.1 ?_
  cases A with
  | none =>
   show Code.wp P cA _ a3 w
   rw [ha3.2.2.2]
   refine wp_mono (hfin (hA x y (hnone rfl) hy')) fun e a' w' hq=>?_
   obtain ⟨rfl,hq⟩:=hq
   exact hq
  | some ad =>
   show Code.wp P .skip _ a3 w
   rw [ha3.2.2.2]
   refine wp_skip ?_
   show cB.wp P _ _ w
   exact wp_mono (hfin ((hB x).trans hy')) fun e a' w' hq=>hq.2
end
end
end Go.Proofs.YtgbicnkpnhifgaaGreatDoor

namespace Go.Proofs.YtgbicnkpnhifgaaGreatDoor
noncomputable section
open Go.RowKit Go.ChangeShapes Go.WideShapes Go.Deep
def fieldsOf (P:Program) (t:TypeId):Array Field:=match P.underlying t with
 | some (.struct fs)=>fs
 | _=>#[]
def fldOf (P:Program) (t:TypeId) (j:Nat):Field:=((fieldsOf P t)[j]?).getD { name:= "",type:=0,offset:=0,embedded:=false,tag:= "",pkgPath:= "",byteOffset:=0 }
section
variable {P:Program} (G:Sg P)
def PRep (w:World) (cs:List Value) (ps:List G.P'):Prop:=cs.length = ps.length ∧ ∀ (j:Nat) (p:G.P'),ps[j]? = some p → ∃ y,cs[j]? = some y ∧ RepP G w (AllRo w) p y
def Opens (u:G.U) (W:G.El u → Prop):Prop:=∀ {H:Type} {enc:TypeId × Value → H} {w:World} {base:Nat} {spare:Nat → Bool} {held:Bool} {fuel:Nat} {cs:List Value} {x:DataW H × List MemPlace},
 DataW.trod enc P w base spare held fuel (G.ty u) cs = some x → ∃ a:G.El u,PRep G w cs (G.row u a) ∧ W a
variable {G}
theorem PRep.nil {w:World}:PRep G w [] []:=⟨rfl,fun j p hj=>by cases hj⟩
theorem PRep.val {w:World} {v:Value} (h:v.oneCell' = true):PRep G w [v] [.val v]:=⟨rfl,fun j p hj=>by
 cases j with
 | zero=>cases hj;exact ⟨v,rfl,.val v h⟩
 | succ j=>cases hj⟩
theorem PRep.part {w:World} {cs:List Value} {ps qs:List G.P'} {off n:Nat} (h:PRep G w ((cs.drop off).take n) ps) (hn:ps.length = n) (k:PRep G w (cs.drop (off + n)) qs):PRep G w (cs.drop off) (ps ++ qs):=by
 have e1:=h.1
 have e2:=k.1
 rw [List.length_take,List.length_drop] at e1
 rw [List.length_drop] at e2
 refine ⟨by rw [List.length_drop,List.length_append];omega,fun j p hj=>?_⟩
 rw [List.getElem?_append] at hj
 split at hj
 ·rename_i hlt
  obtain ⟨y,h1,h2⟩:=h.2 j p hj
  rw [List.getElem?_take,if_pos (by omega)] at h1
  exact ⟨y,h1,h2⟩
 ·rename_i hge
  obtain ⟨y,h1,h2⟩:=k.2 _ p hj
  rw [List.getElem?_drop] at h1 ⊢
  exact ⟨y,by rw [← h1];congr 1;omega,h2⟩
theorem opens_int {u:G.U} {k:IntKind} (hu:P.underlying (G.ty u) = some (.int k)) (mk:Int → G.El u) (hrow:∀ z,G.row u (mk z) = [.val (.int k z)]) {W:G.El u → Prop} (hW:∀ z,(Lit.int k z).wf = true → W (mk z)):Opens G u W:=by
 intro H enc w base spare held fuel cs x h
 obtain ⟨z,rfl,_,hw⟩:=DataW.trod_int hu h
 exact ⟨mk z,by rw [hrow];exact .val rfl,hW z hw⟩
theorem opens_str {u:G.U} (hu:P.underlying (G.ty u) = some .string) (mk:ByteArray → G.El u) (hrow:∀ z,G.row u (mk z) = [.val (.string z)]) {W:G.El u → Prop} (hW:∀ z:ByteArray,z.size ≤ maxLen → W (mk z)):Opens G u W:=by
 intro H enc w base spare held fuel cs x h
 obtain ⟨z,rfl,_,hw⟩:=DataW.trod_string hu h
 exact ⟨mk z,by rw [hrow];exact .val rfl,hW z hw⟩
theorem cell_lt' {w:World} {a:Addr} {v:Value} (h:w.cell? a = some v):a.block < w.heap.size:=by
 unfold World.cell? at h
 rcases Nat.lt_or_ge a.block w.heap.size with h1 | h1
 ·exact h1
 ·rw [Array.getElem?_eq_none h1] at h;cases h
theorem opens_slice (hok:G.Ok) {u e:G.U} {te:TypeId} (hu:P.underlying (G.ty u) = some (.slice te)) (hte:te = G.ty e) (hC:P.cellsOf (G.ty e) = G.sz e) (mk:List (G.El e) → G.El u) (hrow:∀ l,G.row u (mk l) = [.sl e l]) {We:G.El e → Prop} (he:Opens G e We)
  {W:G.El u → Prop} (hW:∀ l,l.length ≤ maxLen → (∀ a ∈ l,We a) → W (mk l)):Opens G u W:=by
 intro H enc w base spare held fuel cs x h
 subst hte
 have hpos:=hok.pos e
 rcases open_slice hu h with ⟨rfl,_⟩ | ⟨a,len,cap,m,n,D,Pl,rfl,hb,hl,hm,hmm,hx,hi⟩
 ·refine ⟨mk [],?_,hW [] (Nat.zero_le _) (by simp)⟩
  rw [hrow]
  refine ⟨rfl,fun j p hj=>?_⟩
  cases j with
  | zero=>cases hj;exact ⟨_,rfl,.sl e [] none 0 0 0 (fun _ _=>undef) (by simp) (by simp) (by simp) (by simp)⟩
  | succ j=>cases hj
 ·have hlm:len ≤ m:=by rw [hmm];split <;> omega
  have hel:∀ i,i < len → ∃ z:G.El e × List Value,We z.1 ∧ PRep G w z.2 (G.row e z.1) ∧ ∀ j v,z.2[j]? = some v → w.cell? (a.add (i * G.sz e + j)) = some v:=by
   intro i hil
   obtain ⟨cs',hc,ht'⟩:=hi i (by omega)
   obtain ⟨z,hz,hwz⟩:=he ht'
   rw [hC] at hc
   obtain ⟨_,hcl,hat⟩:=World.cells?_some hc
   refine ⟨(z,cs'),hwz,hz,fun j v hj=>?_⟩
   have hjl:j < cs'.length:=(List.getElem?_eq_some_iff.1 hj).1
   have:=hat j (by omega)
   rw [← Go.Deep.add_add,this,hj]
  have hne:∀ i,i < len → Nonempty (G.El e × List Value):=fun i hi=>⟨(hel i hi).choose⟩
  rcases Nat.eq_zero_or_pos len with h0 | h0
  ·subst h0
   refine ⟨mk [],?_,hW [] (Nat.zero_le _) (by simp)⟩
   rw [hrow]
   refine ⟨rfl,fun j p hj=>?_⟩
   cases j with
   | zero=>cases hj;exact ⟨_,rfl,.sl e [] (some a) 0 0 cap (fun _ _=>undef) (by simp) (by simp) (by simp) (by simp)⟩
   | succ j=>cases hj
  ·haveI:Inhabited (G.El e × List Value):=⟨(hel 0 h0).choose⟩
   obtain ⟨f,hf⟩:=choose_lt hel
   have hlen:((List.range len).map fun i=>(f i).1).length = len:=by simp
   refine ⟨mk ((List.range len).map fun i=>(f i).1),?_,hW _ (by rw [hlen];omega) fun z hz=>?_⟩
   ·rw [hrow]
    refine ⟨rfl,fun j p hj=>?_⟩
    cases j with
    | succ j=>cases hj
    | zero =>
     cases hj
     refine ⟨_,rfl,?_⟩
     have hg:∀ i,i < len → ∀ (j:Nat) (p:G.P'),(G.row e (f i).1)[j]? = some p → ∃ y,(f i).2[j]? = some y ∧ RepP G w (AllRo w) p y ∧ w.cell? (a.add (i * G.sz e + j)) = some y:=fun i hi j p hj=>by
      obtain ⟨_,h1,h2⟩:=hf i hi
      obtain ⟨y,h3,h4⟩:=h1.2 j p hj
      exact ⟨y,h3,h4,h2 j y h3⟩
     have hrow0:0 < (G.row e (f 0).1).length:=by rw [hok.row_sz];exact hpos
     obtain ⟨y0,_,_,hc0⟩:=hg 0 h0 0 _ (List.getElem?_eq_getElem hrow0)
     have hs:=World.cell?_spot hc0
     have hlt:=cell_lt' hc0
     have hsp:a.spot = none:=by simpa [Addr.add] using hs
     obtain ⟨b,off,spot⟩:=a
     simp only at hsp
     subst hsp
     have hget:∀ (k:Nat) (z:G.El e),((List.range len).map fun i=>(f i).1)[k]? = some z → k < len ∧ z = (f k).1:=by
      intro k z hz
      have hk:=(List.getElem?_eq_some_iff.1 hz).1
      rw [hlen] at hk
      rw [List.getElem?_map,List.getElem?_range hk] at hz
      cases hz
      exact ⟨hk,rfl⟩
     have:=RepP.sl (G:=G) (w:=w) (R:=AllRo w) e ((List.range len).map fun i=>(f i).1) (some ⟨b,off,none⟩) b off cap (fun k j=>((f k).2[j]?).getD undef) (by rw [hlen];exact hl)
      (fun _=>⟨rfl,show b < w.heap.size by simpa [Addr.add] using hlt⟩) (fun k z j p hz hj=>by
       obtain ⟨hk,rfl⟩:=hget k z hz
       obtain ⟨y,h1,h2,h3⟩:=hg k hk j p hj
       rw [Addr.add_lit] at h3
       rw [h1,Nat.add_assoc]
       exact h3) (fun k z j p hz hj=>by
       obtain ⟨hk,rfl⟩:=hget k z hz
       obtain ⟨y,h1,h2,h3⟩:=hg k hk j p hj
       show RepP G w (AllRo w) p (((f k).2[j]?).getD undef)
       rw [h1]
       exact h2)
     rw [hlen] at this
     exact this
   ·obtain ⟨i,hi,rfl⟩:=List.mem_map.1 hz
    exact (hf i (List.mem_range.1 hi)).1
theorem field_at {H:Type} {enc:TypeId × Value → H} {w:World} {base:Nat} {spare:Nat → Bool} {held:Bool} {n:Nat} {cs:List Value} {xs:List (DataW H × List MemPlace)} {fs:Array Field} (hlen:xs.length = fs.size)
  (hf:∀ (i:Nat) (f:Field),fs[i]? = some f → DataW.trod enc P w base spare held n f.type ((cs.drop f.offset).take (P.cellsOf f.type)) = xs[i]?) {i:Nat} {f:Field} (hi:fs[i]? = some f) {u:G.U} {W:G.El u → Prop} {off:Nat} (ho:f.offset = off) (ht:f.type = G.ty u) (hC:P.cellsOf (G.ty u) = G.sz u) (he:Opens G u W) :
  ∃ a:G.El u,PRep G w ((cs.drop off).take (G.sz u)) (G.row u a) ∧ W a:=by
 have h:=hf i f hi
 have hlt:=(Array.getElem?_eq_some_iff.1 hi).1
 rw [List.getElem?_eq_getElem (by omega),ho,ht,hC] at h
 exact he h
theorem open_arg (hok:G.Ok) {u:G.U} {W:G.El u → Prop} (he:Opens G u W) {H:Type} {enc:TypeId × Value → H} {w:World} {base:Nat} {spare:Nat → Bool} {held:Bool} {v:Value} {d:DataW H} {p:List MemPlace}
  (hv:G.ag u = true → ∃ cs:List Value,v = .agg cs.toArray) (hv':G.ag u = false → v.cells = #[v]) (h:DataW.Trod enc P w base spare held (G.ty u) v d p):∃ x:G.El u,RepU G w (AllRo w) u x v ∧ W x:=by
 obtain ⟨fuel,hf⟩:=h
 obtain ⟨a,h1,h2⟩:=he hf
 refine ⟨a,?_,h2⟩
 have h3:=h1.1
 rw [hok.row_sz] at h3
 cases hag:G.ag u with
 | true =>
  obtain ⟨cs,rfl⟩:=hv hag
  exact ⟨cs,by rw [hag],by simpa [Value.cells] using h3,fun j p hj=>by simpa [Value.cells] using h1.2 j p hj⟩
 | false =>
  rw [hv' hag] at h1 h3
  exact ⟨[v],by rw [hag],h3,h1.2⟩
theorem args_nil {w:World}:Args G w (argT G [] ()) []:=.nil
theorem args_v (hok:G.Ok) {w:World} {u:G.U} {ps:List (Pk G.U)} {x:G.El u} {y:TyP G ps} {v:Value} {vs:List Value} (h:RepU G w (AllRo w) u x v) (k:Args G w (argT G ps y) vs):Args G w (argT G (.v u :: ps) (x,y)) (v :: vs):=.cons (RepU.toT hok h) k
end
end
end Go.Proofs.YtgbicnkpnhifgaaGreatDoor

namespace Go.Proofs.YtgbicnkpnhifgaaGreatDoor
noncomputable section
open Go.RowKit Go.ChangeShapes Go.WideShapes Go.Deep
theorem Tryz.own:ownKnob Tryz.prog.godebug = none:=by kernel_rfl
theorem Tryz.laidOut:laidOutB Tryz.prog = true:=by kernel_rfl
section
variable {H:Type} {enc:TypeId × Value → H}
theorem trodAll_stays {W W':World} {sp':Nat → Bool}:∀ {ts:List TypeId} {vs:List Value} {ds:List (DataW H)} {ps:List MemPlace},(∀ t,t ∈ ts → Tryz.prog.readableRec t = true ∧ t < Tryz.prog.types.size) →
  DataW.TrodAll enc Tryz.prog W 0 (fun _=>true) true ts vs ds ps → (∀ p ∈ ps,W.sameAt W' p) → (∀ p ∈ ps,sp' p.block = true) → DataW.TrodAll enc Tryz.prog W' 0 sp' true ts vs ds ps
 | [],_,_,_,_,h,_,_=>by
  obtain ⟨rfl,rfl,rfl⟩:=trodAll_nil h
  exact trodAll_mk0
 | t :: ts,_,_,_,ht,h,h1,h2=>by
  obtain ⟨v,vs,d,ds,p,q,rfl,rfl,rfl,a,b⟩:=trodAll_cons h
  have g:=ht t (by simp)
  exact ⟨p,q,(WideElems.Trod_stays Tryz.laidOut g.1 g.2 a (fun x hx=>h1 x (by simp [hx])) (fun x hx=>h2 x (by simp [hx]))),
   (trodAll_stays (fun t' ht'=>ht t' (by simp [ht'])) b (fun x hx=>h1 x (by simp [hx])) (fun x hx=>h2 x (by simp [hx]))),rfl⟩
theorem law_post {f:Func} {s:ChangeSpec} {W W':World} {args:Array Value} {ds:List (DataW H)} {before:List MemPlace} {tb:TypeId} (hW:DataW.Whole enc Tryz.prog f.params.toList s.vars false W args.toList ds [] before)
  (hall:∀ t,t ∈ f.params.toList → Tryz.prog.readableRec t = true ∧ t < Tryz.prog.types.size) (hvars:s.vars = []) (hres:(s.fn H ds).results = [.lit (.bool true)]) (hargs:(s.fn H ds).args = ds) (hv:(s.fn H ds).vars = [])
  (hr:f.resultTypes = #[tb]) (htb:Tryz.prog.underlying tb = some .bool) (hb:Below W.heap.size W W'):s.post enc Tryz.prog f false true false false W args (.bool true) W':=by
 have hlt:∀ p ∈ before,p.block < W.heap.size:=fun p hp=>hW.lt p hp
 have hW':=hW
 obtain ⟨p,q,hA,hV,rfl,_,_⟩:=hW'
 rw [hvars] at hV
 obtain ⟨_,rfl⟩:=trodVars_none hV
 rw [List.append_nil] at hlt hW
 refine ⟨ds,[],_,[],p,[],hW,?_,?_,?_,hb.frame _,fun h=>by cases h⟩
 ·rw [List.append_nil,hres,hr]
  exact trodAll_mk1 (shut_bool htb true)
 ·rw [List.append_nil,hargs]
  exact trodAll_stays hall hA (fun x hx=>hb.same (hlt x hx)) (fun x hx=>by simpa using hlt x hx)
 ·rw [List.append_nil,hv,hvars]
  exact (rfl:([]:List MemPlace) = [])
end
theorem ret_true {P:Program} {G:Sg P} {u:G.U} {x:G.El u} {w w':World} {e:Ending} (hgh:G.gh w) (h:Ret G [u] x w e w') (hr:G.row u x = [.val (.bool true)]) (hag:G.ag u = false):e = .returned (.bool true) ∧ Below w.heap.size w w':=by
 obtain ⟨v,rfl,hb,hret⟩:=h
 obtain ⟨m',_,_,h3⟩:=hret held0 w.heap.size [] (fun _=>undef) ⟨fun o ob ho=>by simp at ho,fun o o' ob ob' b ho=>by simp at ho,Nat.le_refl _,fun _ h=>h.elim,hgh,fun b hb=>⟨G.gh_lt w hgh b hb,fun h=>h.elim⟩⟩
 have e1:resT G 0 u x = .c (.pv (.val (.bool true))):=by unfold resT;rw [hr,hag];rfl
 have h5:RepT G w' (Rof G (newO G [u] x) m' w') (newO G [u] x).length m' (resT G 0 u x) v:=h3
 rw [e1] at h5
 have h4:RepP G w' _ (.val (.bool true)) v:=h5
 cases h4 with
 | val _ _=>exact ⟨rfl,hb⟩
theorem cell_arg {P:Program} {G:Sg P} (hok:G.Ok) {u:G.U} {W:G.El u → Prop} (he:Opens G u W) {H:Type} {enc:TypeId × Value → H} {w:World} {base:Nat} {spare:Nat → Bool} {held:Bool} {r:Reach} {b0:Nat} {v:Value} {d:DataW H} {p:List MemPlace}
  (hu:(∃ k,P.underlying (G.ty u) = some (.int k)) ∨ P.underlying (G.ty u) = some .bool ∨ P.underlying (G.ty u) = some .string ∨ ∃ e,P.underlying (G.ty u) = some (.slice e)) (hag:G.ag u = false) (hv:Value.okWide P w r b0 (G.ty u) v) (h:DataW.Trod enc P w base spare held (G.ty u) v d p):∃ x:G.El u,RepU G w (AllRo w) u x v ∧ W x :=
 open_arg hok he (fun h=>by rw [hag] at h;cases h) (fun _=>by
  rcases hu with ⟨k,hu⟩ | hu | hu | ⟨e,hu⟩
  ·obtain ⟨n,rfl⟩:=okWide_int hu hv;rfl
  ·obtain ⟨n,rfl⟩:=okWide_bool hu hv;rfl
  ·obtain ⟨n,rfl⟩:=okWide_string hu hv;rfl
  ·obtain ⟨a,l,c,rfl⟩:=okWide_slice hu hv;rfl) h
end
end Go.Proofs.YtgbicnkpnhifgaaGreatDoor
