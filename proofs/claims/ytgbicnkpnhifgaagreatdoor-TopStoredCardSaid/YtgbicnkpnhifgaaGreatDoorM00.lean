/- Joined by merge.py: Evq, Ev1, Ev2, Ev3, Ev4, Ev5, Ev6, Ev7, Ev8, Ev9, Ev10, Evm, Ev11. -/
import Derived.RangeFuncFrom
import Derived.RangeFuncCalls
import Derived.TacticsIn
import Derived.Test.YtgbicnkpnhifgaaGreatDoorRows
import Derived.WalkKit
import Derived.Laws.MakeOwn
import Derived.Deep.Draws
import Derived.Calls
import Derived.Maps.OwnSet
import Derived.Laws.Externs
import Derived.Laws.OwnMore
import Derived.Maps.AppendAt
import Derived.Laws.StructEq
set_option linter.unusedSectionVars false
set_option linter.unusedVariables false
set_option linter.unusedSimpArgs false
namespace Go.Proofs.YtgbicnkpnhifgaaGreatDoor
open Go.RowKit
def SeqRun (P:Program) (gf:FuncId) (lb:Array Value) (N:Nat) (args:Nat → Array Value) (Ks:List Nat) (w0:World):Prop :=
 ∀ (l:Nat) (J:Nat → World → Prop) (W:World),(∀ k W,J k W → ∀ b ∈ Ks,W.heap[b]? = w0.heap[b]?) →
  (∀ k W W',J k W → W.grownBy W' none → J k W') →
  (∀ k W1,J k W1 → k < N → YieldAt Fence.wide 3 P l (args k) W1 fun e W'=>e = .returned (.bool true) ∧ J (k + 1) W') →
  J 0 W → CallsIn Fence.wide 4 P gf (#[.func (.yield l) #[] #[]] ++ lb) W fun e W'=>(∃ v,e = .returned v) ∧ J N W'
theorem alloc_old (w:World) (o:Obj) {r:Nat} (h:r < w.heap.size):(w.alloc o).heap[r]? = w.heap[r]?:=(World.grownBy_alloc w o none).block r h (by simp)
theorem SeqRun.congr {P:Program} {gf:FuncId} {lb:Array Value} {N:Nat} {args args':Nat → Array Value} {Ks:List Nat} {w0:World} (h:SeqRun P gf lb N args Ks w0) (he:∀ k,k < N → args' k = args k):SeqRun P gf lb N args' Ks w0 :=
 fun l J W h1 hG h2 h3=>h l J W h1 hG (fun k W1 hJ hk=>by rw [← he k hk];exact h2 k W1 hJ hk) h3
variable {P:Program}
def Turns (B:Nat) (A A':World):Prop:=∃ row,A.grownBy A' row ∧ ∀ r,row = some r → B ≤ r ∧ ∃ o:Obj,A.heap[r]? = some o ∧ o.isCells = false
theorem Turns.putObj {B:Nat} {A:World} {l:Nat} {o:Obj} (o':Obj) (hB:B ≤ l) (hl:A.heap[l]? = some o) (ho:o.isCells = false):Turns B A (A.putObj l o') :=
 ⟨some l,grownBy_putObj' A l o',fun r e=>by cases e;exact ⟨hB,o,hl,ho⟩⟩
theorem Turns.alloc (B:Nat) (A:World) (o:Obj):Turns B A (A.alloc o):=⟨none,World.grownBy_alloc A o none,fun r e=>by cases e⟩
theorem wp_range {g:Operand} {ps:Array Tmp} {assign body:Code} {Q:Exit → Act → World → Prop} {a:Act} {w:World} {gf:FuncId} {lb:Array Value} {N:Nat} {args:Nat → Array Value} {Ks:List Nat}
  (hseq:SeqRun P gf lb N args Ks w) (hg:a.eval g = .func (.func gf) #[] lb) (eg:∀ args w,(callFunc gf args).run P w = .ok (.enter gf args) w) (hps:∀ k,k < N → (args k).size = ps.size)
  (I:Nat → World → Prop) (hI:∀ k A A',I k A → Turns w.heap.size A A' → I k A') (h0:I 0 w) (hIK:∀ k W,I k W → ∀ b ∈ Ks,W.heap[b]? = w.heap[b]?)
  (hround:∀ (l k:Nat) (W:World),I k W → k < N →
   assign.wpIn (Fence.wide.inRound l) 3 P (Exit.then (fun a1 W1=>KeepsOthers W W1 ∧ ∀ W2,Turns w.heap.size W1 W2 → body.wpIn (Fence.wide.inRound l) 3 P (fun e _ W3=>e = .normal ∧ KeepsOthers W2 W3 ∧ I (k + 1) W3) a1 W2) (fun _ _ _=>False))
    { tmps:=(ps.zip (args k)).foldl (fun t (p,v)=>t.setIfInBounds p v) a.tmps,defers:=[] } W)
  (hdone:∀ (D:Nat) (W:World),w.heap.size ≤ D → I N W → W.heap[D]? = some (.deferred (some [])) → Q .normal { a with defers:={ target:=.collected D,args:=#[] } :: a.defers } W) :
  (Code.rangeFunc g ps assign body).wp P Q a w:=by
 rw [← wpIn_wide (n:=5)]
 refine wpIn_rangeFunc ?_
 intro fn _
 show ∃ (l:Nat) (mark:List Deferred) (w₁:World) (d:Deferred) (w₁':World) (f:FuncId) (args:Array Value) (w₂:World),(Instr.enterLoop fn a.tmps ps assign body none).run P w = .ok (l,mark) w₁ ∧ _
 let rec_:LoopState → Option Code → Loop:=fun st pe=>{ state:=st,pending:=pe,fn,tmps:=a.tmps,params:=ps,assign,body,defers:=w.heap.size }
 let W1:World:=(w.alloc (.deferred (some []))).alloc (.loop (rec_ .ready none))
 have hL:W1.heap[w.heap.size + 1]? = some (.loop (rec_ .ready none)):=by
  have:=World.alloc_heap_new (w.alloc (.deferred (some []))) (.loop (rec_ .ready none))
  rwa [World.size_alloc] at this
 have hD:W1.heap[w.heap.size]? = some (.deferred (some [])):=(Below.heap_alloc _ _ _ (by simp)).trans (World.alloc_heap_new w _)
 have hI1:I 0 W1:=hI _ _ _ (hI _ _ _ h0 (Turns.alloc _ _ _)) (Turns.alloc _ _ _)
 refine ⟨w.heap.size + 1,[{ target:=.collected w.heap.size,args:=#[] }],W1,{ target:=.fn (.func gf) lb,args:=#[.func (.yield (w.heap.size + 1)) #[] #[]] },W1,gf,#[.func (.yield (w.heap.size + 1)) #[] #[]] ++ lb,W1,?_,?_,fun _ _=>trivial,?_,(fun h=>by cases h),?_⟩
 ·exact run_enterLoop_outer _ _ _ _ _
 ·simp only [resolve,hg]
  simp [go_sem]
 ·simp [invoke,go_sem,eg]
 refine (hseq (w.heap.size + 1) (fun k W=>I k W ∧ W.heap[w.heap.size + 1]? = some (.loop (rec_ .ready none)) ∧ W.heap[w.heap.size]? = some (.deferred (some []))) W1 (fun k W h=>hIK k W h.1) (fun k W W' h hg=>⟨hI _ _ _ h.1 ⟨none,hg,fun r e=>by cases e⟩,(hg.block _ (Array.getElem?_eq_some_iff.1 h.2.1).1 (by simp)).trans h.2.1,(hg.block _ (Array.getElem?_eq_some_iff.1 h.2.2).1 (by simp)).trans h.2.2⟩) ?_ ⟨hI1,hL,hD⟩).mono ?_
 ·rintro k W ⟨hi,hl,hd⟩ hk
  have hlt:w.heap.size + 1 < W.heap.size:=(Array.getElem?_eq_some_iff.1 hl).1
  refine ⟨fn,_,assign,body,run_yield (P:=P) (args:=args k) hl (hps k hk),roundIn_of_wpIn trivial (wpIn_mono (hround _ k W hi hk) ?_)⟩
  intro e a1 Wa he
  cases e with
  | normal =>
   obtain ⟨k1,hbody⟩:=he
   have hla:=k1.same _ _ hl rfl
   have hda:=k1.same _ _ hd rfl
   have hlta:w.heap.size + 1 < Wa.heap.size:=(Array.getElem?_eq_some_iff.1 hla).1
   refine ⟨_,run_beginRound hla rfl,wpIn_mono (hbody _ (Turns.putObj _ (Nat.le_succ _) hla rfl)) ?_⟩
   rintro e a3 W3 ⟨rfl,k3,hi3⟩
   have hl2:(Wa.putObj (w.heap.size + 1) (.loop { rec_ .ready none with state:=.busy })).heap[w.heap.size + 1]? = some (.loop { rec_ .ready none with state:=.busy }):=World.putObj_heap_same hlta
   have hd2:(Wa.putObj (w.heap.size + 1) (.loop { rec_ .ready none with state:=.busy })).heap[w.heap.size]? = some (.deferred (some [])):=(World.putObj_heap_other (by omega)).trans hda
   have hl3:=k3.same _ _ hl2 rfl
   have hd3:=k3.same _ _ hd2 rfl
   exact ⟨_,_,run_endRound none hl3,rfl,hI _ _ _ hi3 (Turns.putObj _ (Nat.le_succ _) hl3 rfl),World.putObj_heap_same (Array.getElem?_eq_some_iff.1 hl3).1,(World.putObj_heap_other (by omega)).trans hd3⟩
  | _=>exact he.elim
 ·rintro e W2 ⟨⟨v,rfl⟩,hi,hl,hd⟩
  exact ⟨none,_,run_endLoop hl (by simp [rec_]),hdone _ _ (Nat.le_refl _) (hI _ _ _ hi (Turns.putObj _ (Nat.le_succ _) hl rfl)) ((World.putObj_heap_other (by omega)).trans hd)⟩
theorem wpListIn_round {l:Nat} {n:Nat} {ops:Array Oper} {Q:Exit → Act → World → Prop} (hQ:¬ LetsOut Q):∀ (os:List Oper),(∀ o ∈ os,∀ c,o.op ≠ .defer c) → ∀ {a:Act} {w:World},wpList P ops Q os a w → wpListIn (Fence.wide.inRound l) n P ops Q os a w
 | [],_,a,w,h=>h
 | o :: os,hd,a,w,h=>by
  have ih:∀ a w,wpList P ops Q os a w → wpListIn (Fence.wide.inRound l) n P ops Q os a w:=fun a w=>wpListIn_round hQ os (fun o ho=>hd o (List.mem_cons_of_mem _ ho))
  unfold wpList at h
  unfold wpListIn
  split at h
  ·rename_i hw
   rw [if_pos hw]
   rcases h with h | h
   ·refine ⟨fun _ _=>trivial,?_⟩
    rw [Oper.semAt_eq _ _ _ (hd o List.mem_cons_self)]
    unfold Oper.wp at h
    generalize (execOp a.eval o).run P w = z at h
    unfold Oper.upon at h
    split at h
    ·exact ih _ _ h
    ·exact ih _ _ h
    ·exact ih _ _ h
    ·refine ⟨(fun h=>by cases h),CallsIn.inRound l (callsIn_wide.2 (h.mono ?_))⟩
     rintro e w' he
     cases e with
     | returned v=>exact ih _ _ he
     | panicked c=>exact he
     | outgrown=>exact he
    ·exact ⟨(fun h=>by cases h),fun c cs _=>let ⟨v,w',r,s⟩:=h c cs;⟨v,w',ih _ _ r,stepsIn_wide.2 s⟩⟩
    ·exact h
    ·exact h.elim
   ·exact absurd h.2 hQ
  ·rename_i hw
   rw [if_neg hw]
   exact ⟨fun _ _=>trivial,ih _ _ h⟩
end Go.Proofs.YtgbicnkpnhifgaaGreatDoor

namespace Go.Proofs.YtgbicnkpnhifgaaGreatDoor
open Go.RowKit
inductive PV (U:Type) (El:U → Type):Type where
 | val (x:Value)
 | sl (u:U) (l:List (El u))
 | mp (t:TypeId) (u:U) (b:Bool) (l:List (ByteArray × El u))
inductive AK (U:Type):Type where
 | map (t:TypeId) (b:Bool)
 | mapu (t:TypeId) (u:U)
 | cap (u:U)
@[reducible] def AD {U:Type} (El:U → Type):AK U → Type
 | .map _ _=>List (ByteArray × Bool)
 | .mapu _ u=>Bool × List (ByteArray × El u)
 | .cap u=>Nat × List (El u)
inductive CV (U:Type) (El:U → Type):Type where
 | junk
 | pv (p:PV U El)
 | os (o:Nat)
 | ptr (o off:Nat)
 | rp (cells:List (PV U El))
 | ep (u:U) (o i j:Nat)
 | bs (u:U) (o n:Nat)
 | pre (o k:Nat)
 | clo (f:Nat) (caps:List Nat)
 | fn (u r:U) (F:El u → Option (El r))
inductive TV (U:Type) (El:U → Type):Type where
 | c (x:CV U El)
 | agg (cs:List (CV U El))
inductive DV (U:Type) (El:U → Type):Type where
 | t (x:TV U El)
 | tup (vs:List (TV U El))
inductive OV (U:Type) (El:U → Type):Type where
 | dead
 | box (cs:List (CV U El))
 | row (lk:Bool) (u:U) (l:List (El u))
 | lock (cs:List (CV U El))
 | ab (lk:Bool) (a:AK U) (d:AD El a)
 | pins (os:List Nat)
 | pend (zs:List Value)
 | pendr (u:U) (l:List (El u))
inductive Ext:Type where
 | add64
 | sub64
def sub64Entry:Array Value → Sem Value:=fun args=>do
 let (x,y,b) ← Extern.MathBitsCarry.three "Sub64" args
 pure (Extern.MathBitsCarry.pair ((x + Extern.MathBitsCarry.m64 - y - b) % Extern.MathBitsCarry.m64) (if x < y + b then 1 else 0))
def extEntry:Ext → Array Value → Sem Value
 | .add64=>add64Entry
 | .sub64=>sub64Entry
def blkOf:Value → Option Nat
 | .slice (some a) _ _=>some a.block
 | .pointer (some a)=>some a.block
 | .map (some b)=>some b
 | _=>none
inductive RowF:Type where
 | del
 | ins
structure Sg (P:Program) where
 U:Type
 deq:DecidableEq U
 El:U → Type
 row:(u:U) → El u → List (PV U El)
 unrow:(u:U) → List (PV U El) → Option (El u)
 zero:(u:U) → El u
 ty:U → TypeId
 sz:U → Nat
 ag:U → Bool
 elt:TypeId → Option U
 flat:U → Bool
 byref:FuncId → Bool
 fz:FuncId → Bool
 ext:FuncId → Option Ext
 seqf:FuncId → Option (Bool × U)
 rowf:FuncId → Option (RowF × U)
 nest:TypeId → Bool
 room:TypeId → Bool
 mapu:TypeId → Option U
 /-- What is known of the package variables,and where they lie. -/
 gh:World → Prop
 gB:Nat → Prop
 gh_same:∀ w w':World,(∀ b,gB b → w'.heap[b]? = w.heap[b]?) → gh w → gh w'
 gh_lt:∀ w:World,gh w → ∀ b,gB b → b < w.heap.size
variable {P:Program} (G:Sg P)
abbrev Sg.P':=PV G.U G.El
abbrev Sg.C:=CV G.U G.El
abbrev Sg.T:=TV G.U G.El
abbrev Sg.D:=DV G.U G.El
abbrev Sg.O:=OV G.U G.El
abbrev Sg.Hp:=List (OV G.U G.El)
def Weak (p q:G.P'):Prop:=p = q ∨ (p = .val (.slice none 0 0) ∧ ∃ u,q = .sl u []) ∨ (p = .val (.map none) ∧ ∃ t u,q = .mp t u false [])
def ordS {α:Type} (b:Bool) (l:List α):List (Nat × α):=match b with
 | true=>(l.zipIdx.map fun p=>(p.2,p.1)).reverse
 | false=>l.zipIdx.map fun p=>(p.2,p.1)
theorem ordS_back {α:Type} {l:List α} {k:Nat} (h:k < l.length):(ordS true l)[k]? = some (l.length - 1 - k,l[l.length - 1 - k]'(by omega)):=by
 have h2:l.length - 1 - k < l.length:=by omega
 simp [ordS,List.getElem?_reverse,h,h2]
def elT (u:G.U) (x:G.El u):G.T:=match G.ag u,G.row u x with
 | false,p :: _=>.c (.pv p)
 | _,ps=>.agg (ps.map .pv)
def argS (b:Bool) (u:G.U) (p:Nat × G.El u):List G.T:=match b with
 | true=>[.c (.pv (.val (.int .i64 p.1))),elT G u p.2]
 | false=>[elT G u p.2]
def valC:G.C → Value
 | .pv (.val v)=>v
 | _=>undef
def valT:G.T → Value
 | .c x=>valC G x
 | .agg cs=>.agg (cs.map (valC G)).toArray
def argV (b:Bool) (u:G.U) (l:List (G.El u)) (k:Nat):Array Value:=match (ordS b l)[k]? with
 | some p=>((argS G b u p).map (valT G)).toArray
 | none=>#[]
def SeqOk (gf:FuncId) (b:Bool) (u:G.U):Prop:=G.flat u = true ∧ (∃ fn,P.funcs[gf]? = some fn ∧ (fn.name == "runtime.NumGoroutine") = false ∧ fn.body.isNone = false) ∧
 ∀ (w:World) (B g off cap:Nat) (A:Option Addr) (l:List (G.El u)),l.length ≤ 16777216 → w.cell? ⟨B,0,none⟩ = some (.slice A l.length cap) → (0 < l.length → A = some ⟨g,off,none⟩) →
  (∀ (k:Nat) (x:G.El u) (j:Nat) (p:G.P'),l[k]? = some x → (G.row u x)[j]? = some p → ∃ v,p = .val v ∧ w.cell? ⟨g,off + k * G.sz u + j,none⟩ = some v) →
  SeqRun P gf #[.pointer (some ⟨B,0,none⟩)] l.length (argV G b u l) [B,g] w
def RowOk (f:FuncId) (k:RowF) (u:G.U):Prop:=(∃ fn,P.funcs[f]? = some fn ∧ (fn.name == "runtime.NumGoroutine") = false ∧ fn.body.isNone = false) ∧ match k with
 | .del=>∀ (N:Nat) (w:World) (v:Value) (n:Nat) (xs:List Value) (i j:Nat),w.ownsRow N (G.ty u) (G.sz u) v n xs → (∀ x ∈ xs,x.oneCell' = true) → N ≤ w.heap.size → i ≤ j → j ≤ n → n ≤ 2147483648 →
  Calls P f #[v,.int .i64 i,.int .i64 j] w fun e w'=>∃ v',e = .returned v' ∧ w'.ownsRow N (G.ty u) (G.sz u) v' (n - (j - i)) (xs.take (i * G.sz u) ++ xs.drop (j * G.sz u)) ∧ w.grownBy w' (blkOf v) ∧ ∀ b,blkOf v' = some b → blkOf v = some b ∨ w.heap.size ≤ b
 | .ins=>∀ (N:Nat) (w:World) (v:Value) (n:Nat) (xs:List Value) (i:Nat) (vy:Value) (ys:List Value),w.ownsRow N (G.ty u) (G.sz u) v n xs → (∀ x ∈ xs,x.oneCell' = true) → w.ownsRow N (G.ty u) (G.sz u) vy 1 ys → (∀ x ∈ ys,x.oneCell' = true) →
  (∀ b,blkOf vy = some b → blkOf v ≠ some b) → N ≤ w.heap.size → i ≤ n → n ≤ 2147483647 →
  Calls P f #[v,.int .i64 i,vy] w fun e w'=>∃ v',e = .returned v' ∧ w'.ownsRow N (G.ty u) (G.sz u) v' (n + 1) (xs.take (i * G.sz u) ++ ys ++ xs.drop (i * G.sz u)) ∧ w.grownBy w' (blkOf v) ∧ ∀ b,blkOf v' = some b → blkOf v = some b ∨ w.heap.size ≤ b
structure Sg.Ok (G:Sg P):Prop where
 rowf:∀ f k u,G.rowf f = some (k,u) → RowOk G f k u
 seq:∀ f b u,G.seqf f = some (b,u) → SeqOk G f b u
 mapu:∀ t u,G.mapu t = some u → ∃ k,P.underlying t = some (.map k (G.ty u)) ∧ P.underlying k = some .string
 mixed:P.follows .mixedOrders = true
 row_sz:∀ u x,(G.row u x).length = G.sz u
 pos:∀ u,0 < G.sz u
 unrow:∀ u (ps:List G.P') x,G.unrow u ps = some x → ps.length = G.sz u ∧ ∀ (j:Nat) (p:G.P'),ps[j]? = some p → ∃ q,(G.row u x)[j]? = some q ∧ Weak G p q
 info:∀ u,∃ i z,P.info? (G.ty u) = some i ∧ i.zero = some z ∧ i.size = G.sz u ∧ z.cells.size = G.sz u ∧ i.bytes ≤ 4096 ∧ (∀ (j:Nat) (p:G.P'),(G.row u (G.zero u))[j]? = some p → ∃ v,z.cells.toList[j]? = some v ∧ Weak G (.val v) p) ∧ ∀ v ∈ z.cells.toList,v.oneCell' = true
 elt:∀ t u,G.elt t = some u → P.underlying t = some (.slice (G.ty u))
 ag:∀ u,∃ d,P.underlying (G.ty u) = some d ∧ (match d with | .struct _ | .array _ _=>true | _=>false) = G.ag u
 one:∀ u,G.ag u = false → G.sz u = 1
 flat:∀ u,G.flat u = true → ∀ x,∀ p ∈ G.row u x,∃ v,p = PV.val v
 ext:∀ f e,G.ext f = some e → ∃ fn,P.funcs[f]? = some fn ∧ (fn.name == "runtime.NumGoroutine") = false ∧ fn.body.isNone = true ∧ Extern.findNext fn = none ∧ Extern.find fn = some (extEntry e)
def elemR (b:Bool) (v:Value):Option (DataW Unit × List MemPlace):=match b with
 | true=>match v with
  | .bool x=>some (.lit (.bool x),[])
  | _=>none
 | false=>unitElem v
def keyLit (s:ByteArray):Lit:=.string s.data.toList
def findM {α:Type} (s:ByteArray):List (ByteArray × α) → Option α
 | []=>none
 | p :: l=>if s = p.1 then some p.2 else findM s l
def setM {α:Type} (s:ByteArray) (x:α):List (ByteArray × α) → List (ByteArray × α)
 | []=>[(s,x)]
 | p :: l=>if s = p.1 then (s,x) :: l else p :: setM s x l
def datM (b x:Bool):DataW Unit:=match b with
 | true=>.lit (.bool x)
 | false=>.agg []
structure MapRel {H α:Type} (f:α → DataW H) (D:DataW H) (es:List (ByteArray × α)):Prop where
 size:Go.Maps.size D = es.length
 has:∀ s,Go.Maps.has D (keyLit s) = (findM s es).isSome
 at_:∀ s d,D.atKey (keyLit s) d = ((findM s es).map f).getD d
def heldR (v:Value):Option (DataW Value × List MemPlace):=some (.held v,[])
def MapRep (P:Program) (w:World) (N:Nat) (v:Value) (t:TypeId) (b:Bool) (es:List (ByteArray × Bool)):Prop :=
 ∃ bk D k e,v = .map (some bk) ∧ N ≤ bk ∧ P.underlying t = some (.map k e) ∧ P.underlying k = some .string ∧ w.ownsMap P k (elemR b) bk es.length D ∧ MapRel (datM b) D es
theorem MapRep.same {w w':World} {N:Nat} {v:Value} {t:TypeId} {b:Bool} {es:List (ByteArray × Bool)} (h:MapRep P w N v t b es) (hb:∀ b,blkOf v = some b → w'.heap[b]? = w.heap[b]?):MapRep P w' N v t b es:=by
 obtain ⟨bk,D,k,e,rfl,h1,h2,h3,h4,h5⟩:=h
 obtain ⟨es',clock,hh,r⟩:=h4
 exact ⟨bk,D,k,e,rfl,h1,h2,h3,⟨es',clock,(hb bk rfl).trans hh,r⟩,h5⟩
theorem MapRep.blk {w:World} {N:Nat} {v:Value} {t:TypeId} {b:Bool} {es:List (ByteArray × Bool)} (h:MapRep P w N v t b es) {g:Nat} (hg:blkOf v = some g):N ≤ g ∧ g < w.heap.size:=by
 obtain ⟨bk,D,k,e,rfl,h1,h2,h3,h4,h5⟩:=h
 cases hg
 exact ⟨h1,h4.lt⟩
def OV.live {U:Type} {El:U → Type}:OV U El → Bool
 | .dead=>false
 | .pins _=>false
 | _=>true
def OV.mov {U:Type} {El:U → Type}:OV U El → Bool
 | .row false _ _=>true
 | _=>false
inductive RepP (w:World) (R:Nat → Prop):G.P' → Value → Prop where
 | val (x:Value) (h:x.oneCell' = true):RepP w R (.val x) x
 | sl (u:G.U) (l:List (G.El u)) (A:Option Addr) (b off cap:Nat) (c:Nat → Nat → Value) (hcap:l.length ≤ cap)
   (ha:0 < l.length → A = some ⟨b,off,none⟩ ∧ R b)
   (hc:∀ (k:Nat) (x:G.El u) (j:Nat) (p:G.P'),l[k]? = some x → (G.row u x)[j]? = some p → w.cell? ⟨b,off + k * G.sz u + j,none⟩ = some (c k j))
   (hr:∀ (k:Nat) (x:G.El u) (j:Nat) (p:G.P'),l[k]? = some x → (G.row u x)[j]? = some p → RepP w R p (c k j)):RepP w R (.sl u l) (.slice A l.length cap)
 | mpn (t:TypeId) (u:G.U):RepP w R (.mp t u false []) (.map none)
theorem RepP.one {w:World} {R:Nat → Prop} {p:G.P'} {v:Value} (h:RepP G w R p v):v.oneCell' = true:=by
 cases h with
 | val _ h=>exact h
 | sl=>rfl
 | mpn=>rfl
theorem cell_same {w w':World} {b o:Nat} (h:w'.heap[b]? = w.heap[b]?):w'.cell? ⟨b,o,none⟩ = w.cell? ⟨b,o,none⟩:=by
 unfold World.cell?;simp only [h]
theorem RepP.mono {w w':World} {R R':Nat → Prop} (h1:∀ b,R b → R' b) (h2:∀ b,R b → w'.heap[b]? = w.heap[b]?) {p:G.P'} {v:Value} (h:RepP G w R p v):RepP G w' R' p v:=by
 induction h with
 | val x h=>exact .val x h
 | mpn t u=>exact .mpn t u
 | sl u l A b off cap c hcap ha hc hr ih =>
  refine .sl u l A b off cap c hcap (fun hp=>⟨(ha hp).1,h1 _ (ha hp).2⟩) (fun k x j p hk hj=>?_) ih
  have hp:0 < l.length:=by have:=(List.getElem?_eq_some_iff.1 hk).1;omega
  rw [cell_same (h2 b (ha hp).2)]
  exact hc k x j p hk hj
theorem RepP.weak {w:World} {R:Nat → Prop} {p q:G.P'} {v:Value} (h:RepP G w R p v) (hw:Weak G p q):RepP G w R q v:=by
 rcases hw with rfl | ⟨rfl,u,rfl⟩ | ⟨rfl,t,u,rfl⟩
 ·exact h
 ·cases h with
  | val _ _=>exact .sl u [] none 0 0 0 (fun _ _=>undef) (by simp) (by simp) (by simp) (by simp)
 ·cases h with
  | val _ _=>exact .mpn t u
def RepU (w:World) (R:Nat → Prop) (u:G.U) (x:G.El u) (v:Value):Prop :=
 ∃ vs:List Value,(match G.ag u with | true=>v = .agg vs.toArray | false=>vs = [v]) ∧ vs.length = G.sz u ∧ ∀ (j:Nat) (p:G.P'),(G.row u x)[j]? = some p → ∃ y,vs[j]? = some y ∧ RepP G w R p y
def FnSpec (w:World) (R:Nat → Prop) (u r:G.U) (F:G.El u → Option (G.El r)) (v:Value):Prop :=
 ∃ g,∃ caps:List Value,v = .func (.func g) #[] caps.toArray ∧ (∃ fn,P.funcs[g]? = some fn ∧ fn.name ≠ "runtime.NumGoroutine" ∧ fn.body.isNone = false) ∧ G.flat r = true ∧ G.byref g = false ∧
  ∀ w':World,(∀ b,R b → w'.heap[b]? = w.heap[b]?) → G.gh w' → ∀ x y a,F x = some y → RepU G w' (fun b=>b < w'.heap.size) u x a →
   Calls P g (a :: caps).toArray w' fun e w''=>∃ v,e = .returned v ∧ Below w'.heap.size w' w'' ∧ RepU G w'' (fun _=>True) r y v
section
variable (w:World) (R:Nat → Prop) (n:Nat) (m:Nat → Value)
def RepC:G.C → Value → Prop
 | .junk,_=>True
 | .pv p,v=>RepP G w R p v
 | .os o,v=>o < n ∧ v = m o ∧ v.oneCell' = true
 | .ptr o off,v=>o < n ∧ ∃ b,m o = .pointer (some ⟨b,0,none⟩) ∧ v = .pointer (some ⟨b,off,none⟩)
 | .rp cells,v=>∃ b off,v = .pointer (some ⟨b,off,none⟩) ∧ R b ∧ ∀ (j:Nat) (p:G.P'),cells[j]? = some p → ∃ cv,w.cell? ⟨b,off + j,none⟩ = some cv ∧ RepP G w R p cv
 | .ep u o i j,v=>o < n ∧ ∃ b k cap,m o = .slice (some ⟨b,0,none⟩) k cap ∧ i < k ∧ v = .pointer (some ⟨b,i * G.sz u + j,none⟩)
 | .bs _ o k,v=>o < n ∧ ∃ b,m o = .pointer (some ⟨b,0,none⟩) ∧ v = .slice (some ⟨b,0,none⟩) k k
 | .pre o k,v=>o < n ∧ ∃ b C,m o = .slice (some ⟨b,0,none⟩) 0 C ∧ k ≤ C ∧ v = .slice (some ⟨b,0,none⟩) k C
 | .clo f caps,v=>∃ vs:List Value,v = .func (.func f) #[] vs.toArray ∧ vs.length = caps.length ∧ ∀ (i o:Nat),caps[i]? = some o → o < n ∧ ∃ b:Nat,m o = .pointer (some ⟨b,0,none⟩) ∧ vs[i]? = some (Value.pointer (some ⟨b,0,none⟩))
 | .fn u r F,v=>FnSpec G w R u r F v
def RepL (cs:List G.C) (vs:List Value):Prop:=vs.length = cs.length ∧ ∀ (i:Nat) (c:G.C),cs[i]? = some c → ∃ x,vs[i]? = some x ∧ RepC G w R n m c x
def RepT:G.T → Value → Prop
 | .c x,v=>RepC G w R n m x v
 | .agg cs,v=>∃ vs:List Value,v = .agg vs.toArray ∧ RepL G w R n m cs vs
def RepD:G.D → Value → Prop
 | .t x,v=>RepT G w R n m x v
 | .tup ts,v=>∃ vs:List Value,v = .tuple vs.toArray ∧ vs.length = ts.length ∧ ∀ (i:Nat) (t:G.T),ts[i]? = some t → ∃ x,vs[i]? = some x ∧ RepT G w R n m t x
def RowRep (u:G.U) (l:List (G.El u)) (xs:List Value):Prop:=∀ (k:Nat) (x:G.El u) (j:Nat) (p:G.P'),l[k]? = some x → (G.row u x)[j]? = some p → ∃ cv,xs[k * G.sz u + j]? = some cv ∧ RepP G w R p cv
def MapURep (N:Nat) (v:Value) (t:TypeId) (u:G.U) (d:Bool × List (ByteArray × G.El u)):Prop :=
 match d.1 with
 | false=>v = .map none ∧ d.2 = []
 | true=>∃ bk D k,∃ vs:List (ByteArray × Value),v = .map (some bk) ∧ N ≤ bk ∧ P.underlying t = some (.map k (G.ty u)) ∧ P.underlying k = some .string ∧ w.ownsMap P k heldR bk d.2.length D ∧ MapRel DataW.held D vs ∧
  vs.length = d.2.length ∧ ∀ (i:Nat) (p:ByteArray × G.El u),d.2[i]? = some p → ∃ y,vs[i]? = some (p.1,y) ∧ RepU G w R u p.2 y
def CapRep (N:Nat) (v:Value) (u:G.U) (d:Nat × List (G.El u)):Prop :=
 ∃ b xs,v = .slice (some ⟨b,0,none⟩) 0 d.1 ∧ w.ownsRow N (G.ty u) (G.sz u) (.slice (some ⟨b,0,none⟩) d.2.length d.1) d.2.length xs ∧ RowRep G w R u d.2 xs ∧ ∀ x ∈ xs,x.oneCell' = true
def RepA (N:Nat):(a:AK G.U) → Value → AD G.El a → Prop
 | .map t b,v,es=>MapRep P w N v t b es
 | .mapu t u,v,d=>MapURep G w R N v t u d
 | .cap u,v,d=>CapRep G w R N v u d
def RepO (N:Nat) (o:Nat):G.O → Prop
 | .dead=>True
 | .pins _=>True
 | .pend zs=>m o = .tuple #[] ∨ ∃ b t vs,m o = .pointer (some ⟨b,0,none⟩) ∧ N ≤ b ∧ w.heap[b]? = some (.cells vs t (0,0)) ∧ vs.toList = zs ∧ ∀ x ∈ zs,x.oneCell' = true
 | .pendr u l=>m o = .tuple #[] ∨ ∃ xs,w.ownsRow N (G.ty u) (G.sz u) (m o) l.length xs ∧ RowRep G w R u l xs ∧ ∀ x ∈ xs,x.oneCell' = true
 | .box cs | .lock cs=>∃ b t vs,m o = .pointer (some ⟨b,0,none⟩) ∧ N ≤ b ∧ w.heap[b]? = some (.cells vs t (0,0)) ∧ RepL G w R n m cs vs.toList ∧ ∀ x ∈ vs.toList,x.oneCell' = true
 | .ab _ a d=>RepA G w R N a (m o) d ∧ (m o).oneCell' = true
 | .row _ u l=>∃ xs,w.ownsRow N (G.ty u) (G.sz u) (m o) l.length xs ∧ RowRep G w R u l xs ∧ ∀ x ∈ xs,x.oneCell' = true
end
class Held:Type where
 S:Nat → Prop
section
variable [Held]
def Own (hp:G.Hp) (m:Nat → Value) (b:Nat):Prop:=Held.S b ∨ ∃ (o:Nat) (ob:G.O),hp[o]? = some ob ∧ ob.live = true ∧ blkOf (m o) = some b
def Rof (hp:G.Hp) (m:Nat → Value) (w:World) (b:Nat):Prop:=b < w.heap.size ∧ ¬ Own G hp m b
def GhOk (N:Nat) (w:World):Prop:=G.gh w ∧ ∀ b,G.gB b → b < N ∧ ¬ Held.S b
structure HRel (N:Nat) (hp:G.Hp) (m:Nat → Value) (w:World):Prop where
 obj:∀ (o:Nat) (ob:G.O),hp[o]? = some ob → RepO G w (Rof G hp m w) hp.length m N o ob
 sep:∀ (o o':Nat) (ob ob':G.O) (b:Nat),hp[o]? = some ob → hp[o']? = some ob' → ob.live = true → ob'.live = true → blkOf (m o) = some b → blkOf (m o') = some b → o = o'
 base:N ≤ w.heap.size
 held:∀ b,Held.S b → b < N
 gh:GhOk G N w
variable {G} in
theorem GhOk.mono {N:Nat} {w w':World} (h:GhOk G N w) (hw:∀ b,b < N → w'.heap[b]? = w.heap[b]?):GhOk G N w' :=
 ⟨G.gh_same w w' (fun b hb=>hw b (h.2 b hb).1) h.1,h.2⟩
end
instance held0:Held:=⟨fun _=>False⟩
def refs:G.C → List Nat
 | .os o=>[o]
 | .ptr o _=>[o]
 | .ep _ o _ _=>[o]
 | .bs _ o _=>[o]
 | .pre o _=>[o]
 | .clo _ caps=>caps
 | _=>[]
def junkC (o:Nat) (c:G.C):G.C:=if (refs G c).contains o then .junk else c
def junkT (o:Nat):G.T → G.T
 | .c x=>.c (junkC G o x)
 | .agg cs=>.agg (cs.map (junkC G o))
def junkD (o:Nat):G.D → G.D
 | .t x=>.t (junkT G o x)
 | .tup vs=>.tup (vs.map (junkT G o))
section
variable {G} {w w':World} {R R':Nat → Prop} {n n':Nat} {m m':Nat → Value}
theorem RepC.mono (h1:∀ b,R b → R' b) (h2:∀ b,R b → w'.heap[b]? = w.heap[b]?) (hn:n ≤ n') {c:G.C} {v:Value} (hm:∀ o ∈ refs G c,o < n → m' o = m o)
  (h:RepC G w R n m c v):RepC G w' R' n' m' c v:=by
 cases c with
 | junk=>trivial
 | pv p=>exact RepP.mono G h1 h2 h
 | os o=>exact ⟨by have:=h.1;omega,h.2.1.trans (hm o (by simp [refs]) h.1).symm,h.2.2⟩
 | ptr o f=>obtain ⟨hl,b,e1,e2⟩:=h;exact ⟨by omega,b,(hm o (by simp [refs]) hl).trans e1,e2⟩
 | rp cells =>
  obtain ⟨b,off,e,hb,hc⟩:=h
  refine ⟨b,off,e,h1 b hb,fun j p hj=>?_⟩
  obtain ⟨cv,h3,h4⟩:=hc j p hj
  exact ⟨cv,(cell_same (h2 b hb)).trans h3,RepP.mono G h1 h2 h4⟩
 | ep u o i j=>obtain ⟨hl,b,k,cap,e1,e2,e3⟩:=h;exact ⟨by omega,b,k,cap,(hm o (by simp [refs]) hl).trans e1,e2,e3⟩
 | bs u o k=>obtain ⟨hl,b,e1,e2⟩:=h;exact ⟨by omega,b,(hm o (by simp [refs]) hl).trans e1,e2⟩
 | pre o k=>obtain ⟨hl,b,C,e1,e2⟩:=h;exact ⟨by omega,b,C,(hm o (by simp [refs]) hl).trans e1,e2⟩
 | clo f caps =>
  obtain ⟨vs,e1,e2,e3⟩:=h
  refine ⟨vs,e1,e2,fun i o hi=>?_⟩
  obtain ⟨hl,b,e4,e5⟩:=e3 i o hi
  exact ⟨by omega,b,(hm o (List.mem_of_getElem? hi) hl).trans e4,e5⟩
 | fn u r F =>
  obtain ⟨g,caps,e1,e2,e3,e4,e5⟩:=h
  exact ⟨g,caps,e1,e2,e3,e4,fun w'' hw hg=>e5 w'' (fun b hb=>(hw b (h1 b hb)).trans (h2 b hb)) hg⟩
theorem RepL.mono (h1:∀ b,R b → R' b) (h2:∀ b,R b → w'.heap[b]? = w.heap[b]?) (hn:n ≤ n') {cs:List G.C} {vs:List Value} (hm:∀ c ∈ cs,∀ o ∈ refs G c,o < n → m' o = m o)
  (h:RepL G w R n m cs vs):RepL G w' R' n' m' cs vs :=
 ⟨h.1,fun i c hi=>by
  obtain ⟨x,h3,h4⟩:=h.2 i c hi
  exact ⟨x,h3,h4.mono h1 h2 hn (hm c (List.mem_of_getElem? hi))⟩⟩
def refsT:G.T → List Nat
 | .c x=>refs G x
 | .agg cs=>cs.flatMap (refs G)
def refsD:G.D → List Nat
 | .t x=>refsT x
 | .tup vs=>vs.flatMap refsT
theorem RepT.mono (h1:∀ b,R b → R' b) (h2:∀ b,R b → w'.heap[b]? = w.heap[b]?) (hn:n ≤ n') {t:G.T} {v:Value} (hm:∀ o ∈ refsT t,o < n → m' o = m o)
  (h:RepT G w R n m t v):RepT G w' R' n' m' t v:=by
 cases t with
 | c x=>exact RepC.mono h1 h2 hn hm h
 | agg cs =>
  obtain ⟨vs,e,hl⟩:=h
  exact ⟨vs,e,hl.mono h1 h2 hn fun c hc o ho=>hm o (List.mem_flatMap.2 ⟨c,hc,ho⟩)⟩
theorem RepD.mono (h1:∀ b,R b → R' b) (h2:∀ b,R b → w'.heap[b]? = w.heap[b]?) (hn:n ≤ n') {d:G.D} {v:Value} (hm:∀ o ∈ refsD d,o < n → m' o = m o)
  (h:RepD G w R n m d v):RepD G w' R' n' m' d v:=by
 cases d with
 | t x=>exact RepT.mono h1 h2 hn hm h
 | tup ts =>
  obtain ⟨vs,e,hl,hv⟩:=h
  refine ⟨vs,e,hl,fun i t hi=>?_⟩
  obtain ⟨x,h3,h4⟩:=hv i t hi
  exact ⟨x,h3,h4.mono h1 h2 hn fun o ho=>hm o (List.mem_flatMap.2 ⟨t,List.mem_of_getElem? hi,ho⟩)⟩
theorem junkC_or (o:Nat) (c:G.C):(junkC G o c = .junk) ∨ (junkC G o c = c ∧ o ∉ refs G c):=by
 unfold junkC
 by_cases h:(refs G c).contains o = true
 ·rw [if_pos h];exact .inl rfl
 ·rw [if_neg h];exact .inr ⟨rfl,by simpa using h⟩
theorem RepC.junk' (o:Nat) (h1:∀ b,R b → R' b) (h2:∀ b,R b → w'.heap[b]? = w.heap[b]?) (hn:n ≤ n') (hm:∀ o',o' ≠ o → o' < n → m' o' = m o') {c:G.C} {v:Value}
  (h:RepC G w R n m c v):RepC G w' R' n' m' (junkC G o c) v:=by
 rcases junkC_or o c with e | ⟨e,hx⟩
 ·rw [e];trivial
 ·rw [e];exact h.mono h1 h2 hn fun o' ho'=>hm o' (fun he=>hx (he ▸ ho'))
theorem RepL.junk' (o:Nat) (h1:∀ b,R b → R' b) (h2:∀ b,R b → w'.heap[b]? = w.heap[b]?) (hn:n ≤ n') (hm:∀ o',o' ≠ o → o' < n → m' o' = m o') {cs:List G.C} {vs:List Value}
  (h:RepL G w R n m cs vs):RepL G w' R' n' m' (cs.map (junkC G o)) vs :=
 ⟨by simpa using h.1,fun i c hi=>by
  rw [List.getElem?_map] at hi
  cases hc:cs[i]? with
  | none=>rw [hc] at hi;cases hi
  | some c0 =>
   rw [hc] at hi;cases hi
   obtain ⟨x,h3,h4⟩:=h.2 i c0 hc
   exact ⟨x,h3,h4.junk' o h1 h2 hn hm⟩⟩
theorem RepT.junk' (o:Nat) (h1:∀ b,R b → R' b) (h2:∀ b,R b → w'.heap[b]? = w.heap[b]?) (hn:n ≤ n') (hm:∀ o',o' ≠ o → o' < n → m' o' = m o') {t:G.T} {v:Value}
  (h:RepT G w R n m t v):RepT G w' R' n' m' (junkT G o t) v:=by
 cases t with
 | c x=>exact RepC.junk' o h1 h2 hn hm h
 | agg cs=>obtain ⟨vs,e,hl⟩:=h;exact ⟨vs,e,hl.junk' o h1 h2 hn hm⟩
theorem RepD.junk' (o:Nat) (h1:∀ b,R b → R' b) (h2:∀ b,R b → w'.heap[b]? = w.heap[b]?) (hn:n ≤ n') (hm:∀ o',o' ≠ o → o' < n → m' o' = m o') {d:G.D} {v:Value}
  (h:RepD G w R n m d v):RepD G w' R' n' m' (junkD G o d) v:=by
 cases d with
 | t x=>exact RepT.junk' o h1 h2 hn hm h
 | tup ts =>
  obtain ⟨vs,e,hl,hv⟩:=h
  refine ⟨vs,e,by simpa using hl,fun i t hi=>?_⟩
  rw [List.getElem?_map] at hi
  cases hc:ts[i]? with
  | none=>rw [hc] at hi;cases hi
  | some t0 =>
   rw [hc] at hi;cases hi
   obtain ⟨x,h3,h4⟩:=hv i t0 hc
   exact ⟨x,h3,h4.junk' o h1 h2 hn hm⟩
end
end Go.Proofs.YtgbicnkpnhifgaaGreatDoor

namespace Go.Proofs.YtgbicnkpnhifgaaGreatDoor
open Go.RowKit
variable {P:Program} (G:Sg P) {β:Type}
abbrev Sg.Env:=List (Option (DV G.U G.El))
abbrev Sg.Fr:=List (DV G.U G.El)
def getS (env:G.Env) (fr:G.Fr) (t:Nat):G.D:=match env[t]? with
 | some (some d)=>d
 | _=>(fr[t]?).getD (.t (.c .junk))
def pval (v:Value):G.T:=.c (.pv (.val v))
def opT (env:G.Env) (fr:G.Fr):Operand → Option G.T
 | .tmp t=>match getS G env fr t with
  | .t x=>some x
  | .tup _=>some (.c .junk)
 | .const v=>if v.oneCell' then some (pval G v) else none
 | .func f=>some (.c (.clo f []))
 | .global _=>none
def valOf:G.T → Option Value
 | .c (.pv (.val v))=>some v
 | _=>none
def bitsOf (op:BinOp) (k:IntKind) (x y:Int):Int:=k.wrap (match op with
 | .and=>(BitVec.ofInt k.bits x &&& BitVec.ofInt k.bits y).toNat
 | .or=>(BitVec.ofInt k.bits x ||| BitVec.ofInt k.bits y).toNat
 | .xor=>(BitVec.ofInt k.bits x ^^^ BitVec.ofInt k.bits y).toNat
 | _=>(BitVec.ofInt k.bits x &&& ~~~BitVec.ofInt k.bits y).toNat)
def intK (op:BinOp) (k:IntKind) (x y:Int) (K:Value → Option β):Option β :=
 match op with
 | .add=>K (.int k (k.wrap (x + y)))
 | .sub=>K (.int k (k.wrap (x - y)))
 | .mul=>K (.int k (k.wrap (x * y)))
 | .quo=>if y = 0 then none else K (.int k (k.wrap (x.tdiv y)))
 | .rem=>if y = 0 then none else K (.int k (x.tmod y))
 | .and=>K (.int k (bitsOf .and k x y))
 | .or=>K (.int k (bitsOf .or k x y))
 | .xor=>K (.int k (bitsOf .xor k x y))
 | .andNot=>K (.int k (bitsOf .andNot k x y))
 | .eql=>K (.bool (x == y))
 | .neq=>K (.bool (x != y))
 | .lss=>K (.bool (decide (x < y)))
 | .leq=>K (.bool (decide (x ≤ y)))
 | .gtr=>K (.bool (decide (x > y)))
 | .geq=>K (.bool (decide (x ≥ y)))
 | _=>none
def strK (op:BinOp) (x y:ByteArray) (K:Value → Option β):Option β :=
 match op with
 | .eql=>K (.bool (x.toList == y.toList))
 | .neq=>K (.bool (!(x.toList == y.toList)))
 | .lss=>K (.bool (Op.bytesLess x.toList y.toList))
 | .leq=>K (.bool (Op.bytesLess x.toList y.toList || x.toList == y.toList))
 | .gtr=>K (.bool (!(Op.bytesLess x.toList y.toList || x.toList == y.toList)))
 | .geq=>K (.bool (!(Op.bytesLess x.toList y.toList)))
 | .add=>if x.size + y.size ≤ 2147483648 then K (.string (x ++ y)) else none
 | _=>none
def binK (P:Program) (op:BinOp) (ty:TypeId) (a b:Value) (K:Value → Option β):Option β :=
 match a,b with
 | .int k x,.int k' y =>
  match op with
  | .shl=>if y < 0 then none else K (.int k (k.wrap (x * 2 ^ min y.toNat k.bits)))
  | .shr=>if y < 0 then none else K (.int k (x.fdiv (2 ^ min y.toNat k.bits)))
  | op=>if k = k' then intK op k x y K else none
 | .string x,.string y=>strK op x y K
 | .bool x,.bool y=>match op,P.underlying ty with
  | .eql,some .bool=>K (.bool (x == y))
  | .neq,some .bool=>K (.bool (!(x == y)))
  | _,_=>none
 | _,_=>none
def unK (op:UnOp) (a:Value) (K:Value → Option β):Option β :=
 match op,a with
 | .not,.bool b=>K (.bool (!b))
 | .neg,.int k n=>K (.int k (k.wrap (0 - n)))
 | _,_=>none
def pickK (c:Bool) (a b:G.T) (K:G.T → Option β):Option β :=
 match a,b with
 | .c (.pv (.val (.bool x))),.c (.pv (.val (.bool y)))=>K (pval G (.bool (cond c x y)))
 | .c (.pv (.val (.int k x))),.c (.pv (.val (.int k' y)))=>if k = k' then K (pval G (.int k (cond c x y))) else none
 | a,b=>cond c (K a) (K b)
section
variable {w:World} {r:β} {K:Value → Option β}
theorem intK_ok {op:BinOp} {k:IntKind} {x y:Int} (ty:TypeId) (h:intK op k x y K = some r):∃ v,(∀ w,(binOp op ty (.int k x) (.int k y)).run P w = .ok v w) ∧ K v = some r ∧ v.oneCell' = true:=by
 cases op <;> simp only [intK] at h
 case shl=>cases h
 case shr=>cases h
 case quo =>
  split at h
  ·cases h
  ·rename_i hy;exact ⟨_,fun w=>by simp [binOp,Op.intDiv,hy],h,rfl⟩
 case rem =>
  split at h
  ·cases h
  ·rename_i hy;exact ⟨_,fun w=>by simp [binOp,Op.intDiv,hy],h,rfl⟩
 all_goals exact ⟨_,fun w=>by simp [binOp,Op.intArith,Op.intBits,Op.intCmp,bitsOf];try rfl,h,rfl⟩
theorem strK_ok {op:BinOp} {x y:ByteArray} (ty:TypeId) (h:strK op x y K = some r):∃ v,(∀ w,(binOp op ty (.string x) (.string y)).run P w = .ok v w) ∧ K v = some r ∧ v.oneCell' = true:=by
 cases op <;> simp only [strK] at h
 case add =>
  split at h
  ·rename_i hs
   refine ⟨_,?_,h,rfl⟩
   have:¬ (((x.size + y.size:Nat):Int) > IntKind.i64.max):=by
    have e:IntKind.i64.max = 9223372036854775807:=by decide
    rw [e];omega
   intro w
   simp only [binOp,Op.stringOp,this,if_false]
   rfl
  ·cases h
 all_goals first
  | cases h;done
  | exact ⟨_,fun w=>by simp [binOp,Op.stringOp];try rfl,h,rfl⟩
theorem equal_bool {ty:TypeId} {a b:Bool} (hu:P.underlying ty = some .bool):(Op.equal ty (.bool a) (.bool b)).run P w = .ok (a == b) w:=by
 show (Op.equalIn (9999 + 1) ty (.bool a) (.bool b)).run P w = _
 generalize 9999 = n
 unfold Op.equalIn
 simp only [Sem.run_bind,run_underlying hu,Result.andThen_ok]
 rfl
theorem binK_ok {op:BinOp} {ty:TypeId} {a b:Value} (x y:Operand) (h:binK P op ty a b K = some r) :
  ∃ v,(∀ w,(do eqGuard op ty x y a b;binOp op ty a b:Sem Value).run P w = .ok v w) ∧ K v = some r ∧ v.oneCell' = true:=by
 unfold binK at h
 split at h
 ·rename_i k1 n1 k2 n2
  have hg:∀ (op:BinOp) w,(eqGuard op ty x y (.int k1 n1) (.int k2 n2)).run P w = .ok () w:=by
   intro op w;unfold eqGuard;cases op <;> simp
  split at h
  ·split at h
   ·cases h
   ·rename_i hy;exact ⟨_,fun w=>by simp [hg,binOp,Op.shift,hy],h,rfl⟩
  ·split at h
   ·cases h
   ·rename_i hy;exact ⟨_,fun w=>by simp [hg,binOp,Op.shift,hy],h,rfl⟩
  ·split at h
   ·rename_i hk;subst hk
    obtain ⟨v,h1,h2,h3⟩:=intK_ok (P:=P) ty h
    exact ⟨v,fun w=>by simp [hg,h1],h2,h3⟩
   ·cases h
 ·obtain ⟨v,h1,h2,h3⟩:=strK_ok (P:=P) ty h
  rename_i s1 s2
  have hg:∀ w,(eqGuard op ty x y (.string s1) (.string s2)).run P w = .ok () w:=by
   intro w;unfold eqGuard;cases op <;> simp
  exact ⟨v,fun w=>by simp [hg,h1],h2,h3⟩
 ·rename_i s1 s2
  have hg:∀ (op:BinOp) w,(eqGuard op ty x y (.bool s1) (.bool s2)).run P w = .ok () w:=by
   intro op w;unfold eqGuard;cases op <;> simp
  split at h
  ·rename_i hu;exact ⟨_,fun w=>by simp only [Sem.run_bind,hg,Result.andThen_ok,binOp,equal_bool hu,Sem.run_pure],h,rfl⟩
  ·rename_i hu;exact ⟨_,fun w=>by simp only [Sem.run_bind,hg,Result.andThen_ok,binOp,equal_bool hu,Sem.run_pure],h,rfl⟩
  ·cases h
 ·cases h
theorem unK_ok {op:UnOp} {a:Value} (h:unK op a K = some r):∃ v,(∀ w,(Op.unary op a).run P w = .ok v w) ∧ K v = some r ∧ v.oneCell' = true:=by
 unfold unK at h
 split at h
 ·exact ⟨_,fun _=>rfl,h,rfl⟩
 ·exact ⟨_,fun w=>by simp [Op.unary,Op.intArith],h,rfl⟩
 ·cases h
end
end Go.Proofs.YtgbicnkpnhifgaaGreatDoor

namespace Go.Proofs.YtgbicnkpnhifgaaGreatDoor
open Go.RowKit
variable {P:Program} (G:Sg P) {β:Type}
def isAggD:TypeDesc → Bool
 | .struct _ | .array _ _=>true
 | _=>false
def shapeP (P:Program) (t:TypeId):Option (Bool × Nat):=match P.underlying t,P.info? t with
 | some d,some i=>some (isAggD d,i.size)
 | _,_=>none
def takeT (s:Bool × Nat) (cs:List G.C):Option G.T:=match s.1 with
 | true=>if s.2 ≤ cs.length then some (.agg (cs.take s.2)) else none
 | false=>match cs with
  | c :: _=>some (.c c)
  | []=>none
def eqU (u v:G.U):Bool:=@decide (u = v) (G.deq u v)
def cellsK (hp:G.Hp) (a:G.T) (K:List G.C → Option β):Option β:=match a with
 | .c (.ptr o off)=>match hp[o]? with
  | some (.box cs)=>K (cs.drop off)
  | some (.lock cs)=>K (cs.drop off)
  | _=>none
 | .c (.rp cells)=>K (cells.map .pv)
 | .c (.ep u o i j)=>match hp[o]? with
  | some (.row _ u' l)=>if eqU G u' u then (l[i]?).bind fun x=>K (((G.row u' x).drop j).map .pv) else none
  | _=>none
 | _=>none
def loadK (hp:G.Hp) (t:TypeId) (a:G.T) (K:G.T → Option β):Option β:=match shapeP P t with
 | some s=>cellsK G hp a fun cs=>match takeT G s cs with
  | some x=>K x
  | none=>none
 | none=>none
def fieldOff (P:Program) (s:TypeId) (f:Nat):Option Nat:=match P.underlying s with
 | some (.struct fs)=>match fs[f]? with
  | some fl=>match P.info? fl.type with
   | some i=>match i.size with
    | 0=>none
    | _=>some fl.offset
   | none=>none
  | none=>none
 | _=>none
def fieldAddrK (s:TypeId) (a:G.T) (f:Nat) (K:G.T → Option β):Option β:=match fieldOff P s f with
 | some k=>match a with
  | .c (.ptr o off)=>K (.c (.ptr o (off + k)))
  | .c (.rp cells)=>K (.c (.rp (cells.drop k)))
  | .c (.ep u o i j)=>K (.c (.ep u o i (j + k)))
  | _=>none
 | none=>none
def idx {α:Type} (l:List α) (i:Int):Option α:=if 0 ≤ i then l[i.toNat]? else none
def indexAddrK (hp:G.Hp) (t:TypeId) (a i:G.T) (K:G.T → Option β):Option β:=match G.elt t,i with
 | some v,.c (.pv (.val (.int _ i)))=>match a with
  | .c (.pv (.sl u l))=>if eqU G u v then (idx l i).bind fun x=>K (.c (.rp (G.row u x))) else none
  | .c (.os o)=>match hp[o]? with
   | some (.row _ u l)=>if eqU G u v then (idx l i).bind fun _=>K (.c (.ep u o i.toNat 0)) else none
   | _=>none
  | .c (.bs u o k)=>if eqU G u v then (if G.sz v = 1 ∧ 0 ≤ i ∧ i < k then K (.c (.ptr o i.toNat)) else none) else none
  | _=>none
 | none,.c (.pv (.val (.int _ i)))=>match P.underlying t,a with
  | some (.array n e),.c (.ptr o off)=>match P.info? e with
   | some inf=>if 0 ≤ i ∧ i < n then K (.c (.ptr o (off + i.toNat * inf.size))) else none
   | none=>none
  | _,_=>none
 | _,_=>none
section
variable {G} {w:World} {R:Nat → Prop} {n:Nat} {m:Nat → Value} {r:β} [Held]
theorem idx_some {α:Type} {l:List α} {i:Int} {x:α} (h:idx l i = some x):0 ≤ i ∧ l[i.toNat]? = some x ∧ i < l.length:=by
 unfold idx at h
 split at h
 ·rename_i h0
  have:=(List.getElem?_eq_some_iff.1 h).1
  exact ⟨h0,h,by omega⟩
 ·cases h
theorem RepL.drop {cs:List G.C} {vs:List Value} (h:RepL G w R n m cs vs) (k:Nat):RepL G w R n m (cs.drop k) (vs.drop k) :=
 ⟨by simp [h.1],fun i c hi=>by
  rw [List.getElem?_drop] at hi
  obtain ⟨x,h3,h4⟩:=h.2 _ c hi
  exact ⟨x,by rw [List.getElem?_drop];exact h3,h4⟩⟩
theorem RepL.take {cs:List G.C} {vs:List Value} (h:RepL G w R n m cs vs) (k:Nat):RepL G w R n m (cs.take k) (vs.take k) :=
 ⟨by simp [h.1],fun i c hi=>by
  rw [List.getElem?_take] at hi ⊢
  split at hi
  ·rename_i hlt;rw [if_pos hlt];exact h.2 _ c hi
  ·cases hi⟩
theorem eqU_of {u v:G.U} (h:eqU G u v = true):u = v:=by
 unfold eqU at h;exact @of_decide_eq_true _ (G.deq u v) h
theorem shapeP_some {t:TypeId} {s:Bool × Nat} (h:shapeP P t = some s):∃ d i,P.underlying t = some d ∧ P.info? t = some i ∧ s = (isAggD d,i.size):=by
 unfold shapeP at h
 split at h
 ·rename_i d i h1 h2;exact ⟨d,i,h1,h2,(Option.some.inj h).symm⟩
 ·cases h
theorem run_isAgg {t:TypeId} {d:TypeDesc} (h:P.underlying t = some d):(isAgg t).run P w = .ok (isAggD d) w:=by
 unfold isAgg
 simp only [Sem.run_bind,run_underlying h,Result.andThen_ok]
 cases d <;> rfl
theorem loadVar_ok {t:TypeId} {s:Bool × Nat} (hs:shapeP P t = some s) {b off:Nat} {cs:List G.C} {vs:List Value} {x:G.T} (hr:RepL G w R n m cs vs)
  (hv:∀ j v,vs[j]? = some v → w.cell? ⟨b,off + j,none⟩ = some v) (ht:takeT G s cs = some x):∃ v,(∀ w',(∀ j,w'.cell? ⟨b,off + j,none⟩ = w.cell? ⟨b,off + j,none⟩) → (loadVar t ⟨b,off,none⟩).run P w' = .ok v w') ∧ RepT G w R n m x v:=by
 obtain ⟨d,i,h1,h2,rfl⟩:=shapeP_some hs
 unfold takeT at ht
 unfold loadVar
 simp only [Sem.run_bind,run_isAgg h1,Result.andThen_ok]
 cases hd:isAggD d with
 | true =>
  simp only [hd] at ht
  split at ht
  ·rename_i hlen
   cases ht
   have hl:(vs.take i.size).length = i.size:=by rw [List.length_take,hr.1];omega
   have hrun:=fun (w':World) (hw:∀ j,w'.cell? ⟨b,off + j,none⟩ = w.cell? ⟨b,off + j,none⟩)=>run_loadCells_list (P:=P) (w:=w') ⟨b,off,none⟩ (vs.take i.size) (fun j v hj=>by
    rw [Addr.add_lit,hw]
    apply hv j v
    rw [List.getElem?_take] at hj
    split at hj
    ·exact hj
    ·cases hj)
   rw [hl] at hrun
   refine ⟨.agg (vs.take i.size).toArray,?_,_,rfl,hr.take _⟩
   intro w' hw
   simp [sizeOf,typeInfo,h2,hrun w' hw]
  ·cases ht
 | false =>
  simp only [hd] at ht
  split at ht
  ·rename_i c cs
   cases ht
   obtain ⟨v,h3,h4⟩:=hr.2 0 c rfl
   refine ⟨v,?_,h4⟩
   have:=hv 0 v h3
   intro w' hw
   rw [← hw] at this
   simp only [Nat.add_zero] at this
   simp [run_load,this]
  ·cases ht
theorem RepL_pv {ps:List G.P'} {vs:List Value} (h1:vs.length = ps.length) (h2:∀ (j:Nat) (p:G.P'),ps[j]? = some p → ∃ x,vs[j]? = some x ∧ RepP G w R p x):RepL G w R n m (ps.map .pv) vs :=
 ⟨by simpa using h1,fun i c hi=>by
  rw [List.getElem?_map] at hi
  cases hp:ps[i]? with
  | none=>rw [hp] at hi;cases hi
  | some p=>rw [hp] at hi;cases hi;exact h2 i p hp⟩
def LdAt (G:Sg P) (hp:G.Hp) (m:Nat → Value) (w:World) (a:G.T) (b:Nat):Prop:=match a with
 | .c (.ptr o _)=>blkOf (m o) = some b
 | .c (.ep _ o _ _)=>blkOf (m o) = some b
 | .c (.rp _)=>Rof G hp m w b
 | _=>True
theorem cellsK_ok {N:Nat} {hp:G.Hp} {a:G.T} {va:Value} {K:List G.C → Option β} (hok:G.Ok) (hh:HRel G N hp m w) (ha:RepT G w (Rof G hp m w) hp.length m a va) (h:cellsK G hp a K = some r) :
  ∃ b off cs vs,va = .pointer (some ⟨b,off,none⟩) ∧ (b < w.heap.size ∧ LdAt G hp m w a b) ∧ RepL G w (Rof G hp m w) hp.length m cs vs ∧ (∀ j v,vs[j]? = some v → w.cell? ⟨b,off + j,none⟩ = some v) ∧ K cs = some r:=by
 unfold cellsK at h
 have box:∀ o off cs,RepO G w (Rof G hp m w) hp.length m N o (.box cs) → RepT G w (Rof G hp m w) hp.length m (.c (.ptr o off)) va → K (cs.drop off) = some r →
   ∃ b off cs vs,va = .pointer (some ⟨b,off,none⟩) ∧ (b < w.heap.size ∧ blkOf (m o) = some b) ∧ RepL G w (Rof G hp m w) hp.length m cs vs ∧ (∀ j v,vs[j]? = some v → w.cell? ⟨b,off + j,none⟩ = some v) ∧ K cs = some r:=by
  intro o off cs ho ha h
  obtain ⟨b,t,vs,e1,_,e2,e3,_⟩:=ho
  obtain ⟨_,b',e4,rfl⟩:=ha
  rw [e1] at e4
  cases e4
  refine ⟨b,off,cs.drop off,vs.toList.drop off,rfl,⟨(Array.getElem?_eq_some_iff.1 e2).1,by rw [e1];rfl⟩,e3.drop off,fun j v hj=>?_,h⟩
  rw [cell_of_row w b (off + j) vs t (0,0) e2]
  rw [List.getElem?_drop] at hj
  simpa using hj
 split at h
 ·rename_i o off
  split at h
  ·rename_i cs ho;exact box o off cs (hh.obj o _ ho) ha h
  ·rename_i cs ho;exact box o off cs (show RepO G w _ _ m N o (.lock cs) from hh.obj o (.lock cs) ho) ha h
  ·cases h
 ·rename_i cells
  obtain ⟨b,off,rfl,hbR,hc⟩:=ha
  have hex:∃ vs:List Value,vs.length = cells.length ∧ ∀ (j:Nat) (p:G.P'),cells[j]? = some p → ∃ x,vs[j]? = some x ∧ w.cell? ⟨b,off + j,none⟩ = some x ∧ RepP G w (Rof G hp m w) p x:=by
   clear h
   refine ⟨(List.range cells.length).map fun j=>(w.cell? ⟨b,off + j,none⟩).getD undef,by simp,fun j p hj=>?_⟩
   obtain ⟨cv,h1,h2⟩:=hc j p hj
   have hlt:=(List.getElem?_eq_some_iff.1 hj).1
   refine ⟨cv,?_,h1,h2⟩
   simp [hlt,h1]
  obtain ⟨vs,h1,h2⟩:=hex
  refine ⟨b,off,cells.map .pv,vs,rfl,⟨hbR.1,hbR⟩,RepL_pv h1 fun j p hj=>by obtain ⟨x,h3,_,h4⟩:=h2 j p hj;exact ⟨x,h3,h4⟩,fun j v hj=>?_,h⟩
  have hlt:=(List.getElem?_eq_some_iff.1 hj).1
  obtain ⟨x,h3,h4,_⟩:=h2 j (cells[j]'(by omega)) (List.getElem?_eq_getElem _)
  rw [h3] at hj
  cases hj
  exact h4
 ·rename_i u o i j
  split at h
  ·rename_i lk u' l ho
   split at h
   ·rename_i hu
    obtain rfl:=eqU_of hu
    rw [Option.bind_eq_some_iff] at h
    obtain ⟨x,hx,h⟩:=h
    obtain ⟨xs,h1,h2,_⟩:=hh.obj o _ ho
    obtain ⟨_,b,k,cap,e1,e2,rfl⟩:=ha
    rw [e1] at h1
    have hbs:b < w.heap.size:=by
     rcases h1.2 with ⟨e,_⟩ | ⟨g,cap',cur,e,_,hg,_⟩
     ·cases e
     ·cases e;exact (Array.getElem?_eq_some_iff.1 hg).1
    have hk:k = l.length:=by
     rcases h1.2 with ⟨e,_⟩ | ⟨g,cap',cur,e,_⟩
     ·cases e
     ·cases e;rfl
    subst hk
    have hrow:=hok.row_sz u' x
    have hi:=(List.getElem?_eq_some_iff.1 hx).1
    have hlen:=h1.1
    have hle:i * G.sz u' + G.sz u' ≤ l.length * G.sz u':=by
     rw [← Nat.succ_mul];exact Nat.mul_le_mul_right _ hi
    refine ⟨b,i * G.sz u' + j,((G.row u' x).drop j).map .pv,((xs.drop (i * G.sz u')).take (G.sz u')).drop j,rfl,⟨hbs,show blkOf (m o) = some b by rw [e1];rfl⟩,RepL_pv (by simp only [List.length_drop,List.length_take,hrow,hlen];omega) (fun k p hk=>?_),fun k v hk=>?_,h⟩
    ·rw [List.getElem?_drop] at hk
     obtain ⟨cv,h3,h4⟩:=h2 i x (j + k) p hx hk
     have:=(List.getElem?_eq_some_iff.1 hk).1
     refine ⟨cv,?_,h4⟩
     rw [List.getElem?_drop,List.getElem?_take,if_pos (by omega),List.getElem?_drop]
     exact h3
    ·rw [List.getElem?_drop,List.getElem?_take] at hk
     split at hk
     ·rw [List.getElem?_drop] at hk
      have:=h1.cellAt (i * G.sz u' + (j + k)) (by omega)
      rw [Nat.add_assoc,this]
      exact hk
     ·cases hk
   ·cases h
  ·cases h
 ·cases h
end
end Go.Proofs.YtgbicnkpnhifgaaGreatDoor

namespace Go.Proofs.YtgbicnkpnhifgaaGreatDoor
open Go.RowKit
variable {P:Program} (G:Sg P) {β:Type}
def idxB (s:ByteArray) (i:Int):Option UInt8:=if 0 ≤ i then s[i.toNat]? else none
def indexK (P:Program) (t:TypeId) (a i:G.T) (K:G.T → Option β):Option β:=match P.underlying t,valOf G a,valOf G i with
 | some .string,some (.string s),some (.int _ i)=>(idxB s i).bind fun b=>K (pval G (.int .u8 b.toNat))
 | some (.array n e),_,some (.int _ i)=>match a,shapeP P e,P.info? e with
  | .agg cs,some s,some inf=>if 0 ≤ i ∧ i < n then (match takeT G s (cs.drop (i.toNat * inf.size)) with
   | some x=>K x
   | none=>none) else none
  | _,_,_=>none
 | _,_,_=>none
def extractK (d:G.D) (i:Nat) (K:G.T → Option β):Option β:=match d with
 | .tup vs=>match vs[i]? with
  | some x=>K x
  | none=>none
 | _=>none
def fieldK (P:Program) (t:TypeId) (a:G.T) (f:Nat) (K:G.T → Option β):Option β:=match P.underlying t,a with
 | some (.struct fs),.agg cs=>match fs[f]? with
  | some fl=>match shapeP P fl.type with
   | some s=>match takeT G s (cs.drop fl.offset) with
    | some x=>K x
    | none=>none
   | none=>none
  | none=>none
 | _,_=>none
def lenOfT (hp:G.Hp) (a:G.T):Option Nat:=match a with
 | .c (.pv (.sl _ l))=>some l.length
 | .c (.pv (.val (.slice _ n _)))=>some n
 | .c (.os o)=>match hp[o]? with
  | some (.row _ _ l)=>some l.length
  | _=>none
 | .c (.bs _ _ k)=>some k
 | .c (.pre _ k)=>some k
 | _=>none
def lenK (P:Program) (hp:G.Hp) (t:TypeId) (a:G.T) (K:G.T → Option β):Option β:=match P.underlying t with
 | some .string=>match valOf G a with
  | some (.string s)=>K (pval G (.int .i64 s.size))
  | _=>none
 | some (.slice _)=>match lenOfT G hp a with
  | some n=>K (pval G (.int .i64 n))
  | none=>none
 | _=>none
def intsOf:List G.T → Option (List (IntKind × Int))
 | []=>some []
 | x :: xs=>match valOf G x,intsOf xs with
  | some (.int k n),some l=>some ((k,n) :: l)
  | _,_=>none
def maxZ (x y:Int):Int:=if y > x then y else x
def minZ (x y:Int):Int:=if y < x then y else x
def extremeK (f:Int → Int → Int) (args:List G.T) (K:G.T → Option β):Option β:=match intsOf G args with
 | some ((k,x) :: l)=>K (pval G (.int k ((l.map (·.2)).foldl f x)))
 | _=>none
def convertK (P:Program) (src dst:TypeId) (a:G.T) (K:G.T → Option β):Option β:=match P.underlying src,P.underlying dst,valOf G a with
 | some (.int _),some (.int k),some (.int _ n)=>K (pval G (.int k (k.wrap n)))
 | some .string,some .string,some (.string s)=>K (pval G (.string s))
 | _,_,_=>none
def nilCheckK (a:G.T) (K:G.T → Option β):Option β:=match a with
 | .c (.ptr o off)=>K (.c (.ptr o off))
 | .c (.rp cells)=>K (.c (.rp cells))
 | .c (.ep u o i j)=>K (.c (.ep u o i j))
 | .c (.clo f caps)=>K (.c (.clo f caps))
 | _=>none
def boundI (x:Option G.T) (d:Int):Option Int:=match x with
 | none=>some d
 | some x=>match valOf G x with
  | some (.int _ n)=>some n
  | _=>none
def sliceK (P:Program) (t:TypeId) (a:G.T) (lo hi:Option G.T) (K:G.T → Option β):Option β:=match P.underlying t,a with
 | some .string,.c (.pv (.val (.string s)))=>match boundI G lo 0,boundI G hi s.size with
  | some l,some h=>if 0 ≤ l ∧ l ≤ h ∧ h ≤ s.size then K (pval G (.string (s.extract l.toNat h.toNat))) else none
  | _,_=>none
 | some (.slice _),.c (.pv (.sl u xs))=>match G.elt t,boundI G lo 0,boundI G hi xs.length with
  | some v,some l,some h=>if eqU G u v then (if 0 ≤ l ∧ l ≤ h ∧ h ≤ xs.length then K (.c (.pv (.sl u ((xs.take h.toNat).drop l.toNat)))) else none) else none
  | _,_,_=>none
 | _,_=>none
section
variable {G} {w:World} {R:Nat → Prop} {n:Nat} {m:Nat → Value} {r:β} [Held]
theorem valOf_rep {a:G.T} {v va:Value} (h:valOf G a = some v) (ha:RepT G w R n m a va):va = v ∧ v.oneCell' = true:=by
 unfold valOf at h
 split at h
 ·cases h
  cases ha with
  | val _ h=>exact ⟨rfl,h⟩
 ·cases h
theorem RepT_val {v:Value} (h:v.oneCell' = true):RepT G w R n m (pval G v) v:=RepP.val v h
theorem loadK_ok {N:Nat} {hp:G.Hp} {t:TypeId} {a:G.T} {va:Value} {K:G.T → Option β} (hok:G.Ok) (hh:HRel G N hp m w) (ha:RepT G w (Rof G hp m w) hp.length m a va)
  (h:loadK G hp t a K = some r):∃ v x,(∃ b,b < w.heap.size ∧ LdAt G hp m w a b ∧ ∀ w',w'.heap[b]? = w.heap[b]? → (Instr.loadAt t va).run P w' = .ok v w') ∧ RepT G w (Rof G hp m w) hp.length m x v ∧ K x = some r:=by
 unfold loadK at h
 split at h
 ·rename_i s hs
  obtain ⟨b,off,cs,vs,rfl,hbs,h1,h2,h3⟩:=cellsK_ok hok hh ha h
  split at h3
  ·rename_i x hx
   obtain ⟨v,h4,h5⟩:=loadVar_ok (P:=P) hs h1 h2 hx
   exact ⟨v,x,⟨b,hbs.1,hbs.2,fun w' hw=>by simp [Instr.loadAt,Instr.sureAddr,h4 w' (fun j=>cell_same hw)]⟩,h5,h3⟩
  ·cases h3
 ·cases h
theorem fieldAddrK_ok {s:TypeId} {f:Nat} {a:G.T} {va:Value} {K:G.T → Option β} (ha:RepT G w R n m a va) (h:fieldAddrK G s a f K = some r) :
  ∃ v x,(∀ w,(Instr.fieldAt s va f).run P w = .ok v w) ∧ RepT G w R n m x v ∧ K x = some r:=by
 unfold fieldAddrK at h
 split at h
 ·rename_i k hk
  have hrun:∀ b off w,(Instr.fieldAt s (.pointer (some ⟨b,off,none⟩)) f).run P w = .ok (.pointer (some ⟨b,off + k,none⟩)) w:=by
   intro b off w
   unfold fieldOff at hk
   split at hk
   ·rename_i fs hs
    split at hk
    ·rename_i fl hf
     split at hk
     ·rename_i i hi
      split at hk
      ·cases hk
      ·rename_i hne
       cases hk
       have hz:i.size ≠ 0:=fun e=>hne e
       simp [Instr.fieldAt,run_underlying hs,hf,Instr.sureAddr,fieldPlace,sizeOf,typeInfo,hi,hz,Addr.add_lit]
     ·cases hk
    ·cases hk
   ·cases hk
  split at h
  ·rename_i o off
   obtain ⟨hl,b,e1,rfl⟩:=ha
   refine ⟨_,_,hrun b off,?_,h⟩
   exact ⟨hl,b,e1,rfl⟩
  ·rename_i cells
   obtain ⟨b,off,rfl,hb,hc⟩:=ha
   refine ⟨_,_,hrun b off,?_,h⟩
   refine ⟨b,off + k,rfl,hb,fun j p hj=>?_⟩
   rw [List.getElem?_drop] at hj
   obtain ⟨cv,h1,h2⟩:=hc _ p hj
   exact ⟨cv,by rw [Nat.add_assoc];exact h1,h2⟩
  ·rename_i u o i j
   obtain ⟨hl,b,q,cap,e1,e2,rfl⟩:=ha
   refine ⟨_,_,hrun b _,?_,h⟩
   exact ⟨hl,b,q,cap,e1,e2,by rw [Nat.add_assoc]⟩
  ·cases h
 ·cases h
theorem indexAddrK_ok {N:Nat} {hp:G.Hp} {t:TypeId} {a i:G.T} {va vi:Value} {K:G.T → Option β} (hok:G.Ok) (hh:HRel G N hp m w)
  (ha:RepT G w (Rof G hp m w) hp.length m a va) (hi:RepT G w (Rof G hp m w) hp.length m i vi) (h:indexAddrK G hp t a i K = some r) :
  ∃ v x,(∀ w,(Instr.indexAt t va vi).run P w = .ok v w) ∧ RepT G w (Rof G hp m w) hp.length m x v ∧ K x = some r:=by
 unfold indexAddrK at h
 split at h
 ·rename_i v k z hv
  obtain rfl:vi = .int k z:=by
   cases hi with
   | val _ _=>rfl
  have hu:=hok.elt t v hv
  obtain ⟨inf,zz,hinf,_,hsz,_⟩:=hok.info v
  have hrun:∀ (b off len cap:Nat),0 ≤ z → z < len → ∀ w,(Instr.indexAt t (.slice (some ⟨b,off,none⟩) len cap) (.int k z)).run P w = .ok (.pointer (some ⟨b,off + z.toNat * G.sz v,none⟩)) w:=by
   intro b off len cap h0 h1 w
   simp [Instr.indexAt,asIntOf,run_underlying hu,h0,h1,sizeOf,typeInfo,hinf,hsz,Addr.add_lit]
  split at h
  ·rename_i u l
   split at h
   ·rename_i heq
    obtain rfl:=eqU_of heq
    rw [Option.bind_eq_some_iff] at h
    obtain ⟨x,hx,h⟩:=h
    obtain ⟨h0,h1,h2⟩:=idx_some hx
    cases ha with
    | sl _ _ A b off cap c hcap ha hc hr =>
     have hp:0 < l.length:=by omega
     obtain ⟨rfl,hb⟩:=ha hp
     refine ⟨_,_,hrun b off _ cap h0 h2,?_,h⟩
     exact ⟨b,_,rfl,hb,fun j p hj=>⟨_,hc _ x j p h1 hj,hr _ x j p h1 hj⟩⟩
   ·cases h
  ·rename_i o
   split at h
   ·rename_i lk u l ho
    split at h
    ·rename_i heq
     obtain rfl:=eqU_of heq
     rw [Option.bind_eq_some_iff] at h
     obtain ⟨x,hx,h⟩:=h
     obtain ⟨h0,h1,h2⟩:=idx_some hx
     obtain ⟨xs,h3,_⟩:=hh.obj o _ ho
     obtain ⟨hl,rfl,_⟩:=ha
     rcases h3.2 with ⟨_,e⟩ | ⟨g,cap,cur,e,_⟩
     ·rw [e] at h2;omega
     ·rw [e]
      refine ⟨_,_,hrun g 0 _ cap h0 h2,?_,h⟩
      exact ⟨hl,g,l.length,cap,e,by omega,by simp⟩
    ·cases h
   ·cases h
  ·rename_i u o q
   split at h
   ·split at h
    ·rename_i hq
     obtain ⟨hs1,h0,h1⟩:=hq
     obtain ⟨hl,b,e1,rfl⟩:=ha
     refine ⟨_,_,hrun b 0 q q h0 h1,?_,h⟩
     exact ⟨hl,b,e1,by rw [hs1,Nat.mul_one,Nat.zero_add]⟩
    ·cases h
   ·cases h
  ·cases h
 ·rename_i k z hv
  obtain rfl:vi = .int k z:=by
   cases hi with
   | val _ _=>rfl
  split at h
  ·rename_i ln e o off hu
   split at h
   ·rename_i inf hinf
    split at h
    ·rename_i hr
     obtain ⟨hl,b,e1,rfl⟩:=ha
     refine ⟨.pointer (some ⟨b,off + z.toNat * inf.size,none⟩),_,fun w=>?_,?_,h⟩
     rotate_left
     ·exact ⟨hl,b,e1,rfl⟩
     ·simp [Instr.indexAt,asIntOf,run_underlying hu,hr,Instr.sureAddr,sizeOf,typeInfo,hinf,Addr.add_lit]
    ·cases h
   ·cases h
  ·cases h
 ·cases h
theorem part_ok {t:TypeId} {s:Bool × Nat} (hs:shapeP P t = some s) {off:Nat} {cs:List G.C} {vs:List Value} {x:G.T} (hr:RepL G w R n m cs vs)
  (ht:takeT G s (cs.drop off) = some x):∃ v,(∀ w,(part t vs.toArray off).run P w = .ok v w) ∧ RepT G w R n m x v:=by
 obtain ⟨d,i,h1,h2,rfl⟩:=shapeP_some hs
 unfold takeT at ht
 unfold part
 simp only [Sem.run_bind,run_isAgg h1,Result.andThen_ok]
 cases hd:isAggD d with
 | true =>
  simp only [hd] at ht
  split at ht
  ·cases ht
   refine ⟨.agg ((vs.drop off).take i.size).toArray,?_,_,rfl,(hr.drop off).take _⟩
   intro w
   simp [sizeOf,typeInfo,h2]
  ·cases ht
 | false =>
  simp only [hd] at ht
  split at ht
  ·rename_i c cs' hcs
   cases ht
   have:(cs.drop off)[0]? = some c:=by rw [hcs];rfl
   obtain ⟨v,h3,h4⟩:=(hr.drop off).2 0 c this
   refine ⟨v,?_,h4⟩
   rw [List.getElem?_drop,Nat.add_zero] at h3
   intro w
   simp [h3]
  ·cases ht
theorem indexK_ok {t:TypeId} {a i:G.T} {va vi:Value} {K:G.T → Option β} (ha:RepT G w R n m a va) (hi:RepT G w R n m i vi) (h:indexK G P t a i K = some r) :
  ∃ v x,(∀ w,(Instr.index t va vi).run P w = .ok v w) ∧ RepT G w R n m x v ∧ K x = some r:=by
 unfold indexK at h
 split at h
 ·rename_i s k z hu ha' hi'
  obtain ⟨rfl,_⟩:=valOf_rep ha' ha
  obtain ⟨rfl,_⟩:=valOf_rep hi' hi
  rw [Option.bind_eq_some_iff] at h
  obtain ⟨x,hx,h⟩:=h
  unfold idxB at hx
  exact ⟨_,_,fun w=>by simp only [Instr.index,Sem.run_bind,asIntOf,Sem.run_pure,Result.andThen_ok,run_underlying hu,hx],RepT_val rfl,h⟩
 ·rename_i ln e k z hu hi'
  obtain ⟨rfl,_⟩:=valOf_rep hi' hi
  split at h
  ·rename_i cs s inf hs hinf
   split at h
   ·rename_i hr
    split at h
    ·rename_i x hx
     obtain ⟨vs,rfl,hl⟩:=ha
     obtain ⟨v,h1,h2⟩:=part_ok (P:=P) hs hl hx
     exact ⟨v,x,fun w=>by simp only [Instr.index,Sem.run_bind,asIntOf,Sem.run_pure,Result.andThen_ok,run_underlying hu,hr,and_self,if_true,sizeOf,typeInfo,run_program,hinf,h1],h2,h⟩
    ·cases h
   ·cases h
  ·cases h
 ·cases h
theorem extractK_ok {i:Nat} {d:G.D} {va:Value} {K:G.T → Option β} (ha:RepD G w R n m d va) (h:extractK G d i K = some r) :
  ∃ v x,(∀ w,(Instr.extract va i).run P w = .ok v w) ∧ RepT G w R n m x v ∧ K x = some r:=by
 unfold extractK at h
 split at h
 ·split at h
  ·rename_i x hx
   obtain ⟨vs,rfl,_,hv⟩:=ha
   obtain ⟨v,h1,h2⟩:=hv i x hx
   exact ⟨v,x,fun w=>by simp [Instr.extract,h1],h2,h⟩
  ·cases h
 ·cases h
theorem fieldK_ok {t:TypeId} {f:Nat} {a:G.T} {va:Value} {K:G.T → Option β} (ha:RepT G w R n m a va) (h:fieldK G P t a f K = some r) :
  ∃ v x,(∀ w,(Instr.field t va f).run P w = .ok v w) ∧ RepT G w R n m x v ∧ K x = some r:=by
 unfold fieldK at h
 split at h
 ·rename_i fs cs hu
  split at h
  ·rename_i fl hf
   split at h
   ·rename_i s hs
    split at h
    ·rename_i x hx
     obtain ⟨vs,rfl,hl⟩:=ha
     obtain ⟨v,h1,h2⟩:=part_ok (P:=P) hs hl hx
     exact ⟨v,x,fun w=>by simp [Instr.field,run_underlying hu,hf,asAgg,h1],h2,h⟩
    ·cases h
   ·cases h
  ·cases h
 ·cases h
theorem lenOfT_ok {N:Nat} {hp:G.Hp} {a:G.T} {va:Value} {k:Nat} (hh:HRel G N hp m w) (ha:RepT G w (Rof G hp m w) hp.length m a va) (h:lenOfT G hp a = some k) :
  ∃ A cap,va = .slice A k cap:=by
 unfold lenOfT at h
 split at h
 ·cases h
  cases ha with
  | sl _ _ A b off cap c hcap ha hc hr=>exact ⟨A,cap,rfl⟩
 ·cases h
  cases ha with
  | val _ _=>exact ⟨_,_,rfl⟩
 ·rename_i o
  split at h
  ·rename_i lk u l ho
   cases h
   obtain ⟨xs,h3,_⟩:=hh.obj o _ ho
   obtain ⟨_,rfl,_⟩:=ha
   rcases h3.2 with ⟨e,e'⟩ | ⟨g,cap,cur,e,_⟩
   ·rw [e,e'];exact ⟨_,_,rfl⟩
   ·rw [e];exact ⟨_,_,rfl⟩
  ·cases h
 ·cases h
  obtain ⟨_,b,_,rfl⟩:=ha
  exact ⟨_,_,rfl⟩
 ·cases h
  obtain ⟨_,b,C,_,_,rfl⟩:=ha
  exact ⟨_,_,rfl⟩
 ·cases h
theorem lenK_ok {N:Nat} {hp:G.Hp} {t ty:TypeId} {a:G.T} {va:Value} {K:G.T → Option β} (hh:HRel G N hp m w) (ha:RepT G w (Rof G hp m w) hp.length m a va) (h:lenK G P hp t a K = some r) :
  ∃ v x,(∀ w,(Builtin.len_ #[t] ty #[va]).run P w = .ok v w) ∧ RepT G w (Rof G hp m w) hp.length m x v ∧ K x = some r:=by
 unfold lenK at h
 split at h
 ·rename_i hu
  split at h
  ·rename_i s hs
   obtain ⟨rfl,_⟩:=valOf_rep hs ha
   exact ⟨_,_,fun w=>by simp [Builtin.len_,run_underlying hu,goInt],RepT_val rfl,h⟩
  ·cases h
 ·rename_i e hu
  split at h
  ·rename_i k hk
   obtain ⟨A,cap,rfl⟩:=lenOfT_ok hh ha hk
   exact ⟨_,_,fun w=>by simp [Builtin.len_,run_underlying hu,goInt],RepT_val rfl,h⟩
  ·cases h
 ·cases h
theorem convertK_ok {s t:TypeId} {a:G.T} {va:Value} {K:G.T → Option β} (ha:RepT G w R n m a va) (h:convertK G P s t a K = some r) :
  ∃ v x,(∀ w,(convert s t va).run P w = .ok v w) ∧ RepT G w R n m x v ∧ K x = some r:=by
 unfold convertK at h
 split at h
 ·rename_i k1 k k2 z h1 h2 h3
  obtain ⟨rfl,_⟩:=valOf_rep h3 ha
  exact ⟨_,_,fun w=>by simp [convert,run_underlying h1,run_underlying h2,Conv.intToInt],RepT_val rfl,h⟩
 ·rename_i z h1 h2 h3
  obtain ⟨rfl,_⟩:=valOf_rep h3 ha
  exact ⟨_,_,fun w=>by simp [convert,run_underlying h1,run_underlying h2],RepT_val rfl,h⟩
 ·cases h
end
end Go.Proofs.YtgbicnkpnhifgaaGreatDoor

namespace Go.Proofs.YtgbicnkpnhifgaaGreatDoor
open Go.RowKit
variable {P:Program} (G:Sg P) {β:Type}
def tcells:G.T → Option (List G.C)
 | .c .junk=>none
 | .c x=>some [x]
 | .agg cs=>some cs
def setAt {α:Type} (l:List α) (off:Nat) (xs:List α):List α:=l.take off ++ xs ++ l.drop (off + xs.length)
def fillC (places:List (Nat × Nat)) (cs:List G.C):List (Nat × G.T) → Option (List G.C)
 | []=>some cs
 | (i,x) :: rest=>match places[i]?,tcells G x with
  | some (off,size),some xs=>if xs.length = size ∧ off + size ≤ cs.length then fillC places (setAt cs off xs) rest else none
  | _,_=>none
def zeroCells (P:Program) (t:TypeId):Option (List G.C):=match P.info? t with
 | some i=>match i.zero with
  | some z=>if z.cells.toList.all Value.oneCell' then some (z.cells.toList.map fun v=>.pv (.val v)) else none
  | none=>none
 | none=>none
def placesOf (P:Program):List Field → Option (List (Nat × Nat))
 | []=>some []
 | f :: fs=>match P.info? f.type,placesOf P fs with
  | some i,some l=>some ((f.offset,i.size) :: l)
  | _,_=>none
def fillR (size:Nat) (cs:List G.C):List (Nat × G.T) → Option (List G.C)
 | []=>some cs
 | (i,x) :: rest=>match tcells G x with
  | some xs=>if xs.length = size ∧ i * size + size ≤ cs.length then fillR size (setAt cs (i * size) xs) rest else none
  | none=>none
def buildK (P:Program) (t:TypeId) (parts:List (Nat × G.T)) (K:G.T → Option β):Option β:=match P.underlying t,zeroCells G P t with
 | some (.struct fs),some z=>match placesOf P fs.toList with
  | some pl=>match fillC G pl z parts with
   | some cs=>K (.agg cs)
   | none=>none
  | none=>none
 | some (.array _ e),some z=>match P.info? e with
  | some i=>match fillR G i.size z parts with
   | some cs=>K (.agg cs)
   | none=>none
  | none=>none
 | _,_=>none
def capsOf:List G.T → Option (List Nat)
 | []=>some []
 | .c (.ptr o 0) :: xs=>match capsOf xs with
  | some l=>some (o :: l)
  | none=>none
 | _=>none
def makeFuncK (fn:Fn) (first:Nat) (caps:List G.T) (K:G.T → Option β):Option β:=match fn,first,capsOf G caps with
 | .func f,0,some l=>K (.c (.clo f l))
 | _,_,_=>none
section
variable {G} {w:World} {R:Nat → Prop} {n:Nat} {m:Nat → Value} {r:β}
inductive RepTs (G:Sg P) (w:World) (R:Nat → Prop) (n:Nat) (m:Nat → Value):List G.T → List Value → Prop where
 | nil:RepTs G w R n m [] []
 | cons {x xs v vs} (h:RepT G w R n m x v) (ht:RepTs G w R n m xs vs):RepTs G w R n m (x :: xs) (v :: vs)
theorem intsOf_ok {xs:List G.T} {vs:List Value} (h:RepTs G w R n m xs vs):∀ l,intsOf G xs = some l → vs = l.map fun p=>.int p.1 p.2:=by
 induction h with
 | nil=>intro l h;cases h;rfl
 | cons hx _ ih =>
  intro l h
  unfold intsOf at h
  split at h
  ·rename_i k z l' h1 h2
   cases h
   obtain ⟨rfl,_⟩:=valOf_rep h1 hx
   rw [ih _ h2];rfl
  ·cases h
theorem run_max (k:IntKind) (x:Int) (l:List (IntKind × Int)):((l.map fun p=>Value.int p.1 p.2).foldlM Builtin.max2 (.int k x)).run P w = .ok (.int k ((l.map (·.2)).foldl maxZ x)) w:=by
 induction l generalizing x with
 | nil=>rfl
 | cons p l ih=>simp only [List.map_cons,List.foldlM_cons,Sem.run_bind,Builtin.max2,Sem.run_pure,Result.andThen_ok,List.foldl_cons];exact ih _
theorem run_min (k:IntKind) (x:Int) (l:List (IntKind × Int)):((l.map fun p=>Value.int p.1 p.2).foldlM Builtin.min2 (.int k x)).run P w = .ok (.int k ((l.map (·.2)).foldl minZ x)) w:=by
 induction l generalizing x with
 | nil=>rfl
 | cons p l ih=>simp only [List.map_cons,List.foldlM_cons,Sem.run_bind,Builtin.min2,Sem.run_pure,Result.andThen_ok,List.foldl_cons];exact ih _
theorem maxK_ok {ts:Array TypeId} {ty:TypeId} {xs:List G.T} {vs:List Value} {K:G.T → Option β} (ha:RepTs G w R n m xs vs) (h:extremeK G maxZ xs K = some r) :
  ∃ v x,(∀ w,(Builtin.max_ ts ty vs.toArray).run P w = .ok v w) ∧ RepT G w R n m x v ∧ K x = some r:=by
 unfold extremeK at h
 split at h
 ·rename_i k x l hl
  have:=intsOf_ok ha _ hl
  subst this
  refine ⟨_,_,fun w=>?_,RepT_val rfl,h⟩
  simp only [Builtin.max_,List.map_cons]
  exact run_max k x l
 ·cases h
theorem minK_ok {ts:Array TypeId} {ty:TypeId} {xs:List G.T} {vs:List Value} {K:G.T → Option β} (ha:RepTs G w R n m xs vs) (h:extremeK G minZ xs K = some r) :
  ∃ v x,(∀ w,(Builtin.min_ ts ty vs.toArray).run P w = .ok v w) ∧ RepT G w R n m x v ∧ K x = some r:=by
 unfold extremeK at h
 split at h
 ·rename_i k x l hl
  have:=intsOf_ok ha _ hl
  subst this
  refine ⟨_,_,fun w=>?_,RepT_val rfl,h⟩
  simp only [Builtin.min_,List.map_cons]
  exact run_min k x l
 ·cases h
theorem nilCheckK_ok {a:G.T} {va:Value} {K:G.T → Option β} (ρ:Operand → Value) (o:Oper) (x:Operand) (ho:o.op = .nilCheck x) (hx:ρ x = va) (ha:RepT G w R n m a va) (h:nilCheckK G a K = some r) :
  ∃ v x,(∀ w,(execOp ρ o).run P w = .ok (.value v) w) ∧ RepT G w R n m x v ∧ K x = some r:=by
 unfold nilCheckK at h
 split at h
 ·have h0:=ha
  obtain ⟨_,b,_,rfl⟩:=ha
  exact ⟨_,_,fun w=>by simp only [execOp,ho,hx];rfl,h0,h⟩
 ·have h0:=ha
  obtain ⟨b,off,rfl,_⟩:=ha
  exact ⟨_,_,fun w=>by simp only [execOp,ho,hx];rfl,h0,h⟩
 ·have h0:=ha
  obtain ⟨_,b,_,_,_,_,rfl⟩:=ha
  exact ⟨_,_,fun w=>by simp only [execOp,ho,hx];rfl,h0,h⟩
 ·have h0:=ha
  obtain ⟨vs,rfl,_⟩:=ha
  exact ⟨_,_,fun w=>by simp only [execOp,ho,hx];rfl,h0,h⟩
 ·cases h
theorem boundI_ok {x:Option G.T} {v:Option Value} {d z:Int} (hx:match x,v with | none,none=>True | some x,some v=>RepT G w R n m x v | _,_=>False) (h:boundI G x d = some z) :
  (x = none ∧ v = none ∧ z = d) ∨ ∃ k,v = some (.int k z):=by
 unfold boundI at h
 cases x with
 | none =>
  cases v with
  | none=>exact .inl ⟨rfl,rfl,(Option.some.inj h).symm⟩
  | some v=>exact hx.elim
 | some x =>
  cases v with
  | none=>exact hx.elim
  | some v =>
   simp only at h
   split at h
   ·rename_i k z' hv
    obtain ⟨rfl,_⟩:=valOf_rep hv hx
    cases h
    exact .inr ⟨_,rfl⟩
   ·cases h
def RepOpt (G:Sg P) (w:World) (R:Nat → Prop) (n:Nat) (m:Nat → Value):Option G.T → Option Value → Prop
 | none,none=>True
 | some x,some v=>RepT G w R n m x v
 | _,_=>False
theorem bounds_ok {w':World} {s:Bool} {len cap:Nat} {lo hi:Option G.T} {vl vh:Option Value} {l h:Int} (h1:RepOpt G w R n m lo vl) (h2:RepOpt G w R n m hi vh)
  (hl:boundI G lo 0 = some l) (hh:boundI G hi len = some h) (b0:0 ≤ l) (b1:l ≤ h) (b2:h ≤ cap):(Instr.sliceBounds s len cap vl vh none).run P w' = .ok (l.toNat,h.toNat,cap) w':=by
 have hb:∀ (k:IntKind) (z:Int) (y:Nat) c,0 ≤ z → z ≤ y → (Instr.sliceBound (.int k z) y c).run P w' = .ok z.toNat w':=by
  intro k z y c h0 h1
  simp [Instr.sliceBound,asIntOf,h0,h1]
 rcases boundI_ok (w:=w) (R:=R) (n:=n) (m:=m) (x:=lo) (v:=vl) h1 hl with ⟨_,rfl,rfl⟩ | ⟨k,rfl⟩ <;>
 rcases boundI_ok (w:=w) (R:=R) (n:=n) (m:=m) (x:=hi) (v:=vh) h2 hh with ⟨_,rfl,rfl⟩ | ⟨k',rfl⟩
 ·simp [Instr.sliceBounds]
 ·have:=hb k' h cap (if s then .sliceAcap else .sliceAlen) (by omega) b2
  simp [Instr.sliceBounds,this]
 ·have:=hb k l len .sliceB b0 (by omega)
  simp [Instr.sliceBounds,this]
 ·have h3:=hb k' h cap (if s then .sliceAcap else .sliceAlen) (by omega) b2
  have h4:=hb k l h.toNat .sliceB b0 (by omega)
  simp [Instr.sliceBounds,h3,h4]
theorem sliceAt_plain {t:TypeId} {d:TypeDesc} (h:P.underlying t = some d) (hd:∀ k e,d ≠ .array k e) (v:Value) (vl vh vm:Option Value):(Instr.sliceAt t v vl vh vm).run P w = (Instr.slice t v vl vh vm).run P w:=by
 unfold Instr.sliceAt
 simp only [Sem.run_bind,run_underlying h,Result.andThen_ok]
theorem sliceK_ok {t:TypeId} {a:G.T} {va:Value} {lo hi:Option G.T} {vl vh:Option Value} {K:G.T → Option β} (hok:G.Ok) (ha:RepT G w R n m a va) (h1:RepOpt G w R n m lo vl) (h2:RepOpt G w R n m hi vh)
  (h:sliceK G P t a lo hi K = some r):∃ v x,(∀ w,(Instr.sliceAt t va vl vh none).run P w = .ok v w) ∧ RepT G w R n m x v ∧ K x = some r:=by
 unfold sliceK at h
 split at h
 ·rename_i s hu
  have hsa:=fun (w:World) v=>sliceAt_plain (P:=P) (w:=w) hu (by intro k e he;cases he) v vl vh none
  split at h
  ·rename_i l hz hl hh
   split at h
   ·rename_i hb
    have hbd:=fun (w':World)=>bounds_ok (P:=P) (w':=w') (s:=false) (cap:=s.size) h1 h2 hl hh hb.1 hb.2.1 hb.2.2
    obtain ⟨rfl,_⟩:=valOf_rep (v:=.string s) rfl ha
    exact ⟨_,_,fun w=>by rw [hsa];simp [Instr.slice,run_underlying hu,hbd],RepT_val rfl,h⟩
   ·cases h
  ·cases h
 ·rename_i e u xs hu
  have hsa:=fun (w:World) v=>sliceAt_plain (P:=P) (w:=w) hu (by intro k e he;cases he) v vl vh none
  split at h
  ·rename_i v l hz hv hl hh
   split at h
   ·rename_i heq
    obtain rfl:=eqU_of heq
    split at h
    ·rename_i hb
     have hu2:=hok.elt t u hv
     obtain ⟨inf,zz,hinf,_,hsz,_⟩:=hok.info u
     cases ha with
     | sl _ _ A b off cap c hcap ha hc hr =>
      have hbd:=fun (w':World)=>bounds_ok (P:=P) (w':=w') (s:=true) (cap:=cap) h1 h2 hl hh hb.1 hb.2.1 (by omega)
      refine ⟨_,_,fun w=>by rw [hsa];simp [Instr.slice,run_underlying hu2,hbd,sizeOf,typeInfo,hinf,hsz];rfl,?_,h⟩
      have hlen:((xs.take hz.toNat).drop l.toNat).length = hz.toNat - l.toNat:=by simp;omega
      rw [← hlen]
      by_cases hlc:cap = l.toNat
      ·have h0:(xs.take hz.toNat).drop l.toNat = []:=List.eq_nil_of_length_eq_zero (by rw [hlen];omega)
       rw [h0]
       exact RepP.sl u [] _ 0 0 _ (fun _ _=>undef) (by simp) (by simp) (by simp) (by simp)
      ·rw [if_neg hlc]
       refine RepP.sl u _ _ b (off + l.toNat * G.sz u) _ (fun k j=>c (l.toNat + k) j) (by rw [hlen];omega) (fun hp=>?_) (fun k x j p hk hj=>?_) (fun k x j p hk hj=>?_)
       ·have:0 < xs.length:=by rw [hlen] at hp;omega
        obtain ⟨rfl,hb⟩:=ha this
        exact ⟨by simp [Addr.add_lit],hb⟩
       ·rw [List.getElem?_drop,List.getElem?_take] at hk
        split at hk
        ·have:=hc _ x j p hk hj
         rw [Nat.add_mul,← Nat.add_assoc] at this
         exact this
        ·cases hk
       ·rw [List.getElem?_drop,List.getElem?_take] at hk
        split at hk
        ·exact hr _ x j p hk hj
        ·cases hk
    ·cases h
   ·cases h
  ·cases h
 ·cases h
theorem capsOf_ok:∀ (xs:List G.T) (vs:List Value) (l:List Nat),RepTs G w R n m xs vs → capsOf G xs = some l →
  vs.length = l.length ∧ ∀ (i o:Nat),l[i]? = some o → o < n ∧ ∃ b:Nat,m o = .pointer (some ⟨b,0,none⟩) ∧ vs[i]? = some (Value.pointer (some ⟨b,0,none⟩))
 | [],_,l,h,hl=>by cases h;cases hl;exact ⟨rfl,by simp⟩
 | x :: xs,_,l,h,hl=>by
  cases h with
  | cons hx ht =>
   unfold capsOf at hl
   split at hl
   ·rename_i he;cases he
   ·rename_i o xs' he
    cases he
    split at hl
    ·rename_i l' hl'
     cases hl
     obtain ⟨h1,h2⟩:=capsOf_ok _ _ _ ht hl'
     refine ⟨by simp [h1],fun i o' hi=>?_⟩
     cases i with
     | zero =>
      cases hi
      obtain ⟨h3,b,h4,rfl⟩:=hx
      exact ⟨h3,b,h4,rfl⟩
     | succ i=>exact h2 i o' hi
    ·cases hl
   ·cases hl
theorem makeFuncK_ok {fn:Fn} {xs:List G.T} {vs:List Value} {first:Array Value} {K:G.T → Option β} (ha:RepTs G w R n m xs vs) (h:makeFuncK G fn first.size xs K = some r) :
  ∃ v x,(∀ w,(Instr.makeFunc fn first vs.toArray).run P w = .ok v w) ∧ RepT G w R n m x v ∧ K x = some r:=by
 unfold makeFuncK at h
 split at h
 ·rename_i f l h0 hl
  obtain ⟨h1,h2⟩:=capsOf_ok _ _ _ ha hl
  obtain rfl:first = #[]:=by simpa using h0
  refine ⟨_,_,fun _=>rfl,?_,h⟩
  exact ⟨vs,rfl,h1,h2⟩
 ·cases h
theorem RepL.setAt {cs xs:List G.C} {vs ys:List Value} (h:RepL G w R n m cs vs) (hx:RepL G w R n m xs ys) (off:Nat) (hle:off + xs.length ≤ cs.length):RepL G w R n m (setAt cs off xs) (setAt vs off ys):=by
 have e1:=h.1
 have e2:=hx.1
 refine ⟨by simp [Proofs.YtgbicnkpnhifgaaGreatDoor.setAt];omega,fun i c hi=>?_⟩
 unfold Proofs.YtgbicnkpnhifgaaGreatDoor.setAt at hi ⊢
 rw [List.getElem?_append,List.getElem?_append] at hi ⊢
 simp only [List.length_append,List.length_take] at hi ⊢
 have hm:min off vs.length = min off cs.length:=by omega
 rw [hm,e2]
 split at hi
 ·rename_i h1
  rw [if_pos h1]
  split at hi
  ·rename_i h2
   rw [if_pos h2]
   exact (h.take off).2 i c hi
  ·rename_i h2
   rw [if_neg h2]
   exact hx.2 _ c hi
 ·rename_i h1
  rw [if_neg h1]
  exact (h.drop (off + xs.length)).2 _ c hi
theorem tcells_ok {x:G.T} {v:Value} {xs:List G.C} (h:RepT G w R n m x v) (hx:tcells G x = some xs):RepL G w R n m xs v.cells.toList ∧ (∀ c,x = .c c → v.oneCell' = true):=by
 unfold tcells at hx
 split at hx
 ·cases hx
 ·rename_i c hne
  cases hx
  have h1:v.oneCell' = true:=by
   cases c with
   | junk=>exact absurd rfl hne
   | pv p=>exact RepP.one G h
   | os o=>exact h.2.2
   | ptr o off=>obtain ⟨_,b,_,rfl⟩:=h;rfl
   | rp cells=>obtain ⟨b,off,rfl,_⟩:=h;rfl
   | ep u o i j=>obtain ⟨_,b,_,_,_,_,rfl⟩:=h;rfl
   | bs u o k=>obtain ⟨_,b,_,rfl⟩:=h;rfl
   | pre o k=>obtain ⟨_,b,C,_,_,rfl⟩:=h;rfl
   | clo f caps=>obtain ⟨vs,rfl,_⟩:=h;rfl
   | fn u r F=>obtain ⟨g,caps,rfl,_⟩:=h;rfl
  refine ⟨?_,fun _ _=>h1⟩
  have:v.cells = #[v]:=by cases v <;> first | rfl | (simp [Value.oneCell'] at h1)
  rw [this]
  exact ⟨rfl,fun i c' hi=>by
   cases i with
   | zero=>cases hi;exact ⟨v,rfl,h⟩
   | succ i=>cases hi⟩
 ·rename_i cs
  cases hx
  obtain ⟨vs,rfl,hl⟩:=h
  exact ⟨by simpa [Value.cells] using hl,fun c hc=>by cases hc⟩
theorem foldl_set {off:Nat}:∀ (ys:List Value) (k:Nat) (cs:Array Value),off + k + ys.length ≤ cs.size →
  ((ys.zipIdx k).foldl (fun (cs:Array Value) (p:Value × Nat)=>cs.setIfInBounds (off + p.2) p.1) cs).toList = setAt cs.toList (off + k) ys
 | [],k,cs,h=>by simp [setAt]
 | y :: ys,k,cs,h=>by
  simp only [List.length_cons] at h
  rw [List.zipIdx_cons,List.foldl_cons,foldl_set ys (k + 1) _ (by simp;omega)]
  unfold setAt
  apply List.ext_getElem?
  intro i
  simp only [List.getElem?_append,List.length_append,List.length_take,List.getElem?_take,List.getElem?_drop,Array.toList_setIfInBounds,List.getElem?_set,List.length_set,Array.length_toList,List.length_cons]
  have e1:min (off + (k + 1)) cs.size = off + k + 1:=by omega
  have e2:min (off + k) cs.size = off + k:=by omega
  rw [e1,e2]
  by_cases h1:i < off + k
  ·rw [if_pos (by omega),if_pos (by omega),if_pos (by omega),if_neg (by omega),if_pos (by omega),if_pos h1,if_pos h1]
  ·by_cases h2:i = off + k
   ·subst h2
    rw [if_pos (by omega),if_pos (by omega),if_pos (by omega),if_pos rfl,if_pos (by omega),if_pos (by omega),if_neg (by omega)]
    simp
   ·by_cases h3:i < off + k + (ys.length + 1)
    ·rw [if_pos (by omega),if_neg (by omega),if_pos h3,if_neg h1]
     rw [show i - (off + k) = (i - (off + k + 1)) + 1 from by omega,List.getElem?_cons_succ]
    ·rw [if_neg (by omega),if_neg h3,if_neg (by omega)]
     congr 1
     omega
theorem fillC_ok {places:List (Nat × Nat)} {xs:List (Nat × G.T)} {vs:List (Nat × Value)} (hx:vs.map (·.1) = xs.map (·.1)) (hr:RepTs G w R n m (xs.map (·.2)) (vs.map (·.2))) :
  ∀ (cs:List G.C) (ws:Array Value) (cs':List G.C),RepL G w R n m cs ws.toList → fillC G places cs xs = some cs' →
   ∃ ws',Instr.fill (fun i=>places[i]?) ws vs = some ws' ∧ RepL G w R n m cs' ws'.toList:=by
 induction xs generalizing vs with
 | nil =>
  intro cs ws cs' h hf
  cases vs with
  | nil=>cases hf;exact ⟨ws,rfl,h⟩
  | cons=>simp at hx
 | cons x xs ih =>
  intro cs ws cs' h hf
  cases vs with
  | nil=>simp at hx
  | cons v vs =>
   obtain ⟨i,x⟩:=x
   obtain ⟨i',v⟩:=v
   simp only [List.map_cons,List.cons.injEq] at hx
   obtain ⟨rfl,hx⟩:=hx
   simp only [List.map_cons] at hr
   cases hr with
   | cons h1 h2 =>
    unfold fillC at hf
    split at hf
    ·rename_i off size ys hp hy
     split at hf
     ·rename_i hsz
      obtain ⟨hl,_⟩:=tcells_ok h1 hy
      have hvl:v.cells.size = size:=by have:=hl.1;rw [Array.length_toList] at this;omega
      have hws:ws.size = cs.length:=by have:=h.1;rw [Array.length_toList] at this;exact this
      have hset:=foldl_set (off:=off) v.cells.toList 0 ws (by rw [Array.length_toList];omega)
      have hrep:=h.setAt hl off (by omega)
      rw [show setAt ws.toList off v.cells.toList = _ from hset.symm] at hrep
      obtain ⟨ws',h3,h4⟩:=ih hx h2 _ _ _ hrep hf
      refine ⟨ws',?_,h4⟩
      unfold Instr.fill
      rw [hp]
      have:¬ (off + v.cells.size > ws.size):=by omega
      simp only [hvl,ne_eq,not_true_eq_false,decide_false,Bool.false_or]
      rw [if_neg (by simp;omega)]
      rw [← h3]
      congr 1
      rw [← Array.foldl_toList,Array.toList_zipIdx]
     ·cases hf
    ·cases hf
end
end Go.Proofs.YtgbicnkpnhifgaaGreatDoor

namespace Go.Proofs.YtgbicnkpnhifgaaGreatDoor
open Go.RowKit
variable {P:Program} {G:Sg P} {β:Type}
section
variable {w w':World} {R R':Nat → Prop} {n n':Nat} {m m':Nat → Value} {r:β} {N:Nat} {hp:G.Hp} [Held]
theorem ownsRow_same {base:Nat} {e:TypeId} {size k:Nat} {v:Value} {xs:List Value} (h:w.ownsRow base e size v k xs) (hb:∀ b,blkOf v = some b → w'.heap[b]? = w.heap[b]?):w'.ownsRow base e size v k xs:=by
 refine ⟨h.1,?_⟩
 rcases h.2 with hn | ⟨g,cap,cur,rfl,h1,h2,rest⟩
 ·exact .inl hn
 ·exact .inr ⟨g,cap,cur,rfl,h1,(hb g rfl).trans h2,rest⟩
theorem RowRep.mono (h1:∀ b,R b → R' b) (h2:∀ b,R b → w'.heap[b]? = w.heap[b]?) {u:G.U} {l:List (G.El u)} {xs:List Value} (h:RowRep G w R u l xs):RowRep G w' R' u l xs :=
 fun k x j p hk hj=>by
  obtain ⟨cv,h3,h4⟩:=h k x j p hk hj
  exact ⟨cv,h3,RepP.mono G h1 h2 h4⟩
def refsO:G.O → List Nat
 | .box cs | .lock cs=>cs.flatMap (refs G)
 | _=>[]
theorem RepU.mono' (h1:∀ b,R b → R' b) (h2:∀ b,R b → w'.heap[b]? = w.heap[b]?) {u:G.U} {x:G.El u} {v:Value} (h:RepU G w R u x v):RepU G w' R' u x v:=by
 obtain ⟨vs,a,b,c⟩:=h
 exact ⟨vs,a,b,fun j p hj=>by obtain ⟨y,e,r⟩:=c j p hj;exact ⟨y,e,RepP.mono G h1 h2 r⟩⟩
theorem RepA.mono (h1:∀ b,R b → R' b) (h2:∀ b,R b → w'.heap[b]? = w.heap[b]?) {a:AK G.U} {v:Value} {d:AD G.El a} (hb:∀ b,blkOf v = some b → w'.heap[b]? = w.heap[b]?) (h:RepA G w R N a v d):RepA G w' R' N a v d:=by
 cases a with
 | map t b=>exact MapRep.same h hb
 | mapu t u =>
  obtain ⟨f,es⟩:=d
  cases f with
  | false=>exact h
  | true =>
   obtain ⟨bk,D,k,vs,rfl,e1,e2,e3,⟨es',clock,hh,r⟩,e5,e6,e7⟩:=h
   exact ⟨bk,D,k,vs,rfl,e1,e2,e3,⟨es',clock,(hb bk rfl).trans hh,r⟩,e5,e6,fun i p hi=>by obtain ⟨y,h3,h4⟩:=e7 i p hi;exact ⟨y,h3,h4.mono' h1 h2⟩⟩
 | cap u =>
  obtain ⟨b,xs,rfl,e1,e2,e3⟩:=h
  exact ⟨b,xs,rfl,ownsRow_same e1 (fun g hg=>hb g hg),e2.mono h1 h2,e3⟩
theorem RepA.obj {a:AK G.U} {v:Value} {d:AD G.El a} (h:RepA G w R N a v d) {g:Nat} (hg:blkOf v = some g):N ≤ g ∧ ∃ o,w.heap[g]? = some o ∧ ∀ x,o ≠ .deferred x:=by
 cases a with
 | map t b =>
  obtain ⟨bk,D,k,e,rfl,e1,_,_,⟨es',clock,hh,_⟩,_⟩:=h
  cases hg
  exact ⟨e1,_,hh,fun x hx=>by cases hx⟩
 | mapu t u =>
  obtain ⟨f,es⟩:=d
  cases f with
  | false=>obtain ⟨rfl,_⟩:=h;cases hg
  | true =>
   obtain ⟨bk,D,k,vs,rfl,e1,_,_,⟨es',clock,hh,_⟩,_⟩:=h
   cases hg
   exact ⟨e1,_,hh,fun x hx=>by cases hx⟩
 | cap u =>
  obtain ⟨b,xs,rfl,e1,_⟩:=h
  cases hg
  rcases e1.2 with ⟨e,_⟩ | ⟨g,cap,cur,e,e2,e3,_⟩
  ·cases e
  ·cases e
   exact ⟨e2,_,e3,fun x hx=>by cases hx⟩
theorem RepA.blk {a:AK G.U} {v:Value} {d:AD G.El a} (h:RepA G w R N a v d) {g:Nat} (hg:blkOf v = some g):N ≤ g ∧ g < w.heap.size:=by
 obtain ⟨h1,o,h2,_⟩:=h.obj hg
 exact ⟨h1,(Array.getElem?_eq_some_iff.1 h2).1⟩
theorem RepO.mono (h1:∀ b,R b → R' b) (h2:∀ b,R b → w'.heap[b]? = w.heap[b]?) (hn:n ≤ n') {o:Nat} {ob:G.O} (hm:∀ o' ∈ refsO ob,o' < n → m' o' = m o') (ho:m' o = m o)
  (hb:∀ b,ob.live = true → blkOf (m o) = some b → w'.heap[b]? = w.heap[b]?) (h:RepO G w R n m N o ob):RepO G w' R' n' m' N o ob:=by
 cases ob with
 | dead=>trivial
 | pins _=>trivial
 | pendr u l =>
  rcases h with h | ⟨xs,e1,e2,e3⟩
  ·exact .inl (ho.trans h)
  ·exact .inr ⟨xs,by rw [ho];exact ownsRow_same e1 (fun b=>hb b rfl),e2.mono h1 h2,e3⟩
 | pend zs =>
  rcases h with h | ⟨b,t,vs,e1,e2,e3,e4⟩
  ·exact .inl (ho.trans h)
  ·exact .inr ⟨b,t,vs,ho.trans e1,e2,(hb b rfl (by rw [e1];rfl)).trans e3,e4⟩
 | box cs =>
  obtain ⟨b,t,vs,e1,e2,e3,e4,e5⟩:=h
  exact ⟨b,t,vs,ho.trans e1,e2,(hb b rfl (by rw [e1];rfl)).trans e3,e4.mono h1 h2 hn (fun c hc o ho=>hm o (List.mem_flatMap.2 ⟨c,hc,ho⟩)),e5⟩
 | lock cs =>
  obtain ⟨b,t,vs,e1,e2,e3,e4,e5⟩:=h
  exact ⟨b,t,vs,ho.trans e1,e2,(hb b rfl (by rw [e1];rfl)).trans e3,e4.mono h1 h2 hn (fun c hc o ho=>hm o (List.mem_flatMap.2 ⟨c,hc,ho⟩)),e5⟩
 | row lk u l =>
  obtain ⟨xs,e1,e2,e3⟩:=h
  exact ⟨xs,by rw [ho];exact ownsRow_same e1 (fun b=>hb b rfl),e2.mono h1 h2,e3⟩
 | ab lk a d=>exact ⟨by rw [ho];exact RepA.mono h1 h2 (fun b=>hb b rfl) h.1,by rw [ho];exact h.2⟩
theorem RepO.blk {o:Nat} {ob:G.O} {b:Nat} (h:RepO G w R n m N o ob) (hl:ob.live = true) (hb:blkOf (m o) = some b):N ≤ b ∧ b < w.heap.size:=by
 have box:∀ cs,RepO G w R n m N o (.box cs) → N ≤ b ∧ b < w.heap.size:=by
  rintro cs ⟨b',t,vs,e1,e2,e3,_⟩
  rw [e1] at hb;cases hb
  exact ⟨e2,(Array.getElem?_eq_some_iff.1 e3).1⟩
 cases ob with
 | dead=>cases hl
 | pins _=>cases hl
 | pendr u l =>
  rcases h with h | ⟨xs,e1,_⟩
  ·rw [h] at hb;cases hb
  ·rcases e1.2 with ⟨e,_⟩ | ⟨g,cap,cur,e,h1,h2,_⟩
   ·rw [e] at hb;cases hb
   ·rw [e] at hb;cases hb
    exact ⟨h1,(Array.getElem?_eq_some_iff.1 h2).1⟩
 | pend zs =>
  rcases h with h | ⟨b',t,vs,e1,e2,e3,_⟩
  ·rw [h] at hb;cases hb
  ·rw [e1] at hb;cases hb
   exact ⟨e2,(Array.getElem?_eq_some_iff.1 e3).1⟩
 | box cs=>exact box cs h
 | lock cs=>exact box cs h
 | row lk u l =>
  obtain ⟨xs,e1,_⟩:=h
  rcases e1.2 with ⟨e,_⟩ | ⟨g,cap,cur,e,h1,h2,_⟩
  ·rw [e] at hb;cases hb
  ·rw [e] at hb;cases hb
   exact ⟨h1,(Array.getElem?_eq_some_iff.1 h2).1⟩
 | ab lk a d=>exact RepA.blk h.1 hb
def OV.lockd {U:Type} {El:U → Type}:OV U El → Bool
 | .dead=>true
 | .pins _=>true
 | .pend _=>true
 | .pendr _ _=>true
 | .box _=>false
 | .lock _=>true
 | .row lk _ _=>lk
 | .ab lk _ _=>lk
structure Keep (G:Sg P) (hp:G.Hp) (m:Nat → Value) (w:World) (hp':G.Hp) (m':Nat → Value) (w':World):Prop where
 ro:∀ b,Rof G hp m w b → Rof G hp' m' w' b
 heap:∀ b,Rof G hp m w b → w'.heap[b]? = w.heap[b]?
 map:∀ o,o < hp.length → m' o = m o
 lk:∀ (o:Nat) (ob:G.O),hp[o]? = some ob → ob.lockd = true → hp'[o]? = some ob
 mv:∀ (o:Nat) (ob:G.O),hp[o]? = some ob → ob.mov = false → ∃ ob',hp'[o]? = some ob' ∧ ob'.mov = false
 hlk:∀ (o:Nat) (ob:G.O) (b:Nat),hp[o]? = some ob → ob.lockd = true → ob.live = true → blkOf (m o) = some b → w'.heap[b]? = w.heap[b]?
structure Kp (G:Sg P) (hp:G.Hp) (m:Nat → Value) (w:World) (hp':G.Hp) (m':Nat → Value) (w':World):Prop where
 ro:∀ b,Rof G hp m w b → Rof G hp' m' w' b
 heap:∀ b,Rof G hp m w b → w'.heap[b]? = w.heap[b]?
 lk:∀ (o:Nat) (ob:G.O),hp[o]? = some ob → ob.lockd = true → hp'[o]? = some ob
 mv:∀ (o:Nat) (ob:G.O),hp[o]? = some ob → ob.mov = false → m' o = m o ∧ ∃ ob',hp'[o]? = some ob' ∧ ob'.mov = false
 len:hp.length ≤ hp'.length
 pn:∀ (q:Nat) (os:List Nat) (o:Nat),hp[q]? = some (.pins os) → o ∈ os → o < hp.length → m' o = m o
 hlk:∀ (o:Nat) (ob:G.O) (b:Nat),hp[o]? = some ob → ob.lockd = true → ob.live = true → blkOf (m o) = some b → w'.heap[b]? = w.heap[b]?
theorem lockd_mov {U:Type} {El:U → Type} {ob:OV U El} (h:ob.lockd = true):ob.mov = false:=by
 cases ob with
 | row lk u l=>have h:lk = true:=h;subst h;rfl
 | _=>rfl
theorem Kp.refl (hp:G.Hp) (m:Nat → Value) (w:World):Kp G hp m w hp m w:=⟨fun _ h=>h,fun _ _=>rfl,fun _ _ h _=>h,fun _ ob h hm=>⟨rfl,ob,h,hm⟩,Nat.le_refl _,fun _ _ _ _ _ _=>rfl,fun _ _ _ _ _ _ _=>rfl⟩
theorem Kp.trans {hp1 hp2 hp3:G.Hp} {m1 m2 m3:Nat → Value} {w1 w2 w3:World} (h:Kp G hp1 m1 w1 hp2 m2 w2) (k:Kp G hp2 m2 w2 hp3 m3 w3):Kp G hp1 m1 w1 hp3 m3 w3 :=
 ⟨fun b hb=>k.ro b (h.ro b hb),fun b hb=>(k.heap b (h.ro b hb)).trans (h.heap b hb),fun o ob ho hl=>k.lk o ob (h.lk o ob ho hl) hl,fun o ob ho hm=>by
  obtain ⟨e1,ob1,h1,h2⟩:=h.mv o ob ho hm
  obtain ⟨e2,ob2,h3,h4⟩:=k.mv o ob1 h1 h2
  exact ⟨e2.trans e1,ob2,h3,h4⟩,Nat.le_trans h.len k.len,fun q os o hq ho hl=>(k.pn q os o (h.lk q _ hq rfl) ho (Nat.lt_of_lt_of_le hl h.len)).trans (h.pn q os o hq ho hl),fun o ob b ho hl hv hb=>(k.hlk o ob b (h.lk o ob ho hl) hl hv (by rw [(h.mv o ob ho (lockd_mov hl)).1];exact hb)).trans (h.hlk o ob b ho hl hv hb)⟩
theorem Keep.kp {hp':G.Hp} (k:Keep G hp m w hp' m' w') (hl:hp.length ≤ hp'.length):Kp G hp m w hp' m' w':=⟨k.ro,k.heap,k.lk,fun o ob ho hm=>⟨k.map o (List.getElem?_eq_some_iff.1 ho).1,k.mv o ob ho hm⟩,hl,fun _ _ o _ _ h=>k.map o h,k.hlk⟩
theorem rof_ext (hsz:w.heap.size ≤ w'.heap.size) (news:G.Hp) (hm:∀ o,o < hp.length → m' o = m o)
  (hblk:∀ (i:Nat) (ob:G.O) (b:Nat),news[i]? = some ob → ob.live = true → blkOf (m' (hp.length + i)) = some b → w.heap.size ≤ b):∀ b,Rof G hp m w b → Rof G (hp ++ news) m' w' b:=by
 rintro b ⟨h1,h2⟩
 refine ⟨by omega,?_⟩
 rintro (hS | ⟨o,ob,ho,hl,hb⟩)
 ·exact h2 (.inl hS)
 rcases Nat.lt_or_ge o hp.length with hlt | hge
 ·rw [List.getElem?_append_left hlt] at ho
  rw [hm o hlt] at hb
  exact h2 (.inr ⟨o,ob,ho,hl,hb⟩)
 ·rw [List.getElem?_append_right hge] at ho
  have:=hblk (o - hp.length) ob b ho hl (by rw [show hp.length + (o - hp.length) = o from by omega];exact hb)
  omega
theorem HRel.ext (hh:HRel G N hp m w) (hsz:w.heap.size ≤ w'.heap.size) (hold:∀ b,b < w.heap.size → w'.heap[b]? = w.heap[b]?) (news:G.Hp) (hm:∀ o,o < hp.length → m' o = m o)
  (hnew:∀ (i:Nat) (ob:G.O),news[i]? = some ob → RepO G w' (Rof G (hp ++ news) m' w') (hp ++ news).length m' N (hp.length + i) ob)
  (hblk:∀ (i:Nat) (ob:G.O) (b:Nat),news[i]? = some ob → ob.live = true → blkOf (m' (hp.length + i)) = some b → w.heap.size ≤ b)
  (hsep:∀ (i j:Nat) (ob ob':G.O) (b:Nat),news[i]? = some ob → news[j]? = some ob' → ob.live = true → ob'.live = true → blkOf (m' (hp.length + i)) = some b → blkOf (m' (hp.length + j)) = some b → i = j) :
  HRel G N (hp ++ news) m' w' ∧ Keep G hp m w (hp ++ news) m' w':=by
 have hOld:∀ (o:Nat) (ob:G.O) (b:Nat),hp[o]? = some ob → ob.live = true → blkOf (m o) = some b → b < w.heap.size:=fun o ob b ho hl hb=>((hh.obj o ob ho).blk hl hb).2
 have hro:=rof_ext hsz news hm hblk
 have hsame:∀ b,Rof G hp m w b → w'.heap[b]? = w.heap[b]?:=fun b hb=>hold b hb.1
 refine ⟨⟨fun o ob ho=>?_,fun o o' ob ob' b ho ho' hl hl' hb hb'=>?_,by have:=hh.base;omega,hh.held,hh.gh.mono fun b hb=>hold b (by have:=hh.base;omega)⟩,⟨hro,hsame,hm,fun o ob ho _=>by rw [List.getElem?_append_left (List.getElem?_eq_some_iff.1 ho).1];exact ho,fun o ob ho hm=>⟨ob,by rw [List.getElem?_append_left (List.getElem?_eq_some_iff.1 ho).1];exact ho,hm⟩,fun o ob b ho _ hl hb=>hold b (hOld o ob b ho hl hb)⟩⟩
 ·rcases Nat.lt_or_ge o hp.length with hlt | hge
  ·rw [List.getElem?_append_left hlt] at ho
   exact (hh.obj o ob ho).mono hro hsame (by simp) (fun o' _ h=>hm o' h) (hm o hlt) (fun b hl hb=>hold b (hOld o ob b ho hl hb))
  ·rw [List.getElem?_append_right hge] at ho
   have:=hnew (o - hp.length) ob ho
   rw [show hp.length + (o - hp.length) = o from by omega] at this
   exact this
 ·rcases Nat.lt_or_ge o hp.length with hlt | hge <;> rcases Nat.lt_or_ge o' hp.length with hlt' | hge'
  ·rw [List.getElem?_append_left hlt] at ho
   rw [List.getElem?_append_left hlt'] at ho'
   rw [hm o hlt] at hb
   rw [hm o' hlt'] at hb'
   exact hh.sep o o' ob ob' b ho ho' hl hl' hb hb'
  ·rw [List.getElem?_append_left hlt] at ho
   rw [List.getElem?_append_right hge'] at ho'
   rw [hm o hlt] at hb
   have h1:=hOld o ob b ho hl hb
   have h2:=hblk (o' - hp.length) ob' b ho' hl' (by rw [show hp.length + (o' - hp.length) = o' from by omega];exact hb')
   omega
  ·rw [List.getElem?_append_right hge] at ho
   rw [List.getElem?_append_left hlt'] at ho'
   rw [hm o' hlt'] at hb'
   have h1:=hOld o' ob' b ho' hl' hb'
   have h2:=hblk (o - hp.length) ob b ho hl (by rw [show hp.length + (o - hp.length) = o from by omega];exact hb)
   omega
  ·rw [List.getElem?_append_right hge] at ho
   rw [List.getElem?_append_right hge'] at ho'
   have:=hsep (o - hp.length) (o' - hp.length) ob ob' b ho ho' hl hl' (by rw [show hp.length + (o - hp.length) = o from by omega];exact hb) (by rw [show hp.length + (o' - hp.length) = o' from by omega];exact hb')
   omega
def junkO (o:Nat):G.O → G.O
 | .box cs=>.box (cs.map (junkC G o))
 | ob=>ob
def lockFree (o:Nat):G.O → Bool
 | .lock cs=>!(cs.flatMap (refs G)).contains o
 | .pins os=>!os.contains o
 | _=>true
theorem junkO_live (o:Nat) (ob:G.O):(junkO o ob).live = ob.live:=by cases ob <;> rfl
theorem RepO.junk' {o':Nat} (h1:∀ b,R b → R' b) (h2:∀ b,R b → w'.heap[b]? = w.heap[b]?) (hn:n ≤ n') (hm:∀ o,o ≠ o' → o < n → m' o = m o) {o:Nat} {ob:G.O} (hf:lockFree o' ob = true) (ho:m' o = m o)
  (hb:∀ b,ob.live = true → blkOf (m o) = some b → w'.heap[b]? = w.heap[b]?) (h:RepO G w R n m N o ob):RepO G w' R' n' m' N o (junkO o' ob):=by
 cases ob with
 | dead=>trivial
 | pins _=>trivial
 | pend zs=>exact RepO.mono (ob:=.pend zs) h1 h2 hn (fun _ hx=>by cases hx) ho hb h
 | pendr u l=>exact RepO.mono (ob:=.pendr u l) h1 h2 hn (fun _ hx=>by cases hx) ho hb h
 | row lk u l=>exact RepO.mono (ob:=.row lk u l) h1 h2 hn (fun _ hx=>by cases hx) ho hb h
 | ab lk a d=>exact RepO.mono (ob:=.ab lk a d) h1 h2 hn (fun _ hx=>by cases hx) ho hb h
 | lock cs =>
  refine h.mono h1 h2 hn (fun o hr hlt=>hm o (fun e=>?_) hlt) ho hb
  subst e
  simp only [lockFree,Bool.not_eq_true',List.contains_eq_mem,decide_eq_false_iff_not] at hf
  exact hf hr
 | box cs =>
  obtain ⟨b,t,vs,e1,e2,e3,e4,e5⟩:=h
  exact ⟨b,t,vs,ho.trans e1,e2,(hb b rfl (by rw [e1];rfl)).trans e3,e4.junk' o' h1 h2 hn hm,e5⟩
theorem rof_turn {o:Nat} {ob ob':G.O} (ho:hp[o]? = some ob) (hlive:ob.live = true) (hsz:w.heap.size ≤ w'.heap.size) (hm:∀ o',o' ≠ o → m' o' = m o')
  (hb':∀ b,ob'.live = true → blkOf (m' o) = some b → blkOf (m o) = some b ∨ w.heap.size ≤ b) {f:G.O → G.O} (flive:∀ x:G.O,(f x).live = x.live) :
  ∀ b,Rof G hp m w b → Rof G ((hp.map f).set o ob') m' w' b:=by
 have hget:∀ (o':Nat) (x:G.O),((hp.map f).set o ob')[o']? = some x → (o' = o ∧ x = ob') ∨ (o' ≠ o ∧ ∃ y,hp[o']? = some y ∧ x = f y):=by
  intro o' x hx
  rw [List.getElem?_set] at hx
  by_cases he:o = o'
  ·subst he
   rw [if_pos rfl] at hx
   split at hx
   ·cases hx;exact .inl ⟨rfl,rfl⟩
   ·cases hx
  ·rw [if_neg he,List.getElem?_map] at hx
   cases hy:hp[o']? with
   | none=>rw [hy] at hx;cases hx
   | some y=>rw [hy] at hx;cases hx;exact .inr ⟨fun e=>he e.symm,y,rfl,rfl⟩
 rintro b ⟨h1,h2⟩
 refine ⟨by omega,?_⟩
 rintro (hS | ⟨o',x,hx,hl,hb⟩)
 ·exact h2 (.inl hS)
 rcases hget o' x hx with ⟨rfl,rfl⟩ | ⟨hne,y,hy,rfl⟩
 ·rcases hb' b hl hb with h3 | h3
  ·exact h2 (.inr ⟨o',ob,ho,hlive,h3⟩)
  ·omega
 ·rw [hm o' hne] at hb
  exact h2 (.inr ⟨o',y,hy,by rw [← flive];exact hl,hb⟩)
theorem HRel.turn (hh:HRel G N hp m w) {o:Nat} {ob ob':G.O} (ho:hp[o]? = some ob) (hlive:ob.live = true) (hsz:w.heap.size ≤ w'.heap.size)
  (hold:∀ b,b < w.heap.size → blkOf (m o) ≠ some b → w'.heap[b]? = w.heap[b]?) (hm:∀ o',o' ≠ o → m' o' = m o')
  (hb':∀ b,ob'.live = true → blkOf (m' o) = some b → blkOf (m o) = some b ∨ w.heap.size ≤ b)
  {f:G.O → G.O} (hf:(∀ x,f x = x) ∧ m' o = m o ∨ (∀ x,f x = junkO o x) ∧ hp.all (lockFree o) = true)
  (hnew:RepO G w' (Rof G ((hp.map f).set o ob') m' w') hp.length m' N o ob') :
  HRel G N ((hp.map f).set o ob') m' w' ∧ (∀ b,Rof G hp m w b → Rof G ((hp.map f).set o ob') m' w' b) ∧ ∀ b,Rof G hp m w b → w'.heap[b]? = w.heap[b]?:=by
 have hlt:o < hp.length:=(List.getElem?_eq_some_iff.1 ho).1
 have flive:∀ x:G.O,(f x).live = x.live:=by
  intro x
  rcases hf with ⟨h,_⟩ | ⟨h,_⟩
  ·rw [h]
  ·rw [h,junkO_live]
 have hget:∀ (o':Nat) (x:G.O),((hp.map f).set o ob')[o']? = some x → (o' = o ∧ x = ob') ∨ (o' ≠ o ∧ ∃ y,hp[o']? = some y ∧ x = f y):=by
  intro o' x hx
  rw [List.getElem?_set] at hx
  by_cases he:o = o'
  ·subst he
   rw [if_pos rfl] at hx
   split at hx
   ·cases hx;exact .inl ⟨rfl,rfl⟩
   ·cases hx
  ·rw [if_neg he,List.getElem?_map] at hx
   cases hy:hp[o']? with
   | none=>rw [hy] at hx;cases hx
   | some y=>rw [hy] at hx;cases hx;exact .inr ⟨fun e=>he e.symm,y,rfl,rfl⟩
 have hro:=rof_turn (w':=w') ho hlive hsz hm hb' flive
 have hsame:∀ b,Rof G hp m w b → w'.heap[b]? = w.heap[b]?:=fun b hb=>hold b hb.1 fun e=>hb.2 (.inr ⟨o,ob,ho,hlive,e⟩)
 refine ⟨⟨fun o' x hx=>?_,fun o1 o2 x1 x2 b hx1 hx2 hl1 hl2 hb1 hb2=>?_,by have:=hh.base;omega,hh.held,hh.gh.mono fun b hb=>hold b (by have:=hh.base;omega) fun e=>by have:=((hh.obj o ob ho).blk hlive e).1;omega⟩,hro,hsame⟩
 ·have hlen:((hp.map f).set o ob').length = hp.length:=by simp
  rw [hlen]
  rcases hget o' x hx with ⟨rfl,rfl⟩ | ⟨hne,y,hy,rfl⟩
  ·exact hnew
  ·have hkeep:∀ b,y.live = true → blkOf (m o') = some b → w'.heap[b]? = w.heap[b]?:=fun b hl hb=>hold b ((hh.obj o' y hy).blk hl hb).2 fun e=>hne (hh.sep o' o y ob b hy ho hl hlive hb e)
   rcases hf with ⟨h,he⟩ | ⟨h,he⟩
   ·rw [h]
    refine (hh.obj o' y hy).mono hro hsame (Nat.le_refl _) (fun q _ _=>?_) (hm o' hne) hkeep
    by_cases hq:q = o
    ·rw [hq];exact he
    ·exact hm q hq
   ·rw [h]
    exact (hh.obj o' y hy).junk' hro hsame (Nat.le_refl _) (fun q hq _=>hm q hq) (List.all_eq_true.1 he y (List.mem_of_getElem? hy)) (hm o' hne) hkeep
 ·rcases hget o1 x1 hx1 with ⟨rfl,rfl⟩ | ⟨hne1,y1,hy1,rfl⟩ <;> rcases hget o2 x2 hx2 with ⟨rfl,rfl⟩ | ⟨hne2,y2,hy2,rfl⟩
  ·rfl
  ·rw [flive] at hl2
   rw [hm o2 hne2] at hb2
   rcases hb' b hl1 hb1 with h3 | h3
   ·exact hh.sep o1 o2 ob y2 b ho hy2 hlive hl2 h3 hb2
   ·have:=((hh.obj o2 y2 hy2).blk hl2 hb2).2;omega
  ·rw [flive] at hl1
   rw [hm o1 hne1] at hb1
   rcases hb' b hl2 hb2 with h3 | h3
   ·exact hh.sep o1 o2 y1 ob b hy1 ho hl1 hlive hb1 h3
   ·have:=((hh.obj o1 y1 hy1).blk hl1 hb1).2;omega
  ·rw [flive] at hl1 hl2
   rw [hm o1 hne1] at hb1
   rw [hm o2 hne2] at hb2
   exact hh.sep o1 o2 y1 y2 b hy1 hy2 hl1 hl2 hb1 hb2
end
end Go.Proofs.YtgbicnkpnhifgaaGreatDoor

namespace Go.Proofs.YtgbicnkpnhifgaaGreatDoor
open Go.RowKit
variable {P:Program} (G:Sg P) {β:Type}
def pvs:List G.C → Option (List G.P')
 | []=>some []
 | .pv p :: cs=>match pvs cs with
  | some ps=>some (p :: ps)
  | none=>none
 | _=>none
def rowsOf (u:G.U):Nat → List G.C → Option (List (G.El u))
 | 0,_=>some []
 | k + 1,cs=>match pvs G (cs.take (G.sz u)),rowsOf u k (cs.drop (G.sz u)) with
  | some ps,some l=>match G.unrow u ps with
   | some x=>some (x :: l)
   | none=>none
  | _,_=>none
def boxK (hp:G.Hp) (x:G.T) (K:G.Hp → G.T → Option β):Option β:=match tcells G x with
 | some cs=>if cs.all (fun c=>match c with | .junk=>false | _=>true) then K (hp ++ [.box cs]) (.c (.ptr hp.length 0)) else none
 | none=>none
def allocK (P:Program) (hp:G.Hp) (t:TypeId) (K:G.Hp → G.T → Option β):Option β:=match zeroCells G P t with
 | some cs=>K (hp ++ [.box cs]) (.c (.ptr hp.length 0))
 | none=>none
def buildSliceK (hp:G.Hp) (t:TypeId) (n:Nat) (parts:List (Nat × G.T)) (K:G.Hp → G.T → Option β):Option β:=match G.elt t with
 | some u=>if n * G.sz u ≤ 16777216 then (match fillR G (G.sz u) (List.replicate (n * G.sz u) .junk) parts with
  | some cs=>match rowsOf G u n cs with
   | some l=>K (hp ++ [.row false u l]) (.c (.os hp.length))
   | none=>none
  | none=>none) else none
 | none=>none
def makeK (hp:G.Hp) (t:TypeId) (n c:G.T) (same:Bool) (K:G.Hp → G.T → Option β):Option β:=match G.elt t,valOf G n,valOf G c with
 | some u,some (.int _ n),some (.int _ c)=>match same with
  | true=>match G.nest t with
   | false=>if 0 ≤ n ∧ n ≤ 16777216 then K (hp ++ [.row false u (List.replicate n.toNat (G.zero u))]) (.c (.os hp.length)) else none
   | true=>if 0 < n ∧ n ≤ 64 then (match zeroCells G P (G.ty u) with
    | some [c]=>K (hp ++ [.box (List.replicate n.toNat c)]) (.c (.bs u hp.length n.toNat))
    | _=>none) else none
  | false=>match G.room t with
   | false=>if n = 0 then (if 0 ≤ c ∧ c ≤ 16777216 then K (hp ++ [.row false u []]) (.c (.os hp.length)) else none) else none
   | true=>if n = 0 then (if 0 ≤ c ∧ c ≤ 16777216 then K (hp ++ [.ab false (.cap u) (c.toNat,[])]) (.c (.pre hp.length 0)) else none) else none
 | _,_,_=>none
section
variable {G} {w w':World} {R R':Nat → Prop} {n n':Nat} {m m':Nat → Value} {r:β} {N:Nat} {hp:G.Hp} [Held]
def mAt (m:Nat → Value) (k:Nat) (v:Value):Nat → Value:=fun o=>if o = k then v else m o
theorem mAt_same (m:Nat → Value) (k:Nat) (v:Value):mAt m k v k = v:=if_pos rfl
theorem mAt_other (m:Nat → Value) (k:Nat) (v:Value) {o:Nat} (h:o ≠ k):mAt m k v o = m o:=if_neg h
theorem mAt_lt (m:Nat → Value) (k:Nat) (v:Value):∀ o,o < k → mAt m k v o = m o:=fun _ h=>mAt_other m k v (by omega)
theorem new_one (hh:HRel G N hp m w) (hsz:w.heap.size ≤ w'.heap.size) (hold:∀ b,b < w.heap.size → w'.heap[b]? = w.heap[b]?) (ob:G.O) (v:Value) (hb:∀ b,blkOf v = some b → w.heap.size ≤ b)
  (hnew:(∀ b,Rof G hp m w b → Rof G (hp ++ [ob]) (mAt m hp.length v) w' b) → RepO G w' (Rof G (hp ++ [ob]) (mAt m hp.length v) w') (hp.length + 1) (mAt m hp.length v) N hp.length ob) :
  HRel G N (hp ++ [ob]) (mAt m hp.length v) w' ∧ Keep G hp m w (hp ++ [ob]) (mAt m hp.length v) w':=by
 have hblk:∀ (i:Nat) (ob':G.O) (b:Nat),[ob][i]? = some ob' → ob'.live = true → blkOf (mAt m hp.length v (hp.length + i)) = some b → w.heap.size ≤ b:=by
  intro i ob' b hi _ hbk
  cases i with
  | zero=>rw [Nat.add_zero,mAt_same] at hbk;exact hb b hbk
  | succ i=>cases hi
 refine hh.ext hsz hold [ob] (mAt_lt m _ v) (fun i ob' hi=>?_) hblk (fun i j ob1 ob2 b hi hj _ _ _ _=>?_)
 ·cases i with
  | zero=>cases hi;have:=hnew (rof_ext hsz [ob] (mAt_lt m _ v) hblk);simpa using this
  | succ i=>cases hi
 ·cases i with
  | zero=>cases j with
   | zero=>rfl
   | succ j=>cases hj
  | succ i=>cases hi
theorem new_box (hh:HRel G N hp m w) {cs:List G.C} {vs:Array Value} (t:TypeId) (hl:RepL G w (Rof G hp m w) hp.length m cs vs.toList) (h1:∀ x ∈ vs.toList,x.oneCell' = true) :
  HRel G N (hp ++ [.box cs]) (mAt m hp.length (.pointer (some ⟨w.heap.size,0,none⟩))) (w.alloc (.cells vs t)) ∧ Keep G hp m w (hp ++ [.box cs]) (mAt m hp.length (.pointer (some ⟨w.heap.size,0,none⟩))) (w.alloc (.cells vs t)):=by
 refine new_one hh (by simp) (fun b hb=>alloc_old w _ hb) _ _ (fun b hb=>by cases hb;exact Nat.le_refl _) fun hro=>?_
 refine ⟨w.heap.size,t,vs,mAt_same _ _ _,hh.base,heap_alloc_new w _,?_,h1⟩
 exact hl.mono hro (fun b hb=>alloc_old w _ hb.1) (by omega) (fun c _ o _ ho=>mAt_lt m _ _ o ho)
theorem ptr_new (v:Value) {b:Nat} (hv:v = .pointer (some ⟨b,0,none⟩)) (ob:G.O):RepT G w R (hp ++ [ob]).length (mAt m hp.length v) (.c (.ptr hp.length 0)) v :=
 ⟨by simp,b,by rw [mAt_same];exact hv,hv⟩
theorem os_new (v:Value) (hv:v.oneCell' = true) (ob:G.O):RepT G w R (hp ++ [ob]).length (mAt m hp.length v) (.c (.os hp.length)) v :=
 ⟨by simp,by rw [mAt_same],hv⟩
theorem new_row (hh:HRel G N hp m w) (hsz:w.heap.size ≤ w'.heap.size) (hold:∀ b,b < w.heap.size → w'.heap[b]? = w.heap[b]?) {u:G.U} {l:List (G.El u)} {v:Value} {xs:List Value}
  (hown:w'.ownsRow N (G.ty u) (G.sz u) v l.length xs) (hb:∀ b,blkOf v = some b → w.heap.size ≤ b) (hrow:RowRep G w (Rof G hp m w) u l xs) (h1:∀ x ∈ xs,x.oneCell' = true) :
  HRel G N (hp ++ [.row false u l]) (mAt m hp.length v) w' ∧ Keep G hp m w (hp ++ [.row false u l]) (mAt m hp.length v) w':=by
 refine new_one hh hsz hold _ _ hb fun hro=>?_
 exact ⟨xs,by rw [mAt_same];exact hown,hrow.mono hro (fun b hb=>hold b hb.1),h1⟩
theorem oneOf {c:G.C} {x:Value} (hc:(match c with | .junk=>false | _=>true) = true) (h:RepC G w R n m c x):x.oneCell' = true:=by
 cases c with
 | junk=>cases hc
 | pv p=>exact RepP.one G h
 | os o=>exact h.2.2
 | ptr o off=>obtain ⟨_,b,_,rfl⟩:=h;rfl
 | rp cells=>obtain ⟨b,off,rfl,_⟩:=h;rfl
 | ep u o i j=>obtain ⟨_,b,_,_,_,_,rfl⟩:=h;rfl
 | bs u o k=>obtain ⟨_,b,_,rfl⟩:=h;rfl
 | pre o k=>obtain ⟨_,b,C,_,_,rfl⟩:=h;rfl
 | clo f caps=>obtain ⟨vs,rfl,_⟩:=h;rfl
 | fn u r F=>obtain ⟨g,caps,rfl,_⟩:=h;rfl
theorem oneAll {cs:List G.C} {vs:List Value} (hc:cs.all (fun c=>match c with | .junk=>false | _=>true) = true) (h:RepL G w R n m cs vs):∀ x ∈ vs,x.oneCell' = true:=by
 intro x hx
 obtain ⟨i,hi,rfl⟩:=List.mem_iff_getElem.1 hx
 have hlt:i < cs.length:=by rw [← h.1];exact hi
 obtain ⟨y,h1,h2⟩:=h.2 i cs[i] (List.getElem?_eq_getElem hlt)
 rw [List.getElem?_eq_getElem hi] at h1
 cases h1
 exact oneOf (List.all_eq_true.1 hc _ (List.getElem_mem hlt)) h2
def Made (G:Sg P) (N:Nat) (hp:G.Hp) (m:Nat → Value) (w:World) (s:Sem Value) (K:G.Hp → G.T → Option β) (r:β):Prop :=
 ∃ v w' hp' m' x,s.run P w = .ok v w' ∧ HRel G N hp' m' w' ∧ Keep G hp m w hp' m' w' ∧ hp.length ≤ hp'.length ∧ (Below N w w' ∧ ∀ b,b < w.heap.size → w'.heap[b]? = w.heap[b]?) ∧ RepT G w' (Rof G hp' m' w') hp'.length m' x v ∧ K hp' x = some r
theorem boxK_ok {t:TypeId} {x:G.T} {v:Value} {K:G.Hp → G.T → Option β} (hh:HRel G N hp m w) (hx:RepT G w (Rof G hp m w) hp.length m x v) (h:boxK G hp x K = some r):Made G N hp m w (Instr.box t v) K r:=by
 unfold boxK at h
 split at h
 ·rename_i cs hcs
  split at h
  ·rename_i hall
   obtain ⟨hl,_⟩:=tcells_ok hx hcs
   obtain ⟨h1,h2⟩:=new_box hh t hl (oneAll hall hl)
   exact ⟨_,_,_,_,_,by simp [Instr.box,newVar,newRow,newObj,Sem.run],h1,h2,by simp,⟨(Below.refl _ _).alloc hh.base _,fun b hb=>alloc_old w _ hb⟩,ptr_new _ rfl _,h⟩
  ·cases h
 ·cases h
theorem zeroCells_ok {t:TypeId} {cs:List G.C} (h:zeroCells G P t = some cs):∃ z,(zeroValue t).run P w = .ok z w ∧ RepL G w R n m cs z.cells.toList ∧ ∀ x ∈ z.cells.toList,x.oneCell' = true:=by
 unfold zeroCells at h
 split at h
 ·rename_i i hi
  split at h
  ·rename_i z hz
   split at h
   ·rename_i hall
    cases h
    refine ⟨z,by simp [zeroValue,typeInfo,hi,hz],⟨by simp,fun j c hj=>?_⟩,fun x hx=>List.all_eq_true.1 hall x hx⟩
    rw [List.getElem?_map] at hj
    cases hv:z.cells.toList[j]? with
    | none=>rw [hv] at hj;cases hj
    | some v=>rw [hv] at hj;cases hj;exact ⟨v,rfl,RepP.val v (List.all_eq_true.1 hall v (List.mem_of_getElem? hv))⟩
   ·cases h
  ·cases h
 ·cases h
theorem allocK_ok {t:TypeId} {K:G.Hp → G.T → Option β} (hh:HRel G N hp m w) (h:allocK G P hp t K = some r):Made G N hp m w (Instr.alloc t true (.tuple #[])) K r:=by
 unfold allocK at h
 split at h
 ·rename_i cs hcs
  obtain ⟨z,hz,hl,h1⟩:=zeroCells_ok (w:=w) (R:=Rof G hp m w) (n:=hp.length) (m:=m) hcs
  obtain ⟨h2,h3⟩:=new_box hh t hl h1
  exact ⟨_,_,_,_,_,by simp [Instr.alloc,hz,newVar,newRow,newObj,Sem.run],h2,h3,by simp,⟨(Below.refl _ _).alloc hh.base _,fun b hb=>alloc_old w _ hb⟩,ptr_new _ rfl _,h⟩
 ·cases h
end
end Go.Proofs.YtgbicnkpnhifgaaGreatDoor

namespace Go.Proofs.YtgbicnkpnhifgaaGreatDoor
open Go.RowKit
variable {P:Program} {G:Sg P} {β:Type}
section
variable {w w':World} {R R':Nat → Prop} {n n':Nat} {m m':Nat → Value} {r:β} {N:Nat} {hp:G.Hp} [Held]
theorem fillR_ok {size:Nat} {xs:List (Nat × G.T)} {vs:List (Nat × Value)} (hx:vs.map (·.1) = xs.map (·.1)) (hr:RepTs G w R n m (xs.map (·.2)) (vs.map (·.2))) :
  ∀ (cs:List G.C) (ws:Array Value) (cs':List G.C),RepL G w R n m cs ws.toList → fillR G size cs xs = some cs' →
   ∃ ws',Instr.fill (fun i=>some (i * size,size)) ws vs = some ws' ∧ RepL G w R n m cs' ws'.toList ∧ cs'.length = cs.length:=by
 induction xs generalizing vs with
 | nil =>
  intro cs ws cs' h hf
  cases vs with
  | nil=>cases hf;exact ⟨ws,rfl,h,rfl⟩
  | cons=>simp at hx
 | cons x xs ih =>
  intro cs ws cs' h hf
  cases vs with
  | nil=>simp at hx
  | cons v vs =>
   obtain ⟨i,x⟩:=x
   obtain ⟨i',v⟩:=v
   simp only [List.map_cons,List.cons.injEq] at hx
   obtain ⟨rfl,hx⟩:=hx
   simp only [List.map_cons] at hr
   cases hr with
   | cons h1 h2 =>
    unfold fillR at hf
    split at hf
    ·rename_i ys hy
     split at hf
     ·rename_i hsz
      obtain ⟨hl,_⟩:=tcells_ok h1 hy
      have hvl:v.cells.size = size:=by have:=hl.1;rw [Array.length_toList] at this;omega
      have hws:ws.size = cs.length:=by have:=h.1;rw [Array.length_toList] at this;exact this
      have hset:=foldl_set (off:=i' * size) v.cells.toList 0 ws (by rw [Array.length_toList];omega)
      have hrep:=h.setAt hl (i' * size) (by omega)
      rw [show setAt ws.toList (i' * size) v.cells.toList = _ from hset.symm] at hrep
      obtain ⟨ws',h3,h4,h5⟩:=ih hx h2 _ _ _ hrep hf
      refine ⟨ws',?_,h4,by rw [h5];simp [setAt];omega⟩
      unfold Instr.fill
      simp only [hvl,ne_eq,not_true_eq_false,decide_false,Bool.false_or]
      rw [if_neg (by simp;omega)]
      rw [← h3]
      congr 1
      rw [← Array.foldl_toList,Array.toList_zipIdx]
     ·cases hf
    ·cases hf
theorem RepL_junk (k:Nat) {vs:List Value} (h:vs.length = k):RepL G w R n m (List.replicate k .junk) vs :=
 ⟨by simpa using h,fun i c hi=>by
  rw [List.getElem?_replicate] at hi
  split at hi
  ·rename_i hlt
   cases hi
   exact ⟨vs[i]'(by omega),List.getElem?_eq_getElem _,trivial⟩
  ·cases hi⟩
theorem pvs_ok:∀ {cs:List G.C} {ps:List G.P'} {vs:List Value},pvs G cs = some ps → RepL G w R n m cs vs → vs.length = ps.length ∧ ∀ (j:Nat) (p:G.P'),ps[j]? = some p → ∃ x,vs[j]? = some x ∧ RepP G w R p x
 | [],ps,vs,h,hl=>by cases h;exact ⟨hl.1,by simp⟩
 | c :: cs,ps,vs,h,hl=>by
  unfold pvs at h
  split at h
  ·rename_i he;cases he
  ·rename_i p cs' he
   cases he
   split at h
   ·rename_i ps' hps
    cases h
    cases vs with
    | nil=>have:=hl.1;simp at this
    | cons v vs =>
     have htl:RepL G w R n m cs vs:=by have:=hl.drop 1;simpa using this
     obtain ⟨h1,h2⟩:=pvs_ok hps htl
     refine ⟨by simp [h1],fun j p' hj=>?_⟩
     cases j with
     | zero =>
      cases hj
      obtain ⟨x,h3,h4⟩:=hl.2 0 _ rfl
      exact ⟨x,h3,h4⟩
     | succ j=>exact h2 j p' hj
   ·cases h
  ·cases h
theorem unrow_ok (hok:G.Ok) {u:G.U} {ps:List G.P'} {x:G.El u} {vs:List Value} (h:G.unrow u ps = some x) (h1:vs.length = ps.length) (h2:∀ (j:Nat) (p:G.P'),ps[j]? = some p → ∃ x,vs[j]? = some x ∧ RepP G w R p x) :
  vs.length = G.sz u ∧ ∀ (j:Nat) (p:G.P'),(G.row u x)[j]? = some p → ∃ v,vs[j]? = some v ∧ RepP G w R p v:=by
 obtain ⟨h3,h4⟩:=hok.unrow u ps x h
 refine ⟨by omega,fun j p hj=>?_⟩
 have hlt:j < ps.length:=by
  have:=(List.getElem?_eq_some_iff.1 hj).1
  rw [hok.row_sz] at this
  omega
 obtain ⟨q,h5,h6⟩:=h4 j _ (List.getElem?_eq_getElem hlt)
 rw [hj] at h5
 cases h5
 obtain ⟨v,h7,h8⟩:=h2 j _ (List.getElem?_eq_getElem hlt)
 exact ⟨v,h7,RepP.weak G h8 h6⟩
theorem rowsOf_ok (hok:G.Ok) {u:G.U}:∀ {k:Nat} {cs:List G.C} {l:List (G.El u)} {vs:List Value},rowsOf G u k cs = some l → cs.length = k * G.sz u → RepL G w R n m cs vs →
  l.length = k ∧ RowRep G w R u l vs ∧ ∀ x ∈ vs,x.oneCell' = true
 | 0,cs,l,vs,h,hc,hl=>by
  cases h
  have:vs = []:=List.eq_nil_of_length_eq_zero (by have:=hl.1;omega)
  subst this
  exact ⟨rfl,fun k x j p hk=>by simp at hk,by simp⟩
 | k + 1,cs,l,vs,h,hc,hl=>by
  have hpos:=hok.pos u
  have hck:cs.length = k * G.sz u + G.sz u:=by rw [hc,Nat.succ_mul]
  unfold rowsOf at h
  split at h
  ·rename_i ps l' hps hl'
   split at h
   ·rename_i x hx
    cases h
    obtain ⟨h1,h2⟩:=pvs_ok hps (hl.take (G.sz u))
    obtain ⟨h3,h4⟩:=unrow_ok hok hx h1 h2
    obtain ⟨h5,h6,h7⟩:=rowsOf_ok hok hl' (by rw [List.length_drop,hck];omega) (hl.drop (G.sz u))
    refine ⟨by simp [h5],fun i y j p hi hj=>?_,fun y hy=>?_⟩
    ·have hjs:j < G.sz u:=by
      have:=(List.getElem?_eq_some_iff.1 hj).1
      rw [hok.row_sz] at this
      exact this
     cases i with
     | zero =>
      cases hi
      obtain ⟨v,h8,h9⟩:=h4 j p hj
      rw [List.getElem?_take,if_pos hjs] at h8
      exact ⟨v,by simpa using h8,h9⟩
     | succ i =>
      obtain ⟨cv,h8,h9⟩:=h6 i y j p hi hj
      rw [List.getElem?_drop] at h8
      refine ⟨cv,?_,h9⟩
      rw [← h8]
      congr 1
      rw [Nat.succ_mul]
      omega
    ·rw [← List.take_append_drop (G.sz u) vs] at hy
     rcases List.mem_append.1 hy with hy | hy
     ·obtain ⟨j,hj,rfl⟩:=List.mem_iff_getElem.1 hy
      have hjp:j < (G.row u x).length:=by rw [hok.row_sz,← h3];exact hj
      obtain ⟨v,h8,h9⟩:=h4 j _ (List.getElem?_eq_getElem hjp)
      rw [List.getElem?_eq_getElem hj] at h8
      cases h8
      exact RepP.one G h9
     ·exact h7 y hy
   ·cases h
  ·cases h
theorem buildSliceK_ok (hok:G.Ok) {t:TypeId} {k:Nat} {xs:List (Nat × G.T)} {vs:Array (Nat × Value)} {K:G.Hp → G.T → Option β} (hh:HRel G N hp m w) (hx:vs.toList.map (·.1) = xs.map (·.1))
  (hr:RepTs G w (Rof G hp m w) hp.length m (xs.map (·.2)) (vs.toList.map (·.2))) (h:buildSliceK G hp t k xs K = some r):Made G N hp m w (Instr.buildSlice t k vs) K r:=by
 unfold buildSliceK at h
 split at h
 ·rename_i u hu
  split at h
  ·rename_i hsz
   split at h
   ·rename_i cs hcs
    split at h
    ·rename_i l hl
     have hund:=hok.elt t u hu
     obtain ⟨i,z,hi,hz,hisz,hzs,_,_,_⟩:=hok.info u
     have hpos:=hok.pos u
     let Z:Array Value:=(Array.range (k * G.sz u)).map ((if k * G.sz u = 0 then #[] else z.cells)[· % (if k * G.sz u = 0 then (#[]:Array Value) else z.cells).size]!)
     have hZ:Z.toList.length = k * G.sz u:=by simp [Z]
     obtain ⟨ws,h1,h2,h3⟩:=fillR_ok (size:=G.sz u) hx hr _ Z cs (RepL_junk _ hZ) hcs
     obtain ⟨h4,h5,h6⟩:=rowsOf_ok hok hl (by rw [h3];simp) h2
     have hws:ws.size = k * G.sz u:=by have:=h2.1;rw [h3] at this;simpa using this
     have hk:k ≤ maxLen:=by
      have:k ≤ k * G.sz u:=Nat.le_mul_of_pos_right _ hpos
      unfold maxLen;omega
     have hown:=World.ownsRow_lit (e:=G.ty u) w ws k hh.base hk hws
     obtain ⟨h7,h8⟩:=new_row hh (by simp) (fun b hb=>alloc_old w _ hb) (by rw [h4];exact hown) (fun b hb=>by cases hb;exact Nat.le_refl _) h5 h6
     refine ⟨_,_,_,_,_,?_,h7,h8,by simp,⟨(Below.refl _ _).alloc hh.base _,fun b hb=>alloc_old w _ hb⟩,os_new _ rfl _,h⟩
     unfold Instr.buildSlice
     simp only [Sem.run_bind,run_underlying hund,Result.andThen_ok,sizeOf,typeInfo,run_program,hi,Sem.run_pure,hisz]
     rw [if_neg (by omega)]
     by_cases h0:k * G.sz u = 0
     ·rw [if_pos h0]
      simp only [Z,if_pos h0] at h1
      simp only [Sem.run_bind,Sem.run_pure,Result.andThen_ok]
      rw [h1]
      simp [newRow,newObj,Sem.run]
     ·rw [if_neg h0]
      simp only [Z,if_neg h0] at h1
      simp only [Sem.run_bind,Sem.run_pure,Result.andThen_ok,zeroValue,typeInfo,run_program,hi,hz]
      rw [h1]
      simp [newRow,newObj,Sem.run]
    ·cases h
   ·cases h
  ·cases h
 ·cases h
theorem makeK_ok (hok:G.Ok) {t:TypeId} {a b:G.T} {va vb:Value} {same:Bool} {K:G.Hp → G.T → Option β} (hh:HRel G N hp m w) (ha:RepT G w (Rof G hp m w) hp.length m a va) (hb:RepT G w (Rof G hp m w) hp.length m b vb)
  (hs:same = true → va = vb) (h:makeK G hp t a b same K = some r):Made G N hp m w (Instr.makeSlice t va vb) K r:=by
 unfold makeK at h
 split at h
 ·rename_i u k1 z1 k2 z2 hu h1 h2
  obtain ⟨rfl,_⟩:=valOf_rep h1 ha
  obtain ⟨rfl,_⟩:=valOf_rep h2 hb
  have hund:=hok.elt t u hu
  obtain ⟨i,z,hi,hz,hisz,hzs,hby,hzr,hz1⟩:=hok.info u
  have hpos:=hok.pos u
  split at h
  ·split at h
   ·split at h
    ·rename_i hlim
     have he:=hs rfl
     cases he
     obtain ⟨c,rfl⟩:∃ c:Nat,z1 = c:=⟨z1.toNat,by omega⟩
     rw [Int.toNat_natCast] at h
     have hc:c ≤ 16777216:=by omega
     have hbytes:i.bytes * c ≤ 281474976710656:=Nat.le_trans (Nat.mul_le_mul hby hc) (by decide)
     obtain ⟨w',h3,h4,h5⟩:=run_make_full (P:=P) w N t (G.ty u) i z (G.sz u) hund hi hz hisz k1 k1 c hbytes (by unfold maxLen;omega) hh.base
     have hrow:RowRep G w (Rof G hp m w) u (List.replicate c (G.zero u)) (madeCells z.cells (c * G.sz u)).toList:=by
      intro k x j p hk hj
      rw [List.getElem?_replicate] at hk
      split at hk
      ·rename_i hkc
       cases hk
       have hjs:=(List.getElem?_eq_some_iff.1 hj).1
       rw [hok.row_sz] at hjs
       have hlt:k * G.sz u + j < c * G.sz u:=by
        have:(k + 1) * G.sz u ≤ c * G.sz u:=Nat.mul_le_mul_right _ hkc
        rw [Nat.succ_mul] at this;omega
       obtain ⟨v,hv,hwk⟩:=hzr j p hj
       refine ⟨v,?_,RepP.weak G (RepP.val v (hz1 v (List.mem_of_getElem? hv))) hwk⟩
       have hmod:(k * G.sz u + j) % z.cells.size = j:=by
        rw [hzs,Nat.mul_comm,Nat.mul_add_mod,Nat.mod_eq_of_lt hjs]
       have hjz:j < z.cells.size:=by omega
       simp only [madeCells,Array.toList_map,List.getElem?_map,Array.toList_range,List.getElem?_range hlt,Option.map_some,hmod]
       rw [getElem!_pos z.cells j hjz]
       rw [Array.getElem?_toList,Array.getElem?_eq_getElem hjz] at hv
       exact hv
      ·cases hk
     have h1':∀ x ∈ (madeCells z.cells (c * G.sz u)).toList,x.oneCell' = true:=by
      intro x hx
      simp only [madeCells,Array.toList_map,List.mem_map] at hx
      obtain ⟨q,_,rfl⟩:=hx
      have:q % z.cells.size < z.cells.size:=Nat.mod_lt _ (by omega)
      rw [getElem!_pos z.cells _ this]
      exact hz1 _ (by simp)
     obtain ⟨h6,h7⟩:=new_row hh h5.size (fun b hb=>h5.block b hb (by simp)) (l:=List.replicate c (G.zero u)) (by rw [List.length_replicate];exact h4) (fun b hb=>by cases hb;exact Nat.le_refl _) hrow h1'
     exact ⟨_,_,_,_,_,h3,h6,h7,by simp,⟨(Below.refl _ _).grown h5 hh.base (by simp),fun b hb=>h5.block b hb (by simp)⟩,os_new _ rfl _,h⟩
    ·cases h
   ·split at h
    ·rename_i hlim
     split at h
     ·rename_i c0 hzc
      have he:=hs rfl
      cases he
      obtain ⟨c,rfl⟩:∃ c:Nat,z1 = c:=⟨z1.toNat,by omega⟩
      rw [Int.toNat_natCast] at h
      have hc:c ≤ 16777216:=by omega
      have hbytes:i.bytes * c ≤ 281474976710656:=Nat.le_trans (Nat.mul_le_mul hby hc) (by decide)
      obtain ⟨w',h3,h4,h5⟩:=run_make_full (P:=P) w N t (G.ty u) i z (G.sz u) hund hi hz hisz k1 k1 c hbytes (by unfold maxLen;omega) hh.base
      unfold zeroCells at hzc
      rw [hi] at hzc
      simp only [hz] at hzc
      split at hzc
      ·obtain ⟨v0,hv0⟩:∃ v0,z.cells.toList = [v0]:=by
        cases hq:z.cells.toList with
        | nil=>rw [hq] at hzc;cases hzc
        | cons v0 tl =>
         cases tl with
         | nil=>exact ⟨v0,rfl⟩
         | cons _ _=>rw [hq] at hzc;cases hzc
       rw [hv0] at hzc
       cases hzc
       have hv1:v0.oneCell' = true:=hz1 v0 (by rw [hv0];simp)
       have hsz1:G.sz u = 1:=by rw [← hzs,← Array.length_toList,hv0];rfl
       rcases h4.2 with ⟨e,_⟩ | ⟨g,cap,cur,e,hg,hcell,hle,_,hcs,htk⟩
       ·cases e
       cases e
       rw [hsz1,Nat.mul_one] at hcs
       have hxs:cur.toList = List.replicate c v0:=by
        rw [hsz1,Nat.mul_one,List.take_of_length_le (by rw [Array.length_toList];omega)] at htk
        rw [htk]
        apply List.ext_getElem
        ·simp [madeCells]
        ·intro q h8 h9
         have hz2:z.cells = #[v0]:=Array.toList_inj.1 hv0
         simp [madeCells,hz2,Nat.mod_one]
       have hrl:RepL G w (Rof G hp m w) hp.length m (List.replicate c (.pv (.val v0))) cur.toList:=by
        rw [hxs]
        refine ⟨by simp,fun q c' hq=>?_⟩
        rw [List.getElem?_replicate] at hq
        split at hq
        ·rename_i hlt
         cases hq
         exact ⟨v0,by rw [List.getElem?_replicate,if_pos hlt],RepP.val v0 hv1⟩
        ·cases hq
       obtain ⟨h6,h7⟩:=new_one hh h5.size (fun b hb=>h5.block b hb (by simp)) (.box (List.replicate c (.pv (.val v0)))) (.pointer (some ⟨w.heap.size,0,none⟩)) (fun b hb=>by cases hb;exact Nat.le_refl _) fun hro =>
        ⟨w.heap.size,G.ty u,cur,mAt_same _ _ _,hh.base,hcell,hrl.mono hro (fun b hb=>h5.block b hb.1 (by simp)) (by omega) (fun c _ o _ ho=>mAt_lt m _ _ o ho),by
         intro x hx
         rw [hxs] at hx
         rw [List.eq_of_mem_replicate hx]
         exact hv1⟩
       exact ⟨_,_,_,_,_,h3,h6,h7,by simp,⟨(Below.refl _ _).grown h5 hh.base (by simp),fun b hb=>h5.block b hb (by simp)⟩,(show RepT G _ _ _ _ (.c (.bs u hp.length c)) _ from ⟨by simp,w.heap.size,mAt_same _ _ _,rfl⟩),h⟩
      ·cases hzc
     ·cases h
    ·cases h
  ·split at h
   ·split at h
    ·rename_i hn
     subst hn
     split at h
     ·rename_i hlim
      obtain ⟨c,rfl⟩:∃ c:Nat,z2 = c:=⟨z2.toNat,by omega⟩
      have hc:c ≤ 16777216:=by omega
      have hbytes:i.bytes * c ≤ 281474976710656:=Nat.le_trans (Nat.mul_le_mul hby hc) (by decide)
      obtain ⟨w',h3,h4,h5⟩:=run_make_own (P:=P) w N t (G.ty u) i z (G.sz u) hund hi hz hisz k1 k2 c hbytes (by unfold maxLen;omega) hh.base
      obtain ⟨h6,h7⟩:=new_row hh h5.size (fun b hb=>h5.block b hb (by simp)) (l:=([]:List (G.El u))) h4 (fun b hb=>by cases hb;exact Nat.le_refl _) (by intro k x j p hk;simp at hk) (by simp)
      exact ⟨_,_,_,_,_,h3,h6,h7,by simp,⟨(Below.refl _ _).grown h5 hh.base (by simp),fun b hb=>h5.block b hb (by simp)⟩,os_new _ rfl _,h⟩
     ·cases h
    ·cases h
   ·split at h
    ·rename_i hn
     subst hn
     split at h
     ·rename_i hlim
      obtain ⟨c,rfl⟩:∃ c:Nat,z2 = c:=⟨z2.toNat,by omega⟩
      rw [Int.toNat_natCast] at h
      have hc:c ≤ 16777216:=by omega
      have hbytes:i.bytes * c ≤ 281474976710656:=Nat.le_trans (Nat.mul_le_mul hby hc) (by decide)
      obtain ⟨w',h3,h4,h5⟩:=run_make_own (P:=P) w N t (G.ty u) i z (G.sz u) hund hi hz hisz k1 k2 c hbytes (by unfold maxLen;omega) hh.base
      obtain ⟨h6,h7⟩:=new_one hh h5.size (fun b hb=>h5.block b hb (by simp)) (.ab false (.cap u) (c,[])) (.slice (some ⟨w.heap.size,0,none⟩) 0 c) (fun b hb=>by cases hb;exact Nat.le_refl _) fun hro =>
       ⟨by rw [mAt_same];exact ⟨w.heap.size,[],rfl,h4,by intro k x j p hk;simp at hk,by simp⟩,by rw [mAt_same];rfl⟩
      exact ⟨_,_,_,_,_,h3,h6,h7,by simp,⟨(Below.refl _ _).grown h5 hh.base (by simp),fun b hb=>h5.block b hb (by simp)⟩,(show RepT G _ _ _ _ (.c (.pre hp.length 0)) _ from ⟨by simp,w.heap.size,c,mAt_same _ _ _,Nat.zero_le _,rfl⟩),h⟩
     ·cases h
    ·cases h
 ·cases h
end
end Go.Proofs.YtgbicnkpnhifgaaGreatDoor

namespace Go.Proofs.YtgbicnkpnhifgaaGreatDoor
open Go.RowKit
variable {P:Program} (G:Sg P) {β:Type}
def sound' (cs:List G.C):Bool:=cs.all (fun c=>match c with | .junk=>false | _=>true)
def storeK (P:Program) (hp:G.Hp) (t:TypeId) (a x:G.T) (K:G.Hp → Option β):Option β:=match tcells G x,shapeP P t with
 | some xs,some s=>if sound' G xs = true ∧ xs.length = s.2 then (match a with
  | .c (.ptr o off)=>match hp[o]? with
   | some (.box cs)=>if off + xs.length ≤ cs.length then K (hp.set o (.box (setAt cs off xs))) else none
   | _=>none
  | .c (.ep u o i j)=>match hp[o]?,pvs G xs with
   | some (.row false u' l),some ps=>if eqU G u' u then (if j + ps.length ≤ G.sz u' then (l[i]?).bind fun y=>match G.unrow u' (setAt (G.row u' y) j ps) with
    | some y'=>K (hp.set o (.row false u' (l.set i y')))
    | none=>none else none) else none
   | _,_=>none
  | _=>none) else none
 | _,_=>none
def castL {u v:G.U} (l:List (G.El u)):Option (List (G.El v)):=@dite _ (u = v) (G.deq u v) (fun h=>some (h ▸ l)) (fun _=>none)
def rowRead (hp:G.Hp) (u:G.U) (x:G.T):Option (List (G.El u)):=match x with
 | .c (.pv (.sl _ l))=>castL G l
 | .c (.os o)=>match hp[o]? with
  | some (.row _ _ l)=>castL G l
  | _=>none
 | .c (.pv (.val (.slice none 0 0)))=>some []
 | _=>none
def envFree (env:G.Env) (o:Nat):Bool:=env.all fun d=>match d with
 | some d=>!(refsD d).contains o
 | none=>true
def appendK (env:G.Env) (fr:G.Fr) (hp:G.Hp) (t t2:TypeId) (s x:G.T) (K:G.Fr → G.Hp → G.T → Option β):Option β:=match G.elt t with
 | some u=>if t2 = t then (match rowRead G hp u x with
  | some l2=>match s with
   | .c (.os o)=>match hp[o]? with
    | some (.row false _ l)=>match castL G l with
     | some l1=>if envFree G env o = true ∧ hp.all (lockFree o) = true then
       (if l1.length + l2.length ≤ 2147483648 then K (fr.map (junkD G o)) ((hp.map (junkO o)).set o (.row false u (l1 ++ l2))) (.c (.os o)) else none) else none
     | none=>none
    | _=>none
   | .c (.pre o k)=>match hp[o]? with
    | some (.ab false (.cap u') d)=>match castL G (v:=u) d.2 with
     | some l1=>if k ≤ l1.length ∧ k + l2.length ≤ d.1 then K fr (hp.set o (.ab false (.cap u) (d.1,l1.take k ++ l2))) (.c (.pre o (k + l2.length))) else none
     | none=>none
    | _=>none
   | .c (.pv (.val (.slice none 0 0)))=>if l2.length ≤ 2147483648 then K fr (hp ++ [.row false u l2]) (.c (.os hp.length)) else none
   | _=>none
  | none=>none) else none
 | none=>none
def rowfK (env:G.Env) (fr:G.Fr) (hp:G.Hp) (kd:RowF) (u:G.U) (ts:List G.T) (K:G.Fr → G.Hp → G.T → Option β):Option β:=match ts with
 | .c (.os o) :: .c (.pv (.val (.int .i64 i))) :: ts=>match hp[o]? with
  | some (.row false _ l)=>match (castL G l:Option (List (G.El u))) with
   | some l1=>if envFree G env o = true ∧ hp.all (lockFree o) = true then (match kd,ts with
    | .del,[.c (.pv (.val (.int .i64 j)))]=>if 0 ≤ i ∧ i ≤ j ∧ j ≤ ((l1.length:Nat):Int) ∧ l1.length ≤ 2147483648 then K (fr.map (junkD G o)) ((hp.map (junkO o)).set o (.row false u (l1.take i.toNat ++ l1.drop j.toNat))) (.c (.os o)) else none
    | .ins,[.c (.os o2)]=>match hp[o2]? with
     | some (.row _ _ l2)=>match (castL G l2:Option (List (G.El u))) with
      | some l2=>if (o2 != o) = true then (if l2.length = 1 ∧ 0 ≤ i ∧ i ≤ ((l1.length:Nat):Int) ∧ l1.length ≤ 2147483647 then K (fr.map (junkD G o)) ((hp.map (junkO o)).set o (.row false u (l1.take i.toNat ++ l2 ++ l1.drop i.toNat))) (.c (.os o)) else none) else none
      | none=>none
     | _=>none
    | _,_=>none) else none
   | none=>none
  | _=>none
 | _=>none
section
variable {G} {w w':World} {R R':Nat → Prop} {n n':Nat} {m m':Nat → Value} {r:β} {N:Nat} {hp:G.Hp} [Held]
theorem setRow_below (w:World) (g:Nat) (cs:Array Value) (h:N ≤ g):Below N w (w.setRow g cs) :=
 ⟨rfl,rfl,rfl,by simp,fun k hk=>setRow_other w g k cs (by omega)⟩
theorem setAt_mem {α:Type} {l xs:List α} {off:Nat} {x:α} (h:x ∈ setAt l off xs):x ∈ l ∨ x ∈ xs:=by
 unfold setAt at h
 simp only [List.mem_append] at h
 rcases h with (h | h) | h
 ·exact .inl (List.mem_of_mem_take h)
 ·exact .inr h
 ·exact .inl (List.mem_of_mem_drop h)
theorem setAt_length {α:Type} (l xs:List α) (off:Nat) (h:off + xs.length ≤ l.length):(setAt l off xs).length = l.length:=by
 unfold setAt
 simp only [List.length_append,List.length_take,List.length_drop]
 omega
theorem setAt_take {α:Type} (l ys:List α) (off k:Nat) (h:off + ys.length ≤ k):(setAt l off ys).take k = setAt (l.take k) off ys:=by
 apply List.ext_getElem?
 intro q
 unfold setAt
 simp only [List.getElem?_append,List.length_append,List.length_take,List.getElem?_take,List.getElem?_drop]
 have e8:min off (min k l.length) = min off l.length:=by omega
 rw [e8]
 by_cases c0:q < k
 ·rw [if_pos c0]
  by_cases c1:q < min off l.length + ys.length
  ·rw [if_pos c1,if_pos c1]
   by_cases c2:q < min off l.length
   ·rw [if_pos c2,if_pos c2,if_pos (by omega),if_pos (by omega),if_pos c0]
   ·rw [if_neg c2,if_neg c2]
  ·rw [if_neg c1,if_neg c1]
   by_cases c3:l.length < off
   ·rw [List.getElem?_eq_none (by omega)];simp
   ·rw [if_pos (by omega)]
 ·rw [if_neg c0,if_neg (by omega)]
  rw [if_neg (by omega)]
theorem storeVar_ok {t:TypeId} {s:Bool × Nat} (hs:shapeP P t = some s) {g o:Nat} {ty:TypeId} {cur:Array Value} {v:Value} (hg:w.heap[g]? = some (.cells cur ty (0,0))) (hsz:v.cells.size = s.2)
  (hle:o + v.cells.toList.length ≤ cur.size) (h1:∀ x ∈ v.cells.toList,x.oneCell' = true):(storeVar t ⟨g,o,none⟩ v).run P w = .ok () (w.setRow g (setAt cur.toList o v.cells.toList).toArray):=by
 obtain ⟨d,i,h2,h3,rfl⟩:=shapeP_some hs
 have hst:=run_storeCells_at P g o ty v.cells.toList 0 cur w hg (by omega) h1
 unfold storeVar
 simp only [Sem.run_bind,sizeOf,typeInfo,run_program,Result.andThen_ok,h3,Sem.run_pure]
 rw [if_neg (by simp at hsz ⊢;exact hsz)]
 rw [hst]
 rfl
theorem map_id' (hp:G.Hp):hp.map (fun x=>x) = hp:=List.map_id'' (fun _=>rfl) hp
theorem lk_set {o:Nat} {ob ob':G.O} (ho:hp[o]? = some ob) (hl:ob.lockd = false):∀ (q:Nat) (x:G.O),hp[q]? = some x → x.lockd = true → (hp.set o ob')[q]? = some x:=by
 intro q x hq hx
 rw [List.getElem?_set]
 by_cases he:o = q
 ·subst he
  rw [ho] at hq
  cases hq
  rw [hl] at hx
  cases hx
 ·rw [if_neg he];exact hq
theorem mv_set {o:Nat} {ob ob':G.O} (ho:hp[o]? = some ob) (hl:ob'.mov = ob.mov):∀ (q:Nat) (x:G.O),hp[q]? = some x → x.mov = false → ∃ y,(hp.set o ob')[q]? = some y ∧ y.mov = false:=by
 intro q x hq hx
 rw [List.getElem?_set]
 by_cases he:o = q
 ·subst he
  rw [ho] at hq
  cases hq
  rw [if_pos rfl,if_pos (List.getElem?_eq_some_iff.1 ho).1]
  exact ⟨_,rfl,hl.trans hx⟩
 ·rw [if_neg he];exact ⟨x,hq,hx⟩
theorem hlk_turn (hh:HRel G N hp m w) {o:Nat} {ob:G.O} (ho:hp[o]? = some ob) (hu:ob.lockd = false) (hlv:ob.live = true) (hother:∀ c,c < w.heap.size → blkOf (m o) ≠ some c → w'.heap[c]? = w.heap[c]?) :
  ∀ (q:Nat) (ob':G.O) (b:Nat),hp[q]? = some ob' → ob'.lockd = true → ob'.live = true → blkOf (m q) = some b → w'.heap[b]? = w.heap[b]?:=by
 intro q ob' b hq hl hv hb
 refine hother b ((hh.obj q ob' hq).blk hv hb).2 fun e=>?_
 have:=hh.sep q o ob' ob b hq ho hv hlv hb e
 subst this
 rw [ho] at hq
 cases hq
 rw [hu] at hl
 cases hl
theorem storeK_ok (hok:G.Ok) {t:TypeId} {a x:G.T} {va vx:Value} {K:G.Hp → Option β} (hh:HRel G N hp m w) (ha:RepT G w (Rof G hp m w) hp.length m a va) (hx:RepT G w (Rof G hp m w) hp.length m x vx)
  (h:storeK G P hp t a x K = some r) :
  ∃ w' hp',(Instr.storeAt t va vx).run P w = .ok () w' ∧ HRel G N hp' m w' ∧ Keep G hp m w hp' m w' ∧ hp'.length = hp.length ∧ Below N w w' ∧ K hp' = some r ∧ (∀ q off,a = .c (.ptr q off) → ∀ b,b < w.heap.size → blkOf (m q) ≠ some b → w'.heap[b]? = w.heap[b]?):=by
 unfold storeK at h
 split at h
 ·rename_i xs s hxs hs
  split at h
  ·rename_i hcond
   obtain ⟨hl,_⟩:=tcells_ok hx hxs
   have h1:=oneAll hcond.1 hl
   have hvs:vx.cells.size = s.2:=by have:=hl.1;rw [Array.length_toList] at this;omega
   split at h
   ·rename_i o off
    split at h
    ·rename_i cs ho
     split at h
     ·rename_i hle
      obtain ⟨b,ty,vs,e1,e2,e3,e4,e5⟩:=hh.obj o _ ho
      obtain ⟨_,b',e6,rfl⟩:=ha
      rw [e1] at e6
      cases e6
      have hvl:vx.cells.toList.length = xs.length:=hl.1
      have hcl:vs.size = cs.length:=by have:=e4.1;rw [Array.length_toList] at this;exact this
      have hrun:=storeVar_ok (P:=P) hs (o:=off) e3 hvs (by omega) h1
      have hro:∀ c,Rof G hp m w c → Rof G ((hp.map fun x=>x).set o (.box (setAt cs off xs))) m (w.setRow b (setAt vs.toList off vx.cells.toList).toArray) c :=
       rof_turn ho rfl (by simp) (fun _ _=>rfl) (fun b _ hb=>.inl hb) (fun _=>rfl)
      have hb':∀ c,Rof G hp m w c → (w.setRow b (setAt vs.toList off vx.cells.toList).toArray).heap[c]? = w.heap[c]?:=fun c hc =>
       setRow_other _ _ _ _ (fun e=>hc.2 (.inr ⟨o,_,ho,rfl,by rw [e1,e];rfl⟩))
      obtain ⟨h2,h3,h4⟩:=hh.turn (w':=w.setRow b (setAt vs.toList off vx.cells.toList).toArray) (m':=m) (ob':=.box (setAt cs off xs)) (f:=fun x=>x) ho rfl (by simp)
       (fun c hc hne=>setRow_other _ _ _ _ (fun e=>hne (by rw [e1,e];rfl))) (fun _ _=>rfl) (fun b _ hb=>.inl hb) (.inl ⟨fun _=>rfl,rfl⟩)
       ⟨b,ty,_,e1,e2,setRow_heap w b vs _ ty (0,0) e3,(e4.setAt hl off (by omega)).mono hro hb' (Nat.le_refl _) (fun _ _ _ _ _=>rfl),fun x hx=>by
        rcases setAt_mem hx with hx | hx
        ·exact e5 x hx
        ·exact h1 x hx⟩
      rw [map_id'] at h2 h3
      exact ⟨_,_,by simp [Instr.storeAt,Instr.sureAddr,hrun],h2,⟨h3,h4,fun _ _=>rfl,lk_set ho rfl,mv_set ho rfl,hlk_turn hh ho rfl rfl fun c _ hne=>setRow_other _ _ _ _ (fun e=>hne (by rw [e1,e];rfl))⟩,by simp,setRow_below w b _ e2,h,fun q off hq c _ hne=>by
       cases hq
       exact setRow_other _ _ _ _ (fun e=>hne (by rw [e1,e];rfl))⟩
     ·cases h
    ·cases h
   ·rename_i u o i j
    split at h
    ·rename_i u' l ps ho hps
     split at h
     ·rename_i heq
      obtain rfl:=eqU_of heq
      split at h
      ·rename_i hj
       rw [Option.bind_eq_some_iff] at h
       obtain ⟨y,hy,h⟩:=h
       split at h
       ·rename_i y' hy'
        obtain ⟨ws,e1,e2,e3⟩:=hh.obj o _ ho
        obtain ⟨_,b,k,cap,e4,e5,rfl⟩:=ha
        rw [e4] at e1
        rcases e1.2 with ⟨e,_⟩ | ⟨g,cap',cur,e,f1,f2,f3,f4,f5,f6⟩
        ·cases e
        cases e
        obtain ⟨p1,p2⟩:=pvs_ok hps hl
        have hi:=(List.getElem?_eq_some_iff.1 hy).1
        have hrl:=hok.row_sz u' y
        have hpos:=hok.pos u'
        have hfit:i * G.sz u' + G.sz u' ≤ l.length * G.sz u':=by rw [← Nat.succ_mul];exact Nat.mul_le_mul_right _ hi
        have hcap:l.length * G.sz u' ≤ cap * G.sz u':=Nat.mul_le_mul_right _ f3
        have hwl:ws.length = l.length * G.sz u':=e1.1
        have hrun:=storeVar_ok (P:=P) hs (o:=i * G.sz u' + j) f2 hvs (by omega) h1
        -- the element's cells behind the store
        have hold:∀ (q:Nat) (p:G.P'),(G.row u' y)[q]? = some p → ∃ v,((ws.drop (i * G.sz u')).take (G.sz u'))[q]? = some v ∧ RepP G w (Rof G hp m w) p v:=by
         intro q p hq
         have hlt:=(List.getElem?_eq_some_iff.1 hq).1
         obtain ⟨cv,c1,c2⟩:=e2 i y q p hy hq
         exact ⟨cv,by rw [List.getElem?_take,if_pos (by omega),List.getElem?_drop];exact c1,c2⟩
        have hrow:RepL G w (Rof G hp m w) hp.length m ((G.row u' y).map .pv) ((ws.drop (i * G.sz u')).take (G.sz u')):=RepL_pv (by rw [List.length_take,List.length_drop];omega) hold
        have hnewl:=hrow.setAt (RepL_pv p1 p2) j (by simp;omega)
        have hpvs:pvs G (setAt ((G.row u' y).map .pv) j (ps.map .pv)) = some (setAt (G.row u' y) j ps):=by
         have:setAt ((G.row u' y).map (CV.pv (U:=G.U) (El:=G.El))) j (ps.map .pv) = (setAt (G.row u' y) j ps).map .pv:=by
          unfold setAt;simp [List.map_take,List.map_drop]
         rw [this]
         generalize setAt (G.row u' y) j ps = q
         induction q with
         | nil=>rfl
         | cons a q ih=>simp only [List.map_cons,pvs,ih]
        obtain ⟨q1,q2⟩:=pvs_ok hpvs hnewl
        obtain ⟨q3,q4⟩:=unrow_ok hok hy' q1 q2
        have hcell:∀ (q:Nat),q < G.sz u' → (setAt ws (i * G.sz u' + j) vx.cells.toList)[i * G.sz u' + q]? = (setAt ((ws.drop (i * G.sz u')).take (G.sz u')) j vx.cells.toList)[q]?:=by
         intro q hq
         unfold setAt
         simp only [List.getElem?_append,List.length_append,List.length_take,List.length_drop,List.getElem?_take,List.getElem?_drop]
         have e7:min (i * G.sz u' + j) ws.length = i * G.sz u' + j:=by omega
         have e8:min j (min (G.sz u') (ws.length - i * G.sz u')) = j:=by omega
         rw [e7,e8]
         by_cases c1:q < j
         ·rw [if_pos (by omega),if_pos (by omega),if_pos (by omega),if_pos (by omega),if_pos c1,if_pos c1,if_pos (by omega)]
         ·by_cases c2:q < j + vx.cells.toList.length
          ·rw [if_pos (by omega),if_neg (by omega),if_pos c2,if_neg c1]
           congr 1;omega
          ·rw [if_neg (by omega),if_neg c2,if_pos (by omega)]
           congr 1;omega
        have hcellO:∀ (q:Nat),q < i * G.sz u' ∨ i * G.sz u' + G.sz u' ≤ q → (setAt ws (i * G.sz u' + j) vx.cells.toList)[q]? = ws[q]?:=by
         intro q hq
         unfold setAt
         simp only [List.getElem?_append,List.length_append,List.length_take,List.getElem?_take,List.getElem?_drop]
         have e7:min (i * G.sz u' + j) ws.length = i * G.sz u' + j:=by omega
         rw [e7]
         have hjl:vx.cells.toList.length = ps.length:=p1
         rcases hq with hq | hq
         ·rw [if_pos (by omega),if_pos (by omega),if_pos (by omega)]
         ·rw [if_neg (by omega)]
          congr 1;omega
        have hrowrep:RowRep G w (Rof G hp m w) u' (l.set i y') (setAt ws (i * G.sz u' + j) vx.cells.toList):=by
         intro k z q p hk hq
         have hqs:=(List.getElem?_eq_some_iff.1 hq).1
         rw [hok.row_sz] at hqs
         rw [List.getElem?_set] at hk
         by_cases hik:i = k
         ·subst hik
          rw [if_pos rfl,if_pos hi] at hk
          cases hk
          obtain ⟨v,q5,q6⟩:=q4 q p hq
          exact ⟨v,by rw [hcell q hqs];exact q5,q6⟩
         ·rw [if_neg hik] at hk
          obtain ⟨cv,c1,c2⟩:=e2 k z q p hk hq
          refine ⟨cv,?_,c2⟩
          rw [hcellO _ ?_]
          ·exact c1
          ·rcases Nat.lt_or_ge k i with hlt | hge
           ·have:(k + 1) * G.sz u' ≤ i * G.sz u':=Nat.mul_le_mul_right _ hlt
            rw [Nat.succ_mul] at this;omega
           ·have:(i + 1) * G.sz u' ≤ k * G.sz u':=Nat.mul_le_mul_right _ (by omega)
            rw [Nat.succ_mul] at this;omega
        have hNb:N ≤ b:=f1
        have hro:∀ c,Rof G hp m w c → Rof G ((hp.map fun x=>x).set o (.row false u' (l.set i y'))) m (w.setRow b (setAt cur.toList (i * G.sz u' + j) vx.cells.toList).toArray) c :=
         rof_turn ho rfl (by simp) (fun _ _=>rfl) (fun b _ hb=>.inl hb) (fun _=>rfl)
        have hb':∀ c,Rof G hp m w c → (w.setRow b (setAt cur.toList (i * G.sz u' + j) vx.cells.toList).toArray).heap[c]? = w.heap[c]?:=fun c hc =>
         setRow_other _ _ _ _ (fun e=>hc.2 (.inr ⟨o,_,ho,rfl,by rw [e4,e];rfl⟩))
        have hcl:cur.toList.length = cap * G.sz u':=by rw [Array.length_toList];exact f5
        have hown':(w.setRow b (setAt cur.toList (i * G.sz u' + j) vx.cells.toList).toArray).ownsRow N (G.ty u') (G.sz u') (m o) (l.set i y').length (setAt ws (i * G.sz u' + j) vx.cells.toList):=by
         have hlv:vx.cells.toList.length = ps.length:=p1
         refine ⟨by rw [setAt_length _ _ _ (by omega),List.length_set];exact hwl,.inr ⟨b,cap,_,by rw [e4,List.length_set],f1,setRow_heap w b cur _ _ _ f2,by rw [List.length_set];exact f3,f4,by rw [List.size_toArray,setAt_length _ _ _ (by omega)];exact hcl,?_⟩⟩
         rw [List.length_set,← f6]
         exact setAt_take _ _ _ _ (by omega)
        obtain ⟨h2,h3,h4⟩:=hh.turn (w':=w.setRow b (setAt cur.toList (i * G.sz u' + j) vx.cells.toList).toArray) (m':=m) (ob':=.row false u' (l.set i y')) (f:=fun x=>x) ho rfl (by simp)
         (fun c hc hne=>setRow_other _ _ _ _ (fun e=>hne (by rw [e4,e];rfl))) (fun _ _=>rfl) (fun b _ hb=>.inl hb) (.inl ⟨fun _=>rfl,rfl⟩)
         ⟨_,hown',hrowrep.mono hro hb',fun x hx=>by
          rcases setAt_mem hx with hx | hx
          ·exact e3 x hx
          ·exact h1 x hx⟩
        rw [map_id'] at h2 h3
        exact ⟨_,_,by simp [Instr.storeAt,Instr.sureAddr,hrun],h2,⟨h3,h4,fun _ _=>rfl,lk_set ho rfl,mv_set ho rfl,hlk_turn hh ho rfl rfl fun c _ hne=>setRow_other _ _ _ _ (fun e=>hne (by rw [e4,e];rfl))⟩,by simp,setRow_below w b _ hNb,h,fun q off hq=>by cases hq⟩
       ·cases h
      ·cases h
     ·cases h
    ·cases h
   ·cases h
  ·cases h
 ·cases h
end
end Go.Proofs.YtgbicnkpnhifgaaGreatDoor

namespace Go.Proofs.YtgbicnkpnhifgaaGreatDoor
open Go.RowKit
variable {P:Program} {G:Sg P} {β:Type}
section
variable {w w':World} {R R':Nat → Prop} {n n':Nat} {m m':Nat → Value} {r:β} {N:Nat} {hp:G.Hp} [Held]
theorem castL_some {u v:G.U} {l:List (G.El u)} {l':List (G.El v)} (h:castL G l = some l'):∃ e:u = v,e ▸ l = l':=by
 unfold castL at h
 split at h
 ·rename_i e;cases h;exact ⟨e,rfl⟩
 ·cases h
def Reads (G:Sg P) (w:World) (R:Nat → Prop) (u:G.U) (l:List (G.El u)) (v:Value):Prop :=
 ∃ A cap news,v = .slice A l.length cap ∧ news.length = l.length * G.sz u ∧ RowRep G w R u l news ∧ (∀ x ∈ news,x.oneCell' = true) ∧ l.length ≤ cap ∧
  ((A = none ∧ l = []) ∨ ∃ a,A = some a ∧ (l = [] ∨ ∃ b off,a = ⟨b,off,none⟩ ∧ b < w.heap.size) ∧ ∀ (j:Nat) (x:Value),news[j]? = some x → w.cell? (a.add j) = some x)
theorem reads_sl (hok:G.Ok) {u:G.U} {l:List (G.El u)} {v:Value} (hR:∀ b,R b → b < w.heap.size) (h:RepP G w R (.sl u l) v):Reads G w R u l v:=by
 cases h with
 | sl _ _ A b off cap c hcap ha hc hr =>
  have hpos:=hok.pos u
  refine ⟨A,cap,(List.range (l.length * G.sz u)).map fun q=>c (q / G.sz u) (q % G.sz u),rfl,by simp,fun k x j p hk hj=>?_,fun x hx=>?_,hcap,?_⟩
  ·have hjs:=(List.getElem?_eq_some_iff.1 hj).1
   rw [hok.row_sz] at hjs
   have hkl:=(List.getElem?_eq_some_iff.1 hk).1
   have hlt:k * G.sz u + j < l.length * G.sz u:=by
    have:(k + 1) * G.sz u ≤ l.length * G.sz u:=Nat.mul_le_mul_right _ hkl
    rw [Nat.succ_mul] at this;omega
   refine ⟨c k j,?_,hr k x j p hk hj⟩
   rw [List.getElem?_map,List.getElem?_range hlt,Option.map_some]
   have e1:(k * G.sz u + j) / G.sz u = k:=by rw [Nat.mul_comm,Nat.mul_add_div hpos,Nat.div_eq_of_lt hjs];rfl
   have e2:(k * G.sz u + j) % G.sz u = j:=by rw [Nat.mul_comm,Nat.mul_add_mod,Nat.mod_eq_of_lt hjs]
   rw [e1,e2]
  ·rw [List.mem_map] at hx
   obtain ⟨q,hq,rfl⟩:=hx
   have hq':=List.mem_range.1 hq
   have hqk:q / G.sz u < l.length:=Nat.div_lt_of_lt_mul (by rw [Nat.mul_comm];exact hq')
   have hqj:q % G.sz u < (G.row u l[q / G.sz u]).length:=by rw [hok.row_sz];exact Nat.mod_lt _ hpos
   exact RepP.one G (hr _ _ _ _ (List.getElem?_eq_getElem hqk) (List.getElem?_eq_getElem hqj))
  ·rcases Nat.eq_zero_or_pos l.length with h0 | h0
   ·have:l = []:=List.eq_nil_of_length_eq_zero h0
    subst this
    cases A with
    | none=>exact .inl ⟨rfl,rfl⟩
    | some a=>exact .inr ⟨a,rfl,.inl rfl,fun j x hj=>by simp at hj⟩
   ·obtain ⟨rfl,hb⟩:=ha h0
    refine .inr ⟨_,rfl,.inr ⟨b,off,rfl,hR b hb⟩,fun j x hj=>?_⟩
    rw [List.getElem?_map] at hj
    by_cases hlt:j < l.length * G.sz u
    ·rw [List.getElem?_range hlt,Option.map_some] at hj
     cases hj
     have hqk:j / G.sz u < l.length:=Nat.div_lt_of_lt_mul (by rw [Nat.mul_comm];exact hlt)
     have hqj:j % G.sz u < (G.row u l[j / G.sz u]).length:=by rw [hok.row_sz];exact Nat.mod_lt _ hpos
     have:=hc _ _ _ _ (List.getElem?_eq_getElem hqk) (List.getElem?_eq_getElem hqj)
     rw [Addr.add_lit]
     rw [show off + j = off + j / G.sz u * G.sz u + j % G.sz u from by have:=Nat.div_add_mod j (G.sz u);rw [Nat.mul_comm] at this;omega]
     exact this
    ·rw [List.getElem?_eq_none (by simpa using hlt)] at hj
     cases hj
theorem reads_row (_hok:G.Ok) {u:G.U} {l:List (G.El u)} {o:Nat} {lk:Bool} (h:RepO G w R n m N o (.row lk u l)):Reads G w R u l (m o):=by
 obtain ⟨xs,h1,h2,h3⟩:=h
 rcases h1.2 with ⟨e,e'⟩ | ⟨g,cap,cur,e,f1,f2,f3,f4,f5,f6⟩
 ·have:l = []:=List.eq_nil_of_length_eq_zero e'
  subst this
  exact ⟨none,0,xs,e,h1.1,h2,h3,Nat.le_refl _,.inl ⟨rfl,rfl⟩⟩
 ·refine ⟨_,cap,xs,e,h1.1,h2,h3,f3,.inr ⟨_,rfl,.inr ⟨g,0,rfl,(Array.getElem?_eq_some_iff.1 f2).1⟩,fun j x hj=>?_⟩⟩
  exact h1.cells (by rw [e];rfl) j x hj
theorem rowRead_ok (hok:G.Ok) {u:G.U} {x:G.T} {l:List (G.El u)} {v:Value} (hh:HRel G N hp m w) (hx:RepT G w (Rof G hp m w) hp.length m x v) (h:rowRead G hp u x = some l):Reads G w (Rof G hp m w) u l v:=by
 unfold rowRead at h
 split at h
 ·obtain ⟨rfl,rfl⟩:=castL_some h
  exact reads_sl hok (fun b hb=>hb.1) hx
 ·rename_i o
  split at h
  ·rename_i lk u' l' ho
   obtain ⟨rfl,rfl⟩:=castL_some h
   obtain ⟨_,rfl,_⟩:=hx
   exact reads_row hok (hh.obj o _ ho)
  ·cases h
 ·cases h
  cases hx with
  | val _ _=>exact ⟨none,0,[],rfl,by simp,fun k x j p hk=>by simp at hk,by simp,Nat.le_refl _,.inl ⟨rfl,rfl⟩⟩
 ·cases h
theorem run_append_empty (base:Nat) (t ty e:TypeId) (i:TypeInfo) (size:Nat) (ht:P.underlying t = some (.slice e)) (hi:P.info? e = some i)
  (v:Value) (n:Nat) (xs:List Value) (cap:Nat) (hown:w.ownsRow base e size v n xs):(Builtin.append_ #[t,t] ty #[v,.slice none 0 cap]).run P w = .ok v w:=by
 rcases hown.2 with ⟨rfl,rfl⟩ | ⟨g,cap,cur,rfl,_,_,hnc,_⟩
 ·simp [Builtin.append_,run_underlying ht,sizeOf,typeInfo,hi,Builtin.lenOf,Builtin.firstCells]
 ·simp [Builtin.append_,run_underlying ht,sizeOf,typeInfo,hi,Builtin.lenOf,Builtin.firstCells,hnc,storeCells]
theorem ownBlock_blk (v:Value) (h:∀ a,v ≠ .pointer a) (h':∀ a,v ≠ .map a):v.ownBlock = blkOf v:=by
 cases v <;> first | rfl | (rename_i a;exact absurd rfl (h a)) | (rename_i a;exact absurd rfl (h' a)) | (rename_i a _ _;cases a <;> rfl)
theorem append_run (hok:G.Ok) {t ty:TypeId} {u:G.U} (hu:G.elt t = some u) {l1 l2:List (G.El u)} {v vx:Value} {xs:List Value} (hown:w.ownsRow N (G.ty u) (G.sz u) v l1.length xs)
  (h1:RowRep G w R u l1 xs) (h2:∀ x ∈ xs,x.oneCell' = true) (hx:Reads G w R u l2 vx) (hlim:l1.length + l2.length ≤ 2147483648) (hN:N ≤ w.heap.size) :
  ∃ v' w' xs',(Builtin.append_ #[t,t] ty #[v,vx]).run P w = .ok v' w' ∧ w'.ownsRow N (G.ty u) (G.sz u) v' (l1 ++ l2).length xs' ∧ RowRep G w R u (l1 ++ l2) xs' ∧ (∀ x ∈ xs',x.oneCell' = true) ∧ w.grownBy w' (blkOf v) ∧
   (∀ b,blkOf v' = some b → blkOf v = some b ∨ w.heap.size ≤ b):=by
 have hund:=hok.elt t u hu
 obtain ⟨i,z,hi,hz,hisz,hzs,hby,_,_⟩:=hok.info u
 obtain ⟨A,cap,news,rfl,hnl,hnr,hn1,_,hA⟩:=hx
 have hvp:∀ a,v ≠ .pointer a:=by
  intro a e
  rcases hown.2 with ⟨e',_⟩ | ⟨g,c,cur,e',_⟩ <;> rw [e] at e' <;> cases e'
 have hvm:∀ a,v ≠ .map a:=by
  intro a e
  rcases hown.2 with ⟨e',_⟩ | ⟨g,c,cur,e',_⟩ <;> rw [e] at e' <;> cases e'
 rcases hA with ⟨rfl,rfl⟩ | ⟨a,rfl,_,hcells⟩
 ·refine ⟨v,w,xs,run_append_empty N t ty (G.ty u) i (G.sz u) hund hi v _ xs cap hown,by simpa using hown,by simpa using h1,h2,⟨rfl,rfl,rfl,Nat.le_refl _,fun _ _ _=>rfl⟩,fun b hb=>.inl hb⟩
 ·have hbytes:(l1.length + l2.length) * i.bytes ≤ 140737488355328:=by
   have:=Nat.mul_le_mul hlim hby
   exact Nat.le_trans this (by decide)
  have hrow:RowRep G w R u (l1 ++ l2) (xs ++ news):=by
   intro k x j p hk hj
   have hjs:=(List.getElem?_eq_some_iff.1 hj).1
   rw [hok.row_sz] at hjs
   rw [List.getElem?_append] at hk
   split at hk
   ·rename_i hlt
    obtain ⟨cv,c1,c2⟩:=h1 k x j p hk hj
    refine ⟨cv,?_,c2⟩
    rw [List.getElem?_append_left (List.getElem?_eq_some_iff.1 c1).1]
    exact c1
   ·rename_i hge
    obtain ⟨cv,c1,c2⟩:=hnr _ x j p hk hj
    refine ⟨cv,?_,c2⟩
    have hle:l1.length * G.sz u ≤ k * G.sz u:=Nat.mul_le_mul_right _ (by omega)
    rw [List.getElem?_append_right (by rw [hown.1];omega),hown.1]
    rw [← c1]
    congr 1
    rw [Nat.sub_mul];omega
  have hone:∀ x ∈ xs ++ news,x.oneCell' = true:=fun x hx=>by
   rcases List.mem_append.1 hx with hx | hx
   ·exact h2 x hx
   ·exact hn1 x hx
  obtain ⟨v',w',hr,ho,hg,_,hat⟩:=run_append_own_at (P:=P) w N t ty (G.ty u) i z (G.sz u) i.bytes hund hi hz hisz rfl hzs (hok.pos u) v l1.length xs hown a l2.length cap news hnl hcells hn1
   (by unfold maxLen;omega) hbytes hN
  have hvp':∀ a,v' ≠ .pointer a:=by
   intro a e
   rcases ho.2 with ⟨e',_⟩ | ⟨g,c,cur,e',_⟩ <;> rw [e] at e' <;> cases e'
  have hvm':∀ a,v' ≠ .map a:=by
   intro a e
   rcases ho.2 with ⟨e',_⟩ | ⟨g,c,cur,e',_⟩ <;> rw [e] at e' <;> cases e'
  rw [ownBlock_blk v hvp hvm] at hg hat
  rw [ownBlock_blk v' hvp' hvm'] at hat
  refine ⟨v',w',xs ++ news,hr,by rw [List.length_append];exact ho,hrow,hone,hg,fun b hb=>?_⟩
  rcases hat with hat | hat
  ·exact .inl (hat ▸ hb)
  ·rw [hat] at hb;cases hb;exact .inr (Nat.le_refl _)
theorem own_one {base k size:Nat} {e:TypeId} {v:Value} {xs:List Value} (h:w.ownsRow base e size v k xs):v.oneCell' = true:=by
 rcases h.2 with ⟨rfl,_⟩ | ⟨g,cap,cur,rfl,_⟩ <;> rfl
end
structure FRel [Held] (G:Sg P) (env:G.Env) (fr:G.Fr) (hp:G.Hp) (m:Nat → Value) (tmps:Array Value) (w:World):Prop where
 len:tmps.size = fr.length
 fr:∀ (t:Nat) (d:G.D),fr[t]? = some d → RepD G w (Rof G hp m w) hp.length m d (tmps.getD t undef)
 env:∀ (t:Nat) (d:G.D),env[t]? = some (some d) → t < tmps.size ∧ RepD G w (Rof G hp m w) hp.length m d (tmps.getD t undef)
section
variable {w w':World} {m m':Nat → Value} {r:β} {N:Nat} {hp hp':G.Hp} {env:G.Env} {fr:G.Fr} {tmps:Array Value} {ds:List Deferred} [Held]
theorem FRel.keep (h:FRel G env fr hp m tmps w) (k:Keep G hp m w hp' m' w') (hl:hp.length ≤ hp'.length):FRel G env fr hp' m' tmps w' :=
 ⟨h.len,fun t d hd=>(h.fr t d hd).mono k.ro k.heap hl (fun o _ ho=>k.map o ho),fun t d hd=>⟨(h.env t d hd).1,(h.env t d hd).2.mono k.ro k.heap hl (fun o _ ho=>k.map o ho)⟩⟩
theorem FRel.get (h:FRel G env fr hp m tmps w) (t:Nat):RepD G w (Rof G hp m w) hp.length m (getS G env fr t) (tmps.getD t undef):=by
 unfold getS
 split
 ·rename_i d hd;exact (h.env t d hd).2
 ·cases hd:fr[t]? with
  | none=>trivial
  | some d=>exact h.fr t d hd
theorem FRel.opT (h:FRel G env fr hp m tmps w) {x:Operand} {y:G.T} (hx:opT G env fr x = some y):RepT G w (Rof G hp m w) hp.length m y ((⟨tmps,ds⟩:Act).eval x):=by
 unfold Proofs.YtgbicnkpnhifgaaGreatDoor.opT at hx
 split at hx
 ·rename_i t
  have:=h.get t
  split at hx
  ·rename_i z hz
   cases hx
   rw [hz] at this
   exact this
  ·cases hx
   trivial
 ·rename_i v
  split at hx
  ·rename_i hv;cases hx;exact RepT_val hv
  ·cases hx
 ·cases hx
  exact ⟨[],rfl,rfl,by simp⟩
 ·cases hx
theorem FRel.set (h:FRel G env fr hp m tmps w) {t:Nat} {d:G.D} {v:Value} (hd:RepD G w (Rof G hp m w) hp.length m d v) (he:∀ x,env[t]? ≠ some (some x)):FRel G env (fr.set t d) hp m (tmps.setIfInBounds t v) w:=by
 refine ⟨by simp [h.len],fun q x hq=>?_,fun q x hq=>?_⟩
 ·rw [List.getElem?_set] at hq
  by_cases hqt:t = q
  ·subst hqt
   rw [if_pos rfl] at hq
   split at hq
   ·rename_i hlt
    cases hq
    rw [← h.len] at hlt
    simpa [hlt] using hd
   ·cases hq
  ·rw [if_neg hqt] at hq
   have:=h.fr q x hq
   simpa [Array.getElem?_setIfInBounds,hqt] using this
 ·have hqt:t ≠ q:=fun e=>he x (e ▸ hq)
  obtain ⟨h1,h2⟩:=h.env q x hq
  refine ⟨by simpa using h1,?_⟩
  simpa [Array.getElem?_setIfInBounds,hqt] using h2
theorem RowRep.takeR (hok:G.Ok) {R:Nat → Prop} {u:G.U} {l:List (G.El u)} {xs:List Value} (h:RowRep G w R u l xs) (i:Nat):RowRep G w R u (l.take i) (xs.take (i * G.sz u)):=by
 intro k x j p hk hj
 have hjs:=(List.getElem?_eq_some_iff.1 hj).1
 rw [hok.row_sz] at hjs
 rw [List.getElem?_take] at hk
 split at hk
 ·rename_i hki
  obtain ⟨cv,h1,h2⟩:=h k x j p hk hj
  refine ⟨cv,?_,h2⟩
  have:(k + 1) * G.sz u ≤ i * G.sz u:=Nat.mul_le_mul_right _ hki
  rw [Nat.succ_mul] at this
  rw [List.getElem?_take,if_pos (by omega)]
  exact h1
 ·cases hk
theorem RowRep.dropR {R:Nat → Prop} {u:G.U} {l:List (G.El u)} {xs:List Value} (h:RowRep G w R u l xs) (i:Nat):RowRep G w R u (l.drop i) (xs.drop (i * G.sz u)):=by
 intro k x j p hk hj
 rw [List.getElem?_drop] at hk
 obtain ⟨cv,h1,h2⟩:=h (i + k) x j p hk hj
 refine ⟨cv,?_,h2⟩
 rw [List.getElem?_drop,← h1]
 congr 1
 rw [Nat.add_mul]
 omega
theorem RowRep.appR {R:Nat → Prop} {u:G.U} {l m:List (G.El u)} {xs ys:List Value} (h:RowRep G w R u l xs) (h2:RowRep G w R u m ys) (hx:xs.length = l.length * G.sz u) (hok:G.Ok):RowRep G w R u (l ++ m) (xs ++ ys):=by
 intro k x j p hk hj
 have hjs:=(List.getElem?_eq_some_iff.1 hj).1
 rw [hok.row_sz] at hjs
 rcases Nat.lt_or_ge k l.length with hlt | hge
 ·rw [List.getElem?_append_left hlt] at hk
  obtain ⟨cv,e1,e2⟩:=h k x j p hk hj
  exact ⟨cv,by rw [List.getElem?_append_left (List.getElem?_eq_some_iff.1 e1).1];exact e1,e2⟩
 ·rw [List.getElem?_append_right hge] at hk
  obtain ⟨cv,e1,e2⟩:=h2 (k - l.length) x j p hk hj
  refine ⟨cv,?_,e2⟩
  have hm:l.length * G.sz u ≤ k * G.sz u:=Nat.mul_le_mul_right _ hge
  rw [List.getElem?_append_right (by omega),← e1]
  congr 1
  rw [hx,Nat.sub_mul]
  omega
theorem ownsRow_pre {e:TypeId} {s b n C k:Nat} {xs:List Value} (h:w.ownsRow N e s (.slice (some ⟨b,0,none⟩) n C) n xs) (hk:k ≤ n):w.ownsRow N e s (.slice (some ⟨b,0,none⟩) k C) k (xs.take (k * s)):=by
 have hle:k * s ≤ n * s:=Nat.mul_le_mul_right _ hk
 refine ⟨by rw [List.length_take,h.1];omega,?_⟩
 rcases h.2 with ⟨e,_⟩ | ⟨g,cap,cur,e,h1,h2,h3,h4,h5,h6⟩
 ·cases e
 ·cases e
  exact .inr ⟨b,C,cur,rfl,h1,h2,by omega,h4,h5,by rw [← h6,List.take_take,Nat.min_eq_left hle]⟩
theorem append_pre (hok:G.Ok) {R:Nat → Prop} {t ty:TypeId} {u:G.U} (hu:G.elt t = some u) {l2:List (G.El u)} {vx:Value} {b k C:Nat} {xs:List Value} (hown:w.ownsRow N (G.ty u) (G.sz u) (.slice (some ⟨b,0,none⟩) k C) k xs)
  (hx:Reads G w R u l2 vx) (hroom:k + l2.length ≤ C) :
  ∃ w' news,(Builtin.append_ #[t,t] ty #[.slice (some ⟨b,0,none⟩) k C,vx]).run P w = .ok (.slice (some ⟨b,0,none⟩) (k + l2.length) C) w' ∧ w'.ownsRow N (G.ty u) (G.sz u) (.slice (some ⟨b,0,none⟩) (k + l2.length) C) (k + l2.length) (xs ++ news) ∧
   RowRep G w R u l2 news ∧ (∀ x ∈ news,x.oneCell' = true) ∧ w.grownBy w' (some b):=by
 have hund:=hok.elt t u hu
 obtain ⟨i,z,hi,hz,hisz,hzs,hby,_,_⟩:=hok.info u
 obtain ⟨A,cap,news,rfl,hnl,hnr,hn1,_,hA⟩:=hx
 rcases hA with ⟨rfl,rfl⟩ | ⟨a,rfl,_,hcells⟩
 ·obtain rfl:news = []:=List.eq_nil_of_length_eq_zero (by rw [hnl];simp)
  exact ⟨w,[],run_append_empty N t ty (G.ty u) i (G.sz u) hund hi _ _ xs cap hown,by simpa using hown,hnr,hn1,⟨rfl,rfl,rfl,Nat.le_refl _,fun _ _ _=>rfl⟩⟩
 ·obtain ⟨w',h1,h2,h3⟩:=run_append_fits (P:=P) w N t ty (G.ty u) i (G.sz u) hund hi hisz b k C xs hown a l2.length cap news hnl hcells hn1 hroom
  exact ⟨w',news,h1,h2,hnr,hn1,h3⟩
theorem appendK_ok (hok:G.Ok) {t t2 ty:TypeId} {s x:G.T} {vs vx:Value} {K:G.Fr → G.Hp → G.T → Option β} (hh:HRel G N hp m w) (hf:FRel G env fr hp m tmps w) (hs:RepT G w (Rof G hp m w) hp.length m s vs)
  (hx:RepT G w (Rof G hp m w) hp.length m x vx) (h:appendK G env fr hp t t2 s x K = some r) :
  ∃ v w' hp' m' fr' y,(Builtin.append_ #[t,t2] ty #[vs,vx]).run P w = .ok v w' ∧ HRel G N hp' m' w' ∧ FRel G env fr' hp' m' tmps w' ∧ Below N w w' ∧ RepT G w' (Rof G hp' m' w') hp'.length m' y v ∧ K fr' hp' y = some r ∧ Kp G hp m w hp' m' w' ∧ ∀ q k',s = .c (.pre q k') → ∀ c,c < w.heap.size → blkOf (m q) ≠ some c → w'.heap[c]? = w.heap[c]?:=by
 unfold appendK at h
 split at h
 ·rename_i u hu
  split at h
  ·rename_i ht;subst ht
   split at h
   ·rename_i l2 hl2
    have hrd:=rowRead_ok hok hh hx hl2
    split at h
    ·rename_i o
     split at h
     ·rename_i u' l ho
      split at h
      ·rename_i l1 hl1
       obtain ⟨rfl,rfl⟩:=castL_some hl1
       split at h
       ·rename_i hfree
        split at h
        ·rename_i hlim
         obtain ⟨hlt,rfl,_⟩:=hs
         obtain ⟨xs,e1,e2,e3⟩:=hh.obj o _ ho
         obtain ⟨v',w',xs',hr,ho',hrow,hone,hg,hblk⟩:=append_run (ty:=ty) hok hu e1 e2 e3 hrd hlim hh.base
         have hm':∀ q,q ≠ o → mAt m o v' q = m q:=fun q hq=>mAt_other m o v' hq
         have hb1:∀ b,OV.live (OV.row false u' (l ++ l2)) = true → blkOf (mAt m o v' o) = some b → blkOf (m o) = some b ∨ w.heap.size ≤ b:=fun b _ hb=>hblk b (by rw [mAt_same] at hb;exact hb)
         have hro:=rof_turn (w':=w') (m':=mAt m o v') (ob':=.row false u' (l ++ l2)) (f:=junkO o) ho rfl hg.size hm' hb1 (fun x=>junkO_live o x)
         have hsame:∀ b,Rof G hp m w b → w'.heap[b]? = w.heap[b]?:=fun b hb=>hg.block b hb.1 (fun e=>hb.2 (.inr ⟨o,_,ho,rfl,e.symm⟩))
         obtain ⟨h2,h3,h4⟩:=hh.turn (w':=w') (m':=mAt m o v') (ob':=.row false u' (l ++ l2)) (f:=junkO o) ho rfl hg.size (fun b hb hne=>hg.block b hb (fun e=>hne e.symm)) hm' hb1 (.inr ⟨fun _=>rfl,hfree.2⟩)
          ⟨xs',by rw [mAt_same];exact ho',hrow.mono hro hsame,hone⟩
         have hlen:((hp.map (junkO o)).set o (.row false u' (l ++ l2))).length = hp.length:=by simp
         refine ⟨v',w',_,mAt m o v',_,.c (.os o),hr,h2,⟨by simp [hf.len],fun q d hq=>?_,fun q d hq=>?_⟩,(Below.refl _ _).grown hg hh.base (fun k hk=>((hh.obj o _ ho).blk rfl hk).1),⟨by rw [hlen];exact hlt,by rw [mAt_same],own_one ho'⟩,h,⟨h3,h4,fun q x hq hx=>?_,fun q x hq hx=>?_,by simp,fun q os p hq hp hl=>?_,hlk_turn hh ho rfl rfl fun c hc hne=>hg.block c hc (fun e=>hne e.symm)⟩,fun q k' e=>by cases e⟩
         ·rw [hlen]
          rw [List.getElem?_map] at hq
          cases hd:fr[q]? with
          | none=>rw [hd] at hq;cases hq
          | some d0=>rw [hd] at hq;cases hq;exact (hf.fr q d0 hd).junk' o h3 h4 (Nat.le_refl _) (fun o' ho' _=>hm' o' ho')
         ·rw [hlen]
          obtain ⟨h5,h6⟩:=hf.env q d hq
          refine ⟨h5,h6.mono h3 h4 (Nat.le_refl _) (fun o' ho' _=>hm' o' (fun e=>?_))⟩
          have:=List.all_eq_true.1 hfree.1 _ (List.mem_of_getElem? hq)
          simp only [Bool.not_eq_true',List.contains_eq_mem,decide_eq_false_iff_not] at this
          exact this (e ▸ ho')
         ·have hj:(hp.map (junkO o))[q]? = some x:=by
           rw [List.getElem?_map,hq]
           cases x <;> first | rfl | cases hx
          exact lk_set (hp:=hp.map (junkO o)) (ob:=.row false u' l) (by rw [List.getElem?_map,ho];rfl) rfl q x hj hx
         ·have hne:q ≠ o:=fun e=>by
           subst e
           rw [ho] at hq
           cases hq
           cases hx
          refine ⟨hm' q hne,?_⟩
          rw [List.getElem?_set,if_neg (fun e=>hne e.symm),List.getElem?_map,hq]
          exact ⟨_,rfl,by cases x <;> first | rfl | exact hx⟩
         ·refine hm' p fun e=>?_
          have h1:=List.all_eq_true.1 hfree.2 _ (List.mem_of_getElem? hq)
          subst e
          simp [lockFree,hp] at h1
        ·cases h
       ·cases h
      ·cases h
     ·cases h
    ·rename_i o k
     split at h
     ·rename_i u' d ho
      split at h
      ·rename_i l1 hl1
       obtain ⟨rfl,rfl⟩:=castL_some hl1
       split at h
       ·rename_i hk
        have hk1:k ≤ d.2.length:=hk.1
        have hk2:k + l2.length ≤ d.1:=hk.2
        obtain ⟨⟨b,xs,e1,e2,e3,e4⟩,h6⟩:=hh.obj o _ ho
        obtain ⟨hlt,b',C,e1',hkC,rfl⟩:=hs
        rw [e1] at e1'
        cases e1'
        have hown:=ownsRow_pre e2 hk1
        obtain ⟨w',news,hr,hown',hnr,hn1,hg⟩:=append_pre (ty:=ty) hok hu hown hrd hk2
        have hold:∀ c,c < w.heap.size → blkOf (m o) ≠ some c → w'.heap[c]? = w.heap[c]?:=fun c hc hne=>hg.block c hc (fun e=>hne (by rw [e1];exact e.symm))
        have hro:=rof_turn (w':=w') (m':=m) (ob':=.ab false (.cap u') (d.1,d.2.take k ++ l2)) (f:=fun x=>x) ho rfl hg.size (fun _ _=>rfl) (fun b _ hb=>.inl hb) (fun _=>rfl)
        have hsame:∀ c,Rof G hp m w c → w'.heap[c]? = w.heap[c]?:=fun c hc=>hold c hc.1 (fun e=>hc.2 (.inr ⟨o,_,ho,rfl,e⟩))
        have hlen:(d.2.take k ++ l2).length = k + l2.length:=by rw [List.length_append,List.length_take,Nat.min_eq_left hk1]
        have hxl:(xs.take (k * G.sz u')).length = (d.2.take k).length * G.sz u':=by rw [hown.1,List.length_take,Nat.min_eq_left hk1]
        obtain ⟨g1,g2,g3⟩:=hh.turn (w':=w') (m':=m) (ob':=.ab false (.cap u') (d.1,d.2.take k ++ l2)) (f:=fun x=>x) ho rfl hg.size hold (fun _ _=>rfl) (fun b _ hb=>.inl hb) (.inl ⟨fun _=>rfl,rfl⟩)
         ⟨⟨b,_,e1,by rw [hlen];exact hown',((e3.takeR hok k).appR hnr hxl hok).mono hro hsame,fun x hx=>by
          rcases List.mem_append.1 hx with hx | hx
          ·exact e4 x (List.mem_of_mem_take hx)
          ·exact hn1 x hx⟩,h6⟩
        rw [map_id'] at g1 g2
        have K:Keep G hp m w (hp.set o (.ab false (.cap u') (d.1,d.2.take k ++ l2))) m w':=⟨g2,g3,fun _ _=>rfl,lk_set ho rfl,mv_set ho rfl,hlk_turn hh ho rfl rfl hold⟩
        exact ⟨_,w',_,m,_,_,hr,g1,hf.keep K (by simp),(Below.refl _ _).grown hg hh.base (fun c hc=>((hh.obj o _ ho).blk rfl (by rw [e1];exact hc)).1),(show RepT G _ _ _ _ (.c (.pre o (k + l2.length))) _ from ⟨by simpa using hlt,b,d.1,e1,hk2,rfl⟩),h,K.kp (by simp),fun q k' e=>by cases e;exact hold⟩
       ·cases h
      ·cases h
     ·cases h
    ·split at h
     ·rename_i hlim
      obtain ⟨rfl,_⟩:=valOf_rep (v:=.slice none 0 0) rfl hs
      obtain ⟨v',w',xs',hr,ho',hrow,hone,hg,hblk⟩:=append_run (ty:=ty) (l1:=[]) (N:=N) hok hu (World.ownsRow_nil w N _ _) (by intro k x j p hk;simp at hk) (by simp) hrd (by simpa using hlim) hh.base
      obtain ⟨h6,h7⟩:=new_row hh hg.size (fun b hb=>hg.block b hb (by simp [blkOf])) (l:=l2) (by simpa using ho') (fun b hb=>by
       rcases hblk b hb with h | h
       ·cases h
       ·exact h) (by simpa using hrow) hone
      exact ⟨v',w',_,_,_,_,hr,h6,hf.keep h7 (by simp),(Below.refl _ _).grown hg hh.base (by simp [blkOf]),os_new _ (own_one ho') _,h,h7.kp (by simp),fun q k' e=>by cases e⟩
     ·cases h
    ·cases h
   ·cases h
  ·cases h
 ·cases h
theorem own_turn {o:Nat} {u:G.U} {l l':List (G.El u)} {v':Value} {xs':List Value} (hh:HRel G N hp m w) (hf:FRel G env fr hp m tmps w) (ho:hp[o]? = some (.row false u l)) (hfree:envFree G env o = true ∧ hp.all (lockFree o) = true)
  (ho':w'.ownsRow N (G.ty u) (G.sz u) v' l'.length xs') (hrow:RowRep G w (Rof G hp m w) u l' xs') (hone:∀ x ∈ xs',x.oneCell' = true) (hg:w.grownBy w' (blkOf (m o))) (hblk:∀ b,blkOf v' = some b → blkOf (m o) = some b ∨ w.heap.size ≤ b) :
  ∃ hp' m',hp' = (hp.map (junkO o)).set o (.row false u l') ∧ HRel G N hp' m' w' ∧ FRel G env (fr.map (junkD G o)) hp' m' tmps w' ∧ Below N w w' ∧ RepT G w' (Rof G hp' m' w') hp'.length m' (.c (.os o)) v' ∧ Kp G hp m w hp' m' w':=by
 have hlt:o < hp.length:=(List.getElem?_eq_some_iff.1 ho).1
 have hm':∀ q,q ≠ o → mAt m o v' q = m q:=fun q hq=>mAt_other m o v' hq
 have hb1:∀ b,OV.live (OV.row false u l') = true → blkOf (mAt m o v' o) = some b → blkOf (m o) = some b ∨ w.heap.size ≤ b:=fun b _ hb=>hblk b (by rw [mAt_same] at hb;exact hb)
 have hro:=rof_turn (w':=w') (m':=mAt m o v') (ob':=.row false u l') (f:=junkO o) ho rfl hg.size hm' hb1 (fun x=>junkO_live o x)
 have hsame:∀ b,Rof G hp m w b → w'.heap[b]? = w.heap[b]?:=fun b hb=>hg.block b hb.1 (fun e=>hb.2 (.inr ⟨o,_,ho,rfl,e.symm⟩))
 obtain ⟨h2,h3,h4⟩:=hh.turn (w':=w') (m':=mAt m o v') (ob':=.row false u l') (f:=junkO o) ho rfl hg.size (fun b hb hne=>hg.block b hb (fun e=>hne e.symm)) hm' hb1 (.inr ⟨fun _=>rfl,hfree.2⟩)
  ⟨xs',by rw [mAt_same];exact ho',hrow.mono hro hsame,hone⟩
 have hlen:((hp.map (junkO o)).set o (.row false u l')).length = hp.length:=by simp
 refine ⟨_,mAt m o v',rfl,h2,⟨by simp [hf.len],fun q d hq=>?_,fun q d hq=>?_⟩,(Below.refl _ _).grown hg hh.base (fun k hk=>((hh.obj o _ ho).blk rfl hk).1),⟨by rw [hlen];exact hlt,by rw [mAt_same],own_one ho'⟩,h3,h4,fun q x hq hx=>?_,fun q x hq hx=>?_,by simp,fun q os p hq hp hl=>?_,hlk_turn hh ho rfl rfl fun c hc hne=>hg.block c hc (fun e=>hne e.symm)⟩
 ·rw [hlen]
  rw [List.getElem?_map] at hq
  cases hd:fr[q]? with
  | none=>rw [hd] at hq;cases hq
  | some d0=>rw [hd] at hq;cases hq;exact (hf.fr q d0 hd).junk' o h3 h4 (Nat.le_refl _) (fun o' ho' _=>hm' o' ho')
 ·rw [hlen]
  obtain ⟨h5,h6⟩:=hf.env q d hq
  refine ⟨h5,h6.mono h3 h4 (Nat.le_refl _) (fun o' ho' _=>hm' o' (fun e=>?_))⟩
  have:=List.all_eq_true.1 hfree.1 _ (List.mem_of_getElem? hq)
  simp only [Bool.not_eq_true',List.contains_eq_mem,decide_eq_false_iff_not] at this
  exact this (e ▸ ho')
 ·have hj:(hp.map (junkO o))[q]? = some x:=by
   rw [List.getElem?_map,hq]
   cases x <;> first | rfl | cases hx
  exact lk_set (hp:=hp.map (junkO o)) (ob:=.row false u l) (by rw [List.getElem?_map,ho];rfl) rfl q x hj hx
 ·have hne:q ≠ o:=fun e=>by
   subst e
   rw [ho] at hq
   cases hq
   cases hx
  refine ⟨hm' q hne,?_⟩
  rw [List.getElem?_set,if_neg (fun e=>hne e.symm),List.getElem?_map,hq]
  exact ⟨_,rfl,by cases x <;> first | rfl | exact hx⟩
 ·refine hm' p fun e=>?_
  have h1:=List.all_eq_true.1 hfree.2 _ (List.mem_of_getElem? hq)
  subst e
  simp [lockFree,hp] at h1
theorem rowfK_ok (hok:G.Ok) {f:FuncId} {kd:RowF} {u:G.U} (hrf:G.rowf f = some (kd,u)) {ts:List G.T} {vs:List Value} {K:G.Fr → G.Hp → G.T → Option β} (hh:HRel G N hp m w) (hf:FRel G env fr hp m tmps w)
  (hts:vs.length = ts.length ∧ ∀ (i:Nat) (t:G.T),ts[i]? = some t → ∃ x,vs[i]? = some x ∧ RepT G w (Rof G hp m w) hp.length m t x) (h:rowfK G env fr hp kd u ts K = some r) :
  (∃ fn,P.funcs[f]? = some fn ∧ (fn.name == "runtime.NumGoroutine") = false ∧ fn.body.isNone = false) ∧ Calls P f vs.toArray w fun e w'=>∃ v hp' m' fr' y,e = .returned v ∧ HRel G N hp' m' w' ∧ FRel G env fr' hp' m' tmps w' ∧ Below N w w' ∧ RepT G w' (Rof G hp' m' w') hp'.length m' y v ∧ K fr' hp' y = some r ∧ Kp G hp m w hp' m' w':=by
 obtain ⟨hfn,hcon⟩:=hok.rowf f kd u hrf
 refine ⟨hfn,?_⟩
 unfold rowfK at h
 split at h
 rotate_left
 ·cases h
 rename_i o i ts'
 split at h
 rotate_left
 ·cases h
 rename_i u' l ho
 split at h
 rotate_left
 ·cases h
 rename_i l1 hl1
 obtain ⟨e,he⟩:=castL_some hl1
 subst e
 have he:l = l1:=he
 subst he
 split at h
 rotate_left
 ·cases h
 rename_i hfree
 obtain ⟨hvl,hts⟩:=hts
 obtain ⟨v0,hv0,hlt,hv0m,hv0o⟩:=hts 0 _ rfl
 obtain ⟨v1,hv1,hv1r⟩:=hts 1 _ rfl
 have hv1e:v1 = .int .i64 i:=by cases hv1r;rfl
 subst hv1e
 obtain ⟨xs,e1,e2,e3⟩:=hh.obj o _ ho
 have hxl:=e1.1
 split at h
 ·rename_i j
  split at h
  rotate_left
  ·cases h
  rename_i hc
  obtain ⟨v2,hv2,hv2r⟩:=hts 2 _ rfl
  have hv2e:v2 = .int .i64 j:=by cases hv2r;rfl
  subst hv2e
  have hvs:vs = [v0,.int .i64 i,.int .i64 j]:=by
   match vs,hvl,hv0,hv1,hv2 with
   | [a,b,c],_,hv0,hv1,hv2=>cases hv0;cases hv1;cases hv2;rfl
  obtain ⟨a,rfl⟩:∃ a:Nat,i = (a:Int):=⟨i.toNat,by omega⟩
  obtain ⟨b,rfl⟩:∃ b:Nat,j = (b:Int):=⟨j.toNat,by omega⟩
  rw [hvs]
  rw [← hv0m] at e1
  refine (hcon N w v0 l.length xs a b e1 e3 hh.base (by omega) (by omega) (by omega)).mono ?_
  rintro e w' ⟨v',rfl,ho',hg,hblk⟩
  rw [Int.toNat_natCast,Int.toNat_natCast] at h
  have hlen':(l.take a ++ l.drop b).length = l.length - (b - a):=by simp;omega
  have hrr:RowRep G w (Rof G hp m w) u' (l.take a ++ l.drop b) (xs.take (a * G.sz u') ++ xs.drop (b * G.sz u')):=by
   refine RowRep.appR (e2.takeR hok a) (e2.dropR b) ?_ hok
   rw [List.length_take,List.length_take,hxl]
   have:a * G.sz u' ≤ l.length * G.sz u':=Nat.mul_le_mul_right _ (by omega)
   rw [Nat.min_eq_left this,Nat.min_eq_left (by omega)]
  obtain ⟨hp',m',rfl,k1,k2,k3,k4,k5⟩:=own_turn (l':=l.take a ++ l.drop b) (v':=v') hh hf ho hfree (by rw [hlen'];exact ho') hrr (fun x hx=>by
   rcases List.mem_append.1 hx with hx | hx
   ·exact e3 x (List.mem_of_mem_take hx)
   ·exact e3 x (List.mem_of_mem_drop hx)) (hv0m ▸ hg) (fun b hb=>hv0m ▸ hblk b hb)
  exact ⟨v',_,m',_,_,rfl,k1,k2,k3,k4,h,k5⟩
 ·rename_i o2
  split at h
  rotate_left
  ·cases h
  rename_i lk u2 l2 ho2
  split at h
  rotate_left
  ·cases h
  rename_i l2' hl2
  obtain ⟨e,he⟩:=castL_some hl2
  subst e
  have he:l2 = l2':=he
  subst he
  split at h
  rotate_left
  ·cases h
  rename_i hne
  have hne:o2 ≠ o:=by simpa using hne
  split at h
  rotate_left
  ·cases h
  rename_i hc
  obtain ⟨v2,hv2,hlt2,hv2m,hv2o⟩:=hts 2 _ rfl
  have hvs:vs = [v0,.int .i64 i,v2]:=by
   match vs,hvl,hv0,hv1,hv2 with
   | [a,b,c],_,hv0,hv1,hv2=>cases hv0;cases hv1;cases hv2;rfl
  obtain ⟨a,rfl⟩:∃ a:Nat,i = (a:Int):=⟨i.toNat,by omega⟩
  obtain ⟨ys,f1,f2,f3⟩:=hh.obj o2 _ ho2
  have hyl:=f1.1
  rw [hc.1] at f1
  rw [hvs]
  rw [← hv0m] at e1
  rw [← hv2m] at f1
  refine (hcon N w v0 l.length xs a v2 ys e1 e3 f1 f3 (fun b hb hb2=>hne (hh.sep o2 o _ _ b ho2 ho rfl rfl (hv2m ▸ hb) (hv0m ▸ hb2))) hh.base (by omega) (by omega)).mono ?_
  rintro e w' ⟨v',rfl,ho',hg,hblk⟩
  rw [Int.toNat_natCast] at h
  have hlen':(l.take a ++ l2 ++ l.drop a).length = l.length + 1:=by simp;omega
  have hta:(xs.take (a * G.sz u2)).length = (l.take a).length * G.sz u2:=by
   rw [List.length_take,List.length_take,hxl]
   have:a * G.sz u2 ≤ l.length * G.sz u2:=Nat.mul_le_mul_right _ (by omega)
   rw [Nat.min_eq_left this,Nat.min_eq_left (by omega)]
  have hrr:RowRep G w (Rof G hp m w) u2 (l.take a ++ l2 ++ l.drop a) (xs.take (a * G.sz u2) ++ ys ++ xs.drop (a * G.sz u2)):=by
   refine RowRep.appR (RowRep.appR (e2.takeR hok a) f2 hta hok) (e2.dropR a) ?_ hok
   rw [List.length_append,List.length_append,hta,hyl,Nat.add_mul]
  obtain ⟨hp',m',rfl,k1,k2,k3,k4,k5⟩:=own_turn (l':=l.take a ++ l2 ++ l.drop a) (v':=v') hh hf ho hfree (by rw [hlen'];exact ho') hrr (fun x hx=>by
   rcases List.mem_append.1 hx with hx | hx
   ·rcases List.mem_append.1 hx with hx | hx
    ·exact e3 x (List.mem_of_mem_take hx)
    ·exact f3 x hx
   ·exact e3 x (List.mem_of_mem_drop hx)) (hv0m ▸ hg) (fun b hb=>hv0m ▸ hblk b hb)
  exact ⟨v',_,m',_,_,rfl,k1,k2,k3,k4,h,k5⟩
 ·cases h
end
end Go.Proofs.YtgbicnkpnhifgaaGreatDoor

namespace Go.Proofs.YtgbicnkpnhifgaaGreatDoor
open Go.RowKit Go.Maps Go.WideMaps
variable {P:Program} (G:Sg P) {β:Type}
def mapKind (P:Program) (t:TypeId):Option Bool:=match P.underlying t with
 | some (.map k e)=>match P.underlying k with
  | some .string=>match P.info? e with
   | some i=>match i.zero with
    | some (.bool false)=>some true
    | some (.agg cs)=>if cs.size = 0 then some false else none
    | _=>none
   | none=>none
  | _=>none
 | _=>none
def makeMapK (P:Program) (hp:G.Hp) (t:TypeId) (K:G.Hp → G.T → Option β):Option β:=match mapKind P t with
 | some b=>K (hp ++ [.ab false (.map t b) []]) (.c (.os hp.length))
 | none=>match G.mapu t with
  | some u=>K (hp ++ [.ab false (.mapu t u) (true,[])]) (.c (.os hp.length))
  | none=>none
def pvP:List G.C → Option (List G.P')
 | []=>some []
 | .pv p :: cs=>match pvP cs with
  | some ps=>some (p :: ps)
  | none=>none
 | _ :: _=>none
def unP (u:G.U) (t:G.T):Option (G.El u):=match G.ag u,t with
 | true,.agg cs=>match pvP G cs with
  | some ps=>G.unrow u ps
  | none=>none
 | false,.c c=>match pvP G [c] with
  | some ps=>G.unrow u ps
  | none=>none
 | _,_=>none
def mapVal (b:Bool) (x:G.T):Option Bool:=match b,x with
 | true,.c (.pv (.val (.bool x)))=>some x
 | false,.agg []=>some true
 | _,_=>none
def mapUpdK (hp:G.Hp) (t:TypeId) (a s x:G.T) (K:G.Hp → Option β):Option β:=match a,valOf G s with
 | .c (.os o),some (.string s)=>match hp[o]? with
  | some (.ab false (.map t' b) es)=>if t' = t then (match mapVal G b x with
   | some x=>if s.size ≤ 2147483648 ∧ es.length ≤ 2147483648 then K (hp.set o (.ab false (.map t' b) (setM s x es))) else none
   | none=>none) else none
  | some (.ab false (.mapu t' u) d)=>if t' = t then (match unP G u x with
   | some y=>if d.1 = true ∧ s.size ≤ 2147483648 ∧ d.2.length ≤ 2147483648 then K (hp.set o (.ab false (.mapu t' u) (true,setM s y d.2))) else none
   | none=>none) else none
  | _=>none
 | _,_=>none
def zAg (u:G.U):Bool:=match P.info? (G.ty u) with
 | some i=>match i.zero with
  | some (.agg _)=>G.ag u
  | some _=>!G.ag u
  | none=>false
 | none=>false
def mapTo (P:Program) (t e:TypeId):Bool:=match P.underlying t with
 | some (.map k e')=>match P.underlying k with
  | some .string=>e' == e
  | _=>false
 | _=>false
def look2K (hp:G.Hp) (t:TypeId) (a s:G.T) (K:G.D → Option β):Option β:=match a,valOf G s with
 | .c (.os o),some (.string s)=>match hp[o]? with
  | some (.ab _ (.mapu t' u) d)=>if t' = t ∧ zAg G u = true ∧ mapTo P t (G.ty u) = true then (if s.size ≤ 2147483648 then K (.tup [elT G u ((findM s d.2).getD (G.zero u)),pval G (.bool (findM s d.2).isSome)]) else none) else none
  | _=>none
 | _,_=>none
def nilC:G.T → Bool
 | .c (.pv (.val (.map none)))=>true
 | .c (.pv (.val (.pointer none)))=>true
 | _=>false
def nilCmp (op:BinOp) (b:Bool):Option Value:=match op with
 | .eql=>some (.bool b)
 | .neq=>some (.bool (!b))
 | _=>none
def nilMapK (P:Program) (hp:G.Hp) (op:BinOp) (ty:TypeId) (x y:G.T) (K:Value → Option β):Option β:=match x,y with
 | .c (.os o),.c (.pv (.val (.map none)))=>match hp[o]? with
  | some (.ab _ (.mapu _ _) d)=>match P.underlying ty with
   | some (.map _ _)=>match nilCmp op (!d.1) with
    | some v=>K v
    | none=>none
   | _=>none
  | _=>none
 | .c (.ptr _ _),.c (.pv (.val (.pointer none)))=>match P.underlying ty with
  | some (.pointer _)=>match nilCmp op false with
   | some v=>K v
   | none=>none
  | _=>none
 | _,_=>none
def lookK (P:Program) (hp:G.Hp) (t:TypeId) (a s:G.T) (K:G.T → Option β):Option β:=match a,valOf G s with
 | .c (.os o),some (.string s)=>match hp[o]? with
  | some (.ab _ (.map t' true) es)=>if t' = t ∧ mapKind P t = some true then (if s.size ≤ 2147483648 then K (pval G (.bool ((findM s es).getD false))) else none) else none
  | _=>none
 | _,_=>none
def isMapT (P:Program) (t:TypeId):Bool:=match P.underlying t with
 | some (.map _ _)=>true
 | _=>false
def mapLenK (hp:G.Hp) (t:TypeId) (a:G.T) (K:G.T → Option β):Option β:=match a with
 | .c (.os o)=>match hp[o]? with
  | some (.ab _ (.map t' _) es)=>if t' = t then K (pval G (.int .i64 es.length)) else none
  | some (.ab _ (.mapu t' _) d)=>if t' = t then (if d.1 = true then K (pval G (.int .i64 d.2.length)) else none) else none
  | _=>none
 | _=>none
def eqFs (f:TypeId → G.T → G.T → Option Bool):List Field → List G.C → List G.C → Option Bool
 | [],_,_=>some true
 | fl :: fs,cs,ds=>if fl.name = "_" then none else match shapeP P fl.type with
  | some s=>match takeT G s (cs.drop fl.offset),takeT G s (ds.drop fl.offset) with
   | some a,some b=>match f fl.type a b with
    | some e=>match fs with
     | []=>some e
     | fl' :: fs=>match eqFs f (fl' :: fs) cs ds with
      | some e'=>some (e && e')
      | none=>none
    | none=>none
   | _,_=>none
  | none=>none
def eqTy:Nat → TypeId → G.T → G.T → Option Bool
 | 0,_,_,_=>none
 | d + 1,t,x,y=>match P.underlying t with
  | some (.int _)=>match valOf G x,valOf G y with
   | some (.int k a),some (.int k' b)=>if k = k' then some (a == b) else none
   | _,_=>none
  | some .bool=>match valOf G x,valOf G y with
   | some (.bool a),some (.bool b)=>some (a == b)
   | _,_=>none
  | some .string=>match valOf G x,valOf G y with
   | some (.string a),some (.string b)=>some (a.toList == b.toList)
   | _,_=>none
  | some (.struct fs)=>match x,y with
   | .agg cs,.agg ds=>if P.stoodInHeld t = true then none else eqFs G (eqTy d) fs.toList cs ds
   | _,_=>none
  | _=>none
def eqAggK (op:BinOp) (ty:TypeId) (x y:G.T) (K:Value → Option β):Option β:=match x,y with
 | .agg _,.agg _=>if P.eqGuardType P.depth ty = true then none else match eqTy G 8 ty x y,op with
  | some b,.eql=>K (.bool b)
  | some b,.neq=>K (.bool (!b))
  | _,_=>none
 | _,_=>none
section
variable {G} {w w':World} {R R':Nat → Prop} {n n':Nat} {m m':Nat → Value} {r:β} {N:Nat} {hp:G.Hp} [Held]
theorem eqFs_ok {f:TypeId → G.T → G.T → Option Bool} {e:Nat} (hf:∀ (t:TypeId) (x y:G.T) (b:Bool) (va vb:Value),f t x y = some b → RepT G w R n m x va → RepT G w R n m y vb → ∀ w',(Op.equalIn e t va vb).run P w' = .ok b w')
  {cs ds:List G.C} {vs us:List Value} (hc:RepL G w R n m cs vs) (hd:RepL G w R n m ds us):∀ (fs:List Field) (b:Bool),eqFs G f fs cs ds = some b → ∀ w',(Op.eqFields e vs.toArray us.toArray fs).run P w' = .ok b w'
 | [],b,h,w'=>by cases h;rfl
 | fl :: fs,b,h,w'=>by
  unfold eqFs at h
  split at h
  ·cases h
  ·rename_i hne
   split at h
   ·rename_i s hs
    split at h
    ·rename_i x y hx hy
     obtain ⟨v,h1,h2⟩:=part_ok (P:=P) hs hc hx
     obtain ⟨u,h3,h4⟩:=part_ok (P:=P) hs hd hy
     split at h
     ·rename_i a ha
      have h5:=hf _ _ _ _ _ _ ha h2 h4
      unfold Op.eqFields
      rw [if_pos hne]
      simp only [Sem.run_bind,h1,h3,h5,Result.andThen_ok]
      split at h
      ·cases h
       cases b <;> simp [Op.eqFields]
      ·rename_i fl' fs'
       split at h
       ·rename_i b' hb'
        cases h
        have h6:=eqFs_ok hf hc hd _ b' hb' w'
        cases a
        ·simp
        ·simp only [Bool.not_true,Bool.false_eq_true,if_false,Bool.true_and]
         exact h6
       ·cases h
     ·cases h
    ·cases h
   ·cases h
theorem eqTy_ok:∀ (d:Nat) (t:TypeId) (x y:G.T) (b:Bool) (va vb:Value),eqTy G d t x y = some b → RepT G w R n m x va → RepT G w R n m y vb → ∀ e,d ≤ e → ∀ w',(Op.equalIn e t va vb).run P w' = .ok b w'
 | 0,_,_,_,_,_,_,h,_,_,_,_,_=>by cases h
 | d + 1,t,x,y,b,va,vb,h,hx,hy,0,he,_=>by omega
 | d + 1,t,x,y,b,va,vb,h,hx,hy,e + 1,he,w'=>by
  unfold eqTy at h
  split at h
  ·rename_i k0 hu
   split at h
   ·rename_i k a k' b' ha hb
    obtain ⟨rfl,_⟩:=valOf_rep ha hx
    obtain ⟨rfl,_⟩:=valOf_rep hb hy
    split at h
    ·rename_i hk;subst hk;cases h
     exact run_equalIn_int w' e t k k0 a b' hu
    ·cases h
   ·cases h
  ·rename_i hu
   split at h
   ·rename_i a b' ha hb
    obtain ⟨rfl,_⟩:=valOf_rep ha hx
    obtain ⟨rfl,_⟩:=valOf_rep hb hy
    cases h
    exact run_equalIn_bool' w' e t a b' hu
   ·cases h
  ·rename_i hu
   split at h
   ·rename_i a b' ha hb
    obtain ⟨rfl,_⟩:=valOf_rep ha hx
    obtain ⟨rfl,_⟩:=valOf_rep hb hy
    cases h
    exact run_equalIn_string w' e t a b' hu
   ·cases h
  ·rename_i fs hu
   split at h
   ·rename_i cs ds
    split at h
    ·cases h
    ·rename_i hst
     obtain ⟨vs,rfl,hl⟩:=hx
     obtain ⟨us,rfl,hl'⟩:=hy
     have hfs:P.fieldsOf t = fs:=by unfold Program.fieldsOf;rw [hu]
     rw [run_equalIn_struct w' e t _ _ (by rw [hfs];exact hu) (by simpa using hst),hfs]
     exact eqFs_ok (fun t x y b va vb h hx hy w'=>eqTy_ok d t x y b va vb h hx hy e (by omega) w') hl hl' _ b h w'
   ·cases h
  ·cases h
theorem eqAggK_ok {op:BinOp} {ty:TypeId} {x y:G.T} {va vb:Value} {K:Value → Option β} (p q:Operand) (hx:RepT G w R n m x va) (hy:RepT G w R n m y vb) (h:eqAggK G op ty x y K = some r) :
  ∃ v,(∀ w,(do eqGuard op ty p q va vb;binOp op ty va vb:Sem Value).run P w = .ok v w) ∧ K v = some r ∧ v.oneCell' = true:=by
 unfold eqAggK at h
 split at h
 ·rename_i cs ds
  split at h
  ·cases h
  ·rename_i hg
   have hg:P.eqGuardType P.depth ty = false:=by simpa using hg
   split at h
   ·rename_i b hb
    have h1:=eqTy_ok 8 ty _ _ b va vb hb hx hy 10000 (by decide)
    obtain ⟨vs,rfl,_⟩:=hx
    obtain ⟨us,rfl,_⟩:=hy
    exact ⟨.bool b,fun w=>by simp only [Sem.run_bind,run_eqGuard_agg w _ _ _ _ _ _ hg,Result.andThen_ok,run_eql_struct,h1],h,rfl⟩
   ·rename_i b hb
    have h1:=eqTy_ok 8 ty _ _ b va vb hb hx hy 10000 (by decide)
    obtain ⟨vs,rfl,_⟩:=hx
    obtain ⟨us,rfl,_⟩:=hy
    exact ⟨.bool (!b),fun w=>by simp only [Sem.run_bind,run_eqGuard_agg w _ _ _ _ _ _ hg,Result.andThen_ok,run_neq_struct,h1],h,rfl⟩
   ·cases h
 ·cases h
theorem keyLit_inj {a b:ByteArray} (h:keyLit a = keyLit b):a = b:=by
 unfold keyLit at h
 injection h with h
 exact ByteArray.ext (Array.toList_inj.1 h)
theorem find_set_same {α:Type} (s:ByteArray) (x:α):∀ es,findM s (setM s x es) = some x
 | []=>if_pos rfl
 | p :: l=>by
  unfold setM
  split
  ·exact if_pos rfl
  ·rename_i hne
   unfold findM
   rw [if_neg hne]
   exact find_set_same s x l
theorem find_set_other {α:Type} {s s':ByteArray} (h:s' ≠ s) (x:α):∀ es,findM s' (setM s x es) = findM s' es
 | []=>if_neg h
 | p :: l=>by
  unfold setM
  split
  ·rename_i he
   subst he
   unfold findM
   rw [if_neg h,if_neg h]
  ·unfold findM
   rw [find_set_other h x l]
theorem length_set {α:Type} (s:ByteArray) (x:α):∀ es,(setM s x es).length = if (findM s es).isSome then es.length else es.length + 1
 | []=>rfl
 | p :: l=>by
  unfold setM findM
  split
  ·simp
  ·simp only [List.length_cons,length_set s x l]
   split <;> rfl
theorem MapRel.nil {H α:Type} (f:α → DataW H):MapRel f (.map []) []:=⟨rfl,fun _=>rfl,fun _ _=>rfl⟩
theorem MapRel.put {H α:Type} {f:α → DataW H} {D:DataW H} {es:List (ByteArray × α)} (h:MapRel f D es) (ht:Go.Maps.Tidy D) (hm:Go.Maps.IsMap D) (s:ByteArray) (x:α):MapRel f (D.put (keyLit s) (f x)) (setM s x es):=by
 refine ⟨?_,fun s'=>?_,fun s' d=>?_⟩
 ·rw [Go.Maps.size_put ht,h.has,length_set,h.size]
 ·by_cases he:s' = s
  ·subst he
   rw [Go.Maps.has_put_same hm (k:=keyLit s') trivial,find_set_same];rfl
  ·rw [Go.Maps.has_put_other (fun e=>he (keyLit_inj e)),find_set_other he,h.has]
 ·by_cases he:s' = s
  ·subst he
   rw [Go.Maps.atKey_put_same hm (k:=keyLit s') trivial,find_set_same];rfl
  ·rw [Go.Maps.atKey_put_other (fun e=>he (keyLit_inj e)),find_set_other he,h.at_]
theorem owns_tight {P:Program} {H:Type} {k:TypeId} {R:Value → Option (DataW H × List MemPlace)} {w:World} {b n:Nat} {D:DataW H} (h:w.ownsMap P k R b n D):w.ownsMap P k R b (Go.Maps.size D) D:=by
 obtain ⟨es,clock,hb,F,hs,rfl⟩:=h
 have e1:Maps.size (DataW.map ((es.toList.map (Go.WideElems.rg P k R)).foldr DataW.insert [])) = es.size:=by simp [Maps.size,length_sorted]
 exact ⟨es,clock,hb,F,by rw [e1];exact Nat.le_refl _,rfl⟩
theorem key_of {k:TypeId} (hk:P.underlying k = some .string) {s:ByteArray} (hs:s.size ≤ 2147483648):keyOf P k (.string s) = some (keyLit s) :=
 keyOf_string_mk hk (by unfold maxLen;omega)
theorem mapKind_some {t:TypeId} {b:Bool} (h:mapKind P t = some b):∃ k e i,P.underlying t = some (.map k e) ∧ P.underlying k = some .string ∧ P.info? e = some i ∧ (b = true → i.zero = some (.bool false)):=by
 unfold mapKind at h
 split at h
 ·rename_i k e hu
  split at h
  ·rename_i hk
   split at h
   ·rename_i i hi
    split at h
    ·rename_i hz;exact ⟨k,e,i,hu,hk,hi,fun _=>hz⟩
    ·split at h
     ·cases h;exact ⟨k,e,i,hu,hk,hi,fun h=>by cases h⟩
     ·cases h
    ·cases h
   ·cases h
  ·cases h
 ·cases h
theorem makeMapK_ok (hok:G.Ok) {t:TypeId} {K:G.Hp → G.T → Option β} (hh:HRel G N hp m w) (h:makeMapK G P hp t K = some r):Made G N hp m w (Instr.makeMap t none) K r:=by
 unfold makeMapK at h
 split at h
 ·rename_i b hb
  obtain ⟨k,e,i,h1,h2,_⟩:=mapKind_some hb
  obtain ⟨h3,h4⟩:=new_one (w':=w.alloc (.map #[] 0)) hh (by simp) (fun b hb=>alloc_old w _ hb) (.ab false (.map t b) []) (.map (some w.heap.size)) (fun b hb=>by cases hb;exact Nat.le_refl _) (fun _=>by
   refine ⟨?_,by rw [mAt_same];rfl⟩
   rw [mAt_same]
   exact ⟨_,_,k,e,rfl,hh.base,h1,h2,World.ownsMap_made _ _ _ _,MapRel.nil _⟩)
  exact ⟨_,_,_,_,_,rfl,h3,h4,by simp,⟨(Below.refl _ _).alloc hh.base _,fun b hb=>alloc_old w _ hb⟩,os_new _ rfl _,h⟩
 ·split at h
  ·rename_i u hu
   obtain ⟨k,h1,h2⟩:=hok.mapu t u hu
   obtain ⟨h3,h4⟩:=new_one (w':=w.alloc (.map #[] 0)) hh (by simp) (fun b hb=>alloc_old w _ hb) (.ab false (.mapu t u) (true,[])) (.map (some w.heap.size)) (fun b hb=>by cases hb;exact Nat.le_refl _) (fun _=>by
    refine ⟨?_,by rw [mAt_same];rfl⟩
    rw [mAt_same]
    exact ⟨_,_,k,[],rfl,hh.base,h1,h2,World.ownsMap_made _ _ _ _,MapRel.nil _,rfl,fun i p hi=>by cases hi⟩)
   exact ⟨_,_,_,_,_,rfl,h3,h4,by simp,⟨(Below.refl _ _).alloc hh.base _,fun b hb=>alloc_old w _ hb⟩,os_new _ rfl _,h⟩
  ·cases h
theorem pvP_ok:∀ {cs:List G.C} {ps:List G.P'} {vs:List Value},pvP G cs = some ps → RepL G w R n m cs vs → vs.length = ps.length ∧ ∀ (j:Nat) (p:G.P'),ps[j]? = some p → ∃ x,vs[j]? = some x ∧ RepP G w R p x
 | [],ps,vs,h,hl=>by cases h;exact ⟨hl.1,fun j p hj=>by cases hj⟩
 | c :: cs,ps,vs,h,hl=>by
  cases c with
  | pv p =>
   unfold pvP at h
   split at h
   ·rename_i ps' hps
    cases h
    cases vs with
    | nil=>have:=hl.1;simp at this
    | cons v vs =>
     obtain ⟨v',e1,e2⟩:=hl.2 0 _ rfl
     cases e1
     have htl:RepL G w R n m cs vs:=by have:=hl.drop 1;simpa using this
     obtain ⟨h1,h2⟩:=pvP_ok hps htl
     refine ⟨by simp [h1],fun j q hj=>?_⟩
     cases j with
     | zero=>cases hj;exact ⟨v,rfl,e2⟩
     | succ j=>exact h2 j q hj
   ·cases h
  | _=>cases h
theorem unP_ok (hok:G.Ok) {u:G.U} {t:G.T} {y:G.El u} {v:Value} (h:unP G u t = some y) (ht:RepT G w R n m t v):RepU G w R u y v:=by
 unfold unP at h
 split at h
 ·rename_i cs hag
  split at h
  ·rename_i ps hps
   obtain ⟨vs,rfl,hl⟩:=ht
   obtain ⟨h1,h2⟩:=pvP_ok hps hl
   obtain ⟨h3,h4⟩:=unrow_ok hok h h1 h2
   exact ⟨vs,by rw [hag],h3,h4⟩
  ·cases h
 ·rename_i c hag
  split at h
  ·rename_i ps hps
   obtain ⟨h1,h2⟩:=pvP_ok (vs:=[v]) hps (⟨rfl,fun i c' hi=>by
    cases i with
    | zero=>cases hi;exact ⟨v,rfl,ht⟩
    | succ i=>cases hi⟩:RepL G w R n m [c] [v])
   obtain ⟨h3,h4⟩:=unrow_ok hok h h1 h2
   exact ⟨[v],by rw [hag],h3,h4⟩
  ·cases h
 ·cases h
def Al {α β:Type} (Q:α → β → Prop) (l:List (ByteArray × α)) (vs:List (ByteArray × β)):Prop:=vs.length = l.length ∧ ∀ (i:Nat) (p:ByteArray × α),l[i]? = some p → ∃ y,vs[i]? = some (p.1,y) ∧ Q p.2 y
theorem Al.tail {α β:Type} {Q:α → β → Prop} {p:ByteArray × α} {l:List (ByteArray × α)} {v:ByteArray × β} {vs:List (ByteArray × β)} (h:Al Q (p :: l) (v :: vs)):v.1 = p.1 ∧ Q p.2 v.2 ∧ Al Q l vs:=by
 obtain ⟨h1,h2⟩:=h
 obtain ⟨y,e,hq⟩:=h2 0 p rfl
 cases e
 exact ⟨rfl,hq,by simpa using h1,fun i q hi=>h2 (i + 1) q hi⟩
theorem Al.cons {α β:Type} {Q:α → β → Prop} {s:ByteArray} {x:α} {y:β} {l:List (ByteArray × α)} {vs:List (ByteArray × β)} (hq:Q x y) (h:Al Q l vs):Al Q ((s,x) :: l) ((s,y) :: vs) :=
 ⟨by simp [h.1],fun i p hi=>by
  cases i with
  | zero=>cases hi;exact ⟨y,rfl,hq⟩
  | succ i=>exact h.2 i p hi⟩
theorem Al.set {α β:Type} {Q:α → β → Prop} (s:ByteArray) {x:α} {y:β} (hq:Q x y):∀ {l:List (ByteArray × α)} {vs:List (ByteArray × β)},Al Q l vs → Al Q (setM s x l) (setM s y vs)
 | [],[],_=>Al.cons hq ⟨rfl,fun i p hi=>by cases hi⟩
 | [],_ :: _,h=>by have:=h.1;simp at this
 | _ :: _,[],h=>by have:=h.1;simp at this
 | p :: l,v :: vs,h=>by
  obtain ⟨h1,h2,h3⟩:=h.tail
  unfold setM
  rw [h1]
  split
  ·exact Al.cons hq h3
  ·have:=Al.cons (s:=p.1) h2 (Al.set s hq h3)
   have e:v = (p.1,v.2):=by rw [← h1]
   rw [e]
   exact this
theorem Al.find {α β:Type} {Q:α → β → Prop} (s:ByteArray):∀ {l:List (ByteArray × α)} {vs:List (ByteArray × β)},Al Q l vs → (findM s l = none ∧ findM s vs = none) ∨ ∃ x y,findM s l = some x ∧ findM s vs = some y ∧ Q x y
 | [],[],_=>.inl ⟨rfl,rfl⟩
 | [],_ :: _,h=>by have:=h.1;simp at this
 | _ :: _,[],h=>by have:=h.1;simp at this
 | p :: l,v :: vs,h=>by
  obtain ⟨h1,h2,h3⟩:=h.tail
  unfold findM
  rw [h1]
  split
  ·exact .inr ⟨_,_,rfl,rfl,h2⟩
  ·exact Al.find s h3
theorem Al.mono {α β:Type} {Q Q':α → β → Prop} (hq:∀ x y,Q x y → Q' x y) {l:List (ByteArray × α)} {vs:List (ByteArray × β)} (h:Al Q l vs):Al Q' l vs :=
 ⟨h.1,fun i p hi=>by obtain ⟨y,e,hy⟩:=h.2 i p hi;exact ⟨y,e,hq _ _ hy⟩⟩
theorem elT_of (hok:G.Ok) {u:G.U} {x:G.El u} {v:Value} (h:RepU G w R u x v):RepT G w R n m (elT G u x) v:=by
 obtain ⟨vs,h1,h2,h3⟩:=h
 unfold elT
 cases hag:G.ag u with
 | true =>
  rw [hag] at h1
  show RepT G w R n m (.agg ((G.row u x).map .pv)) v
  refine ⟨vs,h1,by rw [List.length_map,hok.row_sz,h2],fun j c hj=>?_⟩
  rw [List.getElem?_map,Option.map_eq_some_iff] at hj
  obtain ⟨p,hp,rfl⟩:=hj
  exact h3 j p hp
 | false =>
  rw [hag] at h1
  have hone:=hok.one u hag
  have hlen:(G.row u x).length = 1:=by rw [hok.row_sz,hone]
  cases hrow:G.row u x with
  | nil=>rw [hrow] at hlen;cases hlen
  | cons p ps =>
   obtain ⟨y,e1,e2⟩:=h3 0 p (by rw [hrow];rfl)
   have h1':vs = [v]:=h1
   subst h1'
   cases e1
   exact e2
theorem zeroU_ok (hok:G.Ok) (u:G.U) (hz:zAg G u = true):∃ z,(∀ w,(zeroValue (G.ty u)).run P w = .ok z w) ∧ RepU G w R u (G.zero u) z:=by
 obtain ⟨i,z,h1,h2,h3,h4,h5,h6,h7⟩:=hok.info u
 refine ⟨z,fun w=>by simp [zeroValue,typeInfo,h1,h2],?_⟩
 have hcell:∀ (j:Nat) (p:G.P'),(G.row u (G.zero u))[j]? = some p → ∃ y,z.cells.toList[j]? = some y ∧ RepP G w R p y:=by
  intro j p hj
  obtain ⟨v,e1,e2⟩:=h6 j p hj
  exact ⟨v,e1,RepP.weak G (RepP.val v (h7 v (List.mem_of_getElem? e1))) e2⟩
 unfold zAg at hz
 rw [h1] at hz
 simp only [h2] at hz
 split at hz
 ·rename_i cs e
  cases e
  exact ⟨cs.toList,by rw [hz],by have:=h4;simpa [Value.cells] using this,fun j p hj=>by simpa [Value.cells] using hcell j p hj⟩
 ·rename_i z' hne e
  cases e
  have hag:G.ag u = false:=by simpa using hz
  have e2:z.cells = #[z]:=by
   cases z <;> first | rfl | exact absurd rfl (hne _)
  rw [e2] at hcell h4
  exact ⟨[z],by rw [hag],by simpa using h4,fun j p hj=>hcell j p hj⟩
 ·cases hz
theorem mapVal_ok {b x:Bool} {t:G.T} {v:Value} (h:mapVal G b t = some x) (ht:RepT G w R n m t v):elemR b v = some (datM b x,[]):=by
 unfold mapVal at h
 split at h
 ·cases h
  obtain ⟨rfl,_⟩:=valOf_rep (v:=.bool x) rfl ht
  rfl
 ·cases h
  obtain ⟨vs,rfl,hl⟩:=ht
  obtain rfl:vs = []:=List.eq_nil_of_length_eq_zero hl.1
  exact unitElem_mk
 ·cases h
theorem mapUpdK_ok (hok:G.Ok) {t:TypeId} {a s x:G.T} {va vs vx:Value} {K:G.Hp → Option β} (hh:HRel G N hp m w) (ha:RepT G w (Rof G hp m w) hp.length m a va) (hs:RepT G w (Rof G hp m w) hp.length m s vs) (hx:RepT G w (Rof G hp m w) hp.length m x vx)
  (h:mapUpdK G hp t a s x K = some r) :
  ∃ w' hp',(Instr.mapUpdate t va vs vx).run P w = .ok () w' ∧ HRel G N hp' m w' ∧ Keep G hp m w hp' m w' ∧ hp'.length = hp.length ∧ Below N w w' ∧ K hp' = some r:=by
 unfold mapUpdK at h
 split at h
 ·rename_i o s' hs'
  obtain ⟨rfl,_⟩:=valOf_rep hs' hs
  split at h
  ·rename_i t' b es ho
   split at h
   ·rename_i het
    subst het
    split at h
    ·rename_i x' hx'
     split at h
     ·rename_i hsz
      obtain ⟨⟨bk,D,k,e,e1,h1,h2,h3,h4,h5⟩,h6⟩:=hh.obj o _ ho
      obtain ⟨_,rfl,_⟩:=ha
      have K0:=string_keyed h3
      obtain ⟨w',hrun,hown,hgrow⟩:=h4.update K0 h2 (Nat.lt_of_le_of_lt hsz.2 (by unfold maxLen;omega)) (key_of h3 hsz.1) (mapVal_ok hx' hx)
      have hrel:=h5.put (h4.tidy K0) h4.isMap s' x'
      have htight:=owns_tight hown
      rw [hrel.size] at htight
      have hold:∀ c,c < w.heap.size → blkOf (m o) ≠ some c → w'.heap[c]? = w.heap[c]?:=fun c hc hne=>hgrow.block c hc (fun e2=>hne (by rw [e1];exact e2.symm))
      obtain ⟨g1,g2,g3⟩:=hh.turn (w':=w') (m':=m) (ob':=.ab false (.map t' b) (setM s' x' es)) (f:=fun x=>x) ho rfl hgrow.size hold (fun _ _=>rfl) (fun b _ hb=>.inl hb) (.inl ⟨fun _=>rfl,rfl⟩)
       ⟨⟨bk,_,k,e,e1,h1,h2,h3,htight,hrel⟩,h6⟩
      rw [map_id'] at g1 g2
      refine ⟨w',_,by rw [e1];exact hrun,g1,⟨g2,g3,fun _ _=>rfl,lk_set ho rfl,mv_set ho rfl,hlk_turn hh ho rfl rfl hold⟩,by simp,?_,h⟩
      exact (Below.refl _ _).grown hgrow hh.base (fun c hc=>by cases hc;exact h1)
     ·cases h
    ·cases h
   ·cases h
  ·rename_i t' u d ho
   split at h
   ·rename_i het
    subst het
    split at h
    ·rename_i y hy
     split at h
     ·rename_i hsz
      obtain ⟨hrep,h6⟩:=hh.obj o _ ho
      have hrep:MapURep G w (Rof G hp m w) N (m o) t' u d:=hrep
      unfold MapURep at hrep
      rw [hsz.1] at hrep
      obtain ⟨bk,D,k,vs,e1,h1,h2,h3,h4,h5,h7,h8⟩:=hrep
      obtain ⟨_,rfl,_⟩:=ha
      have K0:=string_keyed h3
      obtain ⟨w',hrun,hown,hgrow⟩:=h4.update K0 h2 (Nat.lt_of_le_of_lt hsz.2.2 (by unfold maxLen;omega)) (key_of h3 hsz.2.1) (d:=.held vx) (ps:=[]) rfl
      have hrel:=h5.put (h4.tidy K0) h4.isMap s' vx
      have htight:=owns_tight hown
      rw [hrel.size] at htight
      have hold:∀ c,c < w.heap.size → blkOf (m o) ≠ some c → w'.heap[c]? = w.heap[c]?:=fun c hc hne=>hgrow.block c hc (fun e2=>hne (by rw [e1];exact e2.symm))
      have hro:=rof_turn (w':=w') (m':=m) (ob':=.ab false (.mapu t' u) (true,setM s' y d.2)) (f:=fun x=>x) ho rfl hgrow.size (fun _ _=>rfl) (fun b _ hb=>.inl hb) (fun _=>rfl)
      have hsame:∀ c,Rof G hp m w c → w'.heap[c]? = w.heap[c]?:=fun c hc=>hold c hc.1 (fun e=>hc.2 (.inr ⟨o,_,ho,rfl,e⟩))
      have hal:Al (fun x v=>RepU G w' (Rof G ((hp.map fun x=>x).set o (.ab false (.mapu t' u) (true,setM s' y d.2))) m w') u x v) (setM s' y d.2) (setM s' vx vs) :=
       Al.set s' ((unP_ok hok hy hx).mono' hro hsame) (Al.mono (fun x v hq=>RepU.mono' hro hsame hq) ⟨h7,h8⟩)
      obtain ⟨g1,g2,g3⟩:=hh.turn (w':=w') (m':=m) (ob':=.ab false (.mapu t' u) (true,setM s' y d.2)) (f:=fun x=>x) ho rfl hgrow.size hold (fun _ _=>rfl) (fun b _ hb=>.inl hb) (.inl ⟨fun _=>rfl,rfl⟩)
       ⟨⟨bk,_,k,_,e1,h1,h2,h3,by rw [← hal.1];exact htight,hrel,hal.1,hal.2⟩,h6⟩
      rw [map_id'] at g1 g2
      refine ⟨w',_,by rw [e1];exact hrun,g1,⟨g2,g3,fun _ _=>rfl,lk_set ho rfl,mv_set ho rfl,hlk_turn hh ho rfl rfl hold⟩,by simp,?_,h⟩
      exact (Below.refl _ _).grown hgrow hh.base (fun c hc=>by cases hc;exact h1)
     ·cases h
    ·cases h
   ·cases h
  ·cases h
 ·cases h
theorem eqNil {op:BinOp} {ty:TypeId} {a b:Value} {q:Bool} {v:Value} {x y:Operand} (hv:nilCmp op q = some v) (ha:a ≠ .nilIface) (hga:∀ l,a ≠ .agg l) (he:∀ w d,(Op.equalIn (d + 1) ty a b).run P w = .ok q w) (hbin:∀ w,(binOp .eql ty a b).run P w = ((Op.equal ty a b).run P w).andThen (fun z w'=>.ok (.bool z) w')) (hbin2:∀ w,(binOp .neq ty a b).run P w = ((Op.equal ty a b).run P w).andThen (fun z w'=>.ok (.bool (!z)) w')) :
  ∀ w,(do eqGuard op ty x y a b;binOp op ty a b:Sem Value).run P w = .ok v w:=by
 intro w
 have hq:(Op.equal ty a b).run P w = .ok q w:=he w 9999
 have hg:∀ op,(eqGuard op ty x y a b).run P w = .ok () w:=by
  intro op
  unfold eqGuard
  cases op <;> simp <;> (split <;> first | exact absurd rfl ha | exact absurd rfl (hga _) | rfl)
 unfold nilCmp at hv
 split at hv
 ·cases hv
  simp only [Sem.run_bind,hg,Result.andThen_ok,hbin,hq]
 ·cases hv
  simp only [Sem.run_bind,hg,Result.andThen_ok,hbin2,hq]
 ·cases hv
theorem nilMapK_ok {op:BinOp} {ty:TypeId} {x y:G.T} {va vb:Value} {K:Value → Option β} (p q:Operand) (hh:HRel G N hp m w) (hx:RepT G w (Rof G hp m w) hp.length m x va) (hy:RepT G w (Rof G hp m w) hp.length m y vb) (h:nilMapK G P hp op ty x y K = some r) :
  ∃ v,(∀ w,(do eqGuard op ty p q va vb;binOp op ty va vb:Sem Value).run P w = .ok v w) ∧ K v = some r ∧ v.oneCell' = true:=by
 have one:∀ {op b v},nilCmp op b = some v → v.oneCell' = true:=by
  intro op b v hv
  unfold nilCmp at hv
  split at hv <;> cases hv <;> rfl
 unfold nilMapK at h
 split at h
 ·rename_i o
  have hy':RepP G w _ (.val (.map none)) vb:=hy
  cases hy'
  split at h
  ·rename_i lk t u d ho
   split at h
   ·rename_i k e hu
    split at h
    ·rename_i v hv
     obtain ⟨hrep,_⟩:=hh.obj o _ ho
     have hrep:MapURep G w (Rof G hp m w) N (m o) t u d:=hrep
     obtain ⟨_,rfl,_⟩:=hx
     refine ⟨v,?_,h,one hv⟩
     unfold MapURep at hrep
     split at hrep
     ·rename_i hd
      rw [hrep.1]
      rw [hd] at hv
      exact eqNil hv (by simp) (by simp) (fun w d=>by simp [Op.equalIn,run_underlying hu]) (fun w=>by simp [binOp,Result.andThen]) (fun w=>by simp [binOp,Result.andThen])
     ·rename_i hd
      obtain ⟨bk,D,k,vs,e1,_⟩:=hrep
      rw [e1]
      rw [hd] at hv
      exact eqNil hv (by simp) (by simp) (fun w d=>by simp [Op.equalIn,run_underlying hu]) (fun w=>by simp [binOp,Result.andThen]) (fun w=>by simp [binOp,Result.andThen])
    ·cases h
   ·cases h
  ·cases h
 ·rename_i o off
  have hy':RepP G w _ (.val (.pointer none)) vb:=hy
  cases hy'
  split at h
  ·rename_i e hu
   split at h
   ·rename_i v hv
    obtain ⟨_,b,_,rfl⟩:=hx
    exact ⟨v,eqNil hv (by simp) (by simp) (fun w d=>by simp [Op.equalIn,run_underlying hu]) (fun w=>by simp [binOp,Result.andThen]) (fun w=>by simp [binOp,Result.andThen]),h,one hv⟩
   ·cases h
  ·cases h
 ·cases h
theorem owns_look2 {k e t:TypeId} {b n:Nat} {D:DataW Value} (h:w.ownsMap P k heldR b n D) (K:Keyed P k) (ht:P.underlying t = some (.map k e)) {z:Value} (hz:(zeroValue e).run P w = .ok z w) {s:ByteArray} (hkey:keyOf P k (.string s) = some (keyLit s))
  {vs:List (ByteArray × Value)} (hrel:MapRel DataW.held D vs):(Instr.lookup t (.map (some b)) (.string s) true).run P w = .ok (.tuple #[(findM s vs).getD z,.bool (findM s vs).isSome]) w:=by
 obtain ⟨es,clock,hb,F,_,rfl⟩:=h
 have hat:=hrel.at_ s
 rcases Go.Maps.fit_look true K ht hz hb F hkey with ⟨g1,_,g3⟩ | ⟨e0,y,_,_,g1,g2,g3,_⟩
 ·have h1:=(hat (.lit (.bool true))).symm.trans (g3 _)
  cases hf:findM s vs with
  | none=>exact g1
  | some y=>rw [hf] at h1;cases h1
 ·have h1:=(hat (.lit (.bool true))).symm.trans (g3 _)
  unfold heldR at g2
  cases g2
  cases hf:findM s vs with
  | none=>rw [hf] at h1;cases h1
  | some y =>
   rw [hf] at h1
   have h1:DataW.held y = DataW.held e0.val:=h1
   cases h1
   exact g1
theorem look_nil {t e:TypeId} (hm:mapTo P t e = true) {z:Value} (hz:(zeroValue e).run P w = .ok z w) {s:ByteArray}:(Instr.lookup t (.map none) (.string s) true).run P w = .ok (.tuple #[z,.bool false]) w:=by
 unfold mapTo at hm
 split at hm
 ·rename_i k e' hu
  split at hm
  ·rename_i hk
   have he:e' = e:=by simpa using hm
   subst he
   have hck:(Instr.checkKey true 10000 k (.string s)).run P w = .ok () w:=by
    unfold Instr.checkKey
    simp [run_underlying hk]
   have hfk:(Instr.findKey k (.string s) []).run P w = .ok none w:=by
    unfold Instr.findKey
    simp [run_underlying hk,Instr.findNow]
   unfold Instr.lookup
   simp [run_underlying hu,hz,hck,hfk,Result.andThen]
  ·cases hm
 ·cases hm
theorem look2K_ok (hok:G.Ok) {t:TypeId} {a s:G.T} {va vs:Value} {K:G.D → Option β} (hh:HRel G N hp m w) (ha:RepT G w (Rof G hp m w) hp.length m a va) (hs:RepT G w (Rof G hp m w) hp.length m s vs) (h:look2K G hp t a s K = some r) :
  ∃ v d,(∀ w',(∀ b,b < w.heap.size → w'.heap[b]? = w.heap[b]?) → (Instr.lookup t va vs true).run P w' = .ok v w') ∧ RepD G w (Rof G hp m w) hp.length m d v ∧ K d = some r:=by
 unfold look2K at h
 split at h
 ·rename_i o s' hs'
  obtain ⟨rfl,_⟩:=valOf_rep hs' hs
  split at h
  ·rename_i lk t' u d ho
   split at h
   ·rename_i hc
    obtain ⟨rfl,hza,hmt⟩:=hc
    split at h
    ·rename_i hsz
     obtain ⟨hrep,h6⟩:=hh.obj o _ ho
     have hrep:MapURep G w (Rof G hp m w) N (m o) t' u d:=hrep
     obtain ⟨_,rfl,_⟩:=ha
     obtain ⟨z,hz1,hz2⟩:=zeroU_ok (w:=w) (R:=Rof G hp m w) hok u hza
     have two:∀ {x:G.El u} {v:Value} {b:Bool},RepU G w (Rof G hp m w) u x v → RepD G w (Rof G hp m w) hp.length m (.tup [elT G u x,pval G (.bool b)]) (.tuple #[v,.bool b]):=by
      intro x v b hx
      refine ⟨[v,.bool b],rfl,rfl,fun i t hi=>?_⟩
      match i,hi with
      | 0,hi=>cases hi;exact ⟨v,rfl,elT_of hok hx⟩
      | 1,hi=>cases hi;exact ⟨_,rfl,RepT_val rfl⟩
     unfold MapURep at hrep
     split at hrep
     ·rename_i hd
      obtain ⟨e1,e2⟩:=hrep
      rw [e2] at h
      rw [e1]
      exact ⟨_,_,fun w' _=>look_nil hmt (hz1 w'),two hz2,h⟩
     ·rename_i hd
      obtain ⟨bk,D,k,vs,e1,h1,h2,h3,h4,h5,h7,h8⟩:=hrep
      rw [e1]
      have hlt:=h4.lt
      have look:∀ w':World,(∀ b,b < w.heap.size → w'.heap[b]? = w.heap[b]?) → (Instr.lookup t' (.map (some bk)) (.string s') true).run P w' = .ok (.tuple #[(findM s' vs).getD z,.bool (findM s' vs).isSome]) w':=by
       intro w' hw
       have h4':w'.ownsMap P k heldR bk d.2.length D:=by
        obtain ⟨es',clock,hb,rest⟩:=h4
        exact ⟨es',clock,(hw bk hlt).trans hb,rest⟩
       exact owns_look2 h4' (string_keyed h3) h2 (hz1 w') (key_of h3 hsz) h5
      rcases Al.find s' (⟨h7,h8⟩:Al (fun x v=>RepU G w (Rof G hp m w) u x v) d.2 vs) with ⟨f1,f2⟩ | ⟨x,y,f1,f2,f3⟩
      ·rw [f1] at h
       rw [f2] at look
       exact ⟨_,_,look,two hz2,h⟩
      ·rw [f1] at h
       rw [f2] at look
       exact ⟨_,_,look,two f3,h⟩
    ·cases h
   ·cases h
  ·cases h
 ·cases h
theorem lookK_ok {t:TypeId} {a s:G.T} {va vs:Value} {K:G.T → Option β} (hh:HRel G N hp m w) (ha:RepT G w (Rof G hp m w) hp.length m a va) (hs:RepT G w (Rof G hp m w) hp.length m s vs) (h:lookK G P hp t a s K = some r) :
  ∃ v x,(∀ w',(∀ b,b < w.heap.size → w'.heap[b]? = w.heap[b]?) → (Instr.lookup t va vs false).run P w' = .ok v w') ∧ RepT G w (Rof G hp m w) hp.length m x v ∧ K x = some r:=by
 unfold lookK at h
 split at h
 ·rename_i o s' hs'
  obtain ⟨rfl,_⟩:=valOf_rep hs' hs
  split at h
  ·rename_i lk t' es ho
   split at h
   ·rename_i hc
    obtain ⟨rfl,hk⟩:=hc
    split at h
    ·rename_i hsz
     obtain ⟨⟨bk,D,k,e,e1,h1,h2,h3,h4,h5⟩,h6⟩:=hh.obj o _ ho
     obtain ⟨_,rfl,_⟩:=ha
     obtain ⟨k',e',i,h7,h8,h9,h10⟩:=mapKind_some hk
     rw [h2] at h7
     cases h7
     refine ⟨_,_,fun w' hw=>?_,RepT_val rfl,h⟩
     have h4':w'.ownsMap P k (elemR true) bk es.length D:=by
      have hlt:=h4.lt
      obtain ⟨es',clock,hb,rest⟩:=h4
      exact ⟨es',clock,(hw bk hlt).trans hb,rest⟩
     obtain ⟨v,ps,hrun,hv⟩:=h4'.lookup (z:=.bool false) (string_keyed h3) h2 (by simp [zeroValue,typeInfo,h9,h10 rfl]) (zd:=datM true false) (zp:=[]) rfl (key_of h3 hsz)
     rw [e1,hrun]
     congr 1
     rw [h5.at_] at hv
     cases v <;> simp only [elemR] at hv <;> first | (cases hv;done) | skip
     cases hf:findM s' es <;> rw [hf] at hv <;> simp [datM] at hv <;> rw [hv.1] <;> rfl
    ·cases h
   ·cases h
  ·cases h
 ·cases h
theorem mapLenK_ok {t ty:TypeId} {a:G.T} {va:Value} {K:G.T → Option β} (hh:HRel G N hp m w) (ha:RepT G w (Rof G hp m w) hp.length m a va) (h:mapLenK G hp t a K = some r) :
  ∃ v x,(∀ w',(∀ b,b < w.heap.size → w'.heap[b]? = w.heap[b]?) → (Builtin.len_ #[t] ty #[va]).run P w' = .ok v w') ∧ RepT G w (Rof G hp m w) hp.length m x v ∧ K x = some r:=by
 unfold mapLenK at h
 split at h
 ·rename_i o
  split at h
  ·rename_i lk t' b es ho
   split at h
   ·rename_i het
    subst het
    obtain ⟨⟨bk,D,k,e,e1,h1,h2,h3,h4,h5⟩,h6⟩:=hh.obj o _ ho
    obtain ⟨_,rfl,_⟩:=ha
    refine ⟨_,_,fun w' hw=>?_,RepT_val rfl,h⟩
    have h4':w'.ownsMap P k (elemR b) bk es.length D:=by
     have hlt:=h4.lt
     obtain ⟨es',clock,hb,rest⟩:=h4
     exact ⟨es',clock,(hw bk hlt).trans hb,rest⟩
    rw [e1,h4'.len h2 ty,h5.size]
   ·cases h
  ·rename_i lk t' u d ho
   split at h
   ·rename_i het
    subst het
    split at h
    rotate_left
    ·cases h
    rename_i hd
    obtain ⟨hrep,h6⟩:=hh.obj o _ ho
    have hrep:MapURep G w (Rof G hp m w) N (m o) t' u d:=hrep
    unfold MapURep at hrep
    rw [hd] at hrep
    obtain ⟨bk,D,k,vs,e1,h1,h2,h3,h4,h5,h7,h8⟩:=hrep
    obtain ⟨_,rfl,_⟩:=ha
    refine ⟨_,_,fun w' hw=>?_,RepT_val rfl,h⟩
    have h4':w'.ownsMap P k heldR bk d.2.length D:=by
     have hlt:=h4.lt
     obtain ⟨es',clock,hb,rest⟩:=h4
     exact ⟨es',clock,(hw bk hlt).trans hb,rest⟩
    rw [e1,h4'.len h2 ty,h5.size,h7]
   ·cases h
  ·cases h
 ·cases h
end
end Go.Proofs.YtgbicnkpnhifgaaGreatDoor

namespace Go.Proofs.YtgbicnkpnhifgaaGreatDoor
open Go.RowKit
variable {P:Program} (G:Sg P) {β:Type}
abbrev Sg.KT:=(β:Type) → FuncId → List (TV G.U G.El) → List (OV G.U G.El) → (List Nat → List (OV G.U G.El) → DV G.U G.El → Option β) → Option β
def junkCs (l:List Nat) (c:G.C):G.C:=if (refs G c).any (fun o=>l.contains o) then .junk else c
def junkTs (l:List Nat):G.T → G.T
 | .c x=>.c (junkCs G l x)
 | .agg cs=>.agg (cs.map (junkCs G l))
def junkDs (l:List Nat):G.D → G.D
 | .t x=>.t (junkTs G l x)
 | .tup vs=>.tup (vs.map (junkTs G l))
def aftK (env:G.Env) (fr:G.Fr) (mv:List Nat) (k:G.Fr → Option β):Option β:=match mv with
 | []=>k fr
 | x :: l=>if (x :: l).all (envFree G env) = true then k (fr.map (junkDs G (x :: l))) else none
def opTs (env:G.Env) (fr:G.Fr):List Operand → Option (List G.T)
 | []=>some []
 | x :: xs=>match opT G env fr x,opTs env fr xs with
  | some y,some ys=>some (y :: ys)
  | _,_=>none
def partsT (env:G.Env) (fr:G.Fr):List (Nat × Operand) → Option (List (Nat × G.T))
 | []=>some []
 | (i,x) :: xs=>match opT G env fr x,partsT env fr xs with
  | some y,some ys=>some ((i,y) :: ys)
  | _,_=>none
def optT (env:G.Env) (fr:G.Fr):Option Operand → Option (Option G.T)
 | none=>some none
 | some x=>match opT G env fr x with
  | some y=>some (some y)
  | none=>none
def sameOp:Operand → Operand → Bool
 | .tmp a,.tmp b=>a == b
 | _,_=>false
def moveK (env:G.Env) (fr:G.Fr) (hp:G.Hp) (ty:TypeId) (x:Operand) (k:G.Hp → G.D → Option β):Option β:=match x with
 | .const (.slice none 0 0)=>match G.elt ty with
  | some u=>k (hp ++ [.row false u []]) (.t (.c (.os hp.length)))
  | none=>none
 | .tmp t=>k hp (getS G env fr t)
 | x=>match opT G env fr x with
  | some y=>k hp (.t y)
  | none=>none
def pvB (hp:G.Hp):List G.C → Option (List G.P')
 | []=>some []
 | c :: cs=>match c with
  | .pv p=>match pvB hp cs with
   | some ps=>some (p :: ps)
   | none=>none
  | .os o=>match hp[o]?,pvB hp cs with
   | some (.row _ u l),some ps=>some (.sl u l :: ps)
   | _,_=>none
  | .pre o k=>match hp[o]?,pvB hp cs with
   | some (.ab _ (.cap u) d),some ps=>if k ≤ d.2.length then some (.sl u (d.2.take k) :: ps) else none
   | _,_=>none
  | _=>none
def unB (u:G.U) (hp:G.Hp) (t:G.T):Option (G.El u):=match G.ag u,t with
 | true,.agg cs=>match pvB G hp cs with
  | some ps=>G.unrow u ps
  | none=>none
 | false,.c c=>match pvB G hp [c] with
  | some ps=>G.unrow u ps
  | none=>none
 | _,_=>none
def toT (u:G.U) (x:G.El u):G.T:=match G.ag u,G.row u x with
 | false,p :: _=>.c (.pv p)
 | _,ps=>.agg (ps.map .pv)
def u64M:Int:=18446744073709551616
def extK (e:Ext) (ts:List G.T) (K:G.D → Option β):Option β:=match e,ts with
 | .add64,[.c (.pv (.val (.int .u64 x))),.c (.pv (.val (.int .u64 y))),.c (.pv (.val (.int .u64 c)))] =>
  if 0 ≤ x ∧ 0 ≤ y ∧ y < u64M ∧ 0 ≤ c ∧ c ≤ 1 then K (.tup [pval G (.int .u64 ((x + y + c) % u64M)),pval G (.int .u64 ((x + y + c) / u64M))]) else none
 | .sub64,[.c (.pv (.val (.int .u64 x))),.c (.pv (.val (.int .u64 y))),.c (.pv (.val (.int .u64 c)))] =>
  if 0 ≤ x ∧ 0 ≤ y ∧ y < u64M ∧ 0 ≤ c ∧ c ≤ 1 then K (.tup [pval G (.int .u64 ((x + u64M - y - c) % u64M)),pval G (.int .u64 (if x < y + c then 1 else 0))]) else none
 | _,_=>none
def valsC:List G.C → Option (List Value)
 | []=>some []
 | .pv (.val v) :: cs=>match valsC cs with
  | some vs=>some (v :: vs)
  | none=>none
 | _=>none
def ifaceK (P:Program) (t:TypeId) (x:G.T) (K:G.T → Option β):Option β:=match P.underlying t with
 | some (.interface _)=>none
 | some _=>match x with
  | .c (.pv (.val v))=>K (pval G (.iface t v))
  | .agg cs=>match valsC G cs with
   | some vs=>K (pval G (.iface t (.agg vs.toArray)))
   | none=>none
  | _=>none
 | none=>none
def ifTy:Value → Option (Option TypeId)
 | .iface t _=>some (some t)
 | .nilIface=>some none
 | _=>none
def ifStr:Value → Option ByteArray
 | .iface _ (.string s)=>some s
 | _=>none
def ifInt:Value → Option Int
 | .iface _ (.int .i64 n)=>some n
 | _=>none
def ifAgg:Value → Option (List Value)
 | .iface _ (.agg vs)=>if vs.toList.all Value.oneCell' = true then some vs.toList else none
 | _=>none
def zeroT (P:Program) (t:TypeId):Option G.T:=match P.info? t with
 | some i=>match i.zero with
  | some (.agg cs)=>if cs.toList.all Value.oneCell' = true then some (.agg (cs.toList.map fun v=>.pv (.val v))) else none
  | some z=>if z.oneCell' = true then some (pval G z) else none
  | none=>none
 | none=>none
def assertK (P:Program) (x:G.T) (t:TypeId) (ok:Bool) (K:G.D → Option β):Option β:=match ok,valOf G x with
 | true,some v=>(ifTy v).bind fun t'=>cond (t' == some t) (match P.underlying t with
   | some .string=>(ifStr v).bind fun s=>K (.tup [pval G (.string s),pval G (.bool true)])
   | some (.int .i64)=>(ifInt v).bind fun n=>K (.tup [pval G (.int .i64 n),pval G (.bool true)])
   | some (.struct _)=>(ifAgg v).bind fun vs=>K (.tup [.agg (vs.map fun v=>.pv (.val v)),pval G (.bool true)])
   | _=>none) (match P.underlying t,zeroT G P t with
   | some (.interface _),_=>none
   | some _,some z=>K (.tup [z,pval G (.bool false)])
   | _,_=>none)
 | _,_=>none
def callK (K:G.KT) (env:G.Env) (fr:G.Fr) (hp:G.Hp) (c:Call) (k:G.Fr → G.Hp → G.D → Option β):Option β:=match c.callee with
 | .builtin b=>match opTs G env fr c.args.toList with
  | some ts=>match b,c.argTypes.toList,ts with
   | .len,[t],[x]=>match isMapT P t with
    | true=>mapLenK G hp t x fun y=>k fr hp (.t y)
    | false=>lenK G P hp t x fun y=>k fr hp (.t y)
   | .append,[t,t2],[s,x]=>appendK G env fr hp t t2 s x fun fr hp y=>k fr hp (.t y)
   | .max,_,ts=>extremeK G maxZ ts fun y=>k fr hp (.t y)
   | .min,_,ts=>extremeK G minZ ts fun y=>k fr hp (.t y)
   | _,_,_=>none
  | none=>none
 | .value f=>match opT G env fr f,opTs G env fr c.args.toList with
  | some (.c (.fn u r F)),some [t]=>match unB G u hp t with
   | some x=>(F x).bind fun y=>k fr hp (.t (toT G r y))
   | none=>none
  | some (.c (.clo g caps)),some ts=>match G.ext g with
   | none=>match G.rowf g with
    | none=>K β g (ts ++ caps.map fun o=>.c (.ptr o 0)) hp fun mv hp d=>aftK G env fr mv fun fr=>k fr hp d
    | some (kd,u)=>match caps,G.byref g with
     | [],true=>rowfK G env fr hp kd u ts fun fr hp y=>k fr hp (.t y)
     | _,_=>none
   | some e=>match caps with
    | []=>extK G e ts fun d=>k fr hp d
    | _=>none
  | _,_=>none
 | _=>none
def opK (K:G.KT) (env:G.Env) (fr:G.Fr) (hp:G.Hp) (o:Oper) (k:G.Fr → G.Hp → G.D → Option β):Option β:=match o.op with
 | .move x=>moveK G env fr hp o.type x (k fr)
 | .assign x=>moveK G env fr hp o.type x (k fr)
 | .pick c a b=>match opT G env fr c,opT G env fr a,opT G env fr b with
  | some (.c (.pv (.val (.bool c)))),some a,some b=>pickK G c a b fun y=>k fr hp (.t y)
  | _,_,_=>none
 | .alloc t=>allocK G P hp t fun hp y=>k fr hp (.t y)
 | .box _ x=>match opT G env fr x with
  | some x=>boxK G hp x fun hp y=>k fr hp (.t y)
  | none=>none
 | .build t ps=>match partsT G env fr ps.toList with
  | some ps=>buildK G P t ps fun y=>k fr hp (.t y)
  | none=>none
 | .buildSlice t n ps=>match partsT G env fr ps.toList with
  | some ps=>buildSliceK G hp t n ps fun hp y=>k fr hp (.t y)
  | none=>none
 | .load t a=>match opT G env fr a with
  | some a=>loadK G hp t a fun y=>k fr hp (.t y)
  | none=>none
 | .store t a x=>match opT G env fr a,opT G env fr x with
  | some a,some x=>storeK G P hp t a x fun hp=>k fr hp (.t (.c .junk))
  | _,_=>none
 | .nilCheck x=>match opT G env fr x with
  | some x=>nilCheckK G x fun y=>k fr hp (.t y)
  | none=>none
 | .binOp op ty x y _=>match opT G env fr x,opT G env fr y with
  | some x,some y=>match valOf G x,valOf G y with
   | some a,some b=>binK P op ty a b fun v=>k fr hp (.t (pval G v))
   | _,_=>match nilC G y with
    | true=>nilMapK G P hp op ty x y fun v=>k fr hp (.t (pval G v))
    | false=>eqAggK G op ty x y fun v=>k fr hp (.t (pval G v))
  | _,_=>none
 | .unOp op _ x=>match opT G env fr x with
  | some x=>match valOf G x with
   | some a=>unK op a fun v=>k fr hp (.t (pval G v))
   | none=>none
  | none=>none
 | .convert s t x=>match opT G env fr x with
  | some x=>convertK G P s t x fun y=>k fr hp (.t y)
  | none=>none
 | .makeFunc fn first caps=>match opTs G env fr caps.toList with
  | some cs=>makeFuncK G fn first.size cs fun y=>k fr hp (.t y)
  | none=>none
 | .makeSlice t n c=>match opT G env fr n,opT G env fr c with
  | some a,some b=>makeK G hp t a b (sameOp n c) fun hp y=>k fr hp (.t y)
  | _,_=>none
 | .slice t x lo hi none=>match opT G env fr x,optT G env fr lo,optT G env fr hi with
  | some x,some lo,some hi=>sliceK G P t x lo hi fun y=>k fr hp (.t y)
  | _,_,_=>none
 | .fieldAddr t x f=>match opT G env fr x with
  | some x=>fieldAddrK G t x f fun y=>k fr hp (.t y)
  | none=>none
 | .field t x f=>match opT G env fr x with
  | some x=>fieldK G P t x f fun y=>k fr hp (.t y)
  | none=>none
 | .indexAddr t x i=>match opT G env fr x,opT G env fr i with
  | some x,some i=>indexAddrK G hp t x i fun y=>k fr hp (.t y)
  | _,_=>none
 | .index t x i=>match opT G env fr x,opT G env fr i with
  | some x,some i=>indexK G P t x i fun y=>k fr hp (.t y)
  | _,_=>none
 | .extract (.tmp t) i=>extractK G (getS G env fr t) i fun y=>k fr hp (.t y)
 | .makeMap t none=>makeMapK G P hp t fun hp y=>k fr hp (.t y)
 | .mapUpdate t a s x=>match opT G env fr a,opT G env fr s,opT G env fr x with
  | some a,some s,some x=>mapUpdK G hp t a s x fun hp=>k fr hp (.t (.c .junk))
  | _,_,_=>none
 | .lookup t a s false=>match opT G env fr a,opT G env fr s with
  | some a,some s=>lookK G P hp t a s fun y=>k fr hp (.t y)
  | _,_=>none
 | .lookup t a s true=>match opT G env fr a,opT G env fr s with
  | some a,some s=>look2K G hp t a s fun d=>k fr hp d
  | _,_=>none
 | .makeInterface t x=>match opT G env fr x with
  | some x=>ifaceK G P t x fun y=>k fr hp (.t y)
  | none=>none
 | .typeAssert x _ t ok=>match opT G env fr x with
  | some x=>assertK G P x t ok fun d=>k fr hp d
  | none=>none
 | .call c=>callK G K env fr hp c k
 | _=>none
def cloB:Option G.T → Bool
 | some (.c (.clo g _))=>G.byref g
 | _=>false
def quietC (f:FuncId) (ts:List G.T):Bool:=!(G.byref f || ts.any fun t=>cloB G (some t))
def CallOk [Held] (K:G.KT):Prop:=∀ (β:Type) f ts hp k (r:β),K β f ts hp k = some r → (∃ fn,P.funcs[f]? = some fn ∧ fn.name ≠ "runtime.NumGoroutine" ∧ fn.body.isNone = false) ∧
 ∀ N m w vs,HRel G N hp m w → RepTs G w (Rof G hp m w) hp.length m ts vs →
  Calls P f vs.toArray w fun e w'=>∃ v hp' m' d mv,e = .returned v ∧ HRel G N hp' m' w' ∧ Kp G hp m w hp' m' w' ∧ (∀ o,o < hp.length → o ∉ mv → m' o = m o) ∧ hp.length ≤ hp'.length ∧ Below N w w' ∧ RepD G w' (Rof G hp' m' w') hp'.length m' d v ∧ k mv hp' d = some r ∧ (quietC G f ts = true → ∀ b,b < w.heap.size → w'.heap[b]? = w.heap[b]?)
section
variable {G} {w w':World} {m m':Nat → Value} {r:β} {N:Nat} {hp hp':G.Hp} {env:G.Env} {fr:G.Fr} {tmps:Array Value} {ds:List Deferred} [Held]
theorem FRel.opTs (h:FRel G env fr hp m tmps w):∀ {xs:List Operand} {ys:List G.T},opTs G env fr xs = some ys → RepTs G w (Rof G hp m w) hp.length m ys (xs.map (⟨tmps,ds⟩:Act).eval)
 | [],ys,he=>by cases he;exact .nil
 | x :: xs,ys,he=>by
  unfold Proofs.YtgbicnkpnhifgaaGreatDoor.opTs at he
  split at he
  ·rename_i y zs h1 h2
   cases he
   exact .cons (h.opT h1) (h.opTs h2)
  ·cases he
theorem FRel.partsT (h:FRel G env fr hp m tmps w):∀ {xs:List (Nat × Operand)} {ys:List (Nat × G.T)},partsT G env fr xs = some ys →
  (xs.map fun p=>(p.1,(⟨tmps,ds⟩:Act).eval p.2)).map (·.1) = ys.map (·.1) ∧ RepTs G w (Rof G hp m w) hp.length m (ys.map (·.2)) ((xs.map fun p=>(p.1,(⟨tmps,ds⟩:Act).eval p.2)).map (·.2))
 | [],ys,he=>by cases he;exact ⟨rfl,.nil⟩
 | (i,x) :: xs,ys,he=>by
  unfold Proofs.YtgbicnkpnhifgaaGreatDoor.partsT at he
  split at he
  ·rename_i y zs h1 h2
   cases he
   obtain ⟨h3,h4⟩:=h.partsT h2
   exact ⟨by simp only [List.map_cons,h3],.cons (h.opT h1) h4⟩
  ·cases he
theorem any_opTs {env:G.Env} {fr:G.Fr}:∀ {xs:List Operand} {ys:List G.T},opTs G env fr xs = some ys → (xs.any fun x=>cloB G (opT G env fr x)) = ys.any fun t=>cloB G (some t)
 | [],ys,he=>by cases he;rfl
 | x :: xs,ys,he=>by
  unfold Proofs.YtgbicnkpnhifgaaGreatDoor.opTs at he
  split at he
  ·rename_i y zs h1 h2
   cases he
   rw [List.any_cons,List.any_cons,any_opTs h2,h1]
  ·cases he
theorem FRel.optT (h:FRel G env fr hp m tmps w) {x:Option Operand} {y:Option G.T} (he:optT G env fr x = some y):RepOpt G w (Rof G hp m w) hp.length m y (x.map (⟨tmps,ds⟩:Act).eval):=by
 unfold Proofs.YtgbicnkpnhifgaaGreatDoor.optT at he
 split at he
 ·cases he;trivial
 ·split at he
  ·rename_i h1;cases he;exact h.opT h1
  ·cases he
theorem run_zeroValue_any {t:TypeId} {z:Value} {w:World} (h:(zeroValue t).run P w = .ok z w) (w':World):(zeroValue t).run P w' = .ok z w':=by
 unfold zeroValue at h ⊢
 simp only [Sem.run_bind,typeInfo,run_program,Result.andThen_ok] at h ⊢
 cases hi:P.info? t with
 | none=>simp [hi] at h
 | some i =>
  simp only [hi,Sem.run_pure,Result.andThen_ok] at h ⊢
  cases hz:i.zero with
  | none=>simp [hz] at h
  | some v=>simp only [hz,Sem.run_pure,Result.ok.injEq] at h ⊢;exact ⟨h.1,trivial⟩
theorem buildK_ok {R:Nat → Prop} {n:Nat} {t:TypeId} {xs:List (Nat × G.T)} {vs:Array (Nat × Value)} {K:G.T → Option β} (hx:vs.toList.map (·.1) = xs.map (·.1))
  (hr:RepTs G w R n m (xs.map (·.2)) (vs.toList.map (·.2))) (h:buildK G P t xs K = some r):∃ v x,(∀ w,(Instr.build t vs).run P w = .ok v w) ∧ RepT G w R n m x v ∧ K x = some r:=by
 unfold buildK at h
 split at h
 ·rename_i fs zc hu hz
  split at h
  ·rename_i pl hpl
   split at h
   ·rename_i cs hcs
    obtain ⟨z,h1',h2,_⟩:=zeroCells_ok (w:=w) (R:=R) (n:=n) (m:=m) hz
    have h1:∀ w,(zeroValue t).run P w = .ok z w:=by
     intro w'
     exact run_zeroValue_any h1' w'
    obtain ⟨ws,h3,h4⟩:=fillC_ok hx hr _ _ _ h2 hcs
    have hmap:∀ (w:World) (l:List Field) (pl:List (Nat × Nat)),placesOf P l = some pl → (l.mapM fun f=>(do pure (f.offset,← sizeOf f.type):Sem (Nat × Nat))).run P w = .ok pl w:=by
     intro w l
     induction l with
     | nil=>intro pl h;cases h;rfl
     | cons f l ih =>
      intro pl h
      unfold placesOf at h
      split at h
      ·rename_i i l' hi hl'
       cases h
       have:=ih l' hl'
       simp [List.mapM_cons,sizeOf,typeInfo,hi] at this ⊢
       rw [this];rfl
      ·cases h
    refine ⟨.agg ws,.agg cs,fun w=>?_,⟨ws.toList,by simp,h4⟩,h⟩
    unfold Instr.build
    simp only [Sem.run_bind,h1 w,Result.andThen_ok,run_underlying hu,Array.mapM_eq_mapM_toList,Sem.run_map]
    rw [hmap w fs.toList pl hpl]
    simp only [Result.andThen_ok,List.getElem?_toArray]
    rw [h3]
    rfl
   ·cases h
  ·cases h
 ·rename_i ln e zc hu hz
  split at h
  ·rename_i i hi
   split at h
   ·rename_i cs hcs
    obtain ⟨z,h1',h2,_⟩:=zeroCells_ok (w:=w) (R:=R) (n:=n) (m:=m) hz
    have h1:∀ w,(zeroValue t).run P w = .ok z w:=fun w'=>run_zeroValue_any h1' w'
    obtain ⟨ws,h3,h4,_⟩:=fillR_ok (size:=i.size) hx hr _ z.cells cs h2 hcs
    refine ⟨.agg ws,.agg cs,fun w=>?_,⟨ws.toList,by simp,h4⟩,h⟩
    unfold Instr.build
    simp only [Sem.run_bind,h1 w,Result.andThen_ok,run_underlying hu,sizeOf,typeInfo,run_program,hi,Sem.run_pure]
    rw [h3]
    rfl
   ·cases h
  ·cases h
 ·cases h
theorem wp_val {o:Oper} {a:Act} {s:Sem Value} {v:Value} {next:Act → World → Prop} {Q:Exit → Act → World → Prop} (hex:execOp a.eval o = (do pure (.value (← s)))) (hr:s.run P w = .ok v w') (h:next (a.put o.dst v) w'):o.wp P a w next Q:=by
 unfold Oper.wp
 rw [hex]
 simp only [Sem.run_bind,hr,Result.andThen_ok,Sem.run_pure]
 exact h
def Later (w w':World):Prop:=∀ b,b < w.heap.size → w'.heap[b]? = w.heap[b]?
def opTg (G:Sg P) (env:G.Env) (fr:G.Fr) (o:Oper):Option (Option Nat):=match o.op with
 | .store _ a _=>match opT G env fr a with
  | some (.c (.ptr q _))=>some (some q)
  | _=>none
 | .mapUpdate ..=>none
 | .call c=>match c.callee with
  | .builtin .append=>match c.args.toList with
   | x :: _=>match opT G env fr x with
    | some (.c (.pre q _))=>some (some q)
    | _=>none
   | []=>none
  | .builtin _=>some none
  | .value (.func f)=>if (G.byref f || c.args.toList.any fun x=>cloB G (opT G env fr x)) = true then none else some none
  | _=>none
 | _=>some none
def TgB (m:Nat → Value) (w w':World):Option (Option Nat) → Prop
 | none=>True
 | some none=>Later w w'
 | some (some q)=>∀ b,b < w.heap.size → blkOf (m q) ≠ some b → w'.heap[b]? = w.heap[b]?
theorem TgB.of_later {m:Nat → Value} {w w':World} (h:Later w w'):∀ tg,TgB m w w' tg
 | none=>trivial
 | some none=>h
 | some (some _)=>fun b hb _=>h b hb
theorem TgB.refl (m:Nat → Value) (w:World) (tg:Option (Option Nat)):TgB m w w tg:=TgB.of_later (fun _ _=>rfl) tg
def After (G:Sg P) (N:Nat) (env:G.Env) (hp:G.Hp) (m:Nat → Value) (w:World) (tmps:Array Value) (k:G.Fr → G.Hp → G.D → Option β) (r:β) (tg:Option (Option Nat)) (next:Value → World → Prop):Prop :=
 ∀ fr' hp' m' w' d v,HRel G N hp' m' w' → FRel G env fr' hp' m' tmps w' → Below N w w' → RepD G w' (Rof G hp' m' w') hp'.length m' d v → Kp G hp m w hp' m' w' → k fr' hp' d = some r → TgB m w w' tg → next v w'
theorem junkCs_or (l:List Nat) (c:G.C):(junkCs G l c = .junk) ∨ (junkCs G l c = c ∧ ∀ o ∈ refs G c,o ∉ l):=by
 unfold junkCs
 by_cases h:(refs G c).any (fun o=>l.contains o) = true
 ·rw [if_pos h];exact .inl rfl
 ·rw [if_neg h]
  refine .inr ⟨rfl,fun o ho hl=>h ?_⟩
  exact List.any_eq_true.2 ⟨o,ho,by simpa using hl⟩
section
variable {R R':Nat → Prop} {n n':Nat}
theorem RepC.junks (l:List Nat) (h1:∀ b,R b → R' b) (h2:∀ b,R b → w'.heap[b]? = w.heap[b]?) (hn:n ≤ n') (hm:∀ o',o' ∉ l → o' < n → m' o' = m o') {c:G.C} {v:Value}
  (h:RepC G w R n m c v):RepC G w' R' n' m' (junkCs G l c) v:=by
 rcases junkCs_or l c with e | ⟨e,hx⟩
 ·rw [e];trivial
 ·rw [e];exact h.mono h1 h2 hn fun o' ho'=>hm o' (hx o' ho')
theorem RepL.junks (l:List Nat) (h1:∀ b,R b → R' b) (h2:∀ b,R b → w'.heap[b]? = w.heap[b]?) (hn:n ≤ n') (hm:∀ o',o' ∉ l → o' < n → m' o' = m o') {cs:List G.C} {vs:List Value}
  (h:RepL G w R n m cs vs):RepL G w' R' n' m' (cs.map (junkCs G l)) vs :=
 ⟨by simpa using h.1,fun i c hi=>by
  rw [List.getElem?_map] at hi
  cases hc:cs[i]? with
  | none=>rw [hc] at hi;cases hi
  | some c0 =>
   rw [hc] at hi;cases hi
   obtain ⟨x,h3,h4⟩:=h.2 i c0 hc
   exact ⟨x,h3,h4.junks l h1 h2 hn hm⟩⟩
theorem RepT.junks (l:List Nat) (h1:∀ b,R b → R' b) (h2:∀ b,R b → w'.heap[b]? = w.heap[b]?) (hn:n ≤ n') (hm:∀ o',o' ∉ l → o' < n → m' o' = m o') {t:G.T} {v:Value}
  (h:RepT G w R n m t v):RepT G w' R' n' m' (junkTs G l t) v:=by
 cases t with
 | c x=>exact RepC.junks l h1 h2 hn hm h
 | agg cs=>obtain ⟨vs,e,hl⟩:=h;exact ⟨vs,e,hl.junks l h1 h2 hn hm⟩
theorem RepD.junks (l:List Nat) (h1:∀ b,R b → R' b) (h2:∀ b,R b → w'.heap[b]? = w.heap[b]?) (hn:n ≤ n') (hm:∀ o',o' ∉ l → o' < n → m' o' = m o') {d:G.D} {v:Value}
  (h:RepD G w R n m d v):RepD G w' R' n' m' (junkDs G l d) v:=by
 cases d with
 | t x=>exact RepT.junks l h1 h2 hn hm h
 | tup ts =>
  obtain ⟨vs,e,hl,hv⟩:=h
  refine ⟨vs,e,by simpa using hl,fun i t hi=>?_⟩
  rw [List.getElem?_map] at hi
  cases hc:ts[i]? with
  | none=>rw [hc] at hi;cases hi
  | some t0 =>
   rw [hc] at hi;cases hi
   obtain ⟨x,h3,h4⟩:=hv i t0 hc
   exact ⟨x,h3,h4.junks l h1 h2 hn hm⟩
end
theorem aftK_ok {mv:List Nat} {k:G.Fr → Option β} (hf:FRel G env fr hp m tmps w) (hk:Kp G hp m w hp' m' w') (hm:∀ o,o < hp.length → o ∉ mv → m' o = m o) (hl:hp.length ≤ hp'.length) (h:aftK G env fr mv k = some r) :
  ∃ fr',FRel G env fr' hp' m' tmps w' ∧ k fr' = some r:=by
 unfold aftK at h
 split at h
 ·exact ⟨fr,⟨hf.len,fun t d hd=>(hf.fr t d hd).mono hk.ro hk.heap hl (fun o _ ho=>hm o ho (by simp)),fun t d hd=>⟨(hf.env t d hd).1,(hf.env t d hd).2.mono hk.ro hk.heap hl (fun o _ ho=>hm o ho (by simp))⟩⟩,h⟩
 ·rename_i x l
  split at h
  ·rename_i hall
   refine ⟨_,⟨by simp [hf.len],fun t d hd=>?_,fun t d hd=>⟨(hf.env t d hd).1,(hf.env t d hd).2.mono hk.ro hk.heap hl (fun o hr ho=>hm o ho fun hmem=>?_)⟩⟩,h⟩
   ·rw [List.getElem?_map] at hd
    cases hc:fr[t]? with
    | none=>rw [hc] at hd;cases hd
    | some d0=>rw [hc] at hd;cases hd;exact (hf.fr t d0 hc).junks (x :: l) hk.ro hk.heap hl (fun o hn ho=>hm o ho hn)
   ·have h1:=List.all_eq_true.1 hall o hmem
    have h2:=List.all_eq_true.1 h1 _ (List.mem_of_getElem? hd)
    simp only [Bool.not_eq_true',List.contains_eq_mem,decide_eq_false_iff_not] at h2
    exact h2 hr
  ·cases h
theorem moveK_ok {ty:TypeId} {x:Operand} {k:G.Hp → G.D → Option β} (hh:HRel G N hp m w) (hf:FRel G env fr hp m tmps w) (h:moveK G env fr hp ty x k = some r) :
  ∃ hp' m' d,HRel G N hp' m' w ∧ FRel G env fr hp' m' tmps w ∧ RepD G w (Rof G hp' m' w) hp'.length m' d ((⟨tmps,ds⟩:Act).eval x) ∧ k hp' d = some r ∧ Kp G hp m w hp' m' w:=by
 unfold moveK at h
 split at h
 ·split at h
  ·rename_i u hu
   obtain ⟨h1,h2⟩:=new_row (w':=w) (v:=.slice none 0 0) hh (Nat.le_refl _) (fun _ _=>rfl) (l:=([]:List (G.El u))) (World.ownsRow_nil w N _ _) (fun b hb=>by cases hb) (by intro k x j p hk;simp at hk) (by simp)
   refine ⟨_,_,.t (.c (.os hp.length)),h1,hf.keep h2 (by simp),?_,h,h2.kp (by simp)⟩
   exact os_new (w:=w) (R:=fun _=>True) (.slice none 0 0) rfl _
  ·cases h
 ·rename_i t
  exact ⟨hp,m,_,hh,hf,hf.get t,h,Kp.refl _ _ _⟩
 ·split at h
  ·rename_i y hy
   exact ⟨hp,m,.t y,hh,hf,hf.opT hy,h,Kp.refl _ _ _⟩
  ·cases h
theorem pickK_ok {R:Nat → Prop} {n:Nat} {c:Bool} {a b:G.T} {va vb:Value} {K:G.T → Option β} (ha:RepT G w R n m a va) (hb:RepT G w R n m b vb) (h:pickK G c a b K = some r) :
  ∃ x,RepT G w R n m x (if c then va else vb) ∧ K x = some r:=by
 unfold pickK at h
 split at h
 ·rename_i x y
  obtain ⟨rfl,_⟩:=valOf_rep (v:=.bool x) rfl ha
  obtain ⟨rfl,_⟩:=valOf_rep (v:=.bool y) rfl hb
  exact ⟨_,by cases c <;> exact RepT_val rfl,h⟩
 ·rename_i k x k' y
  split at h
  ·rename_i hk;subst hk
   obtain ⟨rfl,_⟩:=valOf_rep (v:=.int k x) rfl ha
   obtain ⟨rfl,_⟩:=valOf_rep (v:=.int k y) rfl hb
   exact ⟨_,by cases c <;> exact RepT_val rfl,h⟩
  ·cases h
 ·cases c
  ·exact ⟨_,hb,h⟩
  ·exact ⟨_,ha,h⟩
theorem RepTs.append {R:Nat → Prop} {n:Nat} {xs ys:List G.T} {vs us:List Value} (h:RepTs G w R n m xs vs) (k:RepTs G w R n m ys us):RepTs G w R n m (xs ++ ys) (vs ++ us):=by
 induction h with
 | nil=>exact k
 | cons hx _ ih=>exact .cons hx ih
theorem caps_rep {R:Nat → Prop} {n:Nat}:∀ {caps:List Nat} {vs:List Value},vs.length = caps.length → (∀ (i o:Nat),caps[i]? = some o → o < n ∧ ∃ b:Nat,m o = .pointer (some ⟨b,0,none⟩) ∧ vs[i]? = some (Value.pointer (some ⟨b,0,none⟩))) →
  RepTs G w R n m (caps.map fun o=>.c (.ptr o 0)) vs
 | [],vs,h,_=>by obtain rfl:vs = []:=List.eq_nil_of_length_eq_zero h;exact .nil
 | o :: caps,[],h,_=>by simp at h
 | o :: caps,v :: vs,h,hc=>by
  obtain ⟨h1,b,h2,h3⟩:=hc 0 o rfl
  cases h3
  exact .cons ⟨h1,b,h2,rfl⟩ (caps_rep (by simpa using h) fun i o' hi=>hc (i + 1) o' hi)
theorem sameOp_eval {x y:Operand} (h:sameOp x y = true) (a:Act):a.eval x = a.eval y:=by
 unfold sameOp at h
 split at h
 ·rename_i p q
  have:p = q:=by simpa using h
  rw [this]
 ·cases h
end
section
variable {G} {w w' w0:World} {R R':Nat → Prop} {n n':Nat} {m m':Nat → Value} {r:β} {N:Nat} {hp hp':G.Hp} {env:G.Env} {fr:G.Fr} {tmps:Array Value} {ds:List Deferred} [Held]
theorem RepP_row {o:Nat} {lk:Bool} {u:G.U} {l:List (G.El u)} (hR:∀ b,R b → b < w.heap.size) (h:RepO G w R n m N o (.row lk u l)):RepP G w (fun b=>b < w.heap.size) (.sl u l) (m o):=by
 obtain ⟨xs,h1,h2,h3⟩:=h
 rcases h1.2 with ⟨e,e'⟩ | ⟨g,cap,cur,e,f1,f2,f3,f4,f5,f6⟩
 ·have:l = []:=List.eq_nil_of_length_eq_zero e'
  subst this
  rw [e]
  exact RepP.sl u [] none 0 0 0 (fun _ _=>undef) (by simp) (by simp) (by simp) (by simp)
 ·rw [e]
  refine RepP.sl u l _ g 0 cap (fun k j=>(xs[k * G.sz u + j]?).getD undef) f3 (fun _=>⟨rfl,(Array.getElem?_eq_some_iff.1 f2).1⟩) (fun k x j p hk hj=>?_) (fun k x j p hk hj=>?_)
  ·obtain ⟨cv,c1,_⟩:=h2 k x j p hk hj
   have hlt:=(List.getElem?_eq_some_iff.1 c1).1
   rw [h1.1] at hlt
   have hc:=h1
   rw [e] at hc
   rw [Nat.zero_add,hc.cellAt _ hlt,c1]
   rfl
  ·obtain ⟨cv,c1,c2⟩:=h2 k x j p hk hj
   simp only [c1,Option.getD_some]
   exact RepP.mono G hR (fun _ _=>rfl) c2
theorem pre_row (hok:G.Ok) (hh:HRel G N hp m w) {o k:Nat} {lk:Bool} {u:G.U} {d:Nat × List (G.El u)} {v:Value} (ho:hp[o]? = some (.ab lk (.cap u) d)) (hk:k ≤ d.2.length) (hv:RepC G w (Rof G hp m w) hp.length m (.pre o k) v) :
  RepO G w (Rof G hp m w) hp.length (fun _=>v) N 0 (.row false u (d.2.take k)) ∧ ∀ g,blkOf v = some g → blkOf (m o) = some g:=by
 obtain ⟨⟨b,xs,e1,e2,e3,e4⟩,_⟩:=hh.obj o _ ho
 obtain ⟨_,b',C,e5,_,rfl⟩:=hv
 rw [e1] at e5
 cases e5
 refine ⟨⟨xs.take (k * G.sz u),?_,e3.takeR hok k,fun x hx=>e4 x (List.mem_of_mem_take hx)⟩,fun g hg=>by rw [e1];exact hg⟩
 rw [List.length_take,Nat.min_eq_left hk]
 exact ownsRow_pre e2 hk
theorem pvB_ok (hok:G.Ok) (hh:HRel G N hp m w):∀ {cs:List G.C} {ps:List G.P'} {vs:List Value},pvB G hp cs = some ps → RepL G w (Rof G hp m w) hp.length m cs vs →
  vs.length = ps.length ∧ ∀ (j:Nat) (p:G.P'),ps[j]? = some p → ∃ x,vs[j]? = some x ∧ RepP G w (fun b=>b < w.heap.size) p x
 | [],ps,vs,h,hl=>by cases h;exact ⟨hl.1,by simp⟩
 | c :: cs,ps,vs,h,hl=>by
  cases vs with
  | nil=>have:=hl.1;simp at this
  | cons v vs =>
   have htl:RepL G w (Rof G hp m w) hp.length m cs vs:=by have:=hl.drop 1;simpa using this
   obtain ⟨v',hv,hrep⟩:=hl.2 0 c rfl
   cases hv
   unfold pvB at h
   split at h
   ·rename_i p
    split at h
    ·rename_i ps' hps
     cases h
     obtain ⟨h1,h2⟩:=pvB_ok hok hh hps htl
     refine ⟨by simp [h1],fun j q hj=>?_⟩
     cases j with
     | zero=>cases hj;exact ⟨v,rfl,RepP.mono G (fun b hb=>hb.1) (fun _ _=>rfl) hrep⟩
     | succ j=>exact h2 j q hj
    ·cases h
   ·rename_i o
    split at h
    ·rename_i lk u l ps' ho hps
     cases h
     obtain ⟨h1,h2⟩:=pvB_ok hok hh hps htl
     refine ⟨by simp [h1],fun j q hj=>?_⟩
     cases j with
     | zero =>
      cases hj
      obtain ⟨_,rfl,_⟩:=hrep
      exact ⟨_,rfl,RepP_row (fun b hb=>hb.1) (hh.obj o _ ho)⟩
     | succ j=>exact h2 j q hj
    ·cases h
   ·rename_i o k
    split at h
    ·rename_i lk u d ps' ho hps
     split at h
     ·rename_i hk
      cases h
      obtain ⟨h1,h2⟩:=pvB_ok hok hh hps htl
      refine ⟨by simp [h1],fun j q hj=>?_⟩
      cases j with
      | zero =>
       cases hj
       exact ⟨v,rfl,RepP_row (m:=fun _=>v) (fun b hb=>hb.1) (pre_row hok hh ho hk hrep).1⟩
      | succ j=>exact h2 j q hj
     ·cases h
    ·cases h
   ·cases h
theorem toT_of (hok:G.Ok) {u:G.U} {x:G.El u} {v:Value} {vs:List Value} (hag:match G.ag u with | true=>v = .agg vs.toArray | false=>vs = [v]) (h1:vs.length = G.sz u)
  (h2:∀ (j:Nat) (p:G.P'),(G.row u x)[j]? = some p → ∃ y,vs[j]? = some y ∧ RepP G w R p y):RepT G w R n m (toT G u x) v:=by
 unfold toT
 cases hu:G.ag u with
 | true =>
  rw [hu] at hag
  subst hag
  exact ⟨vs,rfl,RepL_pv (by rw [hok.row_sz];exact h1) h2⟩
 | false =>
  rw [hu] at hag
  subst hag
  cases hr:G.row u x with
  | nil=>have:=hok.row_sz u x;rw [hr,← h1] at this;cases this
  | cons p ps =>
   obtain ⟨y,h3,h4⟩:=h2 0 p (by rw [hr];rfl)
   cases h3
   exact h4
theorem unB_rep (hok:G.Ok) (hh:HRel G N hp m w) {u:G.U} {t:G.T} {x:G.El u} {v:Value} (h:unB G u hp t = some x) (ht:RepT G w (Rof G hp m w) hp.length m t v):RepU G w (fun b=>b < w.heap.size) u x v:=by
 unfold unB at h
 split at h
 ·rename_i cs hag
  split at h
  ·rename_i ps hps
   obtain ⟨vs,rfl,hl⟩:=ht
   obtain ⟨h1,h2⟩:=pvB_ok hok hh hps hl
   obtain ⟨h3,h4⟩:=unrow_ok hok h h1 h2
   exact ⟨vs,by rw [hag],h3,h4⟩
  ·cases h
 ·rename_i c hag
  split at h
  ·rename_i ps hps
   obtain ⟨h1,h2⟩:=pvB_ok hok hh (vs:=[v]) hps ⟨rfl,fun i c' hi=>by
    cases i with
    | zero=>cases hi;exact ⟨v,rfl,ht⟩
    | succ i=>cases hi⟩
   obtain ⟨h3,h4⟩:=unrow_ok hok h h1 h2
   exact ⟨[v],by rw [hag],h3,h4⟩
  ·cases h
 ·cases h
theorem RepU.toT (hok:G.Ok) {u:G.U} {x:G.El u} {v:Value} (h:RepU G w R u x v):RepT G w R n m (toT G u x) v:=by
 obtain ⟨vs,h1,h2,h3⟩:=h
 exact toT_of hok h1 h2 h3
theorem RepU.flat (hok:G.Ok) {u:G.U} (hf:G.flat u = true) {x:G.El u} {v:Value} (h:RepU G w R u x v):RepU G w' R' u x v:=by
 obtain ⟨vs,h1,h2,h3⟩:=h
 refine ⟨vs,h1,h2,fun j p hj=>?_⟩
 obtain ⟨y,h4,h5⟩:=h3 j p hj
 obtain ⟨q,rfl⟩:=hok.flat u hf x p (List.mem_of_getElem? hj)
 cases h5 with
 | val _ hv=>exact ⟨_,h4,.val _ hv⟩
end
end Go.Proofs.YtgbicnkpnhifgaaGreatDoor
