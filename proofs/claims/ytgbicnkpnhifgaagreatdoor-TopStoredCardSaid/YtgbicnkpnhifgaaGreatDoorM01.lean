/- Joined by merge.py: Ev12, Ev13, Evd, Ev14. -/
import Derived.Test.YtgbicnkpnhifgaaGreatDoorM00
import Derived.OrdersHeld
import Derived.Deep.RegionHeld
set_option linter.unusedSectionVars false
set_option linter.unusedVariables false
set_option linter.unusedSimpArgs false
namespace Go.Proofs.YtgbicnkpnhifgaaGreatDoor
open Go.RowKit
variable {P:Program} {G:Sg P} {β:Type}
section
variable {w w':World} {m m':Nat → Value} {r:β} {N:Nat} {hp hp':G.Hp} {env:G.Env} {fr:G.Fr} {tmps:Array Value} {ds:List Deferred} [Held]
theorem map_toList {α γ:Type} (f:α → γ) (a:Array α):(a.map f).toList = a.toList.map f:=by simp
theorem map_arr {α γ:Type} (f:α → γ) (a:Array α):a.map f = (a.toList.map f).toArray:=by rw [← map_toList]
theorem run_sub64 {P:Program} (x y c:Int) (hx:0 ≤ x) (hy:0 ≤ y) (hy2:y < u64M) (hc0:0 ≤ c) (hc:c ≤ 1) (w:World) :
  (sub64Entry #[.int .u64 x,.int .u64 y,.int .u64 c]).run P w = .ok (.tuple #[.int .u64 ((x + u64M - y - c) % u64M),.int .u64 (if x < y + c then 1 else 0)]) w:=by
 have key:∀ k:Nat,k ≤ 1 → (sub64Entry #[.int .u64 x,.int .u64 y,.int .u64 (k:Int)]).run P w =
   .ok (Extern.MathBitsCarry.pair ((x.toNat + Extern.MathBitsCarry.m64 - y.toNat - k) % Extern.MathBitsCarry.m64) (if x.toNat < y.toNat + k then 1 else 0)) w:=by
  intro k hk
  have:k = 0 ∨ k = 1:=by omega
  rcases this with rfl | rfl <;> rfl
 obtain ⟨k,rfl⟩:=Int.eq_ofNat_of_zero_le hc0
 rw [key k (by omega)]
 obtain ⟨X,rfl⟩:=Int.eq_ofNat_of_zero_le hx
 obtain ⟨Y,rfl⟩:=Int.eq_ofNat_of_zero_le hy
 unfold u64M at *
 simp only [Extern.MathBitsCarry.pair,Extern.MathBitsCarry.m64,Int.toNat_natCast]
 have e1:((((X + 2 ^ 64 - Y - k) % 2 ^ 64:Nat)):Int) = ((X:Int) + 18446744073709551616 - (Y:Int) - (k:Int)) % 18446744073709551616:=by omega
 have e2:(((if X < Y + k then 1 else 0:Nat)):Int) = if (X:Int) < (Y:Int) + (k:Int) then 1 else 0:=by
  by_cases h:X < Y + k
  ·rw [if_pos h,if_pos (by omega)];rfl
  ·rw [if_neg h,if_neg (by omega)];rfl
 show Result.ok (Value.tuple #[.int .u64 (((X + 2 ^ 64 - Y - k) % 2 ^ 64:Nat):Int),.int .u64 ((if X < Y + k then 1 else 0:Nat):Int)]) w = _
 rw [e1,e2]
theorem extK_ok {R:Nat → Prop} {n:Nat} {e:Ext} {ts:List G.T} {vs:List Value} {K:G.D → Option β} (hr:RepTs G w R n m ts vs) (h:extK G e ts K = some r) :
  ∃ v d,(∀ w,(extEntry e vs.toArray).run P w = .ok v w) ∧ RepD G w R n m d v ∧ K d = some r:=by
 have two:∀ a b:Value,a.oneCell' = true → b.oneCell' = true → RepD G w R n m (.tup [pval G a,pval G b]) (.tuple #[a,b]):=by
  intro a b ha hb
  refine ⟨[a,b],rfl,rfl,fun i t hi=>?_⟩
  match i,hi with
  | 0,hi=>cases hi;exact ⟨a,rfl,RepP.val _ ha⟩
  | 1,hi=>cases hi;exact ⟨b,rfl,RepP.val _ hb⟩
  | i + 2,hi=>cases hi
 unfold extK at h
 split at h
 ·rename_i x y c
  split at h
  ·rename_i hc
   cases hr with
   | cons h1 hr =>
    cases hr with
    | cons h2 hr =>
     cases hr with
     | cons h3 hr =>
      cases hr
      cases h1;cases h2;cases h3
      exact ⟨_,_,fun w=>run_add64 x y c hc.1 hc.2.1 hc.2.2.2.1 hc.2.2.2.2 w,two _ _ rfl rfl,h⟩
  ·cases h
 ·rename_i x y c
  split at h
  ·rename_i hc
   cases hr with
   | cons h1 hr =>
    cases hr with
    | cons h2 hr =>
     cases hr with
     | cons h3 hr =>
      cases hr
      cases h1;cases h2;cases h3
      exact ⟨_,_,fun w=>run_sub64 x y c hc.1 hc.2.1 hc.2.2.1 hc.2.2.2.1 hc.2.2.2.2 w,two _ _ rfl rfl,h⟩
  ·cases h
 ·cases h
theorem repTs_get {R:Nat → Prop} {n:Nat}:∀ {ts:List G.T} {vs:List Value},RepTs G w R n m ts vs → vs.length = ts.length ∧ ∀ (i:Nat) (t:G.T),ts[i]? = some t → ∃ x,vs[i]? = some x ∧ RepT G w R n m t x:=by
 intro ts vs h
 induction h with
 | nil=>exact ⟨rfl,fun i t h=>by cases h⟩
 | cons h1 _ ih =>
  refine ⟨by simp [ih.1],fun i t ht=>?_⟩
  cases i with
  | zero=>cases ht;exact ⟨_,rfl,h1⟩
  | succ i=>exact ih.2 i t ht
theorem callK_ok (hok:G.Ok) {K:G.KT} (hK:CallOk G K) {c:Call} {o:Oper} (hop:o.op = .call c) {k:G.Fr → G.Hp → G.D → Option β} {next:Act → World → Prop} {Q:Exit → Act → World → Prop} (hh:HRel G N hp m w) (hf:FRel G env fr hp m tmps w)
  (h:callK G K env fr hp c k = some r) (hn:After G N env hp m w tmps k r (opTg G env fr o) fun v w'=>next ((⟨tmps,ds⟩:Act).put o.dst v) w'):o.wp P ⟨tmps,ds⟩ w next Q:=by
 obtain ⟨dst,op,ty,pos,after,guard⟩:=o
 simp only at hop
 subst hop
 obtain ⟨callee,args,ats⟩:=c
 unfold callK at h
 simp only at h
 split at h
 ·rename_i b
  split at h
  ·rename_i ts hts
   have hargs:=hf.opTs (ds:=ds) hts
   have fin:∀ (s:Sem Value) (v:Value) (w':World),(∀ cs,builtin b ats ty cs (args.map (⟨tmps,ds⟩:Act).eval) = (do pure (.value (← s)):Sem Next)) → s.run P w = .ok v w' →
     next ((⟨tmps,ds⟩:Act).put dst v) w' → (Oper.mk dst (.call ⟨.builtin b,args,ats⟩) ty pos after guard).wp P ⟨tmps,ds⟩ w next Q:=by
    intro s v w' he hr hx
    unfold Oper.wp
    have:(execOp (⟨tmps,ds⟩:Act).eval (Oper.mk dst (.call ⟨.builtin b,args,ats⟩) ty pos after guard)).run P w = .ok (.value v) w':=by
     simp only [execOp,resolve,Sem.run_bind,Sem.run_pure,Result.andThen_ok,invoke]
     rw [he]
     simp only [Sem.run_bind,hr,Result.andThen_ok,Sem.run_pure]
    rw [this]
    exact hx
   generalize hv:args.toList.map (⟨tmps,ds⟩:Act).eval = vs at hargs
   have harr:args.map (⟨tmps,ds⟩:Act).eval = vs.toArray:=by rw [map_arr,hv]
   split at h
   ·rename_i t x hat
    cases hargs with
    | cons hx ht =>
     cases ht
     have e1:ats = #[t]:=Array.toList_inj.1 hat
     split at h
     ·obtain ⟨v,y,h1,h2,h3⟩:=mapLenK_ok (ty:=ty) hh hx h
      refine fin (Builtin.len_ ats ty (args.map (⟨tmps,ds⟩:Act).eval)) v w (fun _=>rfl) (by rw [harr,e1];exact h1 w (fun _ _=>rfl)) ?_
      exact hn _ _ _ _ (.t y) _ hh hf (Below.refl _ _) h2 (Kp.refl _ _ _) h3 (TgB.refl _ _ _)
     ·obtain ⟨v,y,h1,h2,h3⟩:=lenK_ok (ty:=ty) hh hx h
      refine fin (Builtin.len_ ats ty (args.map (⟨tmps,ds⟩:Act).eval)) v w (fun _=>rfl) (by rw [harr,e1];exact h1 w) ?_
      exact hn _ _ _ _ (.t y) _ hh hf (Below.refl _ _) h2 (Kp.refl _ _ _) h3 (TgB.refl _ _ _)
   ·rename_i t t2 s x hat
    cases hargs with
    | cons hs ht =>
     cases ht with
     | cons hx ht =>
      cases ht
      obtain ⟨v,w1,hp1,m1,fr1,y,h1,h2,h3,h4,h5,h6,h7,h8⟩:=appendK_ok (ty:=ty) hok hh hf hs hx h
      have e1:ats = #[t,t2]:=Array.toList_inj.1 hat
      refine fin (Builtin.append_ ats ty (args.map (⟨tmps,ds⟩:Act).eval)) v w1 (fun _=>rfl) (by rw [harr,e1];exact h1) ?_
      refine hn _ _ _ _ (.t y) _ h2 h3 h4 h5 h7 h6 ?_
      unfold opTg
      simp only
      split
      ·rename_i x0 xs0 hargs0
       rw [hargs0] at hts
       unfold Proofs.YtgbicnkpnhifgaaGreatDoor.opTs at hts
       split at hts
       ·rename_i y0 ys0 e2 _
        cases hts
        rw [e2]
        split
        ·rename_i q k' e3
         exact h8 q k' (Option.some.inj e3)
        ·trivial
       ·cases hts
      ·trivial
   ·obtain ⟨v,y,h1,h2,h3⟩:=maxK_ok (P:=P) (ts:=ats) (ty:=ty) hargs h
    refine fin (Builtin.max_ ats ty (args.map (⟨tmps,ds⟩:Act).eval)) v w (fun _=>rfl) (by rw [harr];exact h1 w) ?_
    exact hn _ _ _ _ (.t y) _ hh hf (Below.refl _ _) h2 (Kp.refl _ _ _) h3 (TgB.refl _ _ _)
   ·obtain ⟨v,y,h1,h2,h3⟩:=minK_ok (P:=P) (ts:=ats) (ty:=ty) hargs h
    refine fin (Builtin.min_ ats ty (args.map (⟨tmps,ds⟩:Act).eval)) v w (fun _=>rfl) (by rw [harr];exact h1 w) ?_
    exact hn _ _ _ _ (.t y) _ hh hf (Below.refl _ _) h2 (Kp.refl _ _ _) h3 (TgB.refl _ _ _)
   ·cases h
  ·cases h
 ·rename_i f
  split at h
  ·rename_i u r' F t hg hts
   split at h
   ·rename_i x hx
    rw [Option.bind_eq_some_iff] at h
    obtain ⟨y,hy,h⟩:=h
    obtain ⟨g,caps,e1,⟨fn,hfn,hname,hbody⟩,hflat,hbr,hspec⟩:=hf.opT (ds:=ds) hg
    have hargs:=hf.opTs (ds:=ds) hts
    generalize hv:args.toList.map (⟨tmps,ds⟩:Act).eval = vs at hargs
    cases hargs with
    | @cons _ _ a _ hx1 ht =>
     cases ht
     have hu:=unB_rep hok hh hx hx1
     unfold Oper.wp
     have hrun:(execOp (⟨tmps,ds⟩:Act).eval (Oper.mk dst (.call ⟨.value f,args,ats⟩) ty pos after guard)).run P w = .ok (.enter g (a :: caps).toArray) w:=by
      have hne:(fn.name == "runtime.NumGoroutine") = false:=by simpa using hname
      have harr:args.map (⟨tmps,ds⟩:Act).eval = #[a]:=by rw [map_arr,hv]
      simp only [execOp,resolve,Sem.run_bind,e1,Deferred.ofValue,Sem.run_pure,Result.andThen_ok,invoke,callFunc,run_program,hfn,hne,hbody,Bool.false_eq_true,if_false,harr]
      simp
     rw [hrun]
     show Calls P g _ w _
     refine (hspec w (fun _ _=>rfl) hh.gh.1 x y a hy hu).mono ?_
     rintro e w1 ⟨v,rfl,hb,hr⟩
     obtain ⟨k1,k2⟩:=hh.ext (w':=w1) (m':=m) hb.size (fun b hlt=>hb.block b hlt) [] (fun _ _=>rfl) (fun i ob hi=>by cases hi) (fun i ob b hi=>by cases hi) (fun i j ob ob' b hi=>by cases hi)
     rw [List.append_nil] at k1 k2
     exact hn _ _ _ _ (.t (toT G r' y)) v k1 (hf.keep k2 (Nat.le_refl _)) (hb.mono hh.base) (RepU.toT hok (hr.flat hok hflat)) (k2.kp (Nat.le_refl _)) h (TgB.of_later (fun b hlt=>hb.block b hlt) _)
   ·cases h
  ·rename_i g caps ts hg hts
   split at h
   ·rename_i hext
    split at h
    ·rename_i hrf
     obtain ⟨vs,e1,e2,e3⟩:=hf.opT (ds:=ds) hg
     have hargs:=hf.opTs (ds:=ds) hts
     obtain ⟨⟨fn,hfn,hname,hbody⟩,hcall⟩:=hK β g _ hp _ r h
     have hall:=hcall N m w _ hh (hargs.append (caps_rep e2 e3))
     unfold Oper.wp
     have harr:args.map (⟨tmps,ds⟩:Act).eval ++ vs.toArray = (args.toList.map (⟨tmps,ds⟩:Act).eval ++ vs).toArray:=by rw [map_arr];simp
     have hrun:(execOp (⟨tmps,ds⟩:Act).eval (Oper.mk dst (.call ⟨.value f,args,ats⟩) ty pos after guard)).run P w = .ok (.enter g (args.toList.map (⟨tmps,ds⟩:Act).eval ++ vs).toArray) w:=by
      have hne:(fn.name == "runtime.NumGoroutine") = false:=by simpa using hname
      simp only [execOp,resolve,Sem.run_bind,e1,Deferred.ofValue,Sem.run_pure,Result.andThen_ok,invoke,callFunc,run_program,hfn,hne,hbody,Bool.false_eq_true,if_false]
      rw [← harr]
      simp
     rw [hrun]
     show Calls P g _ w _
     refine hall.mono ?_
     rintro e w1 ⟨v,hp1,m1,d,mv,rfl,h1,h2,hmv,h3,h4,h5,h6,h7⟩
     obtain ⟨fr1,hf1,h6⟩:=aftK_ok hf h2 hmv h3 h6
     refine hn _ _ _ _ d v h1 hf1 h4 h5 h2 h6 ?_
     cases f with
     | func f' =>
      unfold opT at hg
      cases hg
      show TgB m w w1 (if (G.byref g || args.toList.any fun x=>cloB G (opT G env fr x)) = true then none else some none)
      split
      ·trivial
      ·rename_i hby
       refine h7 ?_
       rw [any_opTs hts] at hby
       unfold quietC
       simpa using hby
     | _=>trivial
    ·rename_i kd u hrf
     split at h
     ·rename_i hby
      obtain ⟨vs,e1,e2,e3⟩:=hf.opT (ds:=ds) hg
      have hvs:vs = []:=List.eq_nil_of_length_eq_zero e2
      subst hvs
      have hargs:=hf.opTs (ds:=ds) hts
      obtain ⟨⟨fn,hfn,hname,hbody⟩,hcall⟩:=rowfK_ok hok hrf hh hf (repTs_get hargs) h
      unfold Oper.wp
      have harr:args.map (⟨tmps,ds⟩:Act).eval ++ (#[]:Array Value) = (args.toList.map (⟨tmps,ds⟩:Act).eval).toArray:=by rw [map_arr];simp
      have hrun:(execOp (⟨tmps,ds⟩:Act).eval (Oper.mk dst (.call ⟨.value f,args,ats⟩) ty pos after guard)).run P w = .ok (.enter g (args.toList.map (⟨tmps,ds⟩:Act).eval).toArray) w:=by
       simp only [execOp,resolve,Sem.run_bind,e1,Deferred.ofValue,Sem.run_pure,Result.andThen_ok,invoke,callFunc,run_program,hfn,hname,hbody,Bool.false_eq_true,if_false]
       rw [← harr]
       simp
      rw [hrun]
      show Calls P g _ w _
      refine hcall.mono ?_
      rintro e w1 ⟨v,hp1,m1,fr1,y,rfl,h1,h2,h3,h4,h5,h6⟩
      refine hn _ _ _ _ (.t y) v h1 h2 h3 h4 h6 h5 ?_
      cases f with
      | func f' =>
       unfold opT at hg
       cases hg
       show TgB m w w1 (if (G.byref g || args.toList.any fun x=>cloB G (opT G env fr x)) = true then none else some none)
       rw [hby,Bool.true_or,if_pos rfl]
       trivial
      | _=>trivial
     ·cases h
   ·rename_i e hext
    split at h
    ·obtain ⟨vs,e1,e2,e3⟩:=hf.opT (ds:=ds) hg
     have hvs:vs = []:=List.eq_nil_of_length_eq_zero e2
     subst hvs
     have hargs:=hf.opTs (ds:=ds) hts
     obtain ⟨fn,hfn,hname,hbody,hnext,hfind⟩:=hok.ext _ _ hext
     obtain ⟨v,d,h1,h2,h3⟩:=extK_ok (P:=P) hargs h
     have hrun:(execOp (⟨tmps,ds⟩:Act).eval (Oper.mk dst (.call ⟨.value f,args,ats⟩) ty pos after guard)).run P w = .ok (.value v) w:=by
      have harr:args.map (⟨tmps,ds⟩:Act).eval ++ (#[]:Array Value) = (args.toList.map (⟨tmps,ds⟩:Act).eval).toArray:=by rw [map_arr];simp
      simp only [execOp,resolve,Sem.run_bind,e1,Deferred.ofValue,Sem.run_pure,Result.andThen_ok,invoke]
      rw [show (#[]:Array Value) ++ args.map (⟨tmps,ds⟩:Act).eval ++ ([]:List Value).toArray = (args.toList.map (⟨tmps,ds⟩:Act).eval).toArray from by rw [map_arr];simp]
      rw [run_callFunc_extern hfn hname hbody hnext hfind,h1 w]
      rfl
     unfold Oper.wp
     rw [hrun]
     exact hn _ _ _ _ d v hh hf (Below.refl _ _) h2 (Kp.refl _ _ _) h3 (TgB.refl _ _ _)
    ·cases h
  ·cases h
 ·cases h
theorem wp_valr {o:Oper} {a:Act} {v:Value} {next:Act → World → Prop} {Q:Exit → Act → World → Prop} (hr:(execOp a.eval o).run P w = .ok (.value v) w') (h:next (a.put o.dst v) w'):o.wp P a w next Q:=by
 unfold Oper.wp;rw [hr];exact h
theorem pairs_map (ρ:Operand → Value) (ps:Array (Nat × Operand)):(ps.map fun p=>(p.1,ρ p.2)) = ps.map fun (i,x)=>(i,ρ x):=by
 congr 1
theorem exec_build (ρ:Operand → Value) {o:Oper} {t:TypeId} {ps:Array (Nat × Operand)} (ho:o.op = .build t ps):execOp ρ o = (do pure (.value (← Instr.build t (ps.map fun p=>(p.1,ρ p.2))))):=by
 rw [pairs_map]
 unfold execOp
 rw [ho]
theorem exec_buildSlice (ρ:Operand → Value) {o:Oper} {t:TypeId} {n:Nat} {ps:Array (Nat × Operand)} (ho:o.op = .buildSlice t n ps):execOp ρ o = (do pure (.value (← Instr.buildSlice t n (ps.map fun p=>(p.1,ρ p.2))))):=by
 rw [pairs_map]
 unfold execOp
 rw [ho]
theorem made_wp {o:Oper} {k:G.Fr → G.Hp → G.D → Option β} {next:Act → World → Prop} {Q:Exit → Act → World → Prop} (hf:FRel G env fr hp m tmps w) (hn:After G N env hp m w tmps k r (opTg G env fr o) fun v w'=>next ((⟨tmps,ds⟩:Act).put o.dst v) w')
  (s:Sem Value) (he:execOp (⟨tmps,ds⟩:Act).eval o = (do pure (.value (← s)))) (h:Made G N hp m w s (fun hp y=>k fr hp (.t y)) r):o.wp P ⟨tmps,ds⟩ w next Q:=by
 obtain ⟨v,w1,hp1,m1,x,h1,h2,h3,hl,h4,h5,h6⟩:=h
 exact wp_val he h1 (hn fr hp1 m1 w1 (.t x) v h2 (hf.keep h3 hl) h4.1 h5 (h3.kp hl) h6 (TgB.of_later h4.2 _))
inductive Ldk where
 | pure
 | obj (o:Nat)
 | fgn
 | all
def LdSame (G:Sg P) (hp:G.Hp) (m:Nat → Value) (w w':World):Ldk → Prop
 | .pure=>True
 | .obj o=>∀ b,b < w.heap.size → blkOf (m o) = some b → w'.heap[b]? = w.heap[b]?
 | .fgn=>∀ b,Rof G hp m w b → w'.heap[b]? = w.heap[b]?
 | .all=>Later w w'
theorem LdSame.refl (hp:G.Hp) (m:Nat → Value) (w:World):∀ ld,LdSame G hp m w w ld
 | .pure=>trivial
 | .obj _=>fun _ _ _=>rfl
 | .fgn=>fun _ _=>rfl
 | .all=>fun _ _=>rfl
def ldkOf (G:Sg P) (env:G.Env) (fr:G.Fr) (o:Oper):Ldk:=match o.op with
 | .load _ a=>match opT G env fr a with
  | some (.c (.ptr q _))=>.obj q
  | some (.c (.ep _ q _ _))=>.obj q
  | some (.c (.rp _))=>.fgn
  | _=>.all
 | .lookup ..=>.all
 | .call c=>match c.callee with
  | .builtin .len=>if c.argTypes.toList.any (isMapT P) = true then .all else .pure
  | _=>.pure
 | _=>.pure
def QRes (G:Sg P) (N:Nat) (env:G.Env) (fr:G.Fr) (hp:G.Hp) (m:Nat → Value) (tmps:Array Value) (ds:List Deferred) (w:World) (o:Oper) (k:G.Fr → G.Hp → G.D → Option β) (r:β) (ld:Ldk):Prop :=
 ∃ v hp' m' d,(∀ w',LdSame G hp m w w' ld → (execOp (⟨tmps,ds⟩:Act).eval o).run P w' = .ok (.value v) w') ∧ HRel G N hp' m' w ∧ FRel G env fr hp' m' tmps w ∧ RepD G w (Rof G hp' m' w) hp'.length m' d v ∧
  Kp G hp m w hp' m' w ∧ k fr hp' d = some r
theorem QRes.wp {o:Oper} {k:G.Fr → G.Hp → G.D → Option β} {next:Act → World → Prop} {Q:Exit → Act → World → Prop} {ld:Ldk} (h:QRes G N env fr hp m tmps ds w o k r ld) (hn:After G N env hp m w tmps k r (opTg G env fr o) fun v w'=>next ((⟨tmps,ds⟩:Act).put o.dst v) w'):o.wp P ⟨tmps,ds⟩ w next Q:=by
 obtain ⟨v,hp',m',d,h1,h2,h3,h4,h5,h6⟩:=h
 exact wp_valr (h1 w (LdSame.refl _ _ _ _)) (hn fr hp' m' w d v h2 h3 (Below.refl _ _) h4 h5 h6 (TgB.refl _ _ _))
theorem load_q {o:Oper} {k:G.Fr → G.Hp → G.D → Option β} (hh:HRel G N hp m w) (hf:FRel G env fr hp m tmps w)
  (s:Sem Value) (he:execOp (⟨tmps,ds⟩:Act).eval o = (do pure (.value (← s)))) (h:∃ v x,(∀ w',Later w w' → s.run P w' = .ok v w') ∧ RepT G w (Rof G hp m w) hp.length m x v ∧ k fr hp (.t x) = some r):QRes G N env fr hp m tmps ds w o k r .all:=by
 obtain ⟨v,x,h1,h2,h3⟩:=h
 refine ⟨v,hp,m,.t x,fun w' hw=>?_,hh,hf,h2,Kp.refl _ _ _,h3⟩
 rw [he]
 simp only [Sem.run_bind,h1 w' hw,Result.andThen_ok,Sem.run_pure]
theorem pure_q {o:Oper} {k:G.Fr → G.Hp → G.D → Option β} (hh:HRel G N hp m w) (hf:FRel G env fr hp m tmps w)
  (s:Sem Value) (he:execOp (⟨tmps,ds⟩:Act).eval o = (do pure (.value (← s)))) (h:∃ v x,(∀ w,s.run P w = .ok v w) ∧ RepT G w (Rof G hp m w) hp.length m x v ∧ k fr hp (.t x) = some r):QRes G N env fr hp m tmps ds w o k r .pure:=by
 obtain ⟨v,x,h1,h2,h3⟩:=h
 refine ⟨v,hp,m,.t x,fun w' _=>?_,hh,hf,h2,Kp.refl _ _ _,h3⟩
 rw [he]
 simp only [Sem.run_bind,h1 w',Result.andThen_ok,Sem.run_pure]
theorem move_q {o:Oper} {k:G.Fr → G.Hp → G.D → Option β} (hh:HRel G N hp m w) (hf:FRel G env fr hp m tmps w)
  (x:Operand) (he:execOp (⟨tmps,ds⟩:Act).eval o = pure (.value ((⟨tmps,ds⟩:Act).eval x))) (h:moveK G env fr hp o.type x (k fr) = some r):QRes G N env fr hp m tmps ds w o k r .pure:=by
 obtain ⟨hp1,m1,d,h1,h2,h3,h4,h5⟩:=moveK_ok hh hf h
 exact ⟨_,hp1,m1,d,fun w' _=>by rw [he];rfl,h1,h2,h3,h5,h4⟩
theorem q_move {K:G.KT} {o:Oper} {k:G.Fr → G.Hp → G.D → Option β} (hh:HRel G N hp m w) (hf:FRel G env fr hp m tmps w)
  (h:opK G K env fr hp o k = some r) {x:Operand} (ho:o.op = .move x):QRes G N env fr hp m tmps ds w o k r .pure:=by
 unfold opK at h
 rw [ho] at h
 simp only at h
 exact move_q hh hf x (by simp only [execOp,ho]) h
theorem q_assign {K:G.KT} {o:Oper} {k:G.Fr → G.Hp → G.D → Option β} (hh:HRel G N hp m w) (hf:FRel G env fr hp m tmps w)
  (h:opK G K env fr hp o k = some r) {x:Operand} (ho:o.op = .assign x):QRes G N env fr hp m tmps ds w o k r .pure:=by
 unfold opK at h
 rw [ho] at h
 simp only at h
 exact move_q hh hf x (by simp only [execOp,ho]) h
theorem q_pick {K:G.KT} {o:Oper} {k:G.Fr → G.Hp → G.D → Option β} (hh:HRel G N hp m w) (hf:FRel G env fr hp m tmps w)
  (h:opK G K env fr hp o k = some r) {c a b:Operand} (ho:o.op = .pick c a b):QRes G N env fr hp m tmps ds w o k r .pure:=by
 unfold opK at h
 rw [ho] at h
 simp only at h
 split at h
 ·rename_i c' a' b' hc ha hb
  have h1:=hf.opT (ds:=ds) ha
  have h2:=hf.opT (ds:=ds) hb
  obtain ⟨hcv,_⟩:=valOf_rep (v:=.bool c') rfl (hf.opT (ds:=ds) hc)
  obtain ⟨x,h3,h4⟩:=pickK_ok h1 h2 h
  refine ⟨if c' then (⟨tmps,ds⟩:Act).eval a else (⟨tmps,ds⟩:Act).eval b,hp,m,.t x,fun w' _=>?_,hh,hf,h3,Kp.refl _ _ _,h4⟩
  simp only [execOp,ho,hcv,asBool,Sem.run_bind,Sem.run_pure,Result.andThen_ok]
 ·cases h
theorem opK_alloc {K:G.KT} {o:Oper} {k:G.Fr → G.Hp → G.D → Option β} {next:Act → World → Prop} {Q:Exit → Act → World → Prop} (hh:HRel G N hp m w) (hf:FRel G env fr hp m tmps w)
  (h:opK G K env fr hp o k = some r) (hn:After G N env hp m w tmps k r (opTg G env fr o) fun v w'=>next ((⟨tmps,ds⟩:Act).put o.dst v) w') {t:TypeId} (ho:o.op = .alloc t):o.wp P ⟨tmps,ds⟩ w next Q:=by
 unfold opK at h
 rw [ho] at h
 simp only at h
 exact made_wp hf hn (Instr.alloc t true (.tuple #[])) (by simp only [execOp,ho]) (allocK_ok hh h)
theorem opK_box {K:G.KT} {o:Oper} {k:G.Fr → G.Hp → G.D → Option β} {next:Act → World → Prop} {Q:Exit → Act → World → Prop} (hh:HRel G N hp m w) (hf:FRel G env fr hp m tmps w)
  (h:opK G K env fr hp o k = some r) (hn:After G N env hp m w tmps k r (opTg G env fr o) fun v w'=>next ((⟨tmps,ds⟩:Act).put o.dst v) w') {t:TypeId} {x:Operand} (ho:o.op = .box t x):o.wp P ⟨tmps,ds⟩ w next Q:=by
 unfold opK at h
 rw [ho] at h
 simp only at h
 split at h
 ·rename_i y hy
  exact made_wp hf hn (Instr.box t ((⟨tmps,ds⟩:Act).eval x)) (by simp only [execOp,ho]) (boxK_ok hh (hf.opT (ds:=ds) hy) h)
 ·cases h
theorem q_build {K:G.KT} {o:Oper} {k:G.Fr → G.Hp → G.D → Option β} (hh:HRel G N hp m w) (hf:FRel G env fr hp m tmps w)
  (h:opK G K env fr hp o k = some r) {t:TypeId} {ps:Array (Nat × Operand)} (ho:o.op = .build t ps):QRes G N env fr hp m tmps ds w o k r .pure:=by
 unfold opK at h
 rw [ho] at h
 simp only at h
 split at h
 ·rename_i ys hy
  obtain ⟨h1,h2⟩:=hf.partsT (ds:=ds) hy
  exact pure_q hh hf _ (exec_build _ ho) (buildK_ok (vs:=ps.map fun p=>(p.1,(⟨tmps,ds⟩:Act).eval p.2)) (by rw [map_toList];exact h1) (by rw [map_toList];exact h2) h)
 ·cases h
theorem opK_buildSlice (hok:G.Ok) {K:G.KT} {o:Oper} {k:G.Fr → G.Hp → G.D → Option β} {next:Act → World → Prop} {Q:Exit → Act → World → Prop} (hh:HRel G N hp m w) (hf:FRel G env fr hp m tmps w)
  (h:opK G K env fr hp o k = some r) (hn:After G N env hp m w tmps k r (opTg G env fr o) fun v w'=>next ((⟨tmps,ds⟩:Act).put o.dst v) w') {t:TypeId} {n:Nat} {ps:Array (Nat × Operand)} (ho:o.op = .buildSlice t n ps):o.wp P ⟨tmps,ds⟩ w next Q:=by
 unfold opK at h
 rw [ho] at h
 simp only at h
 split at h
 ·rename_i ys hy
  obtain ⟨h1,h2⟩:=hf.partsT (ds:=ds) hy
  have h3:(ps.map fun p=>(p.1,(⟨tmps,ds⟩:Act).eval p.2)).toList = ps.toList.map fun p=>(p.1,(⟨tmps,ds⟩:Act).eval p.2):=map_toList _ _
  rw [← h3] at h1 h2
  have h4:=buildSliceK_ok hok hh h1 h2 h
  exact made_wp hf hn _ (exec_buildSlice _ ho) h4
 ·cases h
theorem q_load (hok:G.Ok) {K:G.KT} {o:Oper} {k:G.Fr → G.Hp → G.D → Option β} (hh:HRel G N hp m w) (hf:FRel G env fr hp m tmps w)
  (h:opK G K env fr hp o k = some r) {t:TypeId} {a:Operand} (ho:o.op = .load t a):QRes G N env fr hp m tmps ds w o k r (ldkOf G env fr o):=by
 unfold opK at h
 rw [ho] at h
 simp only at h
 split at h
 ·rename_i y hy
  obtain ⟨v,x,⟨b,hb,hat,hrun⟩,h2,h3⟩:=loadK_ok (P:=P) hok hh (hf.opT (ds:=ds) hy) h
  refine ⟨v,hp,m,.t x,fun w' hw=>?_,hh,hf,h2,Kp.refl _ _ _,h3⟩
  have hsame:w'.heap[b]? = w.heap[b]?:=by
   unfold ldkOf at hw
   rw [ho] at hw
   simp only [hy] at hw
   split at hw
   ·rename_i e;cases e;exact hw b hb hat
   ·rename_i e;cases e;exact hw b hb hat
   ·rename_i e;cases e;exact hw b hat
   ·exact hw b hb
  simp only [execOp,ho,Sem.run_bind,hrun w' hsame,Result.andThen_ok,Sem.run_pure]
 ·cases h
theorem opK_store (hok:G.Ok) {K:G.KT} {o:Oper} {k:G.Fr → G.Hp → G.D → Option β} {next:Act → World → Prop} {Q:Exit → Act → World → Prop} (hh:HRel G N hp m w) (hf:FRel G env fr hp m tmps w)
  (h:opK G K env fr hp o k = some r) (hn:After G N env hp m w tmps k r (opTg G env fr o) fun v w'=>next ((⟨tmps,ds⟩:Act).put o.dst v) w') {t:TypeId} {a x:Operand} (ho:o.op = .store t a x):o.wp P ⟨tmps,ds⟩ w next Q:=by
 unfold opK at h
 rw [ho] at h
 simp only at h
 split at h
 ·rename_i y z hy hz
  obtain ⟨w1,hp1,h1,h2,h3,h4,h5,h6,h7⟩:=storeK_ok hok hh (hf.opT (ds:=ds) hy) (hf.opT (ds:=ds) hz) h
  have hex:(execOp (⟨tmps,ds⟩:Act).eval o).run P w = .ok .skip w1:=by
   simp only [execOp,ho,Sem.run_bind,h1,Result.andThen_ok,Sem.run_pure]
  unfold Oper.wp
  rw [hex]
  exact hn fr hp1 m w1 (.t (.c .junk)) undef h2 (hf.keep h3 (Nat.le_of_eq h4.symm)) h5 trivial (h3.kp (Nat.le_of_eq h4.symm)) h6 (by
   unfold opTg
   rw [ho]
   simp only [hy]
   split
   ·rename_i e;cases e;exact h7 _ _ rfl
   ·trivial)
 ·cases h
theorem q_nilCheck {K:G.KT} {o:Oper} {k:G.Fr → G.Hp → G.D → Option β} (hh:HRel G N hp m w) (hf:FRel G env fr hp m tmps w)
  (h:opK G K env fr hp o k = some r) {x:Operand} (ho:o.op = .nilCheck x):QRes G N env fr hp m tmps ds w o k r .pure:=by
 unfold opK at h
 rw [ho] at h
 simp only at h
 split at h
 ·rename_i y hy
  obtain ⟨v,z,h1,h2,h3⟩:=nilCheckK_ok (P:=P) (⟨tmps,ds⟩:Act).eval o x ho rfl (hf.opT (ds:=ds) hy) h
  exact ⟨v,hp,m,.t z,fun w' _=>h1 w',hh,hf,h2,Kp.refl _ _ _,h3⟩
 ·cases h
theorem q_binOp {K:G.KT} {o:Oper} {k:G.Fr → G.Hp → G.D → Option β} (hh:HRel G N hp m w) (hf:FRel G env fr hp m tmps w)
  (h:opK G K env fr hp o k = some r) {op:BinOp} {ty yt:TypeId} {x y:Operand} (ho:o.op = .binOp op ty x y yt):QRes G N env fr hp m tmps ds w o k r .pure:=by
 unfold opK at h
 rw [ho] at h
 simp only at h
 split at h
 ·rename_i a b ha hb
  split at h
  ·rename_i va vb hva hvb
   obtain ⟨e1,_⟩:=valOf_rep hva (hf.opT (ds:=ds) ha)
   obtain ⟨e2,_⟩:=valOf_rep hvb (hf.opT (ds:=ds) hb)
   obtain ⟨v,h1,h2,h3⟩:=binK_ok (P:=P) x y h
   refine pure_q hh hf (do eqGuard op ty x y ((⟨tmps,ds⟩:Act).eval x) ((⟨tmps,ds⟩:Act).eval y);binOp op ty ((⟨tmps,ds⟩:Act).eval x) ((⟨tmps,ds⟩:Act).eval y)) (by simp only [execOp,ho]) ⟨v,pval G v,?_,RepT_val h3,h2⟩
   intro w'
   rw [e1,e2]
   exact h1 w'
  ·split at h
   ·obtain ⟨v,h1,h2,h3⟩:=nilMapK_ok (P:=P) x y hh (hf.opT (ds:=ds) ha) (hf.opT (ds:=ds) hb) h
    exact pure_q hh hf (do eqGuard op ty x y ((⟨tmps,ds⟩:Act).eval x) ((⟨tmps,ds⟩:Act).eval y);binOp op ty ((⟨tmps,ds⟩:Act).eval x) ((⟨tmps,ds⟩:Act).eval y)) (by simp only [execOp,ho]) ⟨v,pval G v,h1,RepT_val h3,h2⟩
   ·obtain ⟨v,h1,h2,h3⟩:=eqAggK_ok (P:=P) x y (hf.opT (ds:=ds) ha) (hf.opT (ds:=ds) hb) h
    exact pure_q hh hf (do eqGuard op ty x y ((⟨tmps,ds⟩:Act).eval x) ((⟨tmps,ds⟩:Act).eval y);binOp op ty ((⟨tmps,ds⟩:Act).eval x) ((⟨tmps,ds⟩:Act).eval y)) (by simp only [execOp,ho]) ⟨v,pval G v,h1,RepT_val h3,h2⟩
 ·cases h
theorem q_unOp {K:G.KT} {o:Oper} {k:G.Fr → G.Hp → G.D → Option β} (hh:HRel G N hp m w) (hf:FRel G env fr hp m tmps w)
  (h:opK G K env fr hp o k = some r) {op:UnOp} {ty:TypeId} {x:Operand} (ho:o.op = .unOp op ty x):QRes G N env fr hp m tmps ds w o k r .pure:=by
 unfold opK at h
 rw [ho] at h
 simp only at h
 split at h
 ·rename_i a ha
  split at h
  ·rename_i va hva
   obtain ⟨e1,_⟩:=valOf_rep hva (hf.opT (ds:=ds) ha)
   obtain ⟨v,h1,h2,h3⟩:=unK_ok (P:=P) h
   exact pure_q hh hf (Op.unary op ((⟨tmps,ds⟩:Act).eval x)) (by simp only [execOp,ho]) ⟨v,pval G v,fun w'=>by rw [e1];exact h1 w',RepT_val h3,h2⟩
  ·cases h
 ·cases h
theorem q_convert {K:G.KT} {o:Oper} {k:G.Fr → G.Hp → G.D → Option β} (hh:HRel G N hp m w) (hf:FRel G env fr hp m tmps w)
  (h:opK G K env fr hp o k = some r) {s t:TypeId} {x:Operand} (ho:o.op = .convert s t x):QRes G N env fr hp m tmps ds w o k r .pure:=by
 unfold opK at h
 rw [ho] at h
 simp only at h
 split at h
 ·rename_i y hy
  exact pure_q hh hf (convert s t ((⟨tmps,ds⟩:Act).eval x)) (by simp only [execOp,ho]) (convertK_ok (hf.opT (ds:=ds) hy) h)
 ·cases h
theorem q_makeFunc {K:G.KT} {o:Oper} {k:G.Fr → G.Hp → G.D → Option β} (hh:HRel G N hp m w) (hf:FRel G env fr hp m tmps w)
  (h:opK G K env fr hp o k = some r) {fn:Fn} {first caps:Array Operand} (ho:o.op = .makeFunc fn first caps):QRes G N env fr hp m tmps ds w o k r .pure:=by
 unfold opK at h
 rw [ho] at h
 simp only at h
 split at h
 ·rename_i ys hy
  have h1:=hf.opTs (ds:=ds) hy
  refine pure_q hh hf (Instr.makeFunc fn (first.map (⟨tmps,ds⟩:Act).eval) (caps.map (⟨tmps,ds⟩:Act).eval)) (by simp only [execOp,ho]) ?_
  rw [map_arr _ caps]
  exact makeFuncK_ok h1 (by simpa using h)
 ·cases h
theorem opK_makeSlice (hok:G.Ok) {K:G.KT} {o:Oper} {k:G.Fr → G.Hp → G.D → Option β} {next:Act → World → Prop} {Q:Exit → Act → World → Prop} (hh:HRel G N hp m w) (hf:FRel G env fr hp m tmps w)
  (h:opK G K env fr hp o k = some r) (hn:After G N env hp m w tmps k r (opTg G env fr o) fun v w'=>next ((⟨tmps,ds⟩:Act).put o.dst v) w') {t:TypeId} {n c:Operand} (ho:o.op = .makeSlice t n c):o.wp P ⟨tmps,ds⟩ w next Q:=by
 unfold opK at h
 rw [ho] at h
 simp only at h
 split at h
 ·rename_i y z hy hz
  exact made_wp hf hn (Instr.makeSlice t ((⟨tmps,ds⟩:Act).eval n) ((⟨tmps,ds⟩:Act).eval c)) (by simp only [execOp,ho]) (makeK_ok hok hh (hf.opT (ds:=ds) hy) (hf.opT (ds:=ds) hz) (fun hs=>sameOp_eval hs _) h)
 ·cases h
theorem q_slice (hok:G.Ok) {K:G.KT} {o:Oper} {k:G.Fr → G.Hp → G.D → Option β} (hh:HRel G N hp m w) (hf:FRel G env fr hp m tmps w)
  (h:opK G K env fr hp o k = some r) {t:TypeId} {x:Operand} {lo hi:Option Operand} (ho:o.op = .slice t x lo hi none):QRes G N env fr hp m tmps ds w o k r .pure:=by
 unfold opK at h
 rw [ho] at h
 simp only at h
 split at h
 ·rename_i y l u hy hl hu
  exact pure_q hh hf (Instr.sliceAt t ((⟨tmps,ds⟩:Act).eval x) (lo.map (⟨tmps,ds⟩:Act).eval) (hi.map (⟨tmps,ds⟩:Act).eval) none) (by simp only [execOp,ho,Option.map_none]) (sliceK_ok hok (hf.opT (ds:=ds) hy) (hf.optT (ds:=ds) hl) (hf.optT (ds:=ds) hu) h)
 ·cases h
theorem q_fieldAddr {K:G.KT} {o:Oper} {k:G.Fr → G.Hp → G.D → Option β} (hh:HRel G N hp m w) (hf:FRel G env fr hp m tmps w)
  (h:opK G K env fr hp o k = some r) {t:TypeId} {x:Operand} {f:Nat} (ho:o.op = .fieldAddr t x f):QRes G N env fr hp m tmps ds w o k r .pure:=by
 unfold opK at h
 rw [ho] at h
 simp only at h
 split at h
 ·rename_i y hy
  exact pure_q hh hf (Instr.fieldAt t ((⟨tmps,ds⟩:Act).eval x) f) (by simp only [execOp,ho]) (fieldAddrK_ok (hf.opT (ds:=ds) hy) h)
 ·cases h
theorem q_field {K:G.KT} {o:Oper} {k:G.Fr → G.Hp → G.D → Option β} (hh:HRel G N hp m w) (hf:FRel G env fr hp m tmps w)
  (h:opK G K env fr hp o k = some r) {t:TypeId} {x:Operand} {f:Nat} (ho:o.op = .field t x f):QRes G N env fr hp m tmps ds w o k r .pure:=by
 unfold opK at h
 rw [ho] at h
 simp only at h
 split at h
 ·rename_i y hy
  exact pure_q hh hf (Instr.field t ((⟨tmps,ds⟩:Act).eval x) f) (by simp only [execOp,ho]) (fieldK_ok (hf.opT (ds:=ds) hy) h)
 ·cases h
theorem q_indexAddr (hok:G.Ok) {K:G.KT} {o:Oper} {k:G.Fr → G.Hp → G.D → Option β} (hh:HRel G N hp m w) (hf:FRel G env fr hp m tmps w)
  (h:opK G K env fr hp o k = some r) {t:TypeId} {x i:Operand} (ho:o.op = .indexAddr t x i):QRes G N env fr hp m tmps ds w o k r .pure:=by
 unfold opK at h
 rw [ho] at h
 simp only at h
 split at h
 ·rename_i y z hy hz
  exact pure_q hh hf (Instr.indexAt t ((⟨tmps,ds⟩:Act).eval x) ((⟨tmps,ds⟩:Act).eval i)) (by simp only [execOp,ho]) (indexAddrK_ok hok hh (hf.opT (ds:=ds) hy) (hf.opT (ds:=ds) hz) h)
 ·cases h
theorem q_index {K:G.KT} {o:Oper} {k:G.Fr → G.Hp → G.D → Option β} (hh:HRel G N hp m w) (hf:FRel G env fr hp m tmps w)
  (h:opK G K env fr hp o k = some r) {t:TypeId} {x i:Operand} (ho:o.op = .index t x i):QRes G N env fr hp m tmps ds w o k r .pure:=by
 unfold opK at h
 rw [ho] at h
 simp only at h
 split at h
 ·rename_i y z hy hz
  exact pure_q hh hf (Instr.index t ((⟨tmps,ds⟩:Act).eval x) ((⟨tmps,ds⟩:Act).eval i)) (by simp only [execOp,ho]) (indexK_ok (hf.opT (ds:=ds) hy) (hf.opT (ds:=ds) hz) h)
 ·cases h
theorem q_extract {K:G.KT} {o:Oper} {k:G.Fr → G.Hp → G.D → Option β} (hh:HRel G N hp m w) (hf:FRel G env fr hp m tmps w)
  (h:opK G K env fr hp o k = some r) {t:Tmp} {i:Nat} (ho:o.op = .extract (.tmp t) i):QRes G N env fr hp m tmps ds w o k r .pure:=by
 unfold opK at h
 rw [ho] at h
 simp only at h
 exact pure_q hh hf (Instr.extract ((⟨tmps,ds⟩:Act).eval (.tmp t)) i) (by simp only [execOp,ho]) (extractK_ok (hf.get t) h)
theorem valsC_ok {R:Nat → Prop} {n:Nat}:∀ {cs:List G.C} {us vs:List Value},valsC G cs = some us → RepL G w R n m cs vs → vs = us
 | [],us,vs,h,hl=>by cases h;exact List.eq_nil_of_length_eq_zero hl.1
 | c :: cs,us,[],h,hl=>by have:=hl.1;simp at this
 | c :: cs,us,v :: vs,h,hl=>by
  have htl:RepL G w R n m cs vs:=by have:=hl.drop 1;simpa using this
  obtain ⟨v',hv,hrep⟩:=hl.2 0 c rfl
  cases hv
  unfold valsC at h
  split at h
  ·rename_i e;cases e
  ·rename_i x cs' e
   cases e
   split at h
   ·rename_i vs' hvs
    cases h
    rw [valsC_ok hvs htl]
    have hrep':RepP G w R (.val x) v:=hrep
    cases hrep'
    rfl
   ·cases h
  ·cases h
theorem ifaceK_ok {R:Nat → Prop} {n:Nat} {t:TypeId} {x:G.T} {va:Value} {K:G.T → Option β} (ha:RepT G w R n m x va) (h:ifaceK G P t x K = some r) :
  ∃ v y,(∀ w,(Instr.makeInterface t va).run P w = .ok v w) ∧ RepT G w R n m y v ∧ K y = some r:=by
 unfold ifaceK at h
 split at h
 ·cases h
 ·rename_i d hnot hu
  have hrun:∀ w,(Instr.makeInterface t va).run P w = .ok (.iface t va) w:=by
   intro w
   unfold Instr.makeInterface
   simp only [Sem.run_bind,run_underlying hu,Result.andThen_ok]
   cases d <;> first | rfl | exact absurd rfl (hnot _)
  split at h
  ·rename_i v
   obtain ⟨rfl,_⟩:=valOf_rep (v:=v) rfl ha
   exact ⟨_,_,hrun,RepT_val rfl,h⟩
  ·rename_i cs
   split at h
   ·rename_i us hus
    obtain ⟨vs,rfl,hl⟩:=ha
    obtain rfl:=valsC_ok hus hl
    exact ⟨_,_,hrun,RepT_val rfl,h⟩
   ·cases h
  ·cases h
 ·cases h
theorem zeroT_ok {R:Nat → Prop} {n:Nat} {t:TypeId} {x:G.T} (h:zeroT G P t = some x):∃ z,(∀ w,(zeroValue t).run P w = .ok z w) ∧ RepT G w R n m x z:=by
 unfold zeroT at h
 split at h
 ·rename_i i hi
  split at h
  ·rename_i cs hz
   split at h
   ·rename_i hall
    cases h
    refine ⟨.agg cs,fun w=>by simp [zeroValue,typeInfo,hi,hz],cs.toList,by simp,by simp,fun j c hj=>?_⟩
    rw [List.getElem?_map] at hj
    cases hv:cs.toList[j]? with
    | none=>rw [hv] at hj;cases hj
    | some v=>rw [hv] at hj;cases hj;exact ⟨v,rfl,RepP.val v (List.all_eq_true.1 hall v (List.mem_of_getElem? hv))⟩
   ·cases h
  ·rename_i z hne hz
   split at h
   ·rename_i h1
    cases h
    exact ⟨z,fun w=>by simp [zeroValue,typeInfo,hi,hz],RepT_val h1⟩
   ·cases h
  ·cases h
 ·cases h
theorem RepD_two {R:Nat → Prop} {n:Nat} {x y:G.T} {v u:Value} (h1:RepT G w R n m x v) (h2:RepT G w R n m y u):RepD G w R n m (.tup [x,y]) (.tuple #[v,u]) :=
 ⟨[v,u],rfl,rfl,fun i t hi=>by
  match i,hi with
  | 0,hi=>cases hi;exact ⟨v,rfl,h1⟩
  | 1,hi=>cases hi;exact ⟨u,rfl,h2⟩⟩
theorem assertK_ok {R:Nat → Prop} {n:Nat} {xt t:TypeId} {ok:Bool} {x:G.T} {va:Value} {K:G.D → Option β} (ha:RepT G w R n m x va) (h:assertK G P x t ok K = some r) :
  ∃ v d,(∀ w,(Instr.typeAssert va xt t ok).run P w = .ok v w) ∧ RepD G w R n m d v ∧ K d = some r:=by
 unfold assertK at h
 split at h
 ·rename_i v hv
  obtain ⟨rfl,h1c⟩:=valOf_rep hv ha
  clear h1c
  rw [Option.bind_eq_some_iff] at h
  obtain ⟨t',ht,h⟩:=h
  cases hc:t' == some t with
  | true =>
   rw [hc,cond_true] at h
   have he:t' = some t:=by simpa using hc
   subst he
   obtain ⟨y,hy⟩:∃ y,va = .iface t y:=by
    unfold ifTy at ht
    split at ht
    ·rename_i t2 y;cases ht;exact ⟨y,rfl⟩
    ·cases ht
    ·cases ht
   subst hy
   have hrun:∀ d,P.underlying t = some d → (∀ l,d ≠ .interface l) → ∀ w,(Instr.typeAssert (.iface t y) xt t true).run P w = .ok (.tuple #[y,.bool true]) w:=by
    intro d hu hd w
    unfold Instr.typeAssert
    simp only [Sem.run_bind,run_underlying hu,Result.andThen_ok]
    cases d <;> first | (exact absurd rfl (hd _)) | simp
   split at h
   ·rename_i hu
    rw [Option.bind_eq_some_iff] at h
    obtain ⟨s,hs,h⟩:=h
    unfold ifStr at hs
    split at hs
    rotate_left
    ·cases hs
    rename_i e
    cases e
    cases hs
    exact ⟨_,_,hrun _ hu (by simp),RepD_two (RepT_val rfl) (RepT_val rfl),h⟩
   ·rename_i hu
    rw [Option.bind_eq_some_iff] at h
    obtain ⟨s,hs,h⟩:=h
    unfold ifInt at hs
    split at hs
    ·rename_i e;cases e;cases hs
     exact ⟨_,_,hrun _ hu (by simp),RepD_two (RepT_val rfl) (RepT_val rfl),h⟩
    ·cases hs
   ·rename_i fs hu
    rw [Option.bind_eq_some_iff] at h
    obtain ⟨s,hs,h⟩:=h
    unfold ifAgg at hs
    split at hs
    ·rename_i e
     cases e
     split at hs
     ·rename_i vs hall
      cases hs
      refine ⟨_,_,hrun _ hu (by simp),RepD_two (show RepT G w R n m (.agg (vs.toList.map fun v=>.pv (.val v))) (.agg vs) from ⟨vs.toList,by simp,by simp,fun j c hj=>?_⟩) (RepT_val rfl),h⟩
      rw [List.getElem?_map] at hj
      cases hv:vs.toList[j]? with
      | none=>rw [hv] at hj;cases hj
      | some v=>rw [hv] at hj;cases hj;exact ⟨v,rfl,RepP.val v (List.all_eq_true.1 hall v (List.mem_of_getElem? hv))⟩
     ·cases hs
    ·cases hs
   ·cases h
  | false =>
   rw [hc,cond_false] at h
   split at h
   ·cases h
   ·rename_i d z hnot hu hz
    obtain ⟨zv,hz1,hz2⟩:=zeroT_ok (w:=w) (m:=m) (R:=R) (n:=n) hz
    refine ⟨_,_,?_,RepD_two hz2 (RepT_val rfl),h⟩
    intro w
    unfold Instr.typeAssert
    simp only [Sem.run_bind,run_underlying hu,Result.andThen_ok]
    unfold ifTy at ht
    split at ht
    ·rename_i t2 y
     cases ht
     have hne:¬ (t2 = t):=by simpa using hc
     cases d <;> first | (exact (hnot _ rfl).elim) | simp [hne,hz1]
    ·cases ht
     cases d <;> first | (exact (hnot _ rfl).elim) | simp [hz1]
    ·cases ht
   ·cases h
 ·cases h
theorem q_makeInterface {K:G.KT} {o:Oper} {k:G.Fr → G.Hp → G.D → Option β} (hh:HRel G N hp m w) (hf:FRel G env fr hp m tmps w)
  (h:opK G K env fr hp o k = some r) {t:TypeId} {x:Operand} (ho:o.op = .makeInterface t x):QRes G N env fr hp m tmps ds w o k r .pure:=by
 unfold opK at h
 rw [ho] at h
 simp only at h
 split at h
 ·rename_i y hy
  exact pure_q hh hf (Instr.makeInterface t ((⟨tmps,ds⟩:Act).eval x)) (by simp only [execOp,ho]) (ifaceK_ok (hf.opT (ds:=ds) hy) h)
 ·cases h
theorem q_typeAssert {K:G.KT} {o:Oper} {k:G.Fr → G.Hp → G.D → Option β} (hh:HRel G N hp m w) (hf:FRel G env fr hp m tmps w)
  (h:opK G K env fr hp o k = some r) {x:Operand} {xt t:TypeId} {ok:Bool} (ho:o.op = .typeAssert x xt t ok):QRes G N env fr hp m tmps ds w o k r .pure:=by
 unfold opK at h
 rw [ho] at h
 simp only at h
 split at h
 ·rename_i y hy
  obtain ⟨v,d,h1,h2,h3⟩:=assertK_ok (P:=P) (xt:=xt) (hf.opT (ds:=ds) hy) h
  refine ⟨v,hp,m,d,fun w' _=>?_,hh,hf,h2,Kp.refl _ _ _,h3⟩
  simp only [execOp,ho,Sem.run_bind,h1 w',Result.andThen_ok,Sem.run_pure]
 ·cases h
theorem opK_makeMap (hok:G.Ok) {K:G.KT} {o:Oper} {k:G.Fr → G.Hp → G.D → Option β} {next:Act → World → Prop} {Q:Exit → Act → World → Prop} (hh:HRel G N hp m w) (hf:FRel G env fr hp m tmps w)
  (h:opK G K env fr hp o k = some r) (hn:After G N env hp m w tmps k r (opTg G env fr o) fun v w'=>next ((⟨tmps,ds⟩:Act).put o.dst v) w') {t:TypeId} (ho:o.op = .makeMap t none):o.wp P ⟨tmps,ds⟩ w next Q:=by
 unfold opK at h
 rw [ho] at h
 simp only at h
 exact made_wp hf hn (Instr.makeMap t none) (by simp only [execOp,ho,Option.map_none]) (makeMapK_ok hok hh h)
theorem opK_mapUpdate (hok:G.Ok) {K:G.KT} {o:Oper} {k:G.Fr → G.Hp → G.D → Option β} {next:Act → World → Prop} {Q:Exit → Act → World → Prop} (hh:HRel G N hp m w) (hf:FRel G env fr hp m tmps w)
  (h:opK G K env fr hp o k = some r) (hn:After G N env hp m w tmps k r (opTg G env fr o) fun v w'=>next ((⟨tmps,ds⟩:Act).put o.dst v) w') {t:TypeId} {a s x:Operand} (ho:o.op = .mapUpdate t a s x):o.wp P ⟨tmps,ds⟩ w next Q:=by
 unfold opK at h
 rw [ho] at h
 simp only at h
 split at h
 ·rename_i y z u hy hz hu
  obtain ⟨w1,hp1,h1,h2,h3,h4,h5,h6⟩:=mapUpdK_ok hok hh (hf.opT (ds:=ds) hy) (hf.opT (ds:=ds) hz) (hf.opT (ds:=ds) hu) h
  have hex:(execOp (⟨tmps,ds⟩:Act).eval o).run P w = .ok .skip w1:=by
   simp only [execOp,ho,Sem.run_bind,h1,Result.andThen_ok,Sem.run_pure]
  unfold Oper.wp
  rw [hex]
  exact hn fr hp1 m w1 (.t (.c .junk)) undef h2 (hf.keep h3 (Nat.le_of_eq h4.symm)) h5 trivial (h3.kp (Nat.le_of_eq h4.symm)) h6 (by unfold opTg;rw [ho];trivial)
 ·cases h
theorem q_lookup {K:G.KT} {o:Oper} {k:G.Fr → G.Hp → G.D → Option β} (hh:HRel G N hp m w) (hf:FRel G env fr hp m tmps w)
  (h:opK G K env fr hp o k = some r) {t:TypeId} {a s:Operand} (ho:o.op = .lookup t a s false):QRes G N env fr hp m tmps ds w o k r .all:=by
 unfold opK at h
 rw [ho] at h
 simp only at h
 split at h
 ·rename_i y z hy hz
  exact load_q hh hf (Instr.lookup t ((⟨tmps,ds⟩:Act).eval a) ((⟨tmps,ds⟩:Act).eval s) false) (by simp only [execOp,ho]) (lookK_ok hh (hf.opT (ds:=ds) hy) (hf.opT (ds:=ds) hz) h)
 ·cases h
theorem q_lookup2 (hok:G.Ok) {K:G.KT} {o:Oper} {k:G.Fr → G.Hp → G.D → Option β} (hh:HRel G N hp m w) (hf:FRel G env fr hp m tmps w)
  (h:opK G K env fr hp o k = some r) {t:TypeId} {a s:Operand} (ho:o.op = .lookup t a s true):QRes G N env fr hp m tmps ds w o k r .all:=by
 unfold opK at h
 rw [ho] at h
 simp only at h
 split at h
 ·rename_i y z hy hz
  obtain ⟨v,d,h1,h2,h3⟩:=look2K_ok hok hh (hf.opT (ds:=ds) hy) (hf.opT (ds:=ds) hz) h
  refine ⟨v,hp,m,d,fun w' hw=>?_,hh,hf,h2,Kp.refl _ _ _,h3⟩
  simp only [execOp,ho,Sem.run_bind,h1 w' hw,Result.andThen_ok,Sem.run_pure]
 ·cases h
theorem opK_call (hok:G.Ok) {K:G.KT} (hK:CallOk G K) {o:Oper} {k:G.Fr → G.Hp → G.D → Option β} {next:Act → World → Prop} {Q:Exit → Act → World → Prop} (hh:HRel G N hp m w) (hf:FRel G env fr hp m tmps w)
  (h:opK G K env fr hp o k = some r) (hn:After G N env hp m w tmps k r (opTg G env fr o) fun v w'=>next ((⟨tmps,ds⟩:Act).put o.dst v) w') {c:Call} (ho:o.op = .call c):o.wp P ⟨tmps,ds⟩ w next Q:=by
 unfold opK at h
 rw [ho] at h
 simp only at h
 exact callK_ok hok hK ho hh hf h hn
theorem opK_ok (hok:G.Ok) {K:G.KT} (hK:CallOk G K) {o:Oper} {k:G.Fr → G.Hp → G.D → Option β} {next:Act → World → Prop} {Q:Exit → Act → World → Prop} (hh:HRel G N hp m w) (hf:FRel G env fr hp m tmps w)
  (h:opK G K env fr hp o k = some r) (hn:After G N env hp m w tmps k r (opTg G env fr o) fun v w'=>next ((⟨tmps,ds⟩:Act).put o.dst v) w'):o.wp P ⟨tmps,ds⟩ w next Q:=by
 cases ho:o.op with
 | move _=>exact (q_move hh hf h ho).wp hn
 | assign _=>exact (q_assign hh hf h ho).wp hn
 | pick _ _ _=>exact (q_pick hh hf h ho).wp hn
 | alloc _=>exact opK_alloc hh hf h hn ho
 | box _ _=>exact opK_box hh hf h hn ho
 | build _ _=>exact (q_build hh hf h ho).wp hn
 | buildSlice _ _ _=>exact opK_buildSlice hok hh hf h hn ho
 | load _ _=>exact (q_load hok hh hf h ho).wp hn
 | store _ _ _=>exact opK_store hok hh hf h hn ho
 | nilCheck _=>exact (q_nilCheck hh hf h ho).wp hn
 | binOp _ _ _ _ _=>exact (q_binOp hh hf h ho).wp hn
 | unOp _ _ _=>exact (q_unOp hh hf h ho).wp hn
 | convert _ _ _=>exact (q_convert hh hf h ho).wp hn
 | makeFunc _ _ _=>exact (q_makeFunc hh hf h ho).wp hn
 | makeSlice _ _ _=>exact opK_makeSlice hok hh hf h hn ho
 | slice t x lo hi mx =>
  cases mx with
  | none=>exact (q_slice hok hh hf h ho).wp hn
  | some _=>unfold opK at h;rw [ho] at h;cases h
 | fieldAddr _ _ _=>exact (q_fieldAddr hh hf h ho).wp hn
 | field _ _ _=>exact (q_field hh hf h ho).wp hn
 | indexAddr _ _ _=>exact (q_indexAddr hok hh hf h ho).wp hn
 | index _ _ _=>exact (q_index hh hf h ho).wp hn
 | extract x i =>
  cases x with
  | tmp t=>exact (q_extract hh hf h ho).wp hn
  | const _=>unfold opK at h;rw [ho] at h;cases h
  | global _=>unfold opK at h;rw [ho] at h;cases h
  | func _=>unfold opK at h;rw [ho] at h;cases h
 | makeInterface _ _=>exact (q_makeInterface hh hf h ho).wp hn
 | typeAssert _ _ _ _=>exact (q_typeAssert hh hf h ho).wp hn
 | call _=>exact opK_call hok hK hh hf h hn ho
 | makeMap t x =>
  cases x with
  | none=>exact opK_makeMap hok hh hf h hn ho
  | some _=>unfold opK at h;rw [ho] at h;cases h
 | mapUpdate _ _ _ _=>exact opK_mapUpdate hok hh hf h hn ho
 | lookup t a s c =>
  cases c with
  | false=>exact (q_lookup hh hf h ho).wp hn
  | true=>exact (q_lookup2 hok hh hf h ho).wp hn
 | _=>unfold opK at h;rw [ho] at h;cases h
end
end Go.Proofs.YtgbicnkpnhifgaaGreatDoor

namespace Go.Proofs.YtgbicnkpnhifgaaGreatDoor
open Go.RowKit
variable {P:Program} (G:Sg P) {β:Type}
def setK (env:G.Env) (fr:G.Fr) (dst:Option Tmp) (d:G.D) (k:G.Fr → Option β):Option β:=match dst with
 | none=>k fr
 | some t=>match env[t]? with
  | some (some _)=>none
  | _=>k (fr.set t d)
def bV (b:Bool):G.D:=.t (.c (.pv (.val (.bool b))))
def execK (K:G.KT) (env:G.Env) (fr:G.Fr) (hp:G.Hp) (o:Oper) (k:G.Fr → G.Hp → Option β):Option β:=opK G K env fr hp o fun fr hp d=>setK G env fr o.dst d fun fr=>k fr hp
def skipK (env:G.Env) (fr:G.Fr) (hp:G.Hp) (o:Oper) (k:G.Fr → G.Hp → Option β):Option β:=setK G env fr o.dst (.tup []) fun fr=>k fr hp
def stepK (K:G.KT) (env:G.Env) (ops:Array Oper) (fr:G.Fr) (hp:G.Hp) (o:Oper) (k:G.Fr → G.Hp → Option β):Option β:=match o.guard with
 | none=>execK G K env fr hp o k
 | some (j,want)=>match (ops[j]?).bind (·.dst) with
  | some t=>match env[t]?,fr[t]? with
   | some (some _),_=>none
   | _,some (.t (.c (.pv (.val (.bool b)))))=>match want with
    | true=>cond b (execK G K env (fr.set t (bV G true)) hp o k) (skipK G env (fr.set t (bV G false)) hp o k)
    | false=>cond b (skipK G env (fr.set t (bV G true)) hp o k) (execK G K env (fr.set t (bV G false)) hp o k)
   | _,some (.tup [])=>skipK G env fr hp o k
   | _,_=>none
  | none=>none
def frzC (o:Nat) (p:G.P') (c:G.C):G.C:=match c with
 | .os q=>if q = o then .pv p else .os q
 | c=>junkC G o c
def frzT (o:Nat) (p:G.P'):G.T → G.T
 | .c x=>.c (frzC G o p x)
 | .agg cs=>.agg (cs.map (frzC G o p))
def frzD (o:Nat) (p:G.P'):G.D → G.D
 | .t x=>.t (frzT G o p x)
 | .tup vs=>.tup (vs.map (frzT G o p))
def frzO (o:Nat) (p:G.P'):G.O → G.O
 | .box cs=>.box (cs.map (frzC G o p))
 | ob=>ob
def frz1 (env:G.Env) (fr:G.Fr) (hp:G.Hp) (o:Nat):G.Fr × G.Hp:=match hp[o]? with
 | some (.row false u l)=>if envFree G env o = true ∧ hp.all (lockFree o) = true then (fr.map (frzD G o (.sl u l)),(hp.map (frzO G o (.sl u l))).set o .dead) else (fr,hp)
 | _=>(fr,hp)
def frzL (env:G.Env):List Nat → G.Fr → G.Hp → G.Fr × G.Hp
 | [],fr,hp=>(fr,hp)
 | o :: l,fr,hp=>frzL env l (frz1 G env fr hp o).1 (frz1 G env fr hp o).2
def ossC:List G.C → List Nat
 | []=>[]
 | .os o :: cs=>o :: ossC cs
 | _ :: cs=>ossC cs
def ossT:Option G.T → List Nat
 | some (.c x)=>ossC G [x]
 | some (.agg cs)=>ossC G cs
 | none=>[]
def frzOs (env:G.Env) (fr:G.Fr) (o:Oper):List Nat:=match o.op with
 | .slice _ x _ _ _=>ossT G (opT G env fr x)
 | .store _ a x=>match opT G env fr a with
  | some (.c (.ep _ _ _ _))=>ossT G (opT G env fr x)
  | _=>[]
 | .buildSlice _ _ ps=>ps.toList.flatMap fun p=>ossT G (opT G env fr p.2)
 | .mapUpdate _ _ _ x=>ossT G (opT G env fr x)
 | .call c=>match c.callee with
  | .value (.func f)=>match G.fz f with
   | true=>c.args.toList.flatMap fun x=>ossT G (opT G env fr x)
   | false=>[]
  | _=>[]
 | _=>[]
def frzN (env:G.Env) (fr:G.Fr) (ops:Array Oper) (l:List Nat):List Nat:=l.flatMap fun i=>match ops[i]? with
 | some o=>match o.op with
  | .call _=>frzOs G env fr o
  | .slice ..=>frzOs G env fr o
  | .buildSlice ..=>frzOs G env fr o
  | .mapUpdate ..=>frzOs G env fr o
  | _=>[]
 | none=>[]
def opsK (K:G.KT) (env:G.Env) (ops:Array Oper):List Oper → G.Fr → G.Hp → (G.Fr → G.Hp → Option β) → Option β
 | [],fr,hp,k=>k fr hp
 | o :: l,fr,hp,k=>match frzOs G env fr o with
  | []=>stepK G K env ops fr hp o fun fr hp=>opsK K env ops l fr hp k
  | q :: qs=>stepK G K env ops (frzL G env (q :: qs) fr hp).1 (frzL G env (q :: qs) fr hp).2 o fun fr hp=>opsK K env ops l fr hp k
structure Rl [Held] (N:Nat) (w0:World) (env:G.Env) (fr:G.Fr) (hp:G.Hp) (m:Nat → Value) (tmps:Array Value) (w:World):Prop where
 hh:HRel G N hp m w
 hf:FRel G env fr hp m tmps w
 bl:Below N w0 w
section
variable {G} {w w' w0:World} {m m':Nat → Value} {r:β} {N:Nat} {hp hp':G.Hp} {env:G.Env} {fr:G.Fr} {tmps:Array Value} {ds:List Deferred} [Held]
theorem setK_ok {dst:Option Tmp} {d:G.D} {v:Value} {k:G.Fr → Option β} (h:setK G env fr dst d k = some r) (hf:FRel G env fr hp m tmps w) (hd:RepD G w (Rof G hp m w) hp.length m d v) :
  ∃ fr',FRel G env fr' hp m ((⟨tmps,ds⟩:Act).put dst v).tmps w ∧ k fr' = some r ∧ (⟨tmps,ds⟩:Act).put dst v = ⟨((⟨tmps,ds⟩:Act).put dst v).tmps,ds⟩ ∧ ((⟨tmps,ds⟩:Act).put dst v).tmps.size = tmps.size:=by
 unfold setK at h
 split at h
 ·exact ⟨fr,hf,h,rfl,rfl⟩
 ·split at h
  ·cases h
  ·rename_i hne
   exact ⟨_,hf.set hd (fun x hx=>hne x hx),h,rfl,by simp [Act.put]⟩
theorem FRel.put {t:Nat} {d:G.D} (h:FRel G env fr hp m tmps w) (hd:RepD G w (Rof G hp m w) hp.length m d (tmps.getD t undef)):FRel G env (fr.set t d) hp m tmps w:=by
 refine ⟨by simp [h.len],fun q x hq=>?_,h.env⟩
 rw [List.getElem?_set] at hq
 by_cases he:t = q
 ·subst he
  rw [if_pos rfl] at hq
  split at hq
  ·cases hq;exact hd
  ·cases hq
 ·rw [if_neg he] at hq;exact h.fr q x hq
theorem yielded_of {ops:Array Oper} {j:Nat} {t:Tmp} {b:Bool} (h1:(ops[j]?).bind (·.dst) = some t) (h2:tmps.getD t undef = .bool b):yielded ops tmps j = some b:=by
 unfold yielded
 rw [h1]
 simp only [Option.bind_some]
 have:tmps[t]? = some (.bool b):=by
  rcases Nat.lt_or_ge t tmps.size with h | h
  ·simp [h] at h2
   simp [h,h2]
  ·simp [Array.getElem?_eq_none h] at h2
   cases h2
 rw [this]
theorem unyielded {ops:Array Oper} {j:Nat} {t:Tmp} (h1:(ops[j]?).bind (·.dst) = some t) (h2:tmps.getD t undef = .tuple #[]):yielded ops tmps j = none:=by
 unfold yielded
 rw [h1]
 simp only [Option.bind_some]
 cases ht:tmps[t]? with
 | none=>rfl
 | some v =>
  have:v = .tuple #[]:=by simpa [ht] using h2
  rw [this]
theorem step_cases {K:G.KT} {ops:Array Oper} {o:Oper} {k:G.Fr → G.Hp → Option β} {X:Prop} (hr:Rl G N w0 env fr hp m tmps w) (h:stepK G K env ops fr hp o k = some r)
  (exec:∀ fr:G.Fr,FRel G env fr hp m tmps w → execK G K env fr hp o k = some r → Region.wanted o (yielded ops tmps) = true → X)
  (skip:∀ fr:G.Fr,FRel G env fr hp m tmps w → skipK G env fr hp o k = some r → Region.wanted o (yielded ops tmps) = false → X):X:=by
 unfold stepK at h
 split at h
 ·rename_i hg
  exact exec fr hr.hf h (by simp [Region.wanted,hg])
 ·rename_i j want hg
  split at h
  ·rename_i t ht
   split at h
   ·cases h
   ·rename_i b hfr hne
    have hb:tmps.getD t undef = .bool b:=by
     have h0:RepT G w (Rof G hp m w) hp.length m (.c (.pv (.val (.bool b)))) (tmps.getD t undef):=hr.hf.fr t _ hfr
     exact (valOf_rep (v:=.bool b) rfl h0).1
    have hy:=yielded_of ht hb
    have hfs:∀ c,b = c → FRel G env (fr.set t (bV G c)) hp m tmps w:=by
     intro c hc
     subst hc
     have:=hr.hf.set (t:=t) (d:=bV G b) (v:=.bool b) (RepP.val _ rfl) (fun x hx=>hne x hx)
     have hs:tmps.setIfInBounds t (.bool b) = tmps:=by
      apply Array.ext_getElem?
      intro i
      rw [Array.getElem?_setIfInBounds]
      split
      ·rename_i hi
       subst hi
       rcases Nat.lt_or_ge t tmps.size with h | h
       ·simp [h] at hb
        simp [h,hb]
       ·simp [h]
      ·rfl
     rw [hs] at this
     exact this
    cases want <;> cases b <;> simp only [cond_true,cond_false] at h
    ·exact exec _ (hfs _ rfl) h (by simp [Region.wanted,hg,hy])
    ·exact skip _ (hfs _ rfl) h (by simp [Region.wanted,hg,hy])
    ·exact skip _ (hfs _ rfl) h (by simp [Region.wanted,hg,hy])
    ·exact exec _ (hfs _ rfl) h (by simp [Region.wanted,hg,hy])
   ·rename_i hfr _
    have hb:tmps.getD t undef = .tuple #[]:=by
     obtain ⟨vs,h1,h2,_⟩:=hr.hf.fr t _ hfr
     obtain rfl:vs = []:=List.eq_nil_of_length_eq_zero h2
     exact h1
    exact skip _ hr.hf h (by simp [Region.wanted,hg,unyielded ht hb])
   ·cases h
  ·cases h
theorem RepP_row' {R R':Nat → Prop} {n o:Nat} {lk:Bool} {u:G.U} {l:List (G.El u)} (hR:∀ b,R b → R' b) (hg:∀ g,blkOf (m o) = some g → R' g) (h:RepO G w R n m N o (.row lk u l)):RepP G w R' (.sl u l) (m o):=by
 obtain ⟨xs,h1,h2,h3⟩:=h
 rcases h1.2 with ⟨e,e'⟩ | ⟨g,cap,cur,e,f1,f2,f3,f4,f5,f6⟩
 ·have:l = []:=List.eq_nil_of_length_eq_zero e'
  subst this
  rw [e]
  exact RepP.sl u [] none 0 0 0 (fun _ _=>undef) (by simp) (by simp) (by simp) (by simp)
 ·have hgR:R' g:=hg g (by rw [e];rfl)
  rw [e]
  refine RepP.sl u l _ g 0 cap (fun k j=>(xs[k * G.sz u + j]?).getD undef) f3 (fun _=>⟨rfl,hgR⟩) (fun k x j p hk hj=>?_) (fun k x j p hk hj=>?_)
  ·obtain ⟨cv,c1,_⟩:=h2 k x j p hk hj
   have hlt:=(List.getElem?_eq_some_iff.1 c1).1
   rw [h1.1] at hlt
   have hc:=h1
   rw [e] at hc
   rw [Nat.zero_add,hc.cellAt _ hlt,c1]
   rfl
  ·obtain ⟨cv,c1,c2⟩:=h2 k x j p hk hj
   simp only [c1,Option.getD_some]
   exact RepP.mono G hR (fun _ _=>rfl) c2
section
variable {R R':Nat → Prop} {n:Nat} {o:Nat} {p:G.P'}
theorem RepC.frz (h1:∀ b,R b → R' b) (hp:RepP G w R' p (m o)) {c:G.C} {v:Value} (h:RepC G w R n m c v):RepC G w R' n m (frzC G o p c) v:=by
 unfold frzC
 split
 ·rename_i q
  split
  ·rename_i e
   subst e
   obtain ⟨_,rfl,_⟩:=h
   exact hp
  ·exact h
 ·exact h.junk' o h1 (fun _ _=>rfl) (Nat.le_refl _) (fun _ _ _=>rfl)
theorem RepL.frz (h1:∀ b,R b → R' b) (hp:RepP G w R' p (m o)) {cs:List G.C} {vs:List Value} (h:RepL G w R n m cs vs):RepL G w R' n m (cs.map (frzC G o p)) vs :=
 ⟨by simpa using h.1,fun i c hi=>by
  rw [List.getElem?_map] at hi
  cases hc:cs[i]? with
  | none=>rw [hc] at hi;cases hi
  | some c0 =>
   rw [hc] at hi;cases hi
   obtain ⟨x,h3,h4⟩:=h.2 i c0 hc
   exact ⟨x,h3,h4.frz h1 hp⟩⟩
theorem RepT.frz (h1:∀ b,R b → R' b) (hp:RepP G w R' p (m o)) {t:G.T} {v:Value} (h:RepT G w R n m t v):RepT G w R' n m (frzT G o p t) v:=by
 cases t with
 | c x=>exact RepC.frz h1 hp h
 | agg cs=>obtain ⟨vs,e,hl⟩:=h;exact ⟨vs,e,hl.frz h1 hp⟩
theorem RepD.frz (h1:∀ b,R b → R' b) (hp:RepP G w R' p (m o)) {d:G.D} {v:Value} (h:RepD G w R n m d v):RepD G w R' n m (frzD G o p d) v:=by
 cases d with
 | t x=>exact RepT.frz h1 hp h
 | tup ts =>
  obtain ⟨vs,e,hl,hv⟩:=h
  refine ⟨vs,e,by simpa using hl,fun i t hi=>?_⟩
  rw [List.getElem?_map] at hi
  cases hc:ts[i]? with
  | none=>rw [hc] at hi;cases hi
  | some t0 =>
   rw [hc] at hi;cases hi
   obtain ⟨x,h3,h4⟩:=hv i t0 hc
   exact ⟨x,h3,h4.frz h1 hp⟩
theorem RepO.frz (h1:∀ b,R b → R' b) (hp:RepP G w R' p (m o)) {q:Nat} {ob:G.O} (h:RepO G w R n m N q ob):RepO G w R' n m N q (frzO G o p ob):=by
 cases ob with
 | box cs =>
  obtain ⟨b,t,vs,e1,e2,e3,e4,e5⟩:=h
  exact ⟨b,t,vs,e1,e2,e3,e4.frz h1 hp,e5⟩
 | _=>exact RepO.mono h1 (fun _ _=>rfl) (Nat.le_refl _) (fun _ _ _=>rfl) rfl (fun _ _ _=>rfl) h
end
theorem frzO_live (o:Nat) (p:G.P') (ob:G.O):(frzO G o p ob).live = ob.live:=by cases ob <;> rfl
theorem frzO_mov (o:Nat) (p:G.P') (ob:G.O):(frzO G o p ob).mov = ob.mov:=by cases ob <;> rfl
theorem frzO_lockd (o:Nat) (p:G.P') (ob:G.O) (h:ob.lockd = true):frzO G o p ob = ob:=by cases ob <;> first | rfl | cases h
theorem frz1_ok (hr:Rl G N w0 env fr hp m tmps w) (o:Nat):Rl G N w0 env (frz1 G env fr hp o).1 (frz1 G env fr hp o).2 m tmps w ∧ Kp G hp m w (frz1 G env fr hp o).2 m w:=by
 unfold frz1
 split
 ·rename_i u l ho
  split
  ·rename_i hc
   have hlt:=(List.getElem?_eq_some_iff.1 ho).1
   have hget:∀ (q:Nat) (x:G.O),((hp.map (frzO G o (.sl u l))).set o .dead)[q]? = some x → (q = o ∧ x = .dead) ∨ (q ≠ o ∧ ∃ y,hp[q]? = some y ∧ x = frzO G o (.sl u l) y):=by
    intro q x hx
    rw [List.getElem?_set] at hx
    by_cases he:o = q
    ·subst he
     rw [if_pos rfl] at hx
     split at hx
     ·cases hx;exact .inl ⟨rfl,rfl⟩
     ·cases hx
    ·rw [if_neg he,List.getElem?_map] at hx
     cases hy:hp[q]? with
     | none=>rw [hy] at hx;cases hx
     | some y=>rw [hy] at hx;cases hx;exact .inr ⟨fun e=>he e.symm,y,rfl,rfl⟩
   have hro:∀ b,Rof G hp m w b → Rof G ((hp.map (frzO G o (.sl u l))).set o .dead) m w b:=by
    rintro b ⟨h1,h2⟩
    refine ⟨h1,?_⟩
    rintro (hS | ⟨q,x,hx,hl,hb⟩)
    ·exact h2 (.inl hS)
    rcases hget q x hx with ⟨rfl,rfl⟩ | ⟨_,y,hy,rfl⟩
    ·cases hl
    ·exact h2 (.inr ⟨q,y,hy,by rw [← frzO_live];exact hl,hb⟩)
   have hrow:=hr.hh.obj o _ ho
   have hp0:RepP G w (Rof G ((hp.map (frzO G o (.sl u l))).set o .dead) m w) (.sl u l) (m o):=by
    refine RepP_row' hro (fun g hg=>⟨(hrow.blk rfl hg).2,?_⟩) hrow
    rintro (hS | ⟨q,x,hx,hl,hb⟩)
    ·have h5:=hr.hh.held g hS
     have h6:=(hrow.blk rfl hg).1
     omega
    rcases hget q x hx with ⟨rfl,rfl⟩ | ⟨hne,y,hy,rfl⟩
    ·cases hl
    ·exact hne (hr.hh.sep q o y _ g hy ho (by rw [← frzO_live];exact hl) rfl hb hg)
   have hlen:((hp.map (frzO G o (.sl u l))).set o .dead).length = hp.length:=by simp
   refine ⟨⟨⟨fun q x hx=>?_,fun q q' x x' b hx hx' hl hl' hb hb'=>?_,hr.hh.base,hr.hh.held,hr.hh.gh⟩,⟨by simp [hr.hf.len],fun t d hd=>?_,fun t d hd=>⟨(hr.hf.env t d hd).1,?_⟩⟩,hr.bl⟩,⟨hro,fun _ _=>rfl,fun q x hq hl=>?_,fun q x hq hm=>⟨rfl,?_⟩,Nat.le_of_eq hlen.symm,fun _ _ _ _ _ _=>rfl,fun _ _ _ _ _ _ _=>rfl⟩⟩
   ·rw [hlen]
    rcases hget q x hx with ⟨rfl,rfl⟩ | ⟨_,y,hy,rfl⟩
    ·trivial
    ·exact (hr.hh.obj q y hy).frz hro hp0
   ·rcases hget q x hx with ⟨rfl,rfl⟩ | ⟨_,y,hy,rfl⟩
    ·cases hl
    ·rcases hget q' x' hx' with ⟨rfl,rfl⟩ | ⟨_,y',hy',rfl⟩
     ·cases hl'
     ·exact hr.hh.sep q q' y y' b hy hy' (by rw [← frzO_live];exact hl) (by rw [← frzO_live];exact hl') hb hb'
   ·rw [hlen]
    rw [List.getElem?_map] at hd
    cases hd0:fr[t]? with
    | none=>rw [hd0] at hd;cases hd
    | some d0=>rw [hd0] at hd;cases hd;exact (hr.hf.fr t d0 hd0).frz hro hp0
   ·rw [hlen]
    exact (hr.hf.env t d hd).2.mono hro (fun _ _=>rfl) (Nat.le_refl _) (fun _ _ _=>rfl)
   ·have hne:q ≠ o:=fun e=>by
     subst e
     rw [ho] at hq
     cases hq
     cases hl
    rw [List.getElem?_set,if_neg (fun e=>hne e.symm),List.getElem?_map,hq,Option.map_some,frzO_lockd _ _ _ hl]
   ·have hne:q ≠ o:=fun e=>by
     subst e
     rw [ho] at hq
     cases hq
     cases hm
    rw [List.getElem?_set,if_neg (fun e=>hne e.symm),List.getElem?_map,hq]
    exact ⟨_,rfl,by rw [frzO_mov];exact hm⟩
  ·exact ⟨hr,Kp.refl _ _ _⟩
 ·exact ⟨hr,Kp.refl _ _ _⟩
theorem frzL_ok:∀ (l:List Nat) {fr:G.Fr} {hp:G.Hp},Rl G N w0 env fr hp m tmps w → Rl G N w0 env (frzL G env l fr hp).1 (frzL G env l fr hp).2 m tmps w ∧ Kp G hp m w (frzL G env l fr hp).2 m w
 | [],_,_,hr=>⟨hr,Kp.refl _ _ _⟩
 | o :: l,fr,hp,hr=>by
  obtain ⟨h1,h2⟩:=frz1_ok hr o
  obtain ⟨h3,h4⟩:=frzL_ok l h1
  exact ⟨h3,h2.trans h4⟩
theorem opsK_ok (hok:G.Ok) {K:G.KT} (hK:CallOk G K) {ops:Array Oper} {Q:Exit → Act → World → Prop}:∀ (l:List Oper) {k:G.Fr → G.Hp → Option β} {fr:G.Fr} {hp:G.Hp} {m:Nat → Value} {tmps:Array Value} {w:World},
  Rl G N w0 env fr hp m tmps w → opsK G K env ops l fr hp k = some r →
  (∀ fr' hp' m' tmps' w',Rl G N w0 env fr' hp' m' tmps' w' → Kp G hp m w hp' m' w' → tmps'.size = tmps.size → k fr' hp' = some r → Q .normal ⟨tmps',ds⟩ w') → wpList P ops Q l ⟨tmps,ds⟩ w
 | [],_,_,_,_,_,_,hr,h,hn=>hn _ _ _ _ _ hr (Kp.refl _ _ _) rfl h
 | o :: l,k,fr,hp,m,tmps,w,hr,h,hn=>by
  have main:∀ (fr:G.Fr) (hp:G.Hp),Rl G N w0 env fr hp m tmps w → stepK G K env ops fr hp o (fun fr hp=>opsK G K env ops l fr hp k) = some r →
    (∀ fr' hp' m' tmps' w',Rl G N w0 env fr' hp' m' tmps' w' → Kp G hp m w hp' m' w' → tmps'.size = tmps.size → k fr' hp' = some r → Q .normal ⟨tmps',ds⟩ w') → wpList P ops Q (o :: l) ⟨tmps,ds⟩ w:=by
   intro fr hp hr h hn
   have exec:∀ fr:G.Fr,FRel G env fr hp m tmps w → execK G K env fr hp o (fun fr hp=>opsK G K env ops l fr hp k) = some r → Region.wanted o (yielded ops tmps) = true → wpList P ops Q (o :: l) ⟨tmps,ds⟩ w:=by
    intro fr hf h hw
    unfold wpList
    rw [if_pos hw]
    refine .inl (opK_ok hok hK hr.hh hf h ?_)
    intro fr1 hp1 m1 w1 d v h1 h2 h3 h4 h5 h6 _
    obtain ⟨fr2,h7,h8,h9,h10⟩:=setK_ok h6 h2 h4
    rw [h9]
    exact opsK_ok hok hK l ⟨h1,h7,hr.bl.trans h3⟩ h8 fun fr' hp' m' tmps' w' g1 g2 g4 g3=>hn fr' hp' m' tmps' w' g1 (h5.trans g2) (g4.trans h10) g3
   have skip:∀ fr:G.Fr,FRel G env fr hp m tmps w → skipK G env fr hp o (fun fr hp=>opsK G K env ops l fr hp k) = some r → Region.wanted o (yielded ops tmps) = false → wpList P ops Q (o :: l) ⟨tmps,ds⟩ w:=by
    intro fr hf h hw
    unfold wpList
    rw [if_neg (by simp [hw])]
    obtain ⟨fr2,h7,h8,h9,h10⟩:=setK_ok (v:=undef) h hf ⟨[],rfl,rfl,by simp⟩
    rw [h9]
    exact opsK_ok hok hK l ⟨hr.hh,h7,hr.bl⟩ h8 fun fr' hp' m' tmps' w' g1 g2 g4 g3=>hn fr' hp' m' tmps' w' g1 g2 (g4.trans h10) g3
   exact step_cases hr h exec skip
  unfold opsK at h
  split at h
  ·exact main fr hp hr h hn
  ·rename_i q qs hq
   obtain ⟨h1,h2⟩:=frzL_ok (q :: qs) hr
   exact main _ _ h1 h fun fr' hp' m' tmps' w' g1 g2 g3 g4=>hn fr' hp' m' tmps' w' g1 (h2.trans g2) g3 g4
end
end Go.Proofs.YtgbicnkpnhifgaaGreatDoor

namespace Go.Proofs.YtgbicnkpnhifgaaGreatDoor
open Go.RowKit
section
variable {P:Program} {ops:Array Oper} {Q:Exit → Act → World → Prop} {md:Region.Mode}
def ClosedL (md:Region.Mode) (ops:Array Oper) (L:Array Bool):Prop :=
 ∀ (j:Nat) (o:Oper),ops[j]? = some o → L.getD j false = true → ∀ e ∈ o.after,Region.binds md e = true → L.getD e.on false = true
theorem ClosedL.set {L:Array Bool} {i:Nat} (h:ClosedL md ops L) (hr:i ∈ Region.ready md ops L):ClosedL md ops (L.setIfInBounds i true):=by
 intro j o ho hl e he hb
 obtain ⟨_,o',ho',hall⟩:=mem_ready.1 hr
 by_cases hij:i = j
 ·subst hij
  rw [ho'] at ho;cases ho
  exact getD_set_true (hall e he hb)
 ·rw [getD_set_ne false hij] at hl
  exact getD_set_true (h j o ho hl e he hb)
theorem getD_rep (n j:Nat):(Array.replicate n false).getD j false = false:=by
 simp only [Array.getD_eq_getD_getElem?,Array.getElem?_replicate]
 split <;> rfl
theorem ClosedL.rep (n:Nat):ClosedL md ops (Array.replicate n false):=by
 intro j o _ hl
 rw [getD_rep] at hl;cases hl
def lateOf (md:Region.Mode) (ops:Array Oper) (i:Nat):List Nat :=
 (List.range ops.size).foldl (fun acc s=>match ops[s]? with
  | some o=>if o.after.any (fun e=>Region.binds md e && (e.on == i || acc.contains e.on)) then s :: acc else acc
  | none=>acc) []
theorem late_in {L:Array Bool} {i:Nat} (hc:ClosedL md ops L):∀ s ∈ lateOf md ops i,L.getD s false = true → L.getD i false = true:=by
 unfold lateOf
 generalize List.range ops.size = l
 suffices H:∀ (l acc:List Nat),(∀ s ∈ acc,L.getD s false = true → L.getD i false = true) → ∀ s ∈ l.foldl (fun acc s=>match ops[s]? with
  | some o=>if o.after.any (fun e=>Region.binds md e && (e.on == i || acc.contains e.on)) then s :: acc else acc
  | none=>acc) acc,L.getD s false = true → L.getD i false = true from H l [] (by simp)
 intro l
 induction l with
 | nil=>intro acc h;exact h
 | cons x l ih =>
  intro acc h
  rw [List.foldl_cons]
  apply ih
  split
  ·rename_i o ho
   split
   ·rename_i hany
    intro s hs hl
    rcases List.mem_cons.1 hs with rfl | hs
    ·obtain ⟨e,he,hb⟩:=Array.any_eq_true'.1 hany
     simp only [Bool.and_eq_true,Bool.or_eq_true,beq_iff_eq,List.contains_iff_mem] at hb
     have h1:=hc _ _ ho hl e he hb.1
     rcases hb.2 with h2 | h2
     ·rw [h2] at h1;exact h1
     ·exact h _ h2 h1
    ·exact h s hs hl
   ·exact h
  ·exact h
theorem getD_low {L:Array Bool} {i:Nat} (h:L.getD i true = false):L.getD i false = false:=by
 rcases Nat.lt_or_ge i L.size with h' | h'
 ·simpa [h'] using h
 ·simp [Array.getElem?_eq_none h'] at h
theorem Later.refl (w:World):Later w w:=fun _ _=>rfl
def wpAnyR (P:Program) (md:Region.Mode) (ops:Array Oper) (Q:Exit → Act → World → Prop) (T:Nat → World → World → Prop):Nat → Array Bool → Act → World → Prop
 | 0,L,a,w=>Region.ready md ops L = [] ∧ Q .normal a w
 | f + 1,L,a,w =>
  (Region.ready md ops L = [] → Q .normal a w) ∧
  ∀ i ∈ Region.ready md ops L,wpOp P ops Q i (fun a' w'=>T i w w' ∧ wpAnyR P md ops Q T f (L.setIfInBounds i true) a' w') a w
theorem wpAny_of_R {T:Nat → World → World → Prop}:∀ (f:Nat) (L:Array Bool) (a:Act) (w:World),wpAnyR P md ops Q T f L a w → wpAny P md ops Q f L a w
 | 0,_,_,_,h=>h
 | f + 1,_,_,_,h=>⟨h.1,fun i hi=>wpOp_mono (fun a' w' h'=>wpAny_of_R f _ a' w' h'.2) (h.2 i hi)⟩
theorem wpAnyR_first {T:Nat → World → World → Prop} {S:World → Prop} {i:Nat} {oi:Oper} {v:Value} (hcl:∀ q w w',q ≠ i → q ∉ lateOf md ops i → q < ops.size → S w → T q w w' → S w') (hi:ops[i]? = some oi) (hsel:∀ (j:Nat) (o:Oper) cs b,ops[j]? = some o → o.op ≠ .select cs b)
  (hQ:∀ c a w,Q (.panic c) (a.put oi.dst v) w → Q (.panic c) a w) (hT:∀ w,T i w w) :
  ∀ (f:Nat) (L:Array Bool) (a:Act) (w:World),ClosedL md ops L →
   (∀ j oj,ops[j]? = some oj → j ≠ i → L.getD j true = false → (∀ e ∈ oj.after,Region.binds md e = true → e.on ≠ i) → oi.apart ops oj = true) →
   i ∈ Region.ready md ops L → YieldsIf P ops S oi v a → S w →
   wpAnyR P md ops Q T f (L.setIfInBounds i true) (a.put oi.dst v) w → wpAnyR P md ops Q T (f + 1) L a w:=by
 intro f
 induction f with
 | zero =>
  intro L a w hc _ hr hy hS H
  refine ⟨fun h=>(by rw [h] at hr;cases hr),fun j hj=>?_⟩
  by_cases hji:j = i
  ·subst hji
   exact hy.wpOp hi hS ⟨hT w,H⟩
  ·have:=ready_mono hj hji
   rw [H.1] at this
   cases this
 | succ f ih =>
  intro L a w hc hfree hr hy hS H
  have hun:=(mem_ready.1 hr).1
  refine ⟨fun h=>(by rw [h] at hr;cases hr),fun j hj=>?_⟩
  by_cases hji:j = i
  ·subst hji
   exact hy.wpOp hi hS ⟨hT w,H⟩
  ·have h1:=H.2 j (ready_mono hj hji)
   obtain ⟨hjun,oj,hoj,hall⟩:=mem_ready.1 hj
   have hnot:∀ e ∈ oj.after,Region.binds md e = true → e.on ≠ i:=fun e he hb heq=>by
    have h2:=hall e he hb
    rw [heq,getD_low hun] at h2
    cases h2
   have h2:=wpOp_putIf hoj (hfree j oj hoj hji hjun hnot) (fun cs b=>hsel i oi cs b hi) (fun cs b=>hsel j oj cs b hoj) hQ hy h1
   have hfree':∀ k ok,ops[k]? = some ok → k ≠ i → (L.setIfInBounds j true).getD k true = false →
     (∀ e ∈ ok.after,Region.binds md e = true → e.on ≠ i) → oi.apart ops ok = true:=fun k ok hk hki hun' hno=>by
    refine hfree k ok hk hki ?_ hno
    by_cases hjk:j = k
    ·subst hjk;exact hjun
    ·rw [getD_set_ne true hjk] at hun';exact hun'
   refine wpOp_mono (fun a' w' h3=>?_) h2
   obtain ⟨hy',hl',hW'⟩:=h3
   refine ⟨hl',?_⟩
   rw [Array.setIfInBounds_comm _ _ (Ne.symm hji)] at hW'
   have hS':S w':=by
    by_cases hjm:j ∈ lateOf md ops i
    ·exfalso
     have h4:=late_in (hc.set hj) j hjm (by
      have hsz:j < L.size:=by
       rcases Nat.lt_or_ge j L.size with h' | h'
       ·exact h'
       ·simp [Array.getElem?_eq_none h'] at hjun
      simp [hsz])
     rw [getD_set_ne false hji,getD_low hun] at h4
     cases h4
    ·exact hcl j w w' hji hjm (Array.getElem?_eq_some_iff.1 hoj).1 hS hl'
   exact ih (L.setIfInBounds j true) a' w' (hc.set hj) hfree' (ready_mono hr (Ne.symm hji)) hy' hS' hW'
def remL (L:Array Bool):Nat:=L.toList.countP (!·)
theorem remL_set {L:Array Bool} {i:Nat} (h:L.getD i true = false):remL L = remL (L.setIfInBounds i true) + 1:=by
 have hlt:i < L.size:=by
  rcases Nat.lt_or_ge i L.size with h' | h'
  ·exact h'
  ·simp [Array.getElem?_eq_none h'] at h
 have hv:L.toList[i]? = some false:=by
  simp [hlt] at h
  simp [hlt,h]
 have key:∀ (l:List Bool) (i:Nat),l[i]? = some false → l.countP (!·) = (l.set i true).countP (!·) + 1:=by
  intro l
  induction l with
  | nil=>intro i h;cases h
  | cons x l ih =>
   intro i h
   cases i with
   | zero=>cases h;simp
   | succ i =>
    have:=ih i h
    simp only [List.set_cons_succ,List.countP_cons]
    omega
 unfold remL
 rw [key _ _ hv,Array.toList_setIfInBounds]
theorem remL_rep (n:Nat):remL (Array.replicate n false) = n:=by
 unfold remL
 rw [Array.toList_replicate,List.countP_replicate]
 rfl
end
variable {P:Program} (G:Sg P) {β:Type}
def isQ (P:Program) (o:Oper):Option Bool:=match o.op with
 | .move _ | .assign _ | .pick .. | .build .. | .nilCheck _ | .binOp .. | .unOp .. | .convert .. | .makeFunc .. | .slice .. | .fieldAddr .. | .field .. | .indexAddr .. | .index .. | .extract .. | .makeInterface .. | .typeAssert ..=>some false
 | .load ..=>some true
 | .lookup ..=>some true
 | .call c=>match c.callee with
  | .builtin .len=>some (c.argTypes.toList.any (isMapT P))
  | .builtin .max=>some false
  | .builtin .min=>some false
  | _=>none
 | _=>none
def firstQ (P:Program) (ops:Array Oper):List Nat → Option (Nat × Oper × Bool)
 | []=>none
 | i :: l=>match ops[i]? with
  | some o=>match isQ P o with
   | some ld=>some (i,o,ld)
   | none=>firstQ P ops l
  | none=>firstQ P ops l
def stands (hp:G.Hp) (o:Nat):Bool:=match hp[o]? with
 | some (.box _)=>true
 | some (.lock _)=>true
 | some (.ab _ _ _)=>true
 | _=>false
def liveAt (hp:G.Hp) (o:Nat):Bool:=match hp[o]? with
 | some ob=>ob.live
 | none=>false
def rootT (env:G.Env) (fr:G.Fr) (ops:Array Oper):Nat → Operand → Option Nat
 | 0,_=>none
 | n + 1,.tmp t=>match ops.toList.find? fun o=>o.dst == some t with
  | some o=>match o.op with
   | .fieldAddr _ x _=>rootT env fr ops n x
   | _=>none
  | none=>match getS G env fr t with
   | .t (.c (.ptr o _))=>some o
   | _=>none
 | _,_=>none
def rootP (env:G.Env) (fr:G.Fr) (ops:Array Oper):Nat → Operand → Option Nat
 | 0,_=>none
 | n + 1,.tmp t=>match ops.toList.find? fun o=>o.dst == some t with
  | some o=>match o.op with
   | .move x=>rootP env fr ops n x
   | _=>none
  | none=>match getS G env fr t with
   | .t (.c (.pre o _))=>some o
   | _=>none
 | _,_=>none
def mkB (ops:Array Oper):Operand → Bool
 | .tmp t=>ops.any fun o=>match o.dst,o.op with
  | some t',.makeFunc (.func g) _ _=>t' == t && G.byref g
  | _,_=>false
 | _=>false
def frs (ops:Array Oper) (fr:G.Fr) (o:Oper):List G.Fr:=match o.guard with
 | none=>[fr]
 | some (j,_)=>match (ops[j]?).bind (·.dst) with
  | some t=>[fr,fr.set t (bV G true),fr.set t (bV G false)]
  | none=>[fr]
structure Hs where
 i:Nat
 t:Tmp
 ty:TypeId
 k:Nat
 zs:List Value
 /-- The variables that stand where the region begins. -/
 old:List Nat
def zeroVals (P:Program) (t:TypeId):Option (List Value):=match P.info? t with
 | some i=>match i.zero with
  | some z=>if z.cells.toList.all Value.oneCell' then some z.cells.toList else none
  | none=>none
 | none=>none
def hoistL (env:G.Env) (ops:Array Oper) (old:List Nat):List Nat → Nat → List Hs
 | [],_=>[]
 | i :: l,k=>match ops[i]? with
  | some o=>match o.op,o.guard,o.dst with
   | .alloc ty,none,some t=>match env[t]? with
    | some (some _)=>hoistL env ops old l k
    | _=>match zeroVals P ty with
     | some zs=>⟨i,t,ty,k,zs,old⟩ :: hoistL env ops old l (k + 1)
     | none=>hoistL env ops old l k
   | _,_,_=>hoistL env ops old l k
  | none=>hoistL env ops old l k
def rootA (ops:Array Oper):Nat → Operand → Bool
 | 0,_=>false
 | n + 1,.tmp t=>match ops.toList.find? fun o=>o.dst == some t with
  | some o=>match o.op with
   | .fieldAddr _ x _=>rootA ops n x
   | .alloc _=>true
   | _=>false
  | none=>false
 | _,_=>false
def hoK (H:List Hs) (q:Nat):Bool:=H.any fun h=>h.k == q
def tgS (env:G.Env) (fr:G.Fr) (hp:G.Hp) (ops:Array Oper) (H:List Hs) (o:Oper):Option (Option Nat):=match o.op with
 | .store _ a _=>match rootT G env fr ops 8 a with
  | some q=>if stands G hp q = true then some (some q) else none
  | none=>match H with
   | h :: _=>if rootA ops 8 a = true then some (some h.k) else none
   | []=>none
 | .mapUpdate ..=>none
 | .call c=>match c.callee with
  | .builtin .append=>match c.args.toList with
   | x :: _=>match rootP G env fr ops 8 x with
    | some q=>if stands G hp q = true then some (some q) else none
    | none=>none
   | []=>none
  | .builtin _=>some none
  | .value (.func f)=>if (G.byref f || c.args.toList.any fun x=>cloB G (opT G env fr x) || mkB G ops x) = true then none else some none
  | _=>none
 | _=>some none
def tgsOf (env:G.Env) (fr:G.Fr) (hp:G.Hp) (ops:Array Oper) (H:List Hs):List (Option (Option Nat)):=ops.toList.map (tgS G env fr hp ops H)
def tgAt (tgs:List (Option (Option Nat))) (i:Nat):Option (Option Nat):=(tgs[i]?).getD none
def tgOk (H:List Hs) (st dy:Option (Option Nat)):Bool:=match st with
 | none=>true
 | some none=>decide (dy = some none)
 | some (some q')=>if hoK H q' = true then (match dy with
  | some (some o)=>hoK H o
  | _=>false) else decide (dy = some (some q'))
def ldOk1 (H:List Hs) (hp:G.Hp) (tg:Option (Option Nat)) (ld:Ldk):Bool:=match tg with
 | some none=>true
 | some (some q')=>if hoK H q' = true then (match ld with
  | .obj o=>H.any fun h=>h.old.contains o
  | _=>false) else match ld with
  | .obj o=>q' != o && (liveAt G hp q' && liveAt G hp o)
  | .fgn=>liveAt G hp q'
  | _=>false
 | none=>false
def ldOk (H:List Hs) (hp:G.Hp) (ops:Array Oper) (tgs:List (Option (Option Nat))) (j:Nat) (ld:Ldk):Bool:=match ld with
 | .pure=>true
 | ld=>(List.range ops.size).all fun q=>q == j || ((lateOf .any ops j).contains q || ldOk1 G H hp (tgAt tgs q) ld)
def pwOk:List Hs → Bool
 | []=>true
 | h :: l=>(l.all fun h'=>h'.i != h.i && (h'.k != h.k && h'.t != h.t)) && pwOk l
def hsOk (ops:Array Oper) (H:List Hs):Bool:=pwOk H && H.all fun h=>(List.range ops.size).all fun q=>q == h.i || match ops[q]? with
  | some o=>decide (o.dst ≠ some h.t)
  | none=>true
def junkAt (fr:G.Fr) (t:Nat):Bool:=match fr[t]? with
 | some (.t (.c .junk))=>true
 | _=>false
def pendOk (H:List Hs) (L:Array Bool) (fr:G.Fr):Bool:=H.all fun h=>L.getD h.i false || junkAt G fr h.t
def zsC (zs:List Value):List G.C:=zs.map fun v=>.pv (.val v)
def hsL (H:List Hs) (L:Array Bool):Array Bool:=H.foldl (fun L h=>L.setIfInBounds h.i true) L
def hsF (H:List Hs) (fr:G.Fr):G.Fr:=H.foldl (fun fr h=>fr.set h.t (.t (.c (.ptr h.k 0)))) fr
def hsP (H:List Hs) (hp:G.Hp):G.Hp:=H.foldl (fun hp h=>hp.set h.k (.box (zsC G h.zs))) hp
def depOn (ops:Array Oper) (q i:Nat):Bool:=match ops[q]? with
 | some o=>o.after.any fun e=>Region.binds .any e && e.on == i
 | none=>false
structure Bs (U:Type) where
 i:Nat
 a:Tmp
 t:Tmp
 u:U
 n:Nat
def rowB (b:Bs G.U):G.O:=.row false b.u (List.replicate b.n (G.zero b.u))
def pndB (b:Bs G.U):G.O:=.pendr b.u (List.replicate b.n (G.zero b.u))
def bsL {U:Type} (B:List (Bs U)) (L:Array Bool):Array Bool:=B.foldl (fun L b=>L.setIfInBounds b.i true) L
def bsF:List (Bs G.U) → Nat → G.Fr → G.Fr
 | [],_,fr=>fr
 | b :: B,k,fr=>bsF B (k + 1) (fr.set b.t (.t (.c (.os k))))
def bsJ:List (Bs G.U) → G.Fr → G.Fr
 | [],fr=>fr
 | b :: B,fr=>bsJ B (fr.set b.t (.t (.c .junk)))
def bsP:List (Bs G.U) → Nat → G.Hp → G.Hp
 | [],_,hp=>hp
 | b :: B,k,hp=>bsP B (k + 1) (hp.set k (rowB G b))
def batchK (env:G.Env) (fr:G.Fr) (ops:Array Oper):List Nat → (List (Bs G.U) → Option β) → Option β
 | [],k=>k []
 | i :: l,k=>match ops[i]? with
  | some o=>match o.op,o.guard,o.dst with
   | .makeSlice ty (.tmp a) (.tmp a'),none,some t=>match env[t]? with
    | some (some _)=>none
    | _=>if a = a' ∧ t < fr.length then (match G.elt ty,(opT G env fr (.tmp a)).bind (valOf G) with
     | some u,some (.int _ z)=>if 0 ≤ z ∧ z ≤ 16777216 then batchK env fr ops l (fun B=>k (⟨i,a,t,u,z.toNat⟩ :: B)) else none
     | _,_=>none) else none
   | _,_,_=>none
  | none=>none
def pwB {U:Type}:List (Bs U) → Bool
 | []=>true
 | b :: B=>(B.all fun b'=>b'.i != b.i && b'.t != b.t) && pwB B
def bsOk (ops:Array Oper) (H:List Hs) (L:Array Bool) (B:List (Bs G.U)):Bool :=
 pwB B && ((B.all fun b=>(B.all fun b'=>b'.t != b.a) && H.all fun h=>h.t != b.a && (h.t != b.t && h.i != b.i)) &&
  B.all fun b=>(Region.ready .any ops (hsL H (bsL (B.filter (fun b'=>b'.i != b.i)) L))).all fun q=>q == b.i)
noncomputable def eqK {β:Type} (l:List (Option β)):Option β:=match l with
 | []=>none
 | a :: tl=>open Classical in if ∀ b ∈ tl,b = a then a else none
theorem eqK_mem {β:Type} {l:List (Option β)} {r:β} (h:eqK l = some r):∀ b ∈ l,b = some r:=by
 unfold eqK at h
 split at h
 ·cases h
 ·rename_i a tl
  split at h
  ·rename_i hall
   intro b hb
   rcases List.mem_cons.1 hb with rfl | hb
   ·exact h
   ·rw [hall b hb];exact h
  ·cases h
theorem eqK_two {β:Type} (a:Option β):eqK [a,a] = a:=by unfold eqK;simp
theorem eqK_three {β:Type} (a:Option β):eqK [a,a,a] = a:=by unfold eqK;simp
theorem eqK_swap {β:Type} (A B:Prop) [Decidable A] [Decidable B] (x:Option β):eqK [if A then (if B then x else none) else none,if B then (if A then x else none) else none] = if A then (if B then x else none) else none:=by
 have e:(if B then (if A then x else none) else none) = if A then (if B then x else none) else none:=by
  by_cases h1:A <;> by_cases h2:B <;> simp [h1,h2]
 rw [e]
 exact eqK_two _
def allMk (ops:Array Oper) (l:List Nat):Bool:=l.all fun i=>match ops[i]? with
 | some o=>match o.op with
  | .makeSlice _ _ _=>true
  | _=>false
 | none=>false
def mkAlone (ops:Array Oper) (H:List Hs) (L:Array Bool) (l:List Nat):Bool:=l.all fun i=>(Region.ready .any ops (hsL H ((l.filter fun q=>q != i).foldl (fun L q=>L.setIfInBounds q true) L))).all fun q=>q == i
def qOk (env:G.Env) (ops:Array Oper) (tgs:List (Option (Option Nat))) (H:List Hs) (L:Array Bool) (fr:G.Fr) (hp:G.Hp) (j:Nat):Bool:=match ops[j]? with
 | some o=>Region.free .any ops L j && (frs G ops fr o).all fun fr=>ldOk G H hp ops tgs j (ldkOf G env fr o)
 | none=>false
noncomputable def drawK (K:G.KT) (env:G.Env) (ops:Array Oper) (tgs:List (Option (Option Nat))) (H:List Hs):Nat → Array Bool → G.Fr → G.Hp → (G.Fr → G.Hp → Option β) → Option β
 | 0,L,fr,hp,k=>match Region.ready .any ops L with
  | []=>k fr hp
  | _=>none
 | f + 1,L,fr,hp,k=>match Region.ready .any ops L with
  | []=>k fr hp
  | i0 :: l0=>if pendOk G H L fr = true then (match frzL G env (frzN G env fr ops (i0 :: l0)) fr hp with
   | (fr,hp)=>if pendOk G H L fr = true then (match (i0 :: l0).filter fun i=>!(H.any fun h=>h.i == i) with
   | []=>if ((Region.ready .any ops (hsL H L)).all fun q=>(H.filter fun h=>!L.getD h.i false).all fun h=>depOn ops q h.i) = true then
     drawK K env ops tgs H f (hsL (H.filter fun h=>!L.getD h.i false) L) (hsF G (H.filter fun h=>!L.getD h.i false) fr) (hsP G (H.filter fun h=>!L.getD h.i false) hp) k else none
   | i :: rest=>match firstQ P ops ((i :: rest).filter (qOk G env ops tgs H L fr hp)) with
    | some (j,o,_)=>if Region.free .any ops L j = true ∧ ((frs G ops fr o).all fun fr=>ldOk G H hp ops tgs j (ldkOf G env fr o)) = true then
      stepK G K env ops fr hp o fun fr hp=>drawK K env ops tgs H f (L.setIfInBounds j true) fr hp k else none
    | none=>match rest,ops[i]? with
     | [],some o=>if ((Region.ready .any ops (hsL H L)).all fun q=>(i0 :: l0).contains q) = true ∧ ((frs G ops fr o).all fun fr=>tgOk H (tgAt tgs i) (opTg G env fr o)) = true then
       stepK G K env ops fr hp o fun fr hp=>drawK K env ops tgs H f (L.setIfInBounds i true) fr hp k else none
     | j :: rest',_=>if (allMk ops (i :: j :: rest') && mkAlone ops H L (i :: j :: rest')) = true then batchK G env fr ops (i :: j :: rest') fun B=>if bsOk G ops H L B = true then drawK K env ops tgs H f (bsL B L) (bsF G B hp.length (bsJ G B fr)) (bsP G B hp.length (hp ++ B.map (pndB G))) k else none
      else eqK ((i :: j :: rest').map fun q=>match ops[q]? with
       | some o=>if ((Region.ready .any ops (hsL H L)).all fun q=>(i0 :: l0).contains q) = true ∧ ((frs G ops fr o).all fun fr=>tgOk H (tgAt tgs q) (opTg G env fr o)) = true then
         stepK G K env ops fr hp o fun fr hp=>drawK K env ops tgs H f (L.setIfInBounds q true) fr hp k else none
       | none=>none)
     | _,_=>none) else none) else none
def hsFr (H:List Hs) (fr:G.Fr):G.Fr:=H.foldl (fun fr h=>fr.set h.t (.t (.c .junk))) fr
def hoistA (env:G.Env) (ops:Array Oper) (hp:G.Hp):List Hs:=hoistL G env ops ((List.range hp.length).filter (stands G hp)) (Region.ready .any ops (Array.replicate ops.size false)) hp.length
noncomputable def drawAll (K:G.KT) (env:G.Env) (ops:Array Oper) (fr:G.Fr) (hp:G.Hp) (k:G.Fr → G.Hp → Option β):Option β :=
 if hsOk ops (hoistA G env ops hp) = true then
  drawK G K env ops (tgsOf G env fr hp ops (hoistA G env ops hp)) (hoistA G env ops hp) (ops.size + 1) (Array.replicate ops.size false)
   (hsFr G (hoistA G env ops hp) fr) (hp ++ (hoistA G env ops hp).map fun h=>.pend h.zs) k
 else none
section
variable {G} {w w' w0:World} {m m':Nat → Value} {r:β} {N:Nat} {hp hp':G.Hp} {env:G.Env} {fr:G.Fr} {tmps:Array Value} {ds:List Deferred} [Held]
theorem q_call {K:G.KT} {o:Oper} {k:G.Fr → G.Hp → G.D → Option β} {c:Call} (hh:HRel G N hp m w) (hf:FRel G env fr hp m tmps w) (h:callK G K env fr hp c k = some r) (ho:o.op = .call c) (hq:c.callee = .builtin .len ∨ c.callee = .builtin .max ∨ c.callee = .builtin .min) :
  QRes G N env fr hp m tmps ds w o k r (match c.callee with | .builtin .len=>if c.argTypes.toList.any (isMapT P) = true then .all else .pure | _=>.pure):=by
 obtain ⟨dst,op,ty,pos,after,guard⟩:=o
 simp only at ho
 subst ho
 obtain ⟨callee,args,ats⟩:=c
 unfold callK at h
 simp only at h hq
 have fin:∀ (b:Builtin) (s:Sem Value) (v:Value) (w':World),(∀ cs,builtin b ats ty cs (args.map (⟨tmps,ds⟩:Act).eval) = (do pure (.value (← s)):Sem Next)) → s.run P w' = .ok v w' →
   (execOp (⟨tmps,ds⟩:Act).eval (Oper.mk dst (.call ⟨.builtin b,args,ats⟩) ty pos after guard)).run P w' = .ok (.value v) w':=by
  intro b s v w' he hr
  simp only [execOp,resolve,Sem.run_bind,Sem.run_pure,Result.andThen_ok,invoke]
  rw [he]
  simp only [Sem.run_bind,hr,Result.andThen_ok,Sem.run_pure]
 rcases hq with rfl | rfl | rfl
 ·simp only at h
  split at h
  ·rename_i ts hts
   have hargs:=hf.opTs (ds:=ds) hts
   generalize hv:args.toList.map (⟨tmps,ds⟩:Act).eval = vs at hargs
   have harr:args.map (⟨tmps,ds⟩:Act).eval = vs.toArray:=by rw [map_arr,hv]
   split at h
   ·rename_i t x _ hat
    cases hargs with
    | cons hx ht =>
     cases ht
     have e1:ats = #[t]:=Array.toList_inj.1 hat
     split at h
     ·rename_i hm
      obtain ⟨v,y,h1,h2,h3⟩:=mapLenK_ok (ty:=ty) hh hx h
      have e2:ats.toList.any (isMapT P) = true:=by rw [hat];simp [hm]
      simp only [e2,if_true]
      exact ⟨v,hp,m,.t y,fun w' hw=>fin _ (Builtin.len_ ats ty (args.map (⟨tmps,ds⟩:Act).eval)) v w' (fun _=>rfl) (by rw [harr,e1];exact h1 w' hw),hh,hf,h2,Kp.refl _ _ _,h3⟩
     obtain ⟨v,y,h1,h2,h3⟩:=lenK_ok (ty:=ty) hh hx h
     exact ⟨v,hp,m,.t y,fun w' _=>fin _ (Builtin.len_ ats ty (args.map (⟨tmps,ds⟩:Act).eval)) v w' (fun _=>rfl) (by rw [harr,e1];exact h1 w'),hh,hf,h2,Kp.refl _ _ _,h3⟩
   all_goals first
    | (cases h;done)
    | (exfalso;contradiction)
  ·cases h
 ·simp only at h
  split at h
  ·rename_i ts hts
   have hargs:=hf.opTs (ds:=ds) hts
   generalize hv:args.toList.map (⟨tmps,ds⟩:Act).eval = vs at hargs
   have harr:args.map (⟨tmps,ds⟩:Act).eval = vs.toArray:=by rw [map_arr,hv]
   obtain ⟨v,y,h1,h2,h3⟩:=maxK_ok (P:=P) (ts:=ats) (ty:=ty) hargs h
   exact ⟨v,hp,m,.t y,fun w' _=>fin _ (Builtin.max_ ats ty (args.map (⟨tmps,ds⟩:Act).eval)) v w' (fun _=>rfl) (by rw [harr];exact h1 w'),hh,hf,h2,Kp.refl _ _ _,h3⟩
  ·cases h
 ·simp only at h
  split at h
  ·rename_i ts hts
   have hargs:=hf.opTs (ds:=ds) hts
   generalize hv:args.toList.map (⟨tmps,ds⟩:Act).eval = vs at hargs
   have harr:args.map (⟨tmps,ds⟩:Act).eval = vs.toArray:=by rw [map_arr,hv]
   obtain ⟨v,y,h1,h2,h3⟩:=minK_ok (P:=P) (ts:=ats) (ty:=ty) hargs h
   exact ⟨v,hp,m,.t y,fun w' _=>fin _ (Builtin.min_ ats ty (args.map (⟨tmps,ds⟩:Act).eval)) v w' (fun _=>rfl) (by rw [harr];exact h1 w'),hh,hf,h2,Kp.refl _ _ _,h3⟩
  ·cases h
theorem q_all (hok:G.Ok) {K:G.KT} {o:Oper} {k:G.Fr → G.Hp → G.D → Option β} {ld:Bool} (hh:HRel G N hp m w) (hf:FRel G env fr hp m tmps w) (h:opK G K env fr hp o k = some r) (hq:isQ P o = some ld):QRes G N env fr hp m tmps ds w o k r (ldkOf G env fr o):=by
 unfold isQ at hq
 have pure:ldkOf G env fr o = .pure → QRes G N env fr hp m tmps ds w o k r .pure → QRes G N env fr hp m tmps ds w o k r (ldkOf G env fr o):=fun e h=>by rw [e];exact h
 cases ho:o.op with
 | load t a=>exact q_load hok hh hf h ho
 | lookup t a s c =>
  have e:ldkOf G env fr o = .all:=by unfold ldkOf;rw [ho]
  rw [e]
  cases c with
  | false=>exact q_lookup hh hf h ho
  | true=>exact q_lookup2 hok hh hf h ho
 | move x=>exact pure (by unfold ldkOf;rw [ho]) (q_move hh hf h ho)
 | assign x=>exact pure (by unfold ldkOf;rw [ho]) (q_assign hh hf h ho)
 | pick c a b=>exact pure (by unfold ldkOf;rw [ho]) (q_pick hh hf h ho)
 | build t ps=>exact pure (by unfold ldkOf;rw [ho]) (q_build hh hf h ho)
 | nilCheck x=>exact pure (by unfold ldkOf;rw [ho]) (q_nilCheck hh hf h ho)
 | binOp op t x y u=>exact pure (by unfold ldkOf;rw [ho]) (q_binOp hh hf h ho)
 | unOp op t x=>exact pure (by unfold ldkOf;rw [ho]) (q_unOp hh hf h ho)
 | convert s t x=>exact pure (by unfold ldkOf;rw [ho]) (q_convert hh hf h ho)
 | makeFunc f a b=>exact pure (by unfold ldkOf;rw [ho]) (q_makeFunc hh hf h ho)
 | slice t x lo hi mx =>
  cases mx with
  | none=>exact pure (by unfold ldkOf;rw [ho]) (q_slice hok hh hf h ho)
  | some _=>unfold opK at h;rw [ho] at h;cases h
 | fieldAddr t x f=>exact pure (by unfold ldkOf;rw [ho]) (q_fieldAddr hh hf h ho)
 | field t x f=>exact pure (by unfold ldkOf;rw [ho]) (q_field hh hf h ho)
 | indexAddr t x i=>exact pure (by unfold ldkOf;rw [ho]) (q_indexAddr hok hh hf h ho)
 | index t x i=>exact pure (by unfold ldkOf;rw [ho]) (q_index hh hf h ho)
 | makeInterface t x=>exact pure (by unfold ldkOf;rw [ho]) (q_makeInterface hh hf h ho)
 | typeAssert x xt t b=>exact pure (by unfold ldkOf;rw [ho]) (q_typeAssert hh hf h ho)
 | extract x i =>
  cases x with
  | tmp t=>exact pure (by unfold ldkOf;rw [ho]) (q_extract hh hf h ho)
  | const _=>unfold opK at h;rw [ho] at h;cases h
  | global _=>unfold opK at h;rw [ho] at h;cases h
  | func _=>unfold opK at h;rw [ho] at h;cases h
 | call c =>
  rw [ho] at hq
  unfold opK at h
  rw [ho] at h
  have e:ldkOf G env fr o = (match c.callee with | .builtin .len=>if c.argTypes.toList.any (isMapT P) = true then .all else .pure | _=>.pure):=by unfold ldkOf;rw [ho] <;> rfl
  rw [e]
  revert hq
  simp only
  split <;> intro hq
  ·rename_i hc
   exact q_call hh hf h ho (.inl hc)
  ·rename_i hc
   exact q_call hh hf h ho (.inr (.inl hc))
  ·rename_i hc
   exact q_call hh hf h ho (.inr (.inr hc))
  ·cases hq
 | _=>rw [ho] at hq;cases hq
theorem frs_cases {ops:Array Oper} {o:Oper} {k:G.Fr → G.Hp → Option β} {K:G.KT} {X:Prop} (hr:Rl G N w0 env fr hp m tmps w) (h:stepK G K env ops fr hp o k = some r)
  (exec:∀ fr1:G.Fr,fr1 ∈ frs G ops fr o → FRel G env fr1 hp m tmps w → execK G K env fr1 hp o k = some r → Region.wanted o (yielded ops tmps) = true → X)
  (skip:∀ fr1:G.Fr,FRel G env fr1 hp m tmps w → skipK G env fr1 hp o k = some r → Region.wanted o (yielded ops tmps) = false → X):X:=by
 unfold stepK at h
 split at h
 ·rename_i hg
  exact exec fr (by unfold frs;rw [hg];simp) hr.hf h (by simp [Region.wanted,hg])
 ·rename_i j want hg
  split at h
  ·rename_i t ht
   split at h
   ·cases h
   ·rename_i b hfr hne
    have hb:tmps.getD t undef = .bool b:=by
     have h0:RepT G w (Rof G hp m w) hp.length m (.c (.pv (.val (.bool b)))) (tmps.getD t undef):=hr.hf.fr t _ hfr
     exact (valOf_rep (v:=.bool b) rfl h0).1
    have hy:=yielded_of ht hb
    have hin:∀ c:Bool,fr.set t (bV G c) ∈ frs G ops fr o:=by
     intro c
     unfold frs
     rw [hg]
     simp only [ht]
     cases c <;> simp
    have hfs:∀ c,b = c → FRel G env (fr.set t (bV G c)) hp m tmps w:=by
     intro c hc
     subst hc
     have:=hr.hf.set (t:=t) (d:=bV G b) (v:=.bool b) (RepP.val _ rfl) (fun x hx=>hne x hx)
     have hs:tmps.setIfInBounds t (.bool b) = tmps:=by
      apply Array.ext_getElem?
      intro i
      rw [Array.getElem?_setIfInBounds]
      split
      ·rename_i hi
       subst hi
       rcases Nat.lt_or_ge t tmps.size with h | h
       ·simp [h] at hb
        simp [h,hb]
       ·simp [h]
      ·rfl
     rw [hs] at this
     exact this
    cases want <;> cases b <;> simp only [cond_true,cond_false] at h
    ·exact exec _ (hin _) (hfs _ rfl) h (by simp [Region.wanted,hg,hy])
    ·exact skip _ (hfs _ rfl) h (by simp [Region.wanted,hg,hy])
    ·exact skip _ (hfs _ rfl) h (by simp [Region.wanted,hg,hy])
    ·exact exec _ (hin _) (hfs _ rfl) h (by simp [Region.wanted,hg,hy])
   ·rename_i hfr _
    have hb:tmps.getD t undef = .tuple #[]:=by
     obtain ⟨vs,h1,h2,_⟩:=hr.hf.fr t _ hfr
     obtain rfl:vs = []:=List.eq_nil_of_length_eq_zero h2
     exact h1
    exact skip _ hr.hf h (by simp [Region.wanted,hg,unyielded ht hb])
   ·cases h
  ·cases h
theorem stepQ_ok (hok:G.Ok) {K:G.KT} {ops:Array Oper} {o:Oper} {ld:Bool} {k:G.Fr → G.Hp → Option β} {C:Ldk → Prop} (hr:Rl G N w0 env fr hp m tmps w) (h:stepK G K env ops fr hp o k = some r) (hq:isQ P o = some ld) (hC:∀ fr1 ∈ frs G ops fr o,C (ldkOf G env fr1 o)) (hC0:C .pure) :
  ∃ v fr' hp' m' ld,C ld ∧ YieldsIf P ops (fun w'=>LdSame G hp m w w' ld) o v ⟨tmps,ds⟩ ∧ Rl G N w0 env fr' hp' m' ((⟨tmps,ds⟩:Act).put o.dst v).tmps w ∧ Kp G hp m w hp' m' w ∧ (⟨tmps,ds⟩:Act).put o.dst v = ⟨((⟨tmps,ds⟩:Act).put o.dst v).tmps,ds⟩ ∧
   ((⟨tmps,ds⟩:Act).put o.dst v).tmps.size = tmps.size ∧ k fr' hp' = some r:=by
 refine frs_cases hr h ?_ ?_
 ·intro fr1 hin hf h hw
  obtain ⟨v,hp1,m1,d,h1,h2,h3,h4,h5,h6⟩:=q_all hok hr.hh hf h hq
  obtain ⟨fr2,h7,h8,h9,h10⟩:=setK_ok h6 h3 h4
  exact ⟨v,fr2,hp1,m1,_,hC fr1 hin,.inl ⟨hw,h1⟩,⟨h2,h7,hr.bl⟩,h5,h9,h10,h8⟩
 ·intro fr1 hf h hw
  obtain ⟨fr2,h7,h8,h9,h10⟩:=setK_ok (v:=undef) h hf ⟨[],rfl,rfl,by simp⟩
  exact ⟨undef,fr2,hp,m,.pure,hC0,.inr ⟨hw,rfl⟩,⟨hr.hh,h7,hr.bl⟩,Kp.refl _ _ _,h9,h10,h8⟩
theorem firstQ_spec {ops:Array Oper}:∀ {l:List Nat} {j:Nat} {o:Oper} {ld:Bool},firstQ P ops l = some (j,o,ld) → j ∈ l ∧ ops[j]? = some o ∧ isQ P o = some ld
 | [],j,o,ld,h=>by cases h
 | i :: l,j,o,ld,h=>by
  unfold firstQ at h
  split at h
  ·rename_i o' ho
   split at h
   ·rename_i ld' hq
    cases h
    exact ⟨List.mem_cons_self,ho,hq⟩
   ·obtain ⟨h1,h2⟩:=firstQ_spec h
    exact ⟨List.mem_cons_of_mem _ h1,h2⟩
  ·obtain ⟨h1,h2⟩:=firstQ_spec h
   exact ⟨List.mem_cons_of_mem _ h1,h2⟩
def TgR (H:List Hs) (m:Nat → Value) (wS:World) (tgs:List (Option (Option Nat))) (i:Nat) (w w':World):Prop:=w.heap.size ≤ w'.heap.size ∧ match tgAt tgs i with
 | some (some q')=>if hoK H q' = true then (∀ b,b < wS.heap.size → w'.heap[b]? = w.heap[b]?) else TgB m w w' (some (some q'))
 | x=>TgB m w w' x
theorem TgR.of_later {H:List Hs} {m:Nat → Value} {wS w w':World} {tgs:List (Option (Option Nat))} {i:Nat} (h:∀ b,b < w.heap.size → w'.heap[b]? = w.heap[b]?) (hs:wS.heap.size ≤ w.heap.size) (hsz:w.heap.size ≤ w'.heap.size):TgR H m wS tgs i w w':=by
 refine ⟨hsz,?_⟩
 split
 ·split
  ·exact fun b hb=>h b (by omega)
  ·exact TgB.of_later h _
 ·exact TgB.of_later h _
theorem TgR.refl (H:List Hs) (m:Nat → Value) (wS:World) (tgs:List (Option (Option Nat))) (i:Nat) (w:World):TgR H m wS tgs i w w:=by
 refine ⟨Nat.le_refl _,?_⟩
 split
 ·split
  ·exact fun _ _=>rfl
  ·exact TgB.refl _ _ _
 ·exact TgB.refl _ _ _
structure HsW (G:Sg P) (env:G.Env) (ops:Array Oper) (H:List Hs) (nS:Nat):Prop where
 op:∀ h ∈ H,∃ o z,ops[h.i]? = some o ∧ o.op = .alloc h.ty ∧ o.guard = none ∧ o.dst = some h.t ∧ (∀ w,(zeroValue h.ty).run P w = .ok z w) ∧ z.cells.toList = h.zs ∧ ∀ x ∈ h.zs,x.oneCell' = true
 env:∀ h ∈ H,∀ d,env[h.t]? ≠ some (some d)
 k:∀ h ∈ H,nS ≤ h.k
 dst:∀ h ∈ H,∀ (q:Nat) (o:Oper),ops[q]? = some o → q ≠ h.i → o.dst ≠ some h.t
 nd:∀ h ∈ H,∀ h' ∈ H,h' = h ∨ (h'.i ≠ h.i ∧ h'.k ≠ h.k ∧ h'.t ≠ h.t)
 pw:H.Pairwise fun h h'=>h'.i ≠ h.i
 rdy:∀ h ∈ H,h.i ∈ Region.ready .any ops (Array.replicate ops.size false)
structure PI (G:Sg P) (N:Nat) (w0:World) (env:G.Env) (ops:Array Oper) (H:List Hs) (hpS:G.Hp) (mS:Nat → Value) (wS:World) (sz:Nat) (L L':Array Bool) (fr:G.Fr) (hp:G.Hp) (m:Nat → Value) (tmps:Array Value) (w:World):Prop where
 rl:Rl G N w0 env fr hp m tmps w
 kp:Kp G hpS mS wS hp m w
 clo:ClosedL .any ops L'
 szL:L.size = ops.size
 szL':L'.size = ops.size
 szT:tmps.size = sz
 le:∀ i:Nat,L.getD i false = true → L'.getD i false = true
 ge:∀ i:Nat,L'.getD i false = true → L.getD i false = true ∨ ∃ h ∈ H,h.i = i
 pd:∀ h ∈ H,L.getD h.i false = false → hp[h.k]? = some (.pend h.zs)
 al:∀ h ∈ H,L.getD h.i false = false → (L'.getD h.i false = false ∧ m h.k = .tuple #[]) ∨ (L'.getD h.i false = true ∧ tmps.getD h.t undef = m h.k ∧ ∃ b,m h.k = .pointer (some ⟨b,0,none⟩))
 szw:wS.heap.size ≤ w.heap.size
 fh:∀ h ∈ H,(∃ ob,hp[h.k]? = some ob ∧ ob.mov = false) ∧ ∀ b,blkOf (m h.k) = some b → wS.heap.size ≤ b
theorem PI.frz {ops:Array Oper} {H:List Hs} {hpS:G.Hp} {mS:Nat → Value} {wS:World} {sz:Nat} {L L':Array Bool} (pi:PI G N w0 env ops H hpS mS wS sz L L' fr hp m tmps w) (l:List Nat):PI G N w0 env ops H hpS mS wS sz L L' (frzL G env l fr hp).1 (frzL G env l fr hp).2 m tmps w:=by
 obtain ⟨h1,h2⟩:=frzL_ok l pi.rl
 exact ⟨h1,pi.kp.trans h2,pi.clo,pi.szL,pi.szL',pi.szT,pi.le,pi.ge,fun h hh hL=>h2.lk _ _ (pi.pd h hh hL) rfl,pi.al,pi.szw,fun h hh=>by
  obtain ⟨⟨ob,e1,e2⟩,e3⟩:=pi.fh h hh
  obtain ⟨_,ob',e4,e5⟩:=h2.mv _ _ e1 e2
  exact ⟨⟨ob',e4,e5⟩,e3⟩⟩
theorem getD_tf {L:Array Bool} {i:Nat} (h:i < L.size):L.getD i true = L.getD i false:=by simp [h]
theorem getD_lt {L:Array Bool} {i:Nat} (h:L.getD i true = false):i < L.size:=by
 rcases Nat.lt_or_ge i L.size with h' | h'
 ·exact h'
 ·simp [Array.getElem?_eq_none h'] at h
theorem getD_set_t {L:Array Bool} {i j:Nat} (h:(L.setIfInBounds i true).getD j false = true):L.getD j false = true ∨ j = i:=by
 by_cases e:i = j
 ·exact .inr e.symm
 ·rw [getD_set_ne false e] at h;exact .inl h
theorem getD_set_f {L:Array Bool} {i j:Nat} (hi:i < L.size) (h:(L.setIfInBounds i true).getD j false = false):L.getD j false = false ∧ j ≠ i:=by
 by_cases e:i = j
 ·subst e;simp [hi] at h
 ·rw [getD_set_ne false e] at h;exact ⟨h,fun e'=>e e'.symm⟩
theorem RepC.nok {R:Nat → Prop} {n k:Nat} {c:G.C} {v:Value} (h:RepC G w R n m c v) (hk:m k = .tuple #[]):k ∉ refs G c:=by
 intro hr
 cases c with
 | os o =>
  have e:k = o:=by simpa [refs] using hr
  subst e
  obtain ⟨_,h1,h2⟩:=h
  rw [h1,hk] at h2;cases h2
 | ptr o f =>
  have e:k = o:=by simpa [refs] using hr
  subst e
  obtain ⟨_,b,h1,_⟩:=h
  rw [hk] at h1;cases h1
 | ep u o i j =>
  have e:k = o:=by simpa [refs] using hr
  subst e
  obtain ⟨_,b,_,_,h1,_⟩:=h
  rw [hk] at h1;cases h1
 | pre o q =>
  have e:k = o:=by simpa [refs] using hr
  subst e
  obtain ⟨_,b,C,h1,_⟩:=h
  rw [hk] at h1;cases h1
 | bs u o q =>
  have e:k = o:=by simpa [refs] using hr
  subst e
  obtain ⟨_,b,h1,_⟩:=h
  rw [hk] at h1;cases h1
 | clo f caps =>
  obtain ⟨vs,_,_,h3⟩:=h
  have hr':k ∈ caps:=hr
  obtain ⟨i,hi,e⟩:=List.mem_iff_getElem.1 hr'
  obtain ⟨_,b,h1,_⟩:=h3 i k (by rw [List.getElem?_eq_getElem hi,e])
  rw [hk] at h1;cases h1
 | junk=>cases hr
 | pv p=>cases hr
 | rp cells=>cases hr
 | fn u r F=>cases hr
theorem RepL.nok {R:Nat → Prop} {n k:Nat} {cs:List G.C} {vs:List Value} (h:RepL G w R n m cs vs) (hk:m k = .tuple #[]):k ∉ cs.flatMap (refs G):=by
 intro hr
 obtain ⟨c,hc,hr⟩:=List.mem_flatMap.1 hr
 obtain ⟨i,hi,rfl⟩:=List.mem_iff_getElem.1 hc
 obtain ⟨x,_,h2⟩:=h.2 i _ (List.getElem?_eq_getElem hi)
 exact h2.nok hk hr
theorem RepT.nok {R:Nat → Prop} {n k:Nat} {t:G.T} {v:Value} (h:RepT G w R n m t v) (hk:m k = .tuple #[]):k ∉ refsT t:=by
 cases t with
 | c x=>exact RepC.nok h hk
 | agg cs=>obtain ⟨vs,_,hl⟩:=h;exact hl.nok hk
theorem RepD.nok {R:Nat → Prop} {n k:Nat} {d:G.D} {v:Value} (h:RepD G w R n m d v) (hk:m k = .tuple #[]):k ∉ refsD d:=by
 cases d with
 | t x=>exact RepT.nok h hk
 | tup ts =>
  obtain ⟨vs,_,_,hv⟩:=h
  intro hr
  obtain ⟨t,ht,hr⟩:=List.mem_flatMap.1 hr
  obtain ⟨i,hi,rfl⟩:=List.mem_iff_getElem.1 ht
  obtain ⟨x,_,h2⟩:=hv i _ (List.getElem?_eq_getElem hi)
  exact h2.nok hk hr
theorem RepO.nok {R:Nat → Prop} {n k o:Nat} {ob:G.O} (h:RepO G w R n m N o ob) (hk:m k = .tuple #[]):k ∉ refsO ob:=by
 cases ob with
 | box cs=>obtain ⟨b,t,vs,_,_,_,e4,_⟩:=h;exact e4.nok hk
 | lock cs=>obtain ⟨b,t,vs,_,_,_,e4,_⟩:=h;exact e4.nok hk
 | _=>intro hr;cases hr
section
variable {ops:Array Oper} {H:List Hs} {hpS:G.Hp} {mS:Nat → Value} {wS:World} {sz:Nat} {L L':Array Bool} {tgs:List (Option (Option Nat))}
theorem HsW.now (hw:HsW G env ops H hpS.length) {h:Hs} (hh:h ∈ H) (hL:L.size = ops.size) (hun:L.getD h.i false = false):h.i ∈ Region.ready .any ops L:=by
 obtain ⟨o,z,h1,_⟩:=hw.op h hh
 obtain ⟨_,o',h2,h3⟩:=mem_ready.1 (hw.rdy h hh)
 rw [h1] at h2
 cases h2
 have hlt:h.i < L.size:=by rw [hL];exact (Array.getElem?_eq_some_iff.1 h1).1
 exact mem_ready.2 ⟨by rw [getD_tf hlt];exact hun,o,h1,fun e he hb=>by have:=h3 e he hb;rw [getD_rep] at this;cases this⟩
theorem PI.early (hw:HsW G env ops H hpS.length) (pi:PI G N w0 env ops H hpS mS wS sz L L' fr hp m tmps w) {h:Hs} (hh:h ∈ H) (hun:L.getD h.i false = false) (hun':L'.getD h.i false = false) (hj:junkAt G fr h.t = true) (hr':h.i ∈ Region.ready .any ops L')
  {Q:Exit → Act → World → Prop} {X:Act → World → Prop} (hX:∀ m' tmps' w',PI G N w0 env ops H hpS mS wS sz L (L'.setIfInBounds h.i true) fr hp m' tmps' w' → TgR H mS wS tgs h.i w w' → (∀ o,o ≠ h.k → m' o = m o) → (∀ t,t ≠ h.t → tmps'.getD t undef = tmps.getD t undef) → X ⟨tmps',ds⟩ w'):wpOp P ops Q h.i X ⟨tmps,ds⟩ w:=by
 obtain ⟨o,z,h1,h2,h3,h4,h5,h6,h7⟩:=hw.op h hh
 have hpd:=pi.pd h hh hun
 have hmk:m h.k = .tuple #[]:=by
  rcases pi.al h hh hun with ⟨_,e⟩ | ⟨e,_⟩
  ·exact e
  ·rw [hun'] at e;cases e
 have hfr:fr[h.t]? = some (.t (.c .junk)):=by
  unfold junkAt at hj
  split at hj
  ·assumption
  ·cases hj
 have hlt:h.t < tmps.size:=by rw [pi.rl.hf.len];exact (List.getElem?_eq_some_iff.1 hfr).1
 unfold wpOp
 rw [h1]
 simp only [Region.wanted,h3,if_true]
 refine .inl (wp_val (s:=Instr.alloc h.ty true (.tuple #[])) (v:=.pointer (some ⟨w.heap.size,0,none⟩)) (w':=w.alloc (.cells z.cells h.ty)) (by simp only [execOp,h2]) (by simp [Instr.alloc,h5,newVar,newRow,newObj,Sem.run]) ?_)
 have hput:(⟨tmps,ds⟩:Act).put o.dst (.pointer (some ⟨w.heap.size,0,none⟩)) = ⟨tmps.setIfInBounds h.t (.pointer (some ⟨w.heap.size,0,none⟩)),ds⟩:=by rw [h4];rfl
 rw [hput]
 have hold:∀ b,b < w.heap.size → (w.alloc (.cells z.cells h.ty)).heap[b]? = w.heap[b]?:=fun b hb=>alloc_old w _ hb
 have hro:∀ b,Rof G hp m w b → Rof G hp (mAt m h.k (.pointer (some ⟨w.heap.size,0,none⟩))) (w.alloc (.cells z.cells h.ty)) b:=by
  rintro b ⟨hb1,hb2⟩
  refine ⟨by simp;omega,?_⟩
  rintro (hS | ⟨q,ob,hq,hl,hbk⟩)
  ·exact hb2 (.inl hS)
  by_cases e:q = h.k
  ·subst e
   rw [mAt_same] at hbk
   obtain rfl:w.heap.size = b:=by simpa [blkOf] using hbk
   omega
  ·rw [mAt_other _ _ _ e] at hbk
   exact hb2 (.inr ⟨q,ob,hq,hl,hbk⟩)
 have hsame:∀ b,Rof G hp m w b → (w.alloc (.cells z.cells h.ty)).heap[b]? = w.heap[b]?:=fun b hb=>hold b hb.1
 refine hX (mAt m h.k (.pointer (some ⟨w.heap.size,0,none⟩))) _ _ ⟨⟨⟨fun q ob hq=>?_,fun q q' ob ob' b hq hq' hl hl' hb hb'=>?_,by have:=pi.rl.hh.base;simp;omega,pi.rl.hh.held,pi.rl.hh.gh.mono fun b hb=>hold b (by have:=pi.rl.hh.base;omega)⟩,⟨by simp [pi.rl.hf.len],fun t d hd=>?_,fun t d hd=>?_⟩,pi.rl.bl.trans ((Below.refl _ _).alloc pi.rl.hh.base _)⟩,
  ⟨fun b hb=>hro b (pi.kp.ro b hb),fun b hb=>(hsame b (pi.kp.ro b hb)).trans (pi.kp.heap b hb),pi.kp.lk,fun q ob hq hm=>?_,pi.kp.len,fun q os p hq hp' hl=>?_,fun q ob b hq hlk hl hb=>(hold b ((pi.rl.hh.obj q ob (pi.kp.lk q ob hq hlk)).blk hl (by rw [(pi.kp.mv q ob hq (lockd_mov hlk)).1];exact hb)).2).trans (pi.kp.hlk q ob b hq hlk hl hb)⟩,pi.clo.set hr',pi.szL,by simp [pi.szL'],by simp [pi.szT],fun i hi=>getD_set_true (pi.le i hi),fun i hi=>?_,pi.pd,fun h' hh' hun2=>?_,by have:=pi.szw;simp;omega,fun h' hh'=>?_⟩ (TgR.of_later hold pi.szw (by simp)) (fun o ho=>mAt_other _ _ _ ho) (fun t ht=>by have hne:h.t ≠ t:=fun e=>ht e.symm;simp [hne])
 ·by_cases e:q = h.k
  ·subst e
   rw [hpd] at hq
   cases hq
   exact .inr ⟨w.heap.size,h.ty,z.cells,mAt_same _ _ _,pi.rl.hh.base,heap_alloc_new w _,h6,h7⟩
  ·have hnk:=(pi.rl.hh.obj q ob hq).nok hmk
   exact (pi.rl.hh.obj q ob hq).mono hro hsame (Nat.le_refl _) (fun o' ho' _=>mAt_other _ _ _ (fun e'=>hnk (e' ▸ ho'))) (mAt_other _ _ _ e) (fun b hl hb=>hold b ((pi.rl.hh.obj q ob hq).blk hl hb).2)
 ·by_cases e:q = h.k <;> by_cases e':q' = h.k
  ·rw [e,e']
  ·subst e
   rw [mAt_same] at hb
   obtain rfl:w.heap.size = b:=by simpa [blkOf] using hb
   rw [mAt_other _ _ _ e'] at hb'
   have:=((pi.rl.hh.obj q' ob' hq').blk hl' hb').2
   omega
  ·subst e'
   rw [mAt_same] at hb'
   obtain rfl:w.heap.size = b:=by simpa [blkOf] using hb'
   rw [mAt_other _ _ _ e] at hb
   have:=((pi.rl.hh.obj q ob hq).blk hl hb).2
   omega
  ·rw [mAt_other _ _ _ e] at hb
   rw [mAt_other _ _ _ e'] at hb'
   exact pi.rl.hh.sep q q' ob ob' b hq hq' hl hl' hb hb'
 ·by_cases e:h.t = t
  ·subst e
   rw [hfr] at hd
   cases hd
   trivial
  ·have h8:=pi.rl.hf.fr t d hd
   have hnk:=h8.nok hmk
   have h9:(tmps.setIfInBounds h.t (.pointer (some ⟨w.heap.size,0,none⟩))).getD t undef = tmps.getD t undef:=by simp [e]
   rw [h9]
   exact h8.mono hro hsame (Nat.le_refl _) (fun o' ho' _=>mAt_other _ _ _ (fun e'=>hnk (e' ▸ ho')))
 ·have e:h.t ≠ t:=fun e=>hw.env h hh d (e ▸ hd)
  obtain ⟨h8,h9⟩:=pi.rl.hf.env t d hd
  have hnk:=h9.nok hmk
  refine ⟨by simpa using h8,?_⟩
  have h10:(tmps.setIfInBounds h.t (.pointer (some ⟨w.heap.size,0,none⟩))).getD t undef = tmps.getD t undef:=by simp [e]
  rw [h10]
  exact h9.mono hro hsame (Nat.le_refl _) (fun o' ho' _=>mAt_other _ _ _ (fun e'=>hnk (e' ▸ ho')))
 ·have h8:=(List.getElem?_eq_some_iff.1 hq).1
  have h9:=hw.k h hh
  obtain ⟨e1,e2⟩:=pi.kp.mv q ob hq hm
  exact ⟨by rw [mAt_other _ _ _ (by omega)];exact e1,e2⟩
 ·have h9:=hw.k h hh
  rw [mAt_other _ _ _ (by omega)]
  exact pi.kp.pn q os p hq hp' hl
 ·rcases getD_set_t hi with h8 | h8
  ·exact pi.ge i h8
  ·exact .inr ⟨h,hh,h8.symm⟩
 ·rcases hw.nd h hh h' hh' with rfl | ⟨n1,n2,n3⟩
  ·refine .inr ⟨?_,?_,w.heap.size,mAt_same _ _ _⟩
   ·have:=getD_lt (mem_ready.1 hr').1
    simp [this]
   ·rw [mAt_same];simp [hlt]
  ·rw [getD_set_ne false (fun e=>n1 e.symm),mAt_other _ _ _ n2]
   have hne:h.t ≠ h'.t:=fun e=>n3 e.symm
   have h9:(tmps.setIfInBounds h.t (.pointer (some ⟨w.heap.size,0,none⟩))).getD h'.t undef = tmps.getD h'.t undef:=by simp [hne]
   rw [h9]
   exact pi.al h' hh' hun2
 ·refine ⟨(pi.fh h' hh').1,fun b hb=>?_⟩
  by_cases e:h'.k = h.k
  ·rw [e,mAt_same] at hb
   obtain rfl:w.heap.size = b:=by simpa [blkOf] using hb
   exact pi.szw
  ·rw [mAt_other _ _ _ e] at hb
   exact (pi.fh h' hh').2 b hb
theorem PI.resolve (hw:HsW G env ops H hpS.length) (pi:PI G N w0 env ops H hpS mS wS sz L L' fr hp m tmps w) {h:Hs} (hh:h ∈ H) (hun:L.getD h.i false = false) (hun':L'.getD h.i false = true) :
  PI G N w0 env ops H hpS mS wS sz (L.setIfInBounds h.i true) L' (fr.set h.t (.t (.c (.ptr h.k 0)))) (hp.set h.k (.box (zsC G h.zs))) m tmps w:=by
 have hpd:=pi.pd h hh hun
 have hlt:=(List.getElem?_eq_some_iff.1 hpd).1
 obtain ⟨ht,b0,hb0⟩:tmps.getD h.t undef = m h.k ∧ ∃ b,m h.k = .pointer (some ⟨b,0,none⟩):=by
  rcases pi.al h hh hun with ⟨e,_⟩ | ⟨_,e⟩
  ·rw [hun'] at e;cases e
  ·exact e
 have hli:h.i < L.size:=by
  obtain ⟨o,z,h1,_⟩:=hw.op h hh
  rw [pi.szL];exact (Array.getElem?_eq_some_iff.1 h1).1
 have hnew:RepO G w (Rof G ((hp.map fun x=>x).set h.k (.box (zsC G h.zs))) m w) hp.length m N h.k (.box (zsC G h.zs)):=by
  rcases pi.rl.hh.obj h.k _ hpd with e | ⟨b,t,vs,e1,e2,e3,e4,e5⟩
  ·rw [hb0] at e;cases e
  ·refine ⟨b,t,vs,e1,e2,e3,⟨by simp [zsC,← e4],fun i c hi=>?_⟩,by rw [e4];exact e5⟩
   unfold zsC at hi
   rw [List.getElem?_map] at hi
   cases hz:h.zs[i]? with
   | none=>rw [hz] at hi;cases hi
   | some v=>rw [hz] at hi;cases hi;exact ⟨v,by rw [e4];exact hz,RepP.val v (e5 v (List.mem_of_getElem? hz))⟩
 obtain ⟨g1,g2,g3⟩:=pi.rl.hh.turn (w':=w) (m':=m) (ob':=.box (zsC G h.zs)) (f:=fun x=>x) hpd rfl (Nat.le_refl _) (fun _ _ _=>rfl) (fun _ _=>rfl) (fun b _ hb=>.inl hb) (.inl ⟨fun _=>rfl,rfl⟩) hnew
 rw [map_id'] at g1 g2
 have hk:=hw.k h hh
 refine ⟨⟨g1,FRel.put ((⟨pi.rl.hf.len,fun t d hd=>(pi.rl.hf.fr t d hd).mono g2 (fun _ _=>rfl) (by simp) (fun _ _ _=>rfl),fun t d hd=>⟨(pi.rl.hf.env t d hd).1,(pi.rl.hf.env t d hd).2.mono g2 (fun _ _=>rfl) (by simp) (fun _ _ _=>rfl)⟩⟩:FRel G env fr (hp.set h.k (.box (zsC G h.zs))) m tmps w)) ?_,pi.rl.bl⟩,
  ⟨fun b hb=>g2 b (pi.kp.ro b hb),pi.kp.heap,fun o ob ho hl=>?_,fun o ob ho hm=>?_,by simp only [List.length_set];exact pi.kp.len,pi.kp.pn,pi.kp.hlk⟩,pi.clo,by simp [pi.szL],pi.szL',pi.szT,fun i hi=>?_,fun i hi=>?_,fun h' hh' hun2=>?_,fun h' hh' hun2=>?_,pi.szw,fun h' hh'=>⟨?_,(pi.fh h' hh').2⟩⟩
 ·exact ⟨by simpa using hlt,b0,hb0,by rw [ht];exact hb0⟩
 ·have h8:=(List.getElem?_eq_some_iff.1 ho).1
  rw [List.getElem?_set,if_neg (by omega)]
  exact pi.kp.lk o ob ho hl
 ·have h8:=(List.getElem?_eq_some_iff.1 ho).1
  obtain ⟨e1,ob',e2,e3⟩:=pi.kp.mv o ob ho hm
  exact ⟨e1,ob',by rw [List.getElem?_set,if_neg (by omega)];exact e2,e3⟩
 ·rcases getD_set_t hi with h8 | h8
  ·exact pi.le i h8
  ·rw [h8];exact hun'
 ·rcases pi.ge i hi with h8 | h8
  ·exact .inl (getD_set_true h8)
  ·exact .inr h8
 ·obtain ⟨h8,h9⟩:=getD_set_f hli hun2
  rcases hw.nd h hh h' hh' with rfl | ⟨n1,n2,n3⟩
  ·exact absurd rfl h9
  ·rw [List.getElem?_set,if_neg (fun e=>n2 e.symm)]
   exact pi.pd h' hh' h8
 ·obtain ⟨h8,h9⟩:=getD_set_f hli hun2
  exact pi.al h' hh' h8
 ·by_cases e:h'.k = h.k
  ·exact ⟨_,by rw [e,List.getElem?_set,if_pos rfl,if_pos hlt],rfl⟩
  ·obtain ⟨ob,e1,e2⟩:=(pi.fh h' hh').1
   exact ⟨ob,by rw [List.getElem?_set,if_neg (fun e'=>e e'.symm)];exact e1,e2⟩
theorem PI.step (hw:HsW G env ops H hpS.length) (pi:PI G N w0 env ops H hpS mS wS sz L L' fr hp m tmps w) {i:Nat} {o:Oper} (ho:ops[i]? = some o) (hi:∀ h ∈ H,h.i ≠ i) (hr':i ∈ Region.ready .any ops L') {fr':G.Fr} {hp':G.Hp} {m':Nat → Value} {v:Value} {w':World}
  (hrl:Rl G N w0 env fr' hp' m' ((⟨tmps,ds⟩:Act).put o.dst v).tmps w') (hkp:Kp G hp m w hp' m' w') (hsz:((⟨tmps,ds⟩:Act).put o.dst v).tmps.size = tmps.size) (hszw:w.heap.size ≤ w'.heap.size) :
  PI G N w0 env ops H hpS mS wS sz (L.setIfInBounds i true) (L'.setIfInBounds i true) fr' hp' m' ((⟨tmps,ds⟩:Act).put o.dst v).tmps w':=by
 have hlt:i < ops.size:=(Array.getElem?_eq_some_iff.1 ho).1
 refine ⟨hrl,pi.kp.trans hkp,pi.clo.set hr',by simp [pi.szL],by simp [pi.szL'],hsz.trans pi.szT,fun j hj=>?_,fun j hj=>?_,fun h hh hun=>?_,fun h hh hun=>?_,Nat.le_trans pi.szw hszw,fun h hh=>by
  obtain ⟨⟨ob,e1,e2⟩,e3⟩:=pi.fh h hh
  obtain ⟨e6,ob',e4,e5⟩:=hkp.mv _ _ e1 e2
  exact ⟨⟨ob',e4,e5⟩,by rw [e6];exact e3⟩⟩
 ·rcases getD_set_t hj with h8 | rfl
  ·exact getD_set_true (pi.le j h8)
  ·have:j < L'.size:=by rw [pi.szL'];exact hlt
   simp [this]
 ·rcases getD_set_t hj with h8 | rfl
  ·rcases pi.ge j h8 with h9 | h9
   ·exact .inl (getD_set_true h9)
   ·exact .inr h9
  ·have:j < L.size:=by rw [pi.szL];exact hlt
   exact .inl (by simp [this])
 ·rw [getD_set_ne false (fun e=>hi h hh e.symm)] at hun
  exact hkp.lk h.k _ (pi.pd h hh hun) rfl
 ·rw [getD_set_ne false (fun e=>hi h hh e.symm)] at hun
  rw [getD_set_ne false (fun e=>hi h hh e.symm)]
  have h9:=(hkp.mv h.k _ (pi.pd h hh hun) rfl).1
  have h10:((⟨tmps,ds⟩:Act).put o.dst v).tmps.getD h.t undef = tmps.getD h.t undef:=by
   have hd:=hw.dst h hh i o ho (fun e=>hi h hh e.symm)
   cases hdst:o.dst with
   | none=>rfl
   | some t =>
    have hne:t ≠ h.t:=fun e=>hd (by rw [hdst,e])
    simp [Act.put,hne]
  rw [h9,h10]
  exact pi.al h hh hun
theorem PI.resolveAll (hw:HsW G env ops H hpS.length):∀ (U:List Hs) {L:Array Bool} {fr:G.Fr} {hp:G.Hp},PI G N w0 env ops H hpS mS wS sz L L' fr hp m tmps w → (∀ h ∈ U,h ∈ H ∧ L.getD h.i false = false ∧ L'.getD h.i false = true) → (U.Pairwise fun h h'=>h'.i ≠ h.i) →
  PI G N w0 env ops H hpS mS wS sz (hsL U L) L' (hsF G U fr) (hsP G U hp) m tmps w
 | [],_,_,_,pi,_,_=>pi
 | h :: U,L,fr,hp,pi,hU,hp'=>by
  obtain ⟨h1,h2,h3⟩:=hU h List.mem_cons_self
  have hp2:=List.pairwise_cons.1 hp'
  exact PI.resolveAll hw U (pi.resolve hw h1 h2 h3) (fun h' hh'=>by
   obtain ⟨g1,g2,g3⟩:=hU h' (List.mem_cons_of_mem _ hh')
   exact ⟨g1,by rw [getD_set_ne false (fun e=>hp2.1 h' hh' e.symm)];exact g2,g3⟩) hp2.2
theorem hsL_size:∀ (U:List Hs) (L:Array Bool),(hsL U L).size = L.size
 | [],_=>rfl
 | h :: U,L=>by
  show (hsL U (L.setIfInBounds h.i true)).size = _
  rw [hsL_size U];simp
theorem hsL_old:∀ (U:List Hs) (L:Array Bool) (j:Nat),L.getD j false = true → (hsL U L).getD j false = true
 | [],_,_,h=>h
 | _ :: U,_,j,hj=>hsL_old U _ j (getD_set_true hj)
theorem hsL_new:∀ (U:List Hs) (L:Array Bool) (j:Nat),(hsL U L).getD j false = true → L.getD j false = true ∨ ∃ h ∈ U,h.i = j
 | [],_,_,h=>.inl h
 | h :: U,L,j,hj=>by
  rcases hsL_new U _ j hj with h1 | ⟨h',h1,h2⟩
  ·rcases getD_set_t h1 with h3 | h3
   ·exact .inl h3
   ·exact .inr ⟨h,List.mem_cons_self,h3.symm⟩
  ·exact .inr ⟨h',List.mem_cons_of_mem _ h1,h2⟩
theorem hsL_in:∀ (U:List Hs) (L:Array Bool) (h:Hs),h ∈ U → h.i < L.size → (hsL U L).getD h.i false = true
 | [],_,_,hm,_=>by cases hm
 | h' :: U,L,h,hm,hl=>by
  rcases List.mem_cons.1 hm with rfl | hm
  ·exact hsL_old U _ _ (by simp [hl])
  ·exact hsL_in U _ h hm (by simpa using hl)
theorem PI.readyH (hw:HsW G env ops H hpS.length) (pi:PI G N w0 env ops H hpS mS wS sz L L' fr hp m tmps w) {q:Nat} (hq:q ∈ Region.ready .any ops L') (hne:∀ h ∈ H,h.i ≠ q):q ∈ Region.ready .any ops (hsL H L):=by
 obtain ⟨h1,o,h2,h3⟩:=mem_ready.1 hq
 have hlt:q < ops.size:=(Array.getElem?_eq_some_iff.1 h2).1
 refine mem_ready.2 ⟨?_,o,h2,fun e he hb=>?_⟩
 ·rw [getD_tf (by rw [hsL_size,pi.szL];exact hlt)]
  cases e:(hsL H L).getD q false with
  | false=>rfl
  | true =>
   rcases hsL_new H L q e with h4 | ⟨h,hh,h4⟩
   ·have:=pi.le q h4;rw [getD_low h1] at this;cases this
   ·exact absurd h4 (hne h hh)
 ·rcases pi.ge _ (h3 e he hb) with h4 | ⟨h,hh,h4⟩
  ·exact hsL_old H L _ h4
  ·rw [← h4]
   obtain ⟨o',z,h5,_⟩:=hw.op h hh
   exact hsL_in H L h hh (by rw [pi.szL];exact (Array.getElem?_eq_some_iff.1 h5).1)
theorem make_fresh (hok:G.Ok) {ty:TypeId} {u:G.U} (hu:G.elt ty = some u) {ik:IntKind} {c:Nat} (hc:c ≤ 16777216) (hbase:N ≤ w.heap.size) :
  ∃ w',(Instr.makeSlice ty (.int ik (c:Int)) (.int ik (c:Int))).run P w = .ok (.slice (some ⟨w.heap.size,0,none⟩) c c) w' ∧ w.heap.size < w'.heap.size ∧ (∀ b,b < w.heap.size → w'.heap[b]? = w.heap[b]?) ∧ Below N w w' ∧
   ∀ (w2:World) (R:Nat → Prop),∃ xs,w'.ownsRow N (G.ty u) (G.sz u) (.slice (some ⟨w.heap.size,0,none⟩) c c) (List.replicate c (G.zero u)).length xs ∧ RowRep G w2 R u (List.replicate c (G.zero u)) xs ∧ ∀ x ∈ xs,x.oneCell' = true:=by
 have hund:=hok.elt ty u hu
 obtain ⟨i,z,hi,hz,hisz,hzs,hby,hzr,hz1⟩:=hok.info u
 have hpos:=hok.pos u
 have hbytes:i.bytes * c ≤ 281474976710656:=Nat.le_trans (Nat.mul_le_mul hby hc) (by decide)
 obtain ⟨w',h3,h4,h5⟩:=run_make_full (P:=P) w N ty (G.ty u) i z (G.sz u) hund hi hz hisz ik ik c hbytes (by unfold maxLen;omega) hbase
 have hlt:w.heap.size < w'.heap.size:=by
  rcases h4.2 with ⟨e,_⟩ | ⟨g,cap,cur,e,h1,h2,_⟩
  ·cases e
  ·cases e
   exact (Array.getElem?_eq_some_iff.1 h2).1
 refine ⟨w',h3,hlt,fun b hb=>h5.block b hb (by simp),(Below.refl _ _).grown h5 hbase (by simp),fun w2 R=>⟨_,by rw [List.length_replicate];exact h4,?_,?_⟩⟩
 ·intro k x j p hk hj
  rw [List.getElem?_replicate] at hk
  split at hk
  ·rename_i hkc
   cases hk
   have hjs:=(List.getElem?_eq_some_iff.1 hj).1
   rw [hok.row_sz] at hjs
   have hlt:k * G.sz u + j < c * G.sz u:=by
    have:(k + 1) * G.sz u ≤ c * G.sz u:=Nat.mul_le_mul_right _ hkc
    rw [Nat.succ_mul] at this;omega
   obtain ⟨v,hv,hwk⟩:=hzr j p hj
   refine ⟨v,?_,RepP.weak G (RepP.val v (hz1 v (List.mem_of_getElem? hv))) hwk⟩
   have hmod:(k * G.sz u + j) % z.cells.size = j:=by
    rw [hzs,Nat.mul_comm,Nat.mul_add_mod,Nat.mod_eq_of_lt hjs]
   have hjz:j < z.cells.size:=by omega
   simp only [madeCells,Array.toList_map,List.getElem?_map,Array.toList_range,List.getElem?_range hlt,Option.map_some,hmod]
   rw [getElem!_pos z.cells j hjz]
   rw [Array.getElem?_toList,Array.getElem?_eq_getElem hjz] at hv
   exact hv
  ·cases hk
 ·intro x hx
  simp only [madeCells,Array.toList_map,List.mem_map] at hx
  obtain ⟨q,_,rfl⟩:=hx
  have:q % z.cells.size < z.cells.size:=Nat.mod_lt _ (by omega)
  rw [getElem!_pos z.cells _ this]
  exact hz1 _ (by simp)
theorem PI.make (pi:PI G N w0 env ops H hpS mS wS sz L L' fr hp m tmps w) {k:Nat} {u:G.U} {l:List (G.El u)} {t:Tmp} {v:Value} {w':World} (hpd:hp[k]? = some (.pendr u l)) (hmk:m k = .tuple #[]) (hkS:hpS.length ≤ k) (hfr:fr[t]? = some (.t (.c .junk))) (henv:∀ d,env[t]? ≠ some (some d)) (hHt:∀ h ∈ H,h.t ≠ t) (hHk:∀ h ∈ H,L.getD h.i false = false → h.k ≠ k)
  (hsz:w.heap.size ≤ w'.heap.size) (hold:∀ b,b < w.heap.size → w'.heap[b]? = w.heap[b]?) (hbel:Below N w w') (hblk:∀ b,blkOf v = some b → w.heap.size ≤ b)
  (hrow:∀ (w2:World) (R:Nat → Prop),∃ xs,w'.ownsRow N (G.ty u) (G.sz u) v l.length xs ∧ RowRep G w2 R u l xs ∧ ∀ x ∈ xs,x.oneCell' = true) :
  PI G N w0 env ops H hpS mS wS sz L L' fr hp (mAt m k v) (tmps.setIfInBounds t v) w':=by
 have hlt:t < tmps.size:=by rw [pi.rl.hf.len];exact (List.getElem?_eq_some_iff.1 hfr).1
 have hro:∀ b,Rof G hp m w b → Rof G hp (mAt m k v) w' b:=by
  rintro b ⟨hb1,hb2⟩
  refine ⟨by omega,?_⟩
  rintro (hS | ⟨q,ob,hq,hl,hbk⟩)
  ·exact hb2 (.inl hS)
  by_cases e:q = k
  ·subst e
   rw [mAt_same] at hbk
   have:=hblk b hbk
   omega
  ·rw [mAt_other _ _ _ e] at hbk
   exact hb2 (.inr ⟨q,ob,hq,hl,hbk⟩)
 have hsame:∀ b,Rof G hp m w b → w'.heap[b]? = w.heap[b]?:=fun b hb=>hold b hb.1
 refine ⟨⟨⟨fun q ob hq=>?_,fun q q' ob ob' b hq hq' hl hl' hb hb'=>?_,by have:=pi.rl.hh.base;omega,pi.rl.hh.held,pi.rl.hh.gh.mono fun b hb=>hold b (by have:=pi.rl.hh.base;omega)⟩,⟨by simp [pi.rl.hf.len],fun s d hd=>?_,fun s d hd=>?_⟩,pi.rl.bl.trans hbel⟩,
  ⟨fun b hb=>hro b (pi.kp.ro b hb),fun b hb=>(hsame b (pi.kp.ro b hb)).trans (pi.kp.heap b hb),pi.kp.lk,fun q ob hq hm=>?_,pi.kp.len,fun q os p hq hp' hl=>?_,fun q ob b hq hlk hl hb=>(hold b ((pi.rl.hh.obj q ob (pi.kp.lk q ob hq hlk)).blk hl (by rw [(pi.kp.mv q ob hq (lockd_mov hlk)).1];exact hb)).2).trans (pi.kp.hlk q ob b hq hlk hl hb)⟩,pi.clo,pi.szL,pi.szL',by simp [pi.szT],pi.le,pi.ge,pi.pd,fun h' hh' hun2=>?_,Nat.le_trans pi.szw hsz,fun h' hh'=>⟨(pi.fh h' hh').1,fun b hb=>?_⟩⟩
 ·by_cases e:q = k
  ·subst e
   rw [hpd] at hq
   cases hq
   obtain ⟨xs,x1,x2,x3⟩:=hrow w' (Rof G hp (mAt m q v) w')
   exact .inr ⟨xs,by rw [mAt_same];exact x1,x2,x3⟩
  ·have hnk:=(pi.rl.hh.obj q ob hq).nok hmk
   exact (pi.rl.hh.obj q ob hq).mono hro hsame (Nat.le_refl _) (fun o' ho' _=>mAt_other _ _ _ (fun e'=>hnk (e' ▸ ho'))) (mAt_other _ _ _ e) (fun b hl hb=>hold b ((pi.rl.hh.obj q ob hq).blk hl hb).2)
 ·by_cases e:q = k <;> by_cases e':q' = k
  ·rw [e,e']
  ·subst e
   rw [mAt_same] at hb
   have h1:=hblk b hb
   rw [mAt_other _ _ _ e'] at hb'
   have:=((pi.rl.hh.obj q' ob' hq').blk hl' hb').2
   omega
  ·subst e'
   rw [mAt_same] at hb'
   have h1:=hblk b hb'
   rw [mAt_other _ _ _ e] at hb
   have:=((pi.rl.hh.obj q ob hq).blk hl hb).2
   omega
  ·rw [mAt_other _ _ _ e] at hb
   rw [mAt_other _ _ _ e'] at hb'
   exact pi.rl.hh.sep q q' ob ob' b hq hq' hl hl' hb hb'
 ·by_cases e:t = s
  ·subst e
   rw [hfr] at hd
   cases hd
   trivial
  ·have h8:=pi.rl.hf.fr s d hd
   have hnk:=h8.nok hmk
   have h9:(tmps.setIfInBounds t v).getD s undef = tmps.getD s undef:=by simp [e]
   rw [h9]
   exact h8.mono hro hsame (Nat.le_refl _) (fun o' ho' _=>mAt_other _ _ _ (fun e'=>hnk (e' ▸ ho')))
 ·have e:t ≠ s:=fun e=>henv d (e ▸ hd)
  obtain ⟨h8,h9⟩:=pi.rl.hf.env s d hd
  have hnk:=h9.nok hmk
  refine ⟨by simpa using h8,?_⟩
  have h10:(tmps.setIfInBounds t v).getD s undef = tmps.getD s undef:=by simp [e]
  rw [h10]
  exact h9.mono hro hsame (Nat.le_refl _) (fun o' ho' _=>mAt_other _ _ _ (fun e'=>hnk (e' ▸ ho')))
 ·have h8:=(List.getElem?_eq_some_iff.1 hq).1
  obtain ⟨e1,e2⟩:=pi.kp.mv q ob hq hm
  exact ⟨by rw [mAt_other _ _ _ (by omega)];exact e1,e2⟩
 ·rw [mAt_other _ _ _ (by omega)]
  exact pi.kp.pn q os p hq hp' hl
 ·have hne:t ≠ h'.t:=fun e=>hHt h' hh' e.symm
  have h9:(tmps.setIfInBounds t v).getD h'.t undef = tmps.getD h'.t undef:=by simp [hne]
  rw [h9,mAt_other _ _ _ (hHk h' hh' hun2)]
  exact pi.al h' hh' hun2
 ·by_cases e:h'.k = k
  ·rw [e,mAt_same] at hb
   exact Nat.le_trans pi.szw (hblk b hb)
  ·rw [mAt_other _ _ _ e] at hb
   exact (pi.fh h' hh').2 b hb
theorem PI.take (pi:PI G N w0 env ops H hpS mS wS sz L L' fr hp m tmps w) {i k:Nat} {u:G.U} {l:List (G.El u)} {t:Tmp} {o:Oper} (ho:ops[i]? = some o) (hpd:hp[k]? = some (.pendr u l)) (hmk:m k ≠ .tuple #[]) (hkS:hpS.length ≤ k) (ht:tmps.getD t undef = m k) (hHi:∀ h ∈ H,h.i ≠ i) (hHk:∀ h ∈ H,L.getD h.i false = false → h.k ≠ k) (hHk2:∀ h ∈ H,h.k ≠ k) (hr':i ∈ Region.ready .any ops L') :
  PI G N w0 env ops H hpS mS wS sz (L.setIfInBounds i true) (L'.setIfInBounds i true) (fr.set t (.t (.c (.os k)))) (hp.set k (.row false u l)) m tmps w:=by
 have hlt:=(List.getElem?_eq_some_iff.1 hpd).1
 have hio:i < ops.size:=(Array.getElem?_eq_some_iff.1 ho).1
 obtain ⟨xs,x1,x2,x3⟩:∃ xs,w.ownsRow N (G.ty u) (G.sz u) (m k) l.length xs ∧ RowRep G w (Rof G hp m w) u l xs ∧ ∀ x ∈ xs,x.oneCell' = true:=by
  rcases pi.rl.hh.obj k _ hpd with e | e
  ·exact absurd e hmk
  ·exact e
 have hro1:∀ b,Rof G hp m w b → Rof G ((hp.map fun x=>x).set k (.row false u l)) m w b:=rof_turn hpd rfl (Nat.le_refl _) (fun _ _=>rfl) (fun b _ hb=>.inl hb) (fun _=>rfl)
 obtain ⟨g1,g2,g3⟩:=pi.rl.hh.turn (w':=w) (m':=m) (ob':=.row false u l) (f:=fun x=>x) hpd rfl (Nat.le_refl _) (fun _ _ _=>rfl) (fun _ _=>rfl) (fun b _ hb=>.inl hb) (.inl ⟨fun _=>rfl,rfl⟩) ⟨xs,x1,x2.mono hro1 (fun _ _=>rfl),x3⟩
 rw [map_id'] at g1 g2
 refine ⟨⟨g1,FRel.put ((⟨pi.rl.hf.len,fun t d hd=>(pi.rl.hf.fr t d hd).mono g2 (fun _ _=>rfl) (by simp) (fun _ _ _=>rfl),fun t d hd=>⟨(pi.rl.hf.env t d hd).1,(pi.rl.hf.env t d hd).2.mono g2 (fun _ _=>rfl) (by simp) (fun _ _ _=>rfl)⟩⟩:FRel G env fr (hp.set k (.row false u l)) m tmps w)) ?_,pi.rl.bl⟩,
  ⟨fun b hb=>g2 b (pi.kp.ro b hb),pi.kp.heap,fun o ob ho hl=>?_,fun o ob ho hm=>?_,by simp only [List.length_set];exact pi.kp.len,pi.kp.pn,pi.kp.hlk⟩,pi.clo.set hr',by simp [pi.szL],by simp [pi.szL'],pi.szT,fun j hj=>?_,fun j hj=>?_,fun h' hh' hun2=>?_,fun h' hh' hun2=>?_,pi.szw,fun h' hh'=>⟨?_,(pi.fh h' hh').2⟩⟩
 ·exact ⟨by simpa using hlt,ht,by rw [ht];exact own_one x1⟩
 ·have h8:=(List.getElem?_eq_some_iff.1 ho).1
  rw [List.getElem?_set,if_neg (by omega)]
  exact pi.kp.lk o ob ho hl
 ·have h8:=(List.getElem?_eq_some_iff.1 ho).1
  obtain ⟨e1,ob',e2,e3⟩:=pi.kp.mv o ob ho hm
  exact ⟨e1,ob',by rw [List.getElem?_set,if_neg (by omega)];exact e2,e3⟩
 ·rcases getD_set_t hj with h8 | rfl
  ·exact getD_set_true (pi.le j h8)
  ·have:j < L'.size:=by rw [pi.szL'];exact hio
   simp [this]
 ·rcases getD_set_t hj with h8 | rfl
  ·rcases pi.ge j h8 with h9 | h9
   ·exact .inl (getD_set_true h9)
   ·exact .inr h9
  ·have:j < L.size:=by rw [pi.szL];exact hio
   exact .inl (by simp [this])
 ·rw [getD_set_ne false (fun e=>hHi h' hh' e.symm)] at hun2
  rw [List.getElem?_set,if_neg (fun e=>hHk h' hh' hun2 e.symm)]
  exact pi.pd h' hh' hun2
 ·rw [getD_set_ne false (fun e=>hHi h' hh' e.symm)] at hun2
  rw [getD_set_ne false (fun e=>hHi h' hh' e.symm)]
  exact pi.al h' hh' hun2
 ·have e:h'.k ≠ k:=hHk2 h' hh'
  obtain ⟨ob,e1,e2⟩:=(pi.fh h' hh').1
  exact ⟨ob,by rw [List.getElem?_set,if_neg (fun e'=>e e'.symm)];exact e1,e2⟩
theorem batchK_ok:∀ (l:List Nat) {k:List (Bs G.U) → Option β},batchK G env fr ops l k = some r → ∃ B:List (Bs G.U),B.map (·.i) = l ∧ k B = some r ∧ ∀ b ∈ B,∃ o ty ik,ops[b.i]? = some o ∧ o.op = .makeSlice ty (.tmp b.a) (.tmp b.a) ∧ o.guard = none ∧ o.dst = some b.t ∧ (∀ d,env[b.t]? ≠ some (some d)) ∧ G.elt ty = some b.u ∧
  (∃ x,opT G env fr (.tmp b.a) = some x ∧ valOf G x = some (.int ik (b.n:Int))) ∧ b.n ≤ 16777216 ∧ b.t < fr.length
 | [],k,h=>⟨[],rfl,h,fun b hb=>by cases hb⟩
 | i :: l,k,h=>by
  unfold batchK at h
  split at h
  ·rename_i o ho
   split at h
   ·rename_i ty a a' t h1 h2 h3
    split at h
    ·cases h
    ·rename_i hne
     split at h
     ·rename_i haa
      obtain ⟨haa,htl⟩:=haa
      subst haa
      split at h
      ·rename_i u ik z hu hz
       split at h
       ·rename_i hlim
        obtain ⟨B,e1,e2,e3⟩:=batchK_ok l h
        rw [Option.bind_eq_some_iff] at hz
        obtain ⟨x,hx1,hx2⟩:=hz
        refine ⟨_,by rw [List.map_cons,e1],e2,fun b hb=>?_⟩
        rcases List.mem_cons.1 hb with rfl | hb
        ·have ez:((z.toNat:Nat):Int) = z:=by omega
         refine ⟨o,ty,ik,ho,h1,h2,h3,fun d hd=>hne d hd,hu,⟨x,hx1,by rw [hx2,ez]⟩,?_,htl⟩
         show z.toNat ≤ 16777216
         omega
        ·exact e3 b hb
       ·cases h
      ·cases h
     ·cases h
   ·cases h
  ·cases h
structure PB (G:Sg P) (N:Nat) (w0:World) (env:G.Env) (ops:Array Oper) (H:List Hs) (hpS:G.Hp) (mS:Nat → Value) (wS:World) (sz:Nat) (B:List (Bs G.U)) (k0:Nat) (L L' LA:Array Bool) (fr:G.Fr) (hp:G.Hp) (m:Nat → Value) (tmps:Array Value) (w:World):Prop where
 pi:PI G N w0 env ops H hpS mS wS sz L L' fr hp m tmps w
 szA:LA.size = ops.size
 up:∀ j:Nat,L'.getD j false = true → LA.getD j false = true
 dn:∀ j:Nat,LA.getD j false = true → L'.getD j false = true ∨ ∃ b ∈ B,b.i = j
 no:∀ b ∈ B,L'.getD b.i false = false
 pd:∀ (j:Nat) (b:Bs G.U),B[j]? = some b → hp[k0 + j]? = some (pndB G b)
 jk:∀ b ∈ B,fr[b.t]? = some (.t (.c .junk))
 al:∀ (j:Nat) (b:Bs G.U),B[j]? = some b → (LA.getD b.i false = false ∧ m (k0 + j) = .tuple #[] ∧ ∃ ik,tmps.getD b.a undef = .int ik (b.n:Int)) ∨ (LA.getD b.i false = true ∧ m (k0 + j) ≠ .tuple #[] ∧ tmps.getD b.t undef = m (k0 + j))
theorem PI.takeAll (hw:HsW G env ops H hpS.length):∀ (B:List (Bs G.U)) (k:Nat) {L L':Array Bool} {fr:G.Fr} {hp:G.Hp},PI G N w0 env ops H hpS mS wS sz L L' fr hp m tmps w →
  (∀ (j:Nat) (b:Bs G.U),B[j]? = some b → (∃ o,ops[b.i]? = some o) ∧ hp[k + j]? = some (pndB G b) ∧ m (k + j) ≠ .tuple #[] ∧ tmps.getD b.t undef = m (k + j) ∧ (∀ h ∈ H,h.i ≠ b.i) ∧ b.i ∈ Region.ready .any ops L') → (B.Pairwise fun b b'=>b'.i ≠ b.i) → hpS.length ≤ k → (∀ h ∈ H,h.k < k) →
  PI G N w0 env ops H hpS mS wS sz (bsL B L) (bsL B L') (bsF G B k fr) (bsP G B k hp) m tmps w
 | [],_,_,_,_,_,pi,_,_,_,_=>pi
 | b :: B,k,L,L',fr,hp,pi,hB,hpw,hk,hH=>by
  obtain ⟨⟨o,ho⟩,h1,h2,h3,h4,h5⟩:=hB 0 b rfl
  have hp2:=List.pairwise_cons.1 hpw
  rw [Nat.add_zero] at h1 h2 h3
  have hst:=pi.take ho h1 h2 hk h3 h4 (fun h hh hun=>by have:=hH h hh;omega) (fun h hh=>by have:=hH h hh;omega) h5
  refine PI.takeAll hw B (k + 1) hst (fun j b' hb'=>?_) hp2.2 (by omega) (fun h hh=>by have:=hH h hh;omega)
  ·obtain ⟨g1,g2,g3,g4,g5,g6⟩:=hB (j + 1) b' hb'
   rw [show k + (j + 1) = k + 1 + j from by omega] at g2 g3 g4
   refine ⟨g1,?_,g3,g4,g5,ready_mono g6 (hp2.1 b' (List.mem_of_getElem? hb'))⟩
   rw [List.getElem?_set,if_neg (by omega)]
   exact g2
theorem bsL_size {U:Type}:∀ (B:List (Bs U)) (L:Array Bool),(bsL B L).size = L.size
 | [],_=>rfl
 | b :: B,L=>by
  show (bsL B (L.setIfInBounds b.i true)).size = _
  rw [bsL_size B];simp
theorem bsL_old {U:Type}:∀ (B:List (Bs U)) (L:Array Bool) (j:Nat),L.getD j false = true → (bsL B L).getD j false = true
 | [],_,_,h=>h
 | _ :: B,_,j,hj=>bsL_old B _ j (getD_set_true hj)
theorem bsL_new {U:Type}:∀ (B:List (Bs U)) (L:Array Bool) (j:Nat),(bsL B L).getD j false = true → L.getD j false = true ∨ ∃ b ∈ B,b.i = j
 | [],_,_,h=>.inl h
 | b :: B,L,j,hj=>by
  rcases bsL_new B _ j hj with h1 | ⟨h',h1,h2⟩
  ·rcases getD_set_t h1 with h3 | h3
   ·exact .inl h3
   ·exact .inr ⟨b,List.mem_cons_self,h3.symm⟩
  ·exact .inr ⟨h',List.mem_cons_of_mem _ h1,h2⟩
theorem bsL_in {U:Type}:∀ (B:List (Bs U)) (L:Array Bool) (b:Bs U),b ∈ B → b.i < L.size → (bsL B L).getD b.i false = true
 | [],_,_,hm,_=>by cases hm
 | b' :: B,L,b,hm,hl=>by
  rcases List.mem_cons.1 hm with rfl | hm
  ·exact bsL_old B _ _ (by simp [hl])
  ·exact bsL_in B _ b hm (by simpa using hl)
theorem getD_ext {A B:Array Bool} (h:A.size = B.size) (h2:∀ j,A.getD j false = B.getD j false):A = B:=by
 apply Array.ext h
 intro i h3 h4
 have:=h2 i
 simpa [h3,h4] using this
theorem batch_main (hok:G.Ok) {Q:Exit → Act → World → Prop} (hw:HsW G env ops H hpS.length) {B:List (Bs G.U)} {k0:Nat} {fr:G.Fr} {hp:G.Hp}
  (hB:∀ b ∈ B,∃ o ty,ops[b.i]? = some o ∧ o.op = .makeSlice ty (.tmp b.a) (.tmp b.a) ∧ o.guard = none ∧ o.dst = some b.t ∧ (∀ d,env[b.t]? ≠ some (some d)) ∧ G.elt ty = some b.u ∧ b.n ≤ 16777216)
  (hpw:B.Pairwise fun b b'=>b'.i ≠ b.i ∧ b'.t ≠ b.t) (hBa:∀ b ∈ B,∀ b' ∈ B,b'.t ≠ b.a) (hBH:∀ b ∈ B,∀ h ∈ H,h.t ≠ b.a ∧ h.t ≠ b.t ∧ h.i ≠ b.i) (hrd:∀ b ∈ B,b.i ∈ Region.ready .any ops L)
  (hcond:∀ b ∈ B,∀ q ∈ Region.ready .any ops (hsL H (bsL (B.filter (fun b'=>b'.i != b.i)) L)),q = b.i) (hk0:hpS.length ≤ k0) (hHk:∀ h ∈ H,h.k < k0) (hj:∀ h ∈ H,L.getD h.i false = false → junkAt G fr h.t = true)
  (hfin:∀ {L':Array Bool} {m:Nat → Value} {tmps:Array Value} {w:World},PI G N w0 env ops H hpS mS wS sz (bsL B L) L' (bsF G B k0 fr) (bsP G B k0 hp) m tmps w → wpAnyR P .any ops Q (TgR H mS wS tgs) (remL L') L' ⟨tmps,ds⟩ w) :
  ∀ (c:Nat) {L' LA:Array Bool} {m:Nat → Value} {tmps:Array Value} {w:World},PB G N w0 env ops H hpS mS wS sz B k0 L L' LA fr hp m tmps w → remL LA ≤ c → wpAnyR P .any ops Q (TgR H mS wS tgs) (remL LA) LA ⟨tmps,ds⟩ w:=by
 have hidx:∀ (j j':Nat) (b b':Bs G.U),B[j]? = some b → B[j']? = some b' → j ≠ j' → b'.i ≠ b.i ∧ b'.t ≠ b.t:=by
  intro j j' b b' h1 h2 hne
  obtain ⟨l1,rfl⟩:=List.getElem?_eq_some_iff.1 h1
  obtain ⟨l2,rfl⟩:=List.getElem?_eq_some_iff.1 h2
  have hp:=List.pairwise_iff_getElem.1 hpw
  rcases Nat.lt_or_ge j j' with h | h
  ·exact hp j j' l1 l2 h
  ·have:=hp j' j l2 l1 (by omega)
   exact ⟨fun e=>this.1 e.symm,fun e=>this.2 e.symm⟩
 have hdone:∀ {L' LA:Array Bool} {m:Nat → Value} {tmps:Array Value} {w:World},PB G N w0 env ops H hpS mS wS sz B k0 L L' LA fr hp m tmps w → (∀ b ∈ B,LA.getD b.i false = true) → wpAnyR P .any ops Q (TgR H mS wS tgs) (remL LA) LA ⟨tmps,ds⟩ w:=by
  intro L' LA m tmps w pb hall
  have rdL':∀ b ∈ B,b.i ∈ Region.ready .any ops L':=fun b hb=>by
   obtain ⟨h1,o,h2,h3⟩:=mem_ready.1 (hrd b hb)
   refine mem_ready.2 ⟨?_,o,h2,fun e he hbd=>pb.pi.le _ (h3 e he hbd)⟩
   rw [getD_tf (by rw [pb.pi.szL'];exact (Array.getElem?_eq_some_iff.1 h2).1)]
   exact pb.no b hb
  have hpi:=pb.pi.takeAll hw B k0 (fun j b hjb=>by
   have hb:=List.mem_of_getElem? hjb
   obtain ⟨o,ty,h1,_⟩:=hB b hb
   rcases pb.al j b hjb with ⟨e,_⟩ | ⟨_,e2,e3⟩
   ·rw [hall b hb] at e;cases e
   ·exact ⟨⟨o,h1⟩,pb.pd j b hjb,e2,e3,fun h hh=>(hBH b hb h hh).2.2,rdL' b hb⟩) (hpw.imp fun h=>h.1) hk0 hHk
  have e:LA = bsL B L':=getD_ext (by rw [bsL_size,pb.szA,pb.pi.szL']) (fun j=>by
   cases e1:LA.getD j false with
   | true =>
    rcases pb.dn j e1 with h | ⟨b,hb,rfl⟩
    ·exact (bsL_old B L' j h).symm
    ·obtain ⟨o,ty,h1,_⟩:=hB b hb
     exact (bsL_in B L' b hb (by rw [pb.pi.szL'];exact (Array.getElem?_eq_some_iff.1 h1).1)).symm
   | false =>
    symm
    rw [Bool.eq_false_iff]
    intro e2
    rcases bsL_new B L' j e2 with h | ⟨b,hb,rfl⟩
    ·rw [pb.up j h] at e1;cases e1
    ·rw [hall b hb] at e1;cases e1)
  rw [e]
  exact hfin hpi
 have rdA:∀ {L' LA:Array Bool} {m:Nat → Value} {tmps:Array Value} {w:World},PB G N w0 env ops H hpS mS wS sz B k0 L L' LA fr hp m tmps w → ∀ b ∈ B,LA.getD b.i false = false → b.i ∈ Region.ready .any ops LA:=by
  intro L' LA m tmps w pb b hb hun
  obtain ⟨h1,o,h2,h3⟩:=mem_ready.1 (hrd b hb)
  refine mem_ready.2 ⟨?_,o,h2,fun e he hbd=>pb.up _ (pb.pi.le _ (h3 e he hbd))⟩
  rw [getD_tf (by rw [pb.szA];exact (Array.getElem?_eq_some_iff.1 h2).1)]
  exact hun
 intro c
 induction c with
 | zero =>
  intro L' LA m tmps w pb hc
  refine hdone pb fun b hb=>?_
  cases e:LA.getD b.i false with
  | true=>rfl
  | false =>
   have:=remL_set (mem_ready.1 (rdA pb b hb e)).1
   omega
 | succ c ih =>
  intro L' LA m tmps w pb hc
  by_cases hall:∀ b ∈ B,LA.getD b.i false = true
  ·exact hdone pb hall
  have hex:∃ b ∈ B,LA.getD b.i false = false:=by
   apply Classical.byContradiction
   intro hno
   refine hall fun b hb=>?_
   cases e:LA.getD b.i false with
   | true=>rfl
   | false=>exact absurd ⟨b,hb,e⟩ hno
  obtain ⟨b0,hb0,hun0⟩:=hex
  have hr0:=rdA pb b0 hb0 hun0
  have hrem:=remL_set (mem_ready.1 hr0).1
  rw [hrem]
  refine ⟨fun e=>(by rw [e] at hr0;cases hr0),fun q hq=>?_⟩
  have hqr:=remL_set (mem_ready.1 hq).1
  have hsame:remL (LA.setIfInBounds b0.i true) = remL (LA.setIfInBounds q true):=by omega
  rw [hsame]
  have hqA:LA.getD q false = false:=getD_low (mem_ready.1 hq).1
  by_cases hqH:∃ hs ∈ H,hs.i = q
  ·obtain ⟨hs,hh,rfl⟩:=hqH
   have hun':L'.getD hs.i false = false:=by
    cases e:L'.getD hs.i false with
    | false=>rfl
    | true=>rw [pb.up _ e] at hqA;cases hqA
   have hun:L.getD hs.i false = false:=by
    cases e:L.getD hs.i false with
    | false=>rfl
    | true=>rw [pb.pi.le _ e] at hun';cases hun'
   refine pb.pi.early (tgs:=tgs) hw hh hun hun' (hj hs hh hun) (hw.now hh pb.pi.szL' hun') fun m' tmps' w' pi' hT hm ht=>⟨hT,ih ⟨pi',by simp [pb.szA],fun j hjj=>?_,fun j hjj=>?_,fun b hb=>?_,pb.pd,pb.jk,fun j b hjb=>?_⟩ (by omega)⟩
   ·rcases getD_set_t hjj with h | rfl
    ·exact getD_set_true (pb.up j h)
    ·have:hs.i < LA.size:=by rw [pb.szA,← pb.pi.szL'];exact getD_lt (mem_ready.1 (hw.now hh pb.pi.szL' hun')).1
     simp [this]
   ·rcases getD_set_t hjj with h | rfl
    ·rcases pb.dn j h with h | h
     ·exact .inl (getD_set_true h)
     ·exact .inr h
    ·have:hs.i < L'.size:=getD_lt (mem_ready.1 (hw.now hh pb.pi.szL' hun')).1
     exact .inl (by simp [this])
   ·rw [getD_set_ne false (hBH b hb hs hh).2.2]
    exact pb.no b hb
   ·have hb:=List.mem_of_getElem? hjb
    have h5:=hBH b hb hs hh
    have h6:=hHk hs hh
    rw [getD_set_ne false h5.2.2,hm _ (by omega),ht _ (fun e=>h5.1 e.symm),ht _ (fun e=>h5.2.1 e.symm)]
    exact pb.al j b hjb
  by_cases hqB:∃ b ∈ B,b.i = q
  ·obtain ⟨b,hb,rfl⟩:=hqB
   obtain ⟨j,hjl,ejb⟩:=List.mem_iff_getElem.1 hb
   have hjb:B[j]? = some b:=by rw [List.getElem?_eq_getElem hjl,ejb]
   obtain ⟨hm0,ik,hev⟩:m (k0 + j) = .tuple #[] ∧ ∃ ik,tmps.getD b.a undef = .int ik (b.n:Int):=by
    rcases pb.al j b hjb with ⟨_,e1,e2⟩ | ⟨e,_⟩
    ·exact ⟨e1,e2⟩
    ·rw [hqA] at e;cases e
   obtain ⟨o,ty,h1,h2,h3,h4,henv,hu,hn16⟩:=hB b hb
   obtain ⟨w',g1,g2,g3,g4,g5⟩:=make_fresh (N:=N) (w:=w) hok hu (ik:=ik) hn16 pb.pi.rl.hh.base
   have pi':=pb.pi.make (pb.pd j b hjb) hm0 (by omega) (pb.jk b hb) henv (fun h hh=>(hBH b hb h hh).2.1) (fun h hh hun=>by have:=hHk h hh;omega) (Nat.le_of_lt g2) g3 g4 (fun b' hb'=>by cases hb';exact Nat.le_refl _) g5
   have hev':(⟨tmps,ds⟩:Act).eval (.tmp b.a) = .int ik (b.n:Int):=hev
   have htlt:b.t < tmps.size:=by rw [pb.pi.rl.hf.len];exact (List.getElem?_eq_some_iff.1 (pb.jk b hb)).1
   have hilt:b.i < LA.size:=getD_lt (mem_ready.1 hq).1
   unfold wpOp
   rw [h1]
   simp only [Region.wanted,h3,if_true]
   refine .inl (wp_val (s:=Instr.makeSlice ty (.int ik (b.n:Int)) (.int ik (b.n:Int))) (w':=w') (by simp only [execOp,h2,hev']) g1 ?_)
   have hput:(⟨tmps,ds⟩:Act).put o.dst (.slice (some ⟨w.heap.size,0,none⟩) b.n b.n) = ⟨tmps.setIfInBounds b.t (.slice (some ⟨w.heap.size,0,none⟩) b.n b.n),ds⟩:=by rw [h4];rfl
   rw [hput]
   refine ⟨TgR.of_later g3 pb.pi.szw (Nat.le_of_lt g2),ih ⟨pi',by simp [pb.szA],fun j' hjj=>getD_set_true (pb.up j' hjj),fun j' hjj=>?_,pb.no,pb.pd,pb.jk,fun j' b' hjb'=>?_⟩ (by omega)⟩
   ·rcases getD_set_t hjj with h | rfl
    ·exact pb.dn j' h
    ·exact .inr ⟨b,hb,rfl⟩
   ·by_cases ej:j = j'
    ·subst ej
     rw [hjb] at hjb'
     cases hjb'
     refine .inr ⟨by simp [hilt],?_,?_⟩
     ·rw [mAt_same];intro e;cases e
     ·rw [mAt_same];simp [htlt]
    ·obtain ⟨n1,n2⟩:=hidx j j' b b' hjb hjb' ej
     have hb':=List.mem_of_getElem? hjb'
     have n3:=hBa b' hb' b hb
     have t1:(tmps.setIfInBounds b.t (.slice (some ⟨w.heap.size,0,none⟩) b.n b.n)).getD b'.a undef = tmps.getD b'.a undef:=by simp [n3]
     have n4:b.t ≠ b'.t:=fun e=>n2 e.symm
     have t2:(tmps.setIfInBounds b.t (.slice (some ⟨w.heap.size,0,none⟩) b.n b.n)).getD b'.t undef = tmps.getD b'.t undef:=by simp [n4]
     rw [getD_set_ne false (fun e=>n1 e.symm),mAt_other _ _ _ (by omega),t1,t2]
     exact pb.al j' b' hjb'
  ·exfalso
   obtain ⟨h1,o,h2,h3⟩:=mem_ready.1 hq
   have hlt:q < ops.size:=(Array.getElem?_eq_some_iff.1 h2).1
   have hszF:(hsL H (bsL (B.filter (fun b'=>b'.i != b0.i)) L)).size = ops.size:=by rw [hsL_size,bsL_size,pb.pi.szL]
   have hq2:q ∈ Region.ready .any ops (hsL H (bsL (B.filter (fun b'=>b'.i != b0.i)) L)):=by
    refine mem_ready.2 ⟨?_,o,h2,fun e he hbd=>?_⟩
    ·rw [getD_tf (by rw [hszF];exact hlt)]
     rw [Bool.eq_false_iff]
     intro e
     rcases hsL_new _ _ _ e with e1 | ⟨h,hh,e1⟩
     ·rcases bsL_new _ _ _ e1 with e2 | ⟨b,hb,e2⟩
      ·rw [pb.up _ (pb.pi.le _ e2)] at hqA;cases hqA
      ·exact hqB ⟨b,(List.mem_filter.1 hb).1,e2⟩
     ·exact hqH ⟨h,hh,e1⟩
    ·rcases pb.dn _ (h3 e he hbd) with e1 | ⟨b,hb,e1⟩
     ·rcases pb.pi.ge _ e1 with e2 | ⟨h,hh,e2⟩
      ·exact hsL_old _ _ _ (bsL_old _ _ _ e2)
      ·rw [← e2]
       obtain ⟨o',z,h5,_⟩:=hw.op h hh
       exact hsL_in H _ h hh (by rw [bsL_size,pb.pi.szL];exact (Array.getElem?_eq_some_iff.1 h5).1)
     ·rw [← e1]
      obtain ⟨o',ty,h5,_⟩:=hB b hb
      refine hsL_old _ _ _ (bsL_in _ _ b (List.mem_filter.2 ⟨hb,?_⟩) (by rw [pb.pi.szL];exact (Array.getElem?_eq_some_iff.1 h5).1))
      rw [bne_iff_ne]
      intro e2
      have h6:=h3 e he hbd
      rw [← e1,e2,hun0] at h6
      cases h6
   have:=hcond b0 hb0 q hq2
   exact hqB ⟨b0,hb0,this.symm⟩
theorem pwB_of {U:Type}:∀ {B:List (Bs U)},pwB B = true → B.Pairwise fun b b'=>b'.i ≠ b.i ∧ b'.t ≠ b.t
 | [],_=>.nil
 | b :: B,h=>by
  simp only [pwB,Bool.and_eq_true,List.all_eq_true,bne_iff_ne] at h
  exact List.pairwise_cons.2 ⟨h.1,pwB_of h.2⟩
theorem bsJ_keep:∀ (B:List (Bs G.U)) {fr:G.Fr} {t:Nat},fr[t]? = some (.t (.c .junk)) → (bsJ G B fr)[t]? = some (.t (.c .junk))
 | [],_,_,h=>h
 | b :: B,fr,t,h=>bsJ_keep B (by
  rw [List.getElem?_set]
  by_cases e:b.t = t
  ·rw [if_pos e,if_pos (by rw [e];exact (List.getElem?_eq_some_iff.1 h).1)]
  ·rw [if_neg e];exact h)
theorem bsJ_at:∀ (B:List (Bs G.U)) {fr:G.Fr} (b:Bs G.U),b ∈ B → b.t < fr.length → (bsJ G B fr)[b.t]? = some (.t (.c .junk))
 | [],_,_,hb,_=>by cases hb
 | b' :: B,fr,b,hb,hl=>by
  rcases List.mem_cons.1 hb with rfl | hb
  ·exact bsJ_keep B (by rw [List.getElem?_set,if_pos rfl,if_pos hl])
  ·exact bsJ_at B b hb (by simpa using hl)
theorem bsJ_ok:∀ (B:List (Bs G.U)) {fr:G.Fr},FRel G env fr hp m tmps w → FRel G env (bsJ G B fr) hp m tmps w
 | [],_,h=>h
 | b :: B,_,h=>bsJ_ok B (h.put (t:=b.t) (d:=.t (.c .junk)) trivial)
theorem PI.batch (pi:PI G N w0 env ops H hpS mS wS sz L L' fr hp m tmps w) (B:List (Bs G.U)) (hno:∀ b ∈ B,L'.getD b.i false = false) (htl:∀ b ∈ B,b.t < fr.length) (hval:∀ b ∈ B,∃ ik,tmps.getD b.a undef = .int ik (b.n:Int)) :
  PB G N w0 env ops H hpS mS wS sz B hp.length L L' L' (bsJ G B fr) (hp ++ B.map (pndB G)) (fun o=>if o < hp.length then m o else Value.tuple #[]) tmps w:=by
 have hm1:∀ o,o < hp.length → (fun o=>if o < hp.length then m o else Value.tuple #[]) o = m o:=fun o ho=>if_pos ho
 have hm2:∀ i,(fun o=>if o < hp.length then m o else Value.tuple #[]) (hp.length + i) = .tuple #[]:=fun i=>if_neg (by omega)
 obtain ⟨e1,e2⟩:=pi.rl.hh.ext (w':=w) (m':=fun o=>if o < hp.length then m o else Value.tuple #[]) (Nat.le_refl _) (fun _ _=>rfl) (B.map (pndB G)) hm1 (fun i ob hi=>by
   rw [List.getElem?_map] at hi
   cases hz:B[i]? with
   | none=>rw [hz] at hi;cases hi
   | some x=>rw [hz] at hi;cases hi;exact .inl (hm2 i)) (fun i ob b _ _ hb=>by
   rw [if_neg (by omega)] at hb;cases hb) (fun i j ob ob' b _ _ _ _ hb _=>by
   rw [if_neg (by omega)] at hb;cases hb)
 have hHk:∀ h ∈ H,L.getD h.i false = false → h.k < hp.length:=fun h hh hun=>(List.getElem?_eq_some_iff.1 (pi.pd h hh hun)).1
 refine ⟨⟨⟨e1,bsJ_ok B (pi.rl.hf.keep e2 (by simp)),pi.rl.bl⟩,pi.kp.trans (e2.kp (by simp)),pi.clo,pi.szL,pi.szL',pi.szT,pi.le,pi.ge,fun h hh hun=>?_,fun h hh hun=>?_,pi.szw,fun h hh=>by
  obtain ⟨⟨ob,f1,f2⟩,f3⟩:=pi.fh h hh
  have f4:=(List.getElem?_eq_some_iff.1 f1).1
  refine ⟨⟨ob,by rw [List.getElem?_append_left f4];exact f1,f2⟩,?_⟩
  have f5:=hm1 h.k f4
  simp only at f5
  rw [f5]
  exact f3⟩,pi.szL',fun _ h=>h,fun _ h=>.inl h,hno,fun j b hj=>?_,fun b hb=>bsJ_at B b hb (htl b hb),fun j b hj=>.inl ⟨hno b (List.mem_of_getElem? hj),hm2 j,hval b (List.mem_of_getElem? hj)⟩⟩
 ·rw [List.getElem?_append_left (hHk h hh hun)]
  exact pi.pd h hh hun
 ·have e3:=hm1 h.k (hHk h hh hun)
  simp only at e3
  rw [e3]
  exact pi.al h hh hun
 ·rw [List.getElem?_append_right (by omega),Nat.add_sub_cancel_left,List.getElem?_map,hj]
  rfl
theorem drawK_main (hok:G.Ok) {K:G.KT} (hK:CallOk G K) {Q:Exit → Act → World → Prop} (hsel:Region.noSelect ops = true) (hQ:∀ c a w,¬ Q (.panic c) a w) (hw:HsW G env ops H hpS.length) (htg:∀ q q',tgAt tgs q = some (some q') → stands G hpS q' = true ∨ hoK H q' = true) (hold:∀ h ∈ H,∀ o ∈ h.old,stands G hpS o = true) (hsb:∀ o b,stands G hpS o = true → blkOf (mS o) = some b → b < wS.heap.size) {k:G.Fr → G.Hp → Option β}
  (hn:∀ fr' hp' m' tmps' w',Rl G N w0 env fr' hp' m' tmps' w' → Kp G hpS mS wS hp' m' w' → tmps'.size = sz → k fr' hp' = some r → Q .normal ⟨tmps',ds⟩ w') :
  ∀ (n c:Nat) {L L':Array Bool} {fr:G.Fr} {hp:G.Hp} {m:Nat → Value} {tmps:Array Value} {w:World},PI G N w0 env ops H hpS mS wS sz L L' fr hp m tmps w → remL L' ≤ c → drawK G K env ops tgs H n L fr hp k = some r →
  wpAnyR P .any ops Q (TgR H mS wS tgs) (remL L') L' ⟨tmps,ds⟩ w:=by
 have fin:∀ {L L':Array Bool} {fr:G.Fr} {hp:G.Hp} {m:Nat → Value} {tmps:Array Value} {w:World},PI G N w0 env ops H hpS mS wS sz L L' fr hp m tmps w → Region.ready .any ops L = [] → k fr hp = some r →
   wpAnyR P .any ops Q (TgR H mS wS tgs) (remL L') L' ⟨tmps,ds⟩ w:=by
  intro L L' fr hp m tmps w pi hrd hk
  have hall:∀ h ∈ H,L.getD h.i false = true:=by
   intro h hh
   cases e:L.getD h.i false with
   | true=>rfl
   | false =>
    have:=hw.now hh pi.szL e
    rw [hrd] at this;cases this
  have hrd':Region.ready .any ops L' = []:=by
   rw [List.eq_nil_iff_forall_not_mem]
   intro i hi
   obtain ⟨h1,o,h2,h3⟩:=mem_ready.1 hi
   have h4:i ∈ Region.ready .any ops L:=by
    refine mem_ready.2 ⟨?_,o,h2,fun e he hb=>?_⟩
    ·have hlt:i < L.size:=by rw [pi.szL];exact (Array.getElem?_eq_some_iff.1 h2).1
     rw [getD_tf hlt]
     cases e:L.getD i false with
     | false=>rfl
     | true =>
      have h5:=pi.le i e
      rw [getD_low h1] at h5;cases h5
    ·rcases pi.ge _ (h3 e he hb) with h5 | ⟨h,hh,h5⟩
     ·exact h5
     ·rw [← h5];exact hall h hh
   rw [hrd] at h4;cases h4
  have hq:=hn fr hp m tmps w pi.rl pi.kp pi.szT hk
  cases remL L' with
  | zero=>exact ⟨hrd',hq⟩
  | succ f=>exact ⟨fun _=>hq,fun i hi=>by rw [hrd'] at hi;cases hi⟩
 have hstand0:∀ {hp:G.Hp} {m:Nat → Value} {w:World},Kp G hpS mS wS hp m w → ∀ q',stands G hpS q' = true → m q' = mS q':=by
  intro hp m w hkp q' h1
  unfold stands at h1
  split at h1
  ·rename_i cs hc;exact (hkp.mv q' _ hc rfl).1
  ·rename_i cs hc;exact (hkp.mv q' _ hc rfl).1
  ·rename_i hc;exact (hkp.mv q' _ hc rfl).1
  ·cases h1
 have hstand:∀ {hp:G.Hp} {m:Nat → Value} {w:World},Kp G hpS mS wS hp m w → ∀ q q',tgAt tgs q = some (some q') → ¬ hoK H q' = true → m q' = mS q':=by
  intro hp m w hkp q q' hq hno
  rcases htg q q' hq with h1 | h1
  ·exact hstand0 hkp q' h1
  ·exact absurd h1 hno
 intro n
 induction n with
 | zero =>
  intro c L L' fr hp m tmps w pi _ h
  unfold drawK at h
  split at h
  ·rename_i hrd;exact fin pi hrd h
  ·cases h
 | succ n ih =>
  intro c
  induction c with
  | zero =>
   intro L L' fr hp m tmps w pi hc h
   have hrd':∀ i,i ∉ Region.ready .any ops L':=by
    intro i hi
    have:=remL_set (mem_ready.1 hi).1
    omega
   unfold drawK at h
   split at h
   ·rename_i hrd;exact fin pi hrd h
   ·rename_i i0 l0 hrd
    split at h
    rotate_left
    ·cases h
    have pi:=pi.frz (frzN G env fr ops (i0 :: l0))
    generalize frzL G env (frzN G env fr ops (i0 :: l0)) fr hp = z at pi h
    obtain ⟨fr,hp⟩:=z
    dsimp only at pi h
    split at h
    ·split at h
     ·split at h
      ·refine ih 0 (pi.resolveAll hw _ (fun h' hh'=>?_) (hw.pw.filter _)) hc h
       rw [List.mem_filter] at hh'
       have hun:L.getD h'.i false = false:=by simpa using hh'.2
       refine ⟨hh'.1,hun,?_⟩
       cases e:L'.getD h'.i false with
       | true=>rfl
       | false=>exact absurd (hw.now hh'.1 pi.szL' e) (hrd' _)
      ·cases h
     ·rename_i i rest hfil
      exfalso
      have hmem:i ∈ (i0 :: l0).filter fun i=>!(H.any fun h=>h.i == i):=by rw [hfil];exact List.mem_cons_self
      rw [List.mem_filter,← hrd] at hmem
      obtain ⟨h1,o,h2,h3⟩:=mem_ready.1 hmem.1
      refine hrd' i (mem_ready.2 ⟨?_,o,h2,fun e he hb=>pi.le _ (h3 e he hb)⟩)
      have hlt:i < L'.size:=by rw [pi.szL'];exact (Array.getElem?_eq_some_iff.1 h2).1
      rw [getD_tf hlt]
      cases e:L'.getD i false with
      | false=>rfl
      | true =>
       rcases pi.ge i e with h5 | ⟨hs,hh,h5⟩
       ·rw [getD_low h1] at h5;cases h5
       ·have:=hmem.2
        simp only [Bool.not_eq_true',List.any_eq_false,beq_iff_eq] at this
        exact absurd h5 (this hs hh)
    ·cases h
  | succ c ihc =>
   intro L L' fr hp m tmps w pi hc h
   have h0:=h
   unfold drawK at h
   split at h
   ·rename_i hrd;exact fin pi hrd h
   ·rename_i i0 l0 hrd
    split at h
    rotate_left
    ·cases h
    rename_i hpend0
    have early:∀ q ∈ Region.ready .any ops L',(∃ hs ∈ H,hs.i = q) → wpOp P ops Q q (fun a' w'=>TgR H mS wS tgs q w w' ∧ wpAnyR P .any ops Q (TgR H mS wS tgs) (remL (L'.setIfInBounds q true)) (L'.setIfInBounds q true) a' w') ⟨tmps,ds⟩ w:=by
     rintro q hq ⟨hs,hh,rfl⟩
     have hun':L'.getD hs.i false = false:=getD_low (mem_ready.1 hq).1
     have hun:L.getD hs.i false = false:=by
      cases e:L.getD hs.i false with
      | false=>rfl
      | true=>rw [pi.le _ e] at hun';cases hun'
     have hj:junkAt G fr hs.t = true:=by
      have:=List.all_eq_true.1 hpend0 hs hh
      rw [hun] at this
      simpa using this
     refine pi.early (tgs:=tgs) hw hh hun hun' hj hq fun m' tmps' w' pi' hT _ _=>⟨hT,ihc pi' ?_ h0⟩
     have:=remL_set (mem_ready.1 hq).1
     omega
    have pi:=pi.frz (frzN G env fr ops (i0 :: l0))
    generalize frzL G env (frzN G env fr ops (i0 :: l0)) fr hp = z at pi h
    obtain ⟨fr,hp⟩:=z
    dsimp only at pi h
    split at h
    ·rename_i hpend
     have ready':∀ i,i ∈ Region.ready .any ops L → (∀ hs ∈ H,hs.i ≠ i) → i ∈ Region.ready .any ops L':=by
      intro i hi hne
      obtain ⟨h1,o,h2,h3⟩:=mem_ready.1 hi
      refine mem_ready.2 ⟨?_,o,h2,fun e he hb=>pi.le _ (h3 e he hb)⟩
      have hlt:i < L'.size:=by rw [pi.szL'];exact (Array.getElem?_eq_some_iff.1 h2).1
      rw [getD_tf hlt]
      cases e:L'.getD i false with
      | false=>rfl
      | true =>
       rcases pi.ge i e with h5 | ⟨hs,hh,h5⟩
       ·rw [getD_low h1] at h5;cases h5
       ·exact absurd h5 (hne hs hh)
     have one:∀ (q:Nat) (o:Oper),q ∈ Region.ready .any ops L' → (∀ hs ∈ H,hs.i ≠ q) → ops[q]? = some o → ((frs G ops fr o).all fun fr=>tgOk H (tgAt tgs q) (opTg G env fr o)) = true →
       (stepK G K env ops fr hp o fun fr hp=>drawK G K env ops tgs H n (L.setIfInBounds q true) fr hp k) = some r →
       wpOp P ops Q q (fun a' w'=>TgR H mS wS tgs q w w' ∧ wpAnyR P .any ops Q (TgR H mS wS tgs) (remL (L'.setIfInBounds q true)) (L'.setIfInBounds q true) a' w') ⟨tmps,ds⟩ w:=by
      intro q o hiL' hiH ho htg' h
      rw [List.all_eq_true] at htg'
      unfold wpOp
      rw [ho]
      refine frs_cases pi.rl h ?_ ?_
      ·intro fr1 hin hf h hw1
       simp only [hw1,if_true]
       refine .inl (opK_ok hok hK pi.rl.hh hf h ?_)
       intro fr2 hp1 m1 w1 d v h1 h2 h3 h4 h5 h6 h7
       obtain ⟨fr3,h8,h9,h10,h11⟩:=setK_ok h6 h2 h4
       refine ⟨⟨h3.size,?_⟩,?_⟩
       ·have h12:=htg' fr1 hin
        unfold tgOk at h12
        cases htq:tgAt tgs q with
        | none=>trivial
        | some x =>
         rw [htq] at h12
         cases x with
         | none =>
          have h13:=of_decide_eq_true h12
          rw [h13] at h7
          exact h7
         | some q' =>
          simp only at h12 ⊢
          split at h12
          ·rename_i hho
           rw [if_pos hho]
           split at h12
           ·rename_i o' hdy
            rw [hdy] at h7
            unfold hoK at h12
            obtain ⟨hs,hs1,hs2⟩:=List.any_eq_true.1 h12
            have hs2:hs.k = o':=by simpa using hs2
            intro b hb
            have h14:=pi.szw
            exact h7 b (by omega) (fun e=>by
             have:=(pi.fh hs hs1).2 b (by rw [hs2];exact e)
             omega)
           ·cases h12
          ·rename_i hho
           rw [if_neg hho]
           have h13:=of_decide_eq_true h12
           rw [h13] at h7
           have:=hstand pi.kp q q' htq hho
           exact fun b hb hne=>h7 b hb (this ▸ hne)
       ·rw [h10]
        exact ih _ (pi.step hw ho hiH hiL' ⟨h1,h8,pi.rl.bl.trans h3⟩ h5 h11 h3.size) (Nat.le_refl _) h9
      ·intro fr1 hf h hw1
       simp only [hw1,Bool.false_eq_true,if_false]
       obtain ⟨fr3,h8,h9,h10,h11⟩:=setK_ok (v:=undef) h hf ⟨[],rfl,rfl,by simp⟩
       refine ⟨TgR.refl _ _ _ _ _ _,?_⟩
       rw [h10]
       exact ih _ (pi.step hw ho hiH hiL' ⟨pi.rl.hh,h8,pi.rl.bl⟩ (Kp.refl _ _ _) h11 (Nat.le_refl _)) (Nat.le_refl _) h9
     split at h
     ·split at h
      ·rename_i hdep
       by_cases hmade:∀ h' ∈ H,L.getD h'.i false = false → L'.getD h'.i false = true
       ·refine ih _ (pi.resolveAll hw _ (fun h' hh'=>?_) (hw.pw.filter _)) (Nat.le_refl _) h
        rw [List.mem_filter] at hh'
        have hun:L.getD h'.i false = false:=by simpa using hh'.2
        exact ⟨hh'.1,hun,hmade h' hh'.1 hun⟩
       ·have hex:∃ h' ∈ H,L.getD h'.i false = false ∧ L'.getD h'.i false = false:=by
         apply Classical.byContradiction
         intro hno
         refine hmade fun h' hh' hun=>?_
         cases e:L'.getD h'.i false with
         | true=>rfl
         | false=>exact absurd ⟨h',hh',hun,e⟩ hno
        obtain ⟨h',hh',hun,hun'⟩:=hex
        have hrd1:=hw.now hh' pi.szL' hun'
        have hrem:=remL_set (mem_ready.1 hrd1).1
        rw [hrem]
        refine ⟨fun e=>(by rw [e] at hrd1;cases hrd1),fun q hq=>?_⟩
        have hqr:=remL_set (mem_ready.1 hq).1
        have hsame:remL (L'.setIfInBounds h'.i true) = remL (L'.setIfInBounds q true):=by omega
        rw [hsame]
        by_cases hqH:∃ hs ∈ H,hs.i = q
        ·exact early q hq hqH
        ·exfalso
         have hq2:=pi.readyH hw hq (fun hs hh e=>hqH ⟨hs,hh,e⟩)
         have h5:=List.all_eq_true.1 (List.all_eq_true.1 hdep q hq2) h' (List.mem_filter.2 ⟨hh',by simpa using hun⟩)
         obtain ⟨h6,o,h7,h8⟩:=mem_ready.1 hq
         unfold depOn at h5
         rw [h7] at h5
         obtain ⟨e,he,hb⟩:=Array.any_eq_true'.1 h5
         simp only [Bool.and_eq_true,beq_iff_eq] at hb
         have:=h8 e he hb.1
         rw [hb.2,hun'] at this
         cases this
      ·cases h
     ·rename_i i rest hfil
      have hfm:∀ q,q ∈ i :: rest → q ∈ Region.ready .any ops L ∧ ∀ hs ∈ H,hs.i ≠ q:=by
       intro q hq
       rw [← hfil,List.mem_filter,← hrd] at hq
       refine ⟨hq.1,fun hs hh e=>?_⟩
       have:=hq.2
       simp only [Bool.not_eq_true',List.any_eq_false,beq_iff_eq] at this
       exact this hs hh e
      split at h
      ·rename_i j o ld hfq
       obtain ⟨h1,h2,h3⟩:=firstQ_spec hfq
       obtain ⟨hjL,hjH⟩:=hfm j (List.mem_filter.1 h1).1
       have hjL':=ready' j hjL hjH
       split at h
       ·rename_i hcond
        have hC:=hcond.2
        rw [List.all_eq_true] at hC
        obtain ⟨v,fr1,hp1,m1,ldk,hld,h4,h5,h6,h7,h8,h9⟩:=stepQ_ok (ds:=ds) (C:=fun ld=>ldOk G H hp ops tgs j ld = true) hok pi.rl h h3 hC rfl
        have hrem:=remL_set (mem_ready.1 hjL').1
        rw [hrem]
        refine wpAnyR_first (v:=v) (S:=fun w'=>LdSame G hp m w w' ldk ∧ w.heap.size ≤ w'.heap.size) ?_ h2 (Region.noSelect_spec hsel) (fun c a w h=>absurd h (hQ c (a.put o.dst v) w)) (fun _=>TgR.refl _ _ _ _ _ _) _ L' _ w pi.clo ?_ hjL' ?_ ⟨LdSame.refl _ _ _ _,Nat.le_refl _⟩ ?_
        ·rintro q w1 w2 hqj hql hqs ⟨hS1,hS2⟩ ⟨hT1,hT2⟩
         refine ⟨?_,Nat.le_trans hS2 hT1⟩
         have hone:ldk = .pure ∨ ldOk1 G H hp (tgAt tgs q) ldk = true:=by
          unfold ldOk at hld
          split at hld
          ·exact .inl rfl
          ·have h10:=List.all_eq_true.1 hld q (List.mem_range.2 hqs)
           simp only [Bool.or_eq_true,beq_iff_eq,List.contains_iff_mem] at h10
           rcases h10 with h10 | h10 | h10
           ·exact absurd h10 hqj
           ·exact absurd h10 hql
           ·exact .inr h10
         rcases hone with rfl | hone
         ·trivial
         ·cases htq:tgAt tgs q with
          | none=>rw [htq] at hone;cases hone
          | some x =>
           rw [htq] at hT2
           cases x with
           | none =>
            have hT2':Later w1 w2:=hT2
            cases ldk with
            | pure=>trivial
            | obj o'=>exact fun b hb hk=>(hT2' b (by omega)).trans (hS1 b hb hk)
            | fgn=>exact fun b hb=>(hT2' b (by have:=hb.1;omega)).trans (hS1 b hb)
            | all=>exact fun b hb=>(hT2' b (by omega)).trans (hS1 b hb)
           | some q' =>
            rw [htq] at hone
            simp only [ldOk1] at hone
            simp only at hT2
            split at hT2
            ·rename_i hho
             rw [if_pos hho] at hone
             split at hone
             ·rename_i o'
              obtain ⟨hs,hs1,hs2⟩:=List.any_eq_true.1 hone
              have h20:=hold hs hs1 o' (by simpa using hs2)
              have h21:=hstand0 pi.kp o' h20
              exact fun b hb hk=>(hT2 b (hsb o' b h20 (h21 ▸ hk))).trans (hS1 b hb hk)
             ·cases hone
            rename_i hho
            rw [if_neg hho] at hone
            have hmq:=hstand pi.kp q q' htq hho
            have hT2':∀ b,b < w1.heap.size → blkOf (mS q') ≠ some b → w2.heap[b]? = w1.heap[b]?:=hT2
            have hliv:∀ o',liveAt G hp o' = true → ∃ ob:G.O,hp[o']? = some ob ∧ ob.live = true:=by
             intro o' ho'
             unfold liveAt at ho'
             split at ho'
             ·rename_i ob hob;exact ⟨ob,hob,ho'⟩
             ·cases ho'
            cases ldk with
            | pure=>trivial
            | obj o' =>
             simp only [Bool.and_eq_true,bne_iff_ne] at hone
             obtain ⟨ob1,g1,g2⟩:=hliv q' hone.2.1
             obtain ⟨ob2,g3,g4⟩:=hliv o' hone.2.2
             exact fun b hb hk=>(hT2' b (by omega) (fun e=>hone.1 (pi.rl.hh.sep q' o' ob1 ob2 b g1 g3 g2 g4 (hmq ▸ e) hk))).trans (hS1 b hb hk)
            | fgn =>
             obtain ⟨ob1,g1,g2⟩:=hliv q' hone
             exact fun b hb=>(hT2' b (by have:=hb.1;omega) (fun e=>hb.2 (.inr ⟨q',ob1,g1,g2,hmq ▸ e⟩))).trans (hS1 b hb)
            | all=>cases hone
        ·intro j' oj hj' hne hun hno
         refine Region.free_spec h2 hcond.1 j' oj hj' hne ?_ hno
         have hlt:j' < ops.size:=(Array.getElem?_eq_some_iff.1 hj').1
         rw [getD_tf (by rw [pi.szL];exact hlt)]
         cases e:L.getD j' false with
         | false=>rfl
         | true=>have:=pi.le j' e;rw [getD_low hun] at this;cases this
        ·rcases h4 with ⟨a1,a2⟩ | a
         ·exact .inl ⟨a1,fun w' hw=>a2 w' hw.1⟩
         ·exact .inr a
        ·rw [h7]
         exact ih _ (pi.step hw h2 hjH hjL' h5 h6 h8 (Nat.le_refl _)) (Nat.le_refl _) h9
       ·cases h
      ·split at h
       ·rename_i o ho hnone
        obtain ⟨hiL,hiH⟩:=hfm i List.mem_cons_self
        have hiL':=ready' i hiL hiH
        split at h
        ·rename_i hcnd
         have hrdy:=hcnd.1
         have hrem:=remL_set (mem_ready.1 hiL').1
         rw [hrem]
         refine ⟨fun e=>(by rw [e] at hiL';cases hiL'),fun q hq=>?_⟩
         have hqr:=remL_set (mem_ready.1 hq).1
         have hsame:remL (L'.setIfInBounds i true) = remL (L'.setIfInBounds q true):=by omega
         rw [hsame]
         by_cases hqH:∃ hs ∈ H,hs.i = q
         ·exact early q hq hqH
         ·have hq2:=pi.readyH hw hq (fun hs hh e=>hqH ⟨hs,hh,e⟩)
          have hq3:q ∈ i0 :: l0:=by have:=List.all_eq_true.1 hrdy q hq2;simpa using this
          have hq4:q ∈ (i0 :: l0).filter fun i=>!(H.any fun h=>h.i == i):=List.mem_filter.2 ⟨hq3,by
           simp only [Bool.not_eq_true',List.any_eq_false,beq_iff_eq]
           exact fun hs hh e=>hqH ⟨hs,hh,e⟩⟩
          rw [hfil] at hq4
          obtain rfl:q = i:=by simpa using hq4
          exact one q o hq hiH ho hcnd.2 h
        ·cases h
       ·split at h
        rotate_left
        ·have hm:=eqK_mem h
         have hi0:=hfm i List.mem_cons_self
         have hiL':=ready' i hi0.1 hi0.2
         have hrem:=remL_set (mem_ready.1 hiL').1
         rw [hrem]
         refine ⟨fun e=>(by rw [e] at hiL';cases hiL'),fun q hq=>?_⟩
         have hqr:=remL_set (mem_ready.1 hq).1
         have hsame:remL (L'.setIfInBounds i true) = remL (L'.setIfInBounds q true):=by omega
         rw [hsame]
         by_cases hqH:∃ hs ∈ H,hs.i = q
         ·exact early q hq hqH
         ·have hq2:=pi.readyH hw hq (fun hs hh e=>hqH ⟨hs,hh,e⟩)
          have hb0:=hm _ (List.mem_map.2 ⟨i,List.mem_cons_self,rfl⟩)
          have hrdy:((Region.ready .any ops (hsL H L)).all fun q=>(i0 :: l0).contains q) = true:=by
           split at hb0
           ·split at hb0
            ·rename_i hc0;exact hc0.1
            ·cases hb0
           ·cases hb0
          have hq3:q ∈ i0 :: l0:=by have:=List.all_eq_true.1 hrdy q hq2;simpa using this
          have hq4:q ∈ (i0 :: l0).filter fun i=>!(H.any fun h=>h.i == i):=List.mem_filter.2 ⟨hq3,by
           simp only [Bool.not_eq_true',List.any_eq_false,beq_iff_eq]
           exact fun hs hh e=>hqH ⟨hs,hh,e⟩⟩
          rw [hfil] at hq4
          have hb:=hm _ (List.mem_map.2 ⟨q,hq4,rfl⟩)
          split at hb
          ·rename_i oq hoq
           split at hb
           ·rename_i hcq
            exact one q oq hq (fun hs hh e=>hqH ⟨hs,hh,e⟩) hoq hcq.2 hb
           ·cases hb
          ·cases hb
        obtain ⟨B,e1,e2,e3⟩:=batchK_ok _ h
        split at e2
        ·rename_i hbs
         unfold bsOk at hbs
         simp only [Bool.and_eq_true,List.all_eq_true,bne_iff_ne,beq_iff_eq] at hbs
         obtain ⟨b1,b2,b3⟩:=hbs
         have hin:∀ b ∈ B,b.i ∈ Region.ready .any ops L ∧ ∀ hs ∈ H,hs.i ≠ b.i:=fun b hb=>by
          refine hfm b.i ?_
          rw [← e1]
          exact List.mem_map.2 ⟨b,hb,rfl⟩
         refine batch_main hok hw (B:=B) (k0:=hp.length) (L:=L) (fr:=bsJ G B fr) (hp:=hp ++ B.map (pndB G)) (fun b hb=>?_) (pwB_of b1) (fun b hb=>(b2 b hb).1) (fun b hb=>(b2 b hb).2) (fun b hb=>(hin b hb).1) b3 pi.kp.len
          (fun h hh=>by obtain ⟨⟨ob,f1,_⟩,_⟩:=pi.fh h hh;exact (List.getElem?_eq_some_iff.1 f1).1) (fun h hh hun=>?_) (fun pi'=>ih _ pi' (Nat.le_refl _) e2) (remL L') (pi.batch B (fun b hb=>?_) (fun b hb=>?_) (fun b hb=>?_)) (Nat.le_refl _)
         ·obtain ⟨o,ty,ik,h1,h2,h3,h4,h5,h6,_,h8,_⟩:=e3 b hb
          exact ⟨o,ty,h1,h2,h3,h4,h5,h6,h8⟩
         ·have h9:=List.all_eq_true.1 hpend h hh
          rw [hun] at h9
          have h10:junkAt G fr h.t = true:=by simpa using h9
          unfold junkAt at h10
          split at h10
          ·rename_i h11
           unfold junkAt
           rw [bsJ_keep B h11]
          ·cases h10
         ·exact getD_low (mem_ready.1 (ready' b.i (hin b hb).1 (hin b hb).2)).1
         ·obtain ⟨o,ty,ik,_,_,_,_,_,_,_,_,h9⟩:=e3 b hb
          exact h9
         ·obtain ⟨o,ty,ik,_,_,_,_,_,_,⟨x,h7,h8⟩,_,_⟩:=e3 b hb
          exact ⟨ik,(valOf_rep h8 (pi.rl.hf.opT (ds:=ds) h7)).1⟩
        ·cases e2
       ·cases h
    ·cases h
end
theorem zeroVals_ok {t:TypeId} {zs:List Value} (h:zeroVals P t = some zs):∃ z,(∀ w,(zeroValue t).run P w = .ok z w) ∧ z.cells.toList = zs ∧ ∀ x ∈ zs,x.oneCell' = true:=by
 unfold zeroVals at h
 split at h
 ·rename_i i hi
  split at h
  ·rename_i z hz
   split at h
   ·rename_i hall
    cases h
    exact ⟨z,fun w=>by simp [zeroValue,typeInfo,hi,hz],rfl,fun x hx=>List.all_eq_true.1 hall x hx⟩
   ·cases h
  ·cases h
 ·cases h
theorem hoistL_wf {ops:Array Oper} {old:List Nat}:∀ (l:List Nat) (k:Nat),(∀ h ∈ hoistL G env ops old l k,h.i ∈ l ∧ k ≤ h.k ∧ (∀ d,env[h.t]? ≠ some (some d)) ∧ ∃ o z,ops[h.i]? = some o ∧ o.op = .alloc h.ty ∧ o.guard = none ∧ o.dst = some h.t ∧ (∀ w,(zeroValue h.ty).run P w = .ok z w) ∧ z.cells.toList = h.zs ∧ ∀ x ∈ h.zs,x.oneCell' = true) ∧
  ∀ (j:Nat) (h:Hs),(hoistL G env ops old l k)[j]? = some h → h.k = k + j
 | [],k=>⟨fun h hh=>(by cases hh),fun j h hj=>(by cases hj)⟩
 | i :: l,k=>by
  have skip:(∀ h ∈ hoistL G env ops old l k,h.i ∈ i :: l ∧ k ≤ h.k ∧ (∀ d,env[h.t]? ≠ some (some d)) ∧ ∃ o z,ops[h.i]? = some o ∧ o.op = .alloc h.ty ∧ o.guard = none ∧ o.dst = some h.t ∧ (∀ w,(zeroValue h.ty).run P w = .ok z w) ∧ z.cells.toList = h.zs ∧ ∀ x ∈ h.zs,x.oneCell' = true) ∧
    ∀ (j:Nat) (h:Hs),(hoistL G env ops old l k)[j]? = some h → h.k = k + j:=by
   obtain ⟨h1,h2⟩:=hoistL_wf (ops:=ops) l k
   exact ⟨fun h hh=>⟨List.mem_cons_of_mem _ (h1 h hh).1,(h1 h hh).2⟩,h2⟩
  unfold hoistL
  split
  ·rename_i o ho
   split
   ·rename_i ty t h1 h2 h3
    split
    ·exact skip
    ·rename_i hne
     split
     ·rename_i zs hz
      obtain ⟨z,z1,z2,z3⟩:=zeroVals_ok hz
      obtain ⟨g1,g2⟩:=hoistL_wf (ops:=ops) l (k + 1)
      refine ⟨fun h hh=>?_,fun j h hj=>?_⟩
      ·rcases List.mem_cons.1 hh with rfl | hh
       ·exact ⟨List.mem_cons_self,Nat.le_refl _,fun d hd=>hne d hd,o,z,ho,h1,h2,h3,z1,z2,z3⟩
       ·obtain ⟨q1,q2,q3⟩:=g1 h hh
        exact ⟨List.mem_cons_of_mem _ q1,by omega,q3⟩
      ·cases j with
       | zero=>cases hj;rfl
       | succ j =>
        have:=g2 j h hj
        omega
     ·exact skip
   ·exact skip
  ·exact skip
theorem hoistL_old {ops:Array Oper} {old:List Nat}:∀ (l:List Nat) (k:Nat),∀ h ∈ hoistL G env ops old l k,h.old = old
 | [],k=>fun h hh=>(by cases hh)
 | i :: l,k=>by
  unfold hoistL
  split
  ·split
   ·split
    ·exact hoistL_old l k
    ·split
     ·intro h hh
      rcases List.mem_cons.1 hh with rfl | hh
      ·rfl
      ·exact hoistL_old l (k + 1) h hh
     ·exact hoistL_old l k
   ·exact hoistL_old l k
  ·exact hoistL_old l k
theorem pwOk_of:∀ {H:List Hs},pwOk H = true → (H.Pairwise fun h h'=>h'.i ≠ h.i) ∧ ∀ h ∈ H,∀ h' ∈ H,h' = h ∨ (h'.i ≠ h.i ∧ h'.k ≠ h.k ∧ h'.t ≠ h.t)
 | [],_=>⟨.nil,fun h hh=>(by cases hh)⟩
 | h :: l,hp=>by
  simp only [pwOk,Bool.and_eq_true,List.all_eq_true,bne_iff_ne] at hp
  obtain ⟨h1,h2⟩:=pwOk_of (H:=l) (by simpa using hp.2)
  refine ⟨List.pairwise_cons.2 ⟨fun h' hh'=>(hp.1 h' hh').1,h1⟩,fun a ha b hb=>?_⟩
  rcases List.mem_cons.1 ha with rfl | ha' <;> rcases List.mem_cons.1 hb with rfl | hb'
  ·exact .inl rfl
  ·obtain ⟨n1,n2,n3⟩:=hp.1 b hb'
   exact .inr ⟨n1,n2,n3⟩
  ·obtain ⟨n1,n2,n3⟩:=hp.1 a ha'
   exact .inr ⟨fun e=>n1 e.symm,fun e=>n2 e.symm,fun e=>n3 e.symm⟩
  ·exact h2 a ha' b hb'
theorem hsFr_ok:∀ (H:List Hs) {fr:G.Fr},FRel G env fr hp m tmps w → FRel G env (hsFr G H fr) hp m tmps w
 | [],_,h=>h
 | a :: H,_,h=>hsFr_ok H (h.put (t:=a.t) (d:=.t (.c .junk)) trivial)
theorem drawAll_ok (hok:G.Ok) {K:G.KT} (hK:CallOk G K) {ops:Array Oper} {Q:Exit → Act → World → Prop} (hsel:Region.noSelect ops = true) (hQ:∀ c a w,¬ Q (.panic c) a w) {k:G.Fr → G.Hp → Option β} (hr:Rl G N w0 env fr hp m tmps w) (h:drawAll G K env ops fr hp k = some r)
  (hn:∀ fr' hp' m' tmps' w',Rl G N w0 env fr' hp' m' tmps' w' → Kp G hp m w hp' m' w' → tmps'.size = tmps.size → k fr' hp' = some r → Q .normal ⟨tmps',ds⟩ w'):wpAny P .any ops Q ops.size (Array.replicate ops.size false) ⟨tmps,ds⟩ w:=by
 unfold drawAll at h
 generalize hH:hoistA G env ops hp = H at h
 obtain ⟨g1,g2⟩:=hoistL_wf (G:=G) (env:=env) (ops:=ops) (old:=(List.range hp.length).filter (stands G hp)) (Region.ready .any ops (Array.replicate ops.size false)) hp.length
 have g3:=hoistL_old (G:=G) (env:=env) (ops:=ops) (old:=(List.range hp.length).filter (stands G hp)) (Region.ready .any ops (Array.replicate ops.size false)) hp.length
 unfold hoistA at hH
 rw [hH] at g1 g2 g3
 split at h
 ·rename_i hok2
  unfold hsOk at hok2
  rw [Bool.and_eq_true] at hok2
  obtain ⟨p1,p2⟩:=pwOk_of hok2.1
  have hw:HsW G env ops H hp.length:=⟨fun h hh=>(g1 h hh).2.2.2,fun h hh=>(g1 h hh).2.2.1,fun h hh=>(g1 h hh).2.1,fun h hh q o hq hne e=>by
   have h3:=List.all_eq_true.1 (List.all_eq_true.1 hok2.2 h hh) q (List.mem_range.2 (Array.getElem?_eq_some_iff.1 hq).1)
   rw [hq] at h3
   simp only [Bool.or_eq_true,beq_iff_eq,decide_eq_true_iff] at h3
   rcases h3 with h3 | h3
   ·exact hne h3
   ·exact h3 e,p2,p1,fun h hh=>(g1 h hh).1⟩
  have hm1:∀ o,o < hp.length → (fun o=>if o < hp.length then m o else Value.tuple #[]) o = m o:=fun o ho=>if_pos ho
  have hm2:∀ i,(fun o=>if o < hp.length then m o else Value.tuple #[]) (hp.length + i) = .tuple #[]:=fun i=>if_neg (by omega)
  obtain ⟨e1,e2⟩:=hr.hh.ext (w':=w) (m':=fun o=>if o < hp.length then m o else Value.tuple #[]) (Nat.le_refl _) (fun _ _=>rfl) (H.map fun h=>.pend h.zs) hm1 (fun i ob hi=>by
    rw [List.getElem?_map] at hi
    cases hz:H[i]? with
    | none=>rw [hz] at hi;cases hi
    | some x=>rw [hz] at hi;cases hi;exact .inl (hm2 i)) (fun i ob b _ _ hb=>by
    rw [if_neg (by omega)] at hb;cases hb) (fun i j ob ob' b _ _ _ _ hb _=>by
    rw [if_neg (by omega)] at hb;cases hb)
  have hpi:PI G N w0 env ops H hp m w tmps.size (Array.replicate ops.size false) (Array.replicate ops.size false) (hsFr G H fr) (hp ++ H.map fun h=>.pend h.zs) (fun o=>if o < hp.length then m o else Value.tuple #[]) tmps w:=by
   refine ⟨⟨e1,hsFr_ok H (hr.hf.keep e2 (by simp)),hr.bl⟩,e2.kp (by simp),ClosedL.rep _,by simp,by simp,rfl,fun i hi=>hi,fun i hi=>.inl hi,fun h hh _=>?_,fun h hh _=>.inl ⟨getD_rep _ _,?_⟩,Nat.le_refl _,fun h hh=>?_⟩
   ·obtain ⟨j,hj,rfl⟩:=List.mem_iff_getElem.1 hh
    have hk:=g2 j _ (List.getElem?_eq_getElem hj)
    rw [hk,List.getElem?_append_right (by omega),Nat.add_sub_cancel_left,List.getElem?_map,List.getElem?_eq_getElem hj]
    rfl
   ·obtain ⟨j,hj,rfl⟩:=List.mem_iff_getElem.1 hh
    have hk:=g2 j _ (List.getElem?_eq_getElem hj)
    rw [hk]
    exact hm2 j
   ·obtain ⟨j,hj,rfl⟩:=List.mem_iff_getElem.1 hh
    have hk:=g2 j _ (List.getElem?_eq_getElem hj)
    refine ⟨⟨.pend H[j].zs,?_,rfl⟩,fun b hb=>?_⟩
    ·rw [hk,List.getElem?_append_right (by omega),Nat.add_sub_cancel_left,List.getElem?_map,List.getElem?_eq_getElem hj]
     rfl
    ·rw [hk] at hb
     have e:=hm2 j
     simp only at e
     rw [e] at hb;cases hb
  have htg:∀ q q',tgAt (tgsOf G env fr hp ops H) q = some (some q') → stands G hp q' = true ∨ hoK H q' = true:=by
   intro q q' hq
   unfold tgAt tgsOf at hq
   rw [List.getElem?_map] at hq
   cases ho:ops.toList[q]? with
   | none=>rw [ho] at hq;cases hq
   | some o =>
    rw [ho] at hq
    have hq':tgS G env fr hp ops H o = some (some q'):=hq
    unfold tgS at hq'
    split at hq'
    ·split at hq'
     ·split at hq'
      ·rename_i hs;cases hq';exact .inl hs
      ·cases hq'
     ·split at hq'
      ·split at hq'
       ·cases hq'
        exact .inr (by simp [hoK])
       ·cases hq'
      ·cases hq'
    ·cases hq'
    ·split at hq'
     ·split at hq'
      ·split at hq'
       ·split at hq'
        ·rename_i hs;cases hq';exact .inl hs
        ·cases hq'
       ·cases hq'
      ·cases hq'
     ·cases hq'
     ·split at hq' <;> cases hq'
     ·cases hq'
    ·cases hq'
  have hold:∀ h ∈ H,∀ o ∈ h.old,stands G hp o = true:=fun h hh o ho=>by
   rw [g3 h hh] at ho
   exact (List.mem_filter.1 ho).2
  have hsb:∀ o b,stands G hp o = true → blkOf (m o) = some b → b < w.heap.size:=fun o b h1 h2=>by
   unfold stands at h1
   split at h1
   ·rename_i cs hc;exact ((hr.hh.obj o _ hc).blk rfl h2).2
   ·rename_i cs hc;exact ((hr.hh.obj o _ hc).blk rfl h2).2
   ·rename_i hc;exact ((hr.hh.obj o _ hc).blk rfl h2).2
   ·cases h1
  have:=drawK_main hok hK hsel hQ hw htg hold hsb hn (ops.size + 1) _ hpi (Nat.le_refl _) h
  rw [remL_rep] at this
  exact wpAny_of_R _ _ _ _ this
 ·cases h
end
end Go.Proofs.YtgbicnkpnhifgaaGreatDoor

namespace Go.Proofs.YtgbicnkpnhifgaaGreatDoor
open Go.RowKit
inductive Kd (U:Type):Type where
 | tv (u:U)
 | os (o:Nat)
 | bx (u:U) (js:List Nat)
 | nr (u:U)
inductive Ob (U:Type):Type where
 | row (u:U)
 | bx (u:U) (js:List Nat)
 | ab (a:AK U)
 | gone
structure Tp (U:Type):Type where
 slots:List (Nat × Kd U)
 objs:List (Nat × Ob U)
variable {P:Program} (G:Sg P) {β:Type}
def TyR:List (Nat × Ob G.U) → Type
 | []=>Unit
 | (_,.row u) :: os=>List (G.El u) × TyR os
 | (_,.bx u _) :: os=>G.El u × TyR os
 | (_,.ab a) :: os=>AD G.El a × TyR os
 | (_,.gone) :: os=>TyR os
def TyS:List (Nat × Kd G.U) → List (Nat × Ob G.U) → Type
 | [],os=>TyR G os
 | (_,.tv u) :: ss,os=>G.El u × TyS ss os
 | (_,.os _) :: ss,os=>TyS ss os
 | (_,.bx u _) :: ss,os=>G.El u × TyS ss os
 | (_,.nr u) :: ss,os=>List (G.El u) × TyS ss os
abbrev Sg.Ty (T:Tp G.U):Type:=TyS G T.slots T.objs
def pvN (n:Nat) (hp:G.Hp):List G.C → Option (List G.P')
 | []=>some []
 | c :: cs=>match c with
  | .pv p=>match pvN n hp cs with
   | some ps=>some (p :: ps)
   | none=>none
  | .os o=>if n ≤ o then (match hp[o]?,pvN n hp cs with
   | some (.row _ u l),some ps=>some (.sl u l :: ps)
   | _,_=>none) else none
  | _=>none
def unN (n:Nat) (hp:G.Hp) (u:G.U) (t:G.T):Option (G.El u):=match G.ag u,t with
 | true,.agg cs=>match pvN G n hp cs with
  | some ps=>G.unrow u ps
  | none=>none
 | false,.c c=>match pvN G n hp [c] with
  | some ps=>G.unrow u ps
  | none=>none
 | _,_=>none
def ownPs (n:Nat) (hp:G.Hp) (js:List Nat):Nat → List G.C → Option (List G.P')
 | _,[]=>some []
 | i,c :: cs=>match ownPs n hp js (i + 1) cs with
  | none=>none
  | some ps=>match c with
   | .pv p=>match js.contains i with
    | true=>match p with
     | .val (.slice none 0 0)=>some (.val (.slice none 0 0) :: ps)
     | .val (.map none)=>some (.val (.map none) :: ps)
     | _=>none
    | false=>some (p :: ps)
   | .os q=>match hp[q]? with
    | some (.row lk v l)=>match js.contains i with
     | true=>if lk = false then some (.sl v l :: ps) else none
     | false=>if n ≤ q then some (.sl v l :: ps) else none
    | some (.ab lk (.mapu t v) d)=>match js.contains i with
     | true=>if lk = false then some (.mp t v d.1 d.2 :: ps) else none
     | false=>none
    | _=>none
   | _=>none
def fzC (js:List Nat):Nat → List G.C → List Nat
 | _,[]=>[]
 | i,c :: cs=>match c with
  | .os q=>match js.contains i with
   | true=>fzC js (i + 1) cs
   | false=>q :: fzC js (i + 1) cs
  | _=>fzC js (i + 1) cs
def ownCs (js:List Nat):Nat → Nat → List G.P' → List G.C
 | _,_,[]=>[]
 | i,k,p :: ps=>match js.contains i with
  | true=>match p with
   | .sl _ _=>.os k :: ownCs js (i + 1) (k + 1) ps
   | .mp _ _ _ _=>.os k :: ownCs js (i + 1) (k + 1) ps
   | .val x=>.pv (.val x) :: ownCs js (i + 1) k ps
  | false=>.pv p :: ownCs js (i + 1) k ps
def ownRs (js:List Nat):Nat → List G.P' → G.Hp
 | _,[]=>[]
 | i,p :: ps=>match js.contains i with
  | true=>match p with
   | .sl v l=>.row false v l :: ownRs js (i + 1) ps
   | .mp t v b l=>.ab false (.mapu t v) (b,l) :: ownRs js (i + 1) ps
   | .val _=>ownRs js (i + 1) ps
  | false=>ownRs js (i + 1) ps
inductive Qs where
 | old (q:Nat)
 | nil
 | nilm
def Qs.nat?:Qs → Option Nat
 | .old q=>some q
 | _=>none
def osQ (d:Qs):G.C → Qs
 | .os q=>.old q
 | _=>d
def ownQs (js:List Nat):Nat → List G.P' → List G.C → List Qs
 | _,[],_=>[]
 | _,_ :: _,[]=>[]
 | i,p :: ps,c :: cs=>match js.contains i with
  | true=>match p with
   | .sl _ _=>osQ G .nil c :: ownQs js (i + 1) ps cs
   | .mp _ _ _ _=>osQ G .nilm c :: ownQs js (i + 1) ps cs
   | .val _=>ownQs js (i + 1) ps cs
  | false=>ownQs js (i + 1) ps cs
def encR:(os:List (Nat × Ob G.U)) → TyR G os → Nat → G.Hp → G.Hp
 | [],_,_,hp=>hp
 | (o,.row u) :: os,(l,y),k,hp=>encR os y k (hp.set o (.row false u l))
 | (o,.bx u js) :: os,(x,y),k,hp=>encR os y (k + (ownRs G js 0 (G.row u x)).length) (hp.set o (.box (ownCs G js 0 k (G.row u x))))
 | (o,.ab a) :: os,(d,y),k,hp=>encR os y k (hp.set o (.ab false a d))
 | (o,.gone) :: os,y,k,hp=>encR os y k (hp.set o .dead)
def newR:(os:List (Nat × Ob G.U)) → TyR G os → G.Hp
 | [],_=>[]
 | (_,.row _) :: os,(_,y)=>newR os y
 | (_,.bx u js) :: os,(x,y)=>ownRs G js 0 (G.row u x) ++ newR os y
 | (_,.ab _) :: os,(_,y)=>newR os y
 | (_,.gone) :: os,y=>newR os y
def objPart:(ss:List (Nat × Kd G.U)) → (os:List (Nat × Ob G.U)) → TyS G ss os → TyR G os
 | [],_,y=>y
 | (_,.tv _) :: ss,os,(_,y)=>objPart ss os y
 | (_,.os _) :: ss,os,y=>objPart ss os y
 | (_,.bx _ _) :: ss,os,(_,y)=>objPart ss os y
 | (_,.nr _) :: ss,os,(_,y)=>objPart ss os y
def newS:(ss:List (Nat × Kd G.U)) → (os:List (Nat × Ob G.U)) → TyS G ss os → Nat → G.Hp
 | [],_,_,_=>[]
 | (_,.tv _) :: ss,os,(_,y),k=>newS ss os y k
 | (_,.os _) :: ss,os,y,k=>newS ss os y k
 | (_,.bx u js) :: ss,os,(x,y),k=>.box (ownCs G js 0 (k + 1) (G.row u x)) :: (ownRs G js 0 (G.row u x) ++ newS ss os y (k + 1 + (ownRs G js 0 (G.row u x)).length))
 | (_,.nr u) :: ss,os,(l,y),k=>.row false u l :: newS ss os y (k + 1)
def encS:(ss:List (Nat × Kd G.U)) → (os:List (Nat × Ob G.U)) → TyS G ss os → Nat → G.Fr → G.Fr
 | [],_,_,_,fr=>fr
 | (t,.tv u) :: ss,os,(x,y),k,fr=>encS ss os y k (fr.set t (.t (toT G u x)))
 | (t,.os o) :: ss,os,y,k,fr=>encS ss os y k (fr.set t (.t (.c (.os o))))
 | (t,.bx u js) :: ss,os,(x,y),k,fr=>encS ss os y (k + 1 + (ownRs G js 0 (G.row u x)).length) (fr.set t (.t (.c (.ptr k 0))))
 | (t,.nr _) :: ss,os,(_,y),k,fr=>encS ss os y (k + 1) (fr.set t (.t (.c (.os k))))
def goneB:G.O → Bool
 | .dead=>true
 | ob=>!ob.lockd
def castM {u v:G.U} (l:List (ByteArray × G.El u)):Option (List (ByteArray × G.El v)):=@dite _ (u = v) (G.deq u v) (fun h=>some (h ▸ l)) (fun _=>none)
def castA:(a b:AK G.U) → AD G.El a → Option (AD G.El b)
 | .map t b,.map t' b',d=>if t = t' ∧ b = b' then some d else none
 | .mapu t u,.mapu t' u',d=>if t = t' then (match castM G (v:=u') d.2 with
  | some l=>some (d.1,l)
  | none=>none) else none
 | .cap u,.cap u',d=>match castL G (v:=u') d.2 with
  | some l=>some (d.1,l)
  | none=>none
 | _,_,_=>none
theorem castM_some {u v:G.U} {l:List (ByteArray × G.El u)} {l':List (ByteArray × G.El v)} (h:castM G l = some l'):∃ e:u = v,e ▸ l = l':=by
 unfold castM at h
 split at h
 ·rename_i e;exact ⟨e,Option.some.inj h⟩
 ·cases h
theorem castA_some {a b:AK G.U} {d:AD G.El a} {d':AD G.El b} (h:castA G a b d = some d'):∃ e:a = b,e ▸ d = d':=by
 unfold castA at h
 split at h
 ·split at h
  ·rename_i hc;obtain ⟨rfl,rfl⟩:=hc;exact ⟨rfl,Option.some.inj h⟩
  ·cases h
 ·split at h
  ·rename_i hc
   subst hc
   split at h
   ·rename_i l hl
    obtain ⟨rfl,rfl⟩:=castM_some G hl
    exact ⟨rfl,Option.some.inj h⟩
   ·cases h
  ·cases h
 ·split at h
  ·rename_i l hl
   obtain ⟨rfl,rfl⟩:=castL_some hl
   exact ⟨rfl,Option.some.inj h⟩
  ·cases h
 ·cases h
def decR (n:Nat) (hp:G.Hp):(os:List (Nat × Ob G.U)) → Option (TyR G os)
 | []=>some ()
 | (o,.row u) :: os=>match hp[o]? with
  | some (.row false _ l)=>match castL G (v:=u) l,decR n hp os with
   | some l,some y=>some (l,y)
   | _,_=>none
  | _=>none
 | (o,.bx u js) :: os=>match hp[o]? with
  | some (.box cs)=>match ownPs G n hp js 0 cs,decR n hp os with
   | some ps,some y=>match G.unrow u ps with
    | some x=>some (x,y)
    | none=>none
   | _,_=>none
  | _=>none
 | (o,.ab a) :: os=>match hp[o]? with
  | some (.ab false a' d)=>match castA G a' a d,decR n hp os with
   | some d,some y=>some (d,y)
   | _,_=>none
  | _=>none
 | (o,.gone) :: os=>match hp[o]? with
  | some ob=>if goneB G ob = true then decR n hp os else none
  | none=>none
def decS (n:Nat) (env:G.Env) (fr:G.Fr) (hp:G.Hp):(ss:List (Nat × Kd G.U)) → (os:List (Nat × Ob G.U)) → Option (TyS G ss os)
 | [],os=>decR G n hp os
 | (t,.tv u) :: ss,os=>match getS G env fr t with
  | .t x=>match unN G n hp u x,decS n env fr hp ss os with
   | some x,some y=>some (x,y)
   | _,_=>none
  | _=>none
 | (t,.os o) :: ss,os=>match getS G env fr t with
  | .t (.c (.os o'))=>if o' = o ∧ o < n then decS n env fr hp ss os else none
  | _=>none
 | (t,.bx u js) :: ss,os=>match getS G env fr t with
  | .t (.c (.ptr q 0))=>match hp[q]? with
   | some (.box cs)=>match ownPs G n hp js 0 cs,decS n env fr hp ss os with
    | some ps,some y=>match G.unrow u ps with
     | some x=>some (x,y)
     | none=>none
    | _,_=>none
   | _=>none
  | _=>none
 | (t,.nr u) :: ss,os=>match getS G env fr t with
  | .t (.c (.os q))=>match hp[q]? with
   | some (.row false _ l)=>match castL G (v:=u) l,decS n env fr hp ss os with
    | some l,some y=>some (l,y)
    | _,_=>none
   | _=>none
  | _=>none
def boxCs (hp:G.Hp) (q:Nat):List G.C:=match hp[q]? with
 | some (.box cs)=>cs
 | _=>[]
def ptrOf:G.D → Nat
 | .t (.c (.ptr q _))=>q
 | .t (.c (.os q))=>q
 | _=>0
def qR (hp:G.Hp):(os:List (Nat × Ob G.U)) → TyR G os → List Qs
 | [],_=>[]
 | (_,.row _) :: os,(_,y)=>qR hp os y
 | (o,.bx u js) :: os,(x,y)=>ownQs G js 0 (G.row u x) (boxCs G hp o) ++ qR hp os y
 | (_,.ab _) :: os,(_,y)=>qR hp os y
 | (_,.gone) :: os,y=>qR hp os y
def qS (env:G.Env) (fr:G.Fr) (hp:G.Hp):(ss:List (Nat × Kd G.U)) → (os:List (Nat × Ob G.U)) → TyS G ss os → List Qs
 | [],_,_=>[]
 | (_,.tv _) :: ss,os,(_,y)=>qS env fr hp ss os y
 | (_,.os _) :: ss,os,y=>qS env fr hp ss os y
 | (t,.bx u js) :: ss,os,(x,y)=>.old (ptrOf G (getS G env fr t)) :: (ownQs G js 0 (G.row u x) (boxCs G hp (ptrOf G (getS G env fr t))) ++ qS env fr hp ss os y)
 | (t,.nr _) :: ss,os,(_,y)=>.old (ptrOf G (getS G env fr t)) :: qS env fr hp ss os y
def tcs:G.D → List G.C
 | .t (.c c)=>[c]
 | .t (.agg cs)=>cs
 | _=>[]
def fzR (hp:G.Hp):List (Nat × Ob G.U) → List Nat
 | []=>[]
 | (o,.bx _ js) :: os=>fzC G js 0 (boxCs G hp o) ++ fzR hp os
 | _ :: os=>fzR hp os
def fzS (env:G.Env) (fr:G.Fr) (hp:G.Hp):List (Nat × Kd G.U) → List Nat
 | []=>[]
 | (t,.tv _) :: ss=>fzC G [] 0 (tcs G (getS G env fr t)) ++ fzS env fr hp ss
 | (_,.os _) :: ss=>fzS env fr hp ss
 | (t,.bx _ js) :: ss=>fzC G js 0 (boxCs G hp (ptrOf G (getS G env fr t))) ++ fzS env fr hp ss
 | (_,.nr _) :: ss=>fzS env fr hp ss
def keptB:List (Nat × Ob G.U) → Nat → Bool
 | [],_=>false
 | (_,.gone) :: os,q=>keptB os q
 | (o,_) :: os,q=>o == q || keptB os q
def nodupB:List Nat → Bool
 | []=>true
 | x :: xs=>!xs.contains x && nodupB xs
def okQ (Q fz:List Nat) (os:List (Nat × Ob G.U)):Bool:=nodupB Q && Q.all (fun q=>!keptB G os q && !fz.contains q)
def qT (env:G.Env) (fr:G.Fr) (hp:G.Hp) (T:Tp G.U) (y:G.Ty T):List Qs:=qS G env fr hp T.slots T.objs y ++ qR G hp T.objs (objPart G T.slots T.objs y)
def decT (n:Nat) (env:G.Env) (fr:G.Fr) (hp:G.Hp) (T:Tp G.U):Option (G.Ty T):=match decS G n env fr hp T.slots T.objs with
 | some y=>if okQ G ((qT G env fr hp T y).filterMap Qs.nat?) (fzS G env fr hp T.slots ++ fzR G hp T.objs) T.objs = true then some y else none
 | none=>none
def encT (T:Tp G.U) (y:G.Ty T) (n:Nat) (fr:G.Fr):G.Fr:=encS G T.slots T.objs y n fr
def newT (T:Tp G.U) (y:G.Ty T) (n:Nat):G.Hp:=newS G T.slots T.objs y n ++ newR G T.objs (objPart G T.slots T.objs y)
def encH (T:Tp G.U) (y:G.Ty T) (hp:G.Hp):G.Hp:=encR G T.objs (objPart G T.slots T.objs y) (hp.length + (newS G T.slots T.objs y hp.length).length) hp ++ newT G T y hp.length
def lockO:G.O → G.O
 | .box cs=>.lock cs
 | .row _ u l=>.row true u l
 | .ab _ a d=>.ab true a d
 | ob=>ob
section
variable {G} {w w' w0:World} {R R':Nat → Prop} {n n':Nat} {m m':Nat → Value} {r:β} {N:Nat} {hp hp':G.Hp} {env env':G.Env} {fr fr':G.Fr} {tmps:Array Value} [Held]
theorem RepC.lt {c:G.C} {v:Value} (h:RepC G w R n m c v):∀ o ∈ refs G c,o < n:=by
 cases c with
 | os o=>intro q hq;simp [refs] at hq;subst hq;exact h.1
 | ptr o f=>intro q hq;simp [refs] at hq;subst hq;exact h.1
 | ep u o i j=>intro q hq;simp [refs] at hq;subst hq;exact h.1
 | bs u o k=>intro q hq;simp [refs] at hq;subst hq;exact h.1
 | pre o k=>intro q hq;simp [refs] at hq;subst hq;exact h.1
 | clo f caps =>
  intro q hq
  obtain ⟨vs,_,_,h3⟩:=h
  obtain ⟨i,hi,rfl⟩:=List.mem_iff_getElem.1 hq
  exact (h3 i _ (List.getElem?_eq_getElem hi)).1
 | junk=>intro q hq;cases hq
 | pv p=>intro q hq;cases hq
 | rp cells=>intro q hq;cases hq
 | fn u r F=>intro q hq;cases hq
theorem RepC.lower {c:G.C} {v:Value} (h:RepC G w R n m c v) (hl:∀ o ∈ refs G c,o < n'):RepC G w R n' m c v:=by
 cases c with
 | junk=>trivial
 | pv p=>exact h
 | rp cells=>exact h
 | fn u r F=>exact h
 | os o=>exact ⟨hl o (by simp [refs]),h.2⟩
 | ptr o f=>exact ⟨hl o (by simp [refs]),h.2⟩
 | ep u o i j=>exact ⟨hl o (by simp [refs]),h.2⟩
 | bs u o k=>exact ⟨hl o (by simp [refs]),h.2⟩
 | pre o k=>exact ⟨hl o (by simp [refs]),h.2⟩
 | clo f caps =>
  obtain ⟨vs,e1,e2,e3⟩:=h
  exact ⟨vs,e1,e2,fun i o hi=>⟨hl o (List.mem_of_getElem? hi),(e3 i o hi).2⟩⟩
theorem RepL.lt {cs:List G.C} {vs:List Value} (h:RepL G w R n m cs vs):∀ o ∈ cs.flatMap (refs G),o < n:=by
 intro o ho
 obtain ⟨c,hc,ho⟩:=List.mem_flatMap.1 ho
 obtain ⟨i,hi,rfl⟩:=List.mem_iff_getElem.1 hc
 obtain ⟨x,_,h2⟩:=h.2 i _ (List.getElem?_eq_getElem hi)
 exact h2.lt o ho
theorem RepL.lower {cs:List G.C} {vs:List Value} (h:RepL G w R n m cs vs) (hl:∀ o ∈ cs.flatMap (refs G),o < n'):RepL G w R n' m cs vs :=
 ⟨h.1,fun i c hi=>by
  obtain ⟨x,h1,h2⟩:=h.2 i c hi
  exact ⟨x,h1,h2.lower fun o ho=>hl o (List.mem_flatMap.2 ⟨c,List.mem_of_getElem? hi,ho⟩)⟩⟩
theorem RepT.lt {t:G.T} {v:Value} (h:RepT G w R n m t v):∀ o ∈ refsT t,o < n:=by
 cases t with
 | c x=>exact RepC.lt h
 | agg cs=>obtain ⟨vs,_,hl⟩:=h;exact hl.lt
theorem RepT.lower {t:G.T} {v:Value} (h:RepT G w R n m t v) (hl:∀ o ∈ refsT t,o < n'):RepT G w R n' m t v:=by
 cases t with
 | c x=>exact RepC.lower h hl
 | agg cs=>obtain ⟨vs,e,h⟩:=h;exact ⟨vs,e,h.lower hl⟩
theorem RepD.lt {d:G.D} {v:Value} (h:RepD G w R n m d v):∀ o ∈ refsD d,o < n:=by
 cases d with
 | t x=>exact RepT.lt h
 | tup ts =>
  obtain ⟨vs,_,_,hv⟩:=h
  intro o ho
  obtain ⟨t,ht,ho⟩:=List.mem_flatMap.1 ho
  obtain ⟨i,hi,rfl⟩:=List.mem_iff_getElem.1 ht
  obtain ⟨x,_,h2⟩:=hv i _ (List.getElem?_eq_getElem hi)
  exact h2.lt o ho
theorem RepD.lower {d:G.D} {v:Value} (h:RepD G w R n m d v) (hl:∀ o ∈ refsD d,o < n'):RepD G w R n' m d v:=by
 cases d with
 | t x=>exact RepT.lower h hl
 | tup ts =>
  obtain ⟨vs,e,h1,hv⟩:=h
  exact ⟨vs,e,h1,fun i t hi=>by
   obtain ⟨x,h3,h4⟩:=hv i t hi
   exact ⟨x,h3,h4.lower fun o ho=>hl o (List.mem_flatMap.2 ⟨t,List.mem_of_getElem? hi,ho⟩)⟩⟩
theorem toT_refs (u:G.U) (x:G.El u):refsT (toT G u x) = []:=by
 unfold toT
 split
 ·rfl
 ·simp only [refsT,List.flatMap_map]
  rw [List.flatMap_eq_nil_iff]
  intro p _
  rfl
structure Cov (G:Sg P) (n:Nat) (a b:G.O):Prop where
 live:b.live = true → a.live = true
 rep:∀ (w:World) (R:Nat → Prop) (k:Nat) (m:Nat → Value) (N o:Nat),RepO G w R k m N o a → RepO G w R n m N o b
theorem HRel.cover (hh:HRel G N hp m w) {hp2:G.Hp} (h:∀ (o:Nat) (ob:G.O),hp2[o]? = some ob → ob = .dead ∨ ∃ ob',hp[o]? = some ob' ∧ Cov G hp2.length ob' ob) :
  HRel G N hp2 m w ∧ (∀ b,Rof G hp m w b → Rof G hp2 m w b) ∧ ∀ (o:Nat) (ob:G.O),hp2[o]? = some ob → ob.live = true → ∃ ob',hp[o]? = some ob' ∧ ob'.live = true:=by
 have hget:∀ (o:Nat) (ob:G.O),hp2[o]? = some ob → ob.live = true → ∃ ob',hp[o]? = some ob' ∧ ob'.live = true:=by
  intro o ob ho hl
  rcases h o ob ho with rfl | ⟨ob',h1,h2⟩
  ·cases hl
  ·exact ⟨ob',h1,h2.live hl⟩
 have hro:∀ b,Rof G hp m w b → Rof G hp2 m w b:=by
  rintro b ⟨h1,h2⟩
  refine ⟨h1,?_⟩
  rintro (hS | ⟨o,ob,ho,hl,hb⟩)
  ·exact h2 (.inl hS)
  obtain ⟨ob',h3,h4⟩:=hget o ob ho hl
  exact h2 (.inr ⟨o,ob',h3,h4,hb⟩)
 refine ⟨⟨fun o ob ho=>?_,fun o o' ob ob' b ho ho' hl hl' hb hb'=>?_,hh.base,hh.held,hh.gh⟩,hro,hget⟩
 ·rcases h o ob ho with rfl | ⟨ob',h1,h2⟩
  ·trivial
  ·exact RepO.mono hro (fun _ _=>rfl) (Nat.le_refl _) (fun _ _ _=>rfl) rfl (fun _ _ _=>rfl) (h2.rep _ _ _ _ _ _ (hh.obj o ob' h1))
 ·obtain ⟨x,h1,h2⟩:=hget o ob ho hl
  obtain ⟨x',h1',h2'⟩:=hget o' ob' ho' hl'
  exact hh.sep o o' x x' b h1 h1' h2 h2' hb hb'
theorem cov_lock {ob ob':G.O} (h:lockO G ob' = lockO G ob) (hr:∀ o ∈ refsO ob,o < n):Cov G n ob' ob:=by
 refine ⟨fun hl=>?_,fun w R k m N o ho=>?_⟩
 ·cases ob <;> cases ob' <;> first | rfl | (exfalso;cases hl;done) | (exfalso;cases h;done)
 ·have box:∀ cs,RepO G w R k m N o (.box cs) → (∀ o ∈ cs.flatMap (refs G),o < n) → RepO G w R n m N o (.box cs):=by
   rintro cs ⟨b,t,vs,e1,e2,e3,e4,e5⟩ hr
   exact ⟨b,t,vs,e1,e2,e3,e4.lower hr,e5⟩
  cases ob <;> cases ob' <;> simp only [lockO] at h <;> first | trivial | (cases h;done) | (cases h;exact box _ ho hr) | (cases h;exact ho)
theorem frz_ok (hh:HRel G N hp m w) {hp2:G.Hp} {m2:Nat → Value} (hro:∀ b,Rof G hp m w b → Rof G hp2 m2 w b) {o:Nat} (hown:∀ (q:Nat) (ob:G.O) (b:Nat),hp2[q]? = some ob → ob.live = true → blkOf (m2 q) = some b → ∃ (q':Nat) (ob':G.O),hp[q']? = some ob' ∧ ob'.live = true ∧ blkOf (m q') = some b ∧ q' ≠ o)
  {lk:Bool} {u:G.U} {l:List (G.El u)} (ho:hp[o]? = some (.row lk u l)):RepP G w (Rof G hp2 m2 w) (.sl u l) (m o):=by
 have hrow:=hh.obj o _ ho
 refine RepP_row' hro (fun g hg=>⟨(hrow.blk rfl hg).2,?_⟩) hrow
 rintro (hS | ⟨q,x,hx,hl2,hb⟩)
 ·have h5:=hh.held g hS
  have h6:=(hrow.blk rfl hg).1
  omega
 obtain ⟨q',x',hx',hl3,hb',hne⟩:=hown q x g hx hl2 hb
 exact hne (hh.sep q' o x' _ g hx' ho hl3 rfl hb' hg)
theorem pvN_ok {n0:Nat} {R2:Nat → Prop} (hro:∀ b,R b → R2 b):∀ {cs:List G.C} {ps:List G.P'} {vs:List Value} {i:Nat},pvN G n0 hp cs = some ps → (∀ (o:Nat) (lk:Bool) (u:G.U) (l:List (G.El u)),o ∈ fzC G [] i cs → n0 ≤ o → hp[o]? = some (.row lk u l) → RepP G w R2 (.sl u l) (m o)) → RepL G w R n m cs vs →
  vs.length = ps.length ∧ ∀ (j:Nat) (p:G.P'),ps[j]? = some p → ∃ x,vs[j]? = some x ∧ RepP G w R2 p x
 | [],ps,vs,i,h,_,hl=>by cases h;exact ⟨hl.1,by simp⟩
 | c :: cs,ps,vs,i,h,hz,hl=>by
  cases vs with
  | nil=>have:=hl.1;simp at this
  | cons v vs =>
   have htl:RepL G w R n m cs vs:=by have:=hl.drop 1;simpa using this
   obtain ⟨v',hv,hrep⟩:=hl.2 0 c rfl
   cases hv
   unfold pvN at h
   split at h
   ·rename_i p
    split at h
    ·rename_i ps' hps
     cases h
     obtain ⟨h1,h2⟩:=pvN_ok hro (i:=i + 1) hps (fun o lk u l ho=>hz o lk u l ho) htl
     refine ⟨by simp [h1],fun j q hj=>?_⟩
     cases j with
     | zero=>cases hj;exact ⟨v,rfl,RepP.mono G hro (fun _ _=>rfl) hrep⟩
     | succ j=>exact h2 j q hj
    ·cases h
   ·rename_i o
    split at h
    ·rename_i hno
     split at h
     ·rename_i lk u l ps' ho hps
      cases h
      obtain ⟨h1,h2⟩:=pvN_ok hro (i:=i + 1) hps (fun o lk u l ho=>hz o lk u l (List.mem_cons_of_mem _ ho)) htl
      refine ⟨by simp [h1],fun j q hj=>?_⟩
      cases j with
      | zero =>
       cases hj
       obtain ⟨_,rfl,_⟩:=hrep
       exact ⟨_,rfl,hz o lk u l List.mem_cons_self hno ho⟩
      | succ j=>exact h2 j q hj
     ·cases h
    ·cases h
   ·cases h
theorem unN_ok (hok:G.Ok) {n0:Nat} {R2:Nat → Prop} (hro:∀ b,R b → R2 b) {u:G.U} {t:G.T} {x:G.El u} {v:Value} (h:unN G n0 hp u t = some x) (hz:∀ (o:Nat) (lk:Bool) (u:G.U) (l:List (G.El u)),o ∈ fzC G [] 0 (tcs G (.t t)) → n0 ≤ o → hp[o]? = some (.row lk u l) → RepP G w R2 (.sl u l) (m o))
  (ht:RepT G w R n m t v):RepT G w R2 n' m' (toT G u x) v:=by
 unfold unN at h
 split at h
 ·rename_i cs hag
  split at h
  ·rename_i ps hps
   obtain ⟨vs,rfl,hl⟩:=ht
   obtain ⟨h1,h2⟩:=pvN_ok hro (i:=0) hps hz hl
   obtain ⟨h3,h4⟩:=unrow_ok hok h h1 h2
   exact toT_of hok (vs:=vs) (by rw [hag]) h3 h4
  ·cases h
 ·rename_i c hag
  split at h
  ·rename_i ps hps
   obtain ⟨h1,h2⟩:=pvN_ok hro (i:=0) (vs:=[v]) hps hz ⟨rfl,fun i c' hi=>by
    cases i with
    | zero=>cases hi;exact ⟨v,rfl,ht⟩
    | succ i=>cases hi⟩
   obtain ⟨h3,h4⟩:=unrow_ok hok h h1 h2
   exact toT_of hok (vs:=[v]) (by rw [hag]) h3 h4
  ·cases h
 ·cases h
def hdQ (m:Nat → Value):Qs → Value
 | .old q=>m q
 | .nil=>.slice none 0 0
 | .nilm=>.map none
def m2Q (m:Nat → Value) (n:Nat) (Q:List Qs) (o:Nat):Value:=if o < n then m o else hdQ m ((Q[o - n]?).getD .nil)
theorem m2Q_lt (m:Nat → Value) {n:Nat} (Q:List Qs) {o:Nat} (h:o < n):m2Q m n Q o = m o:=if_pos h
theorem m2Q_ge (m:Nat → Value) (n:Nat) {Q:List Qs} {j:Nat} {s:Qs} (h:Q[j]? = some s):m2Q m n Q (n + j) = hdQ m s:=by
 unfold m2Q
 rw [if_neg (by omega),Nat.add_sub_cancel_left,h]
 rfl
theorem ownQs_len (js:List Nat):∀ (rs:List G.P') (cs:List G.C) (i:Nat),rs.length = cs.length → (ownQs G js i rs cs).length = (ownRs G js i rs).length
 | [],_,_,_=>rfl
 | _ :: _,[],_,h=>by simp at h
 | r :: rs,c :: cs,i,h=>by
  have ih:=ownQs_len js rs cs (i + 1) (by simpa using h)
  unfold ownQs ownRs
  split
  ·cases r with
   | val x=>exact ih
   | sl v l=>simpa using ih
   | mp _ _ _ _=>simpa using ih
  ·exact ih
def Nw (G:Sg P) (hp:G.Hp) (ob:G.O) (s:Qs):Prop:=ob.live = true ∧ match s with
 | .old q=>∃ ob',hp[q]? = some ob' ∧ ob'.live = true ∧ ob'.lockd = false
 | _=>True
def NwO (G:Sg P) (hp:G.Hp) (ob:G.O):Qs → Prop
 | .old q=>hp[q]? = some ob ∧ ((∃ v l,ob = .row false v l) ∨ ∃ t v d,ob = .ab false (.mapu t v) d)
 | .nil=>∃ v,ob = .row false v []
 | .nilm=>∃ t v,ob = .ab false (.mapu t v) (false,[])
theorem ownPs_len {n0:Nat} {js:List Nat}:∀ {cs:List G.C} {i:Nat} {ps:List G.P'},ownPs G n0 hp js i cs = some ps → ps.length = cs.length
 | [],_,_,h=>by cases h;rfl
 | c :: cs,i,ps,h=>by
  unfold ownPs at h
  split at h
  ·cases h
  ·rename_i ps' hps
   have ih:=ownPs_len hps
   split at h
   ·split at h
    ·split at h
     ·cases h;simp [ih]
     ·cases h;simp [ih]
     ·cases h
    ·cases h;simp [ih]
   ·split at h
    ·split at h
     ·split at h
      ·cases h;simp [ih]
      ·cases h
     ·split at h
      ·cases h;simp [ih]
      ·cases h
    ·split at h
     ·split at h
      ·cases h;simp [ih]
      ·cases h
     ·cases h
    ·cases h
   ·cases h
theorem own_ok {n0:Nat} {js:List Nat} {R2:Nat → Prop} (hro:∀ b,R b → R2 b) {n2:Nat} {m2:Nat → Value}:∀ {cs:List G.C} {i k:Nat} {ps rs:List G.P'},ownPs G n0 hp js i cs = some ps → rs.length = cs.length → (∀ (j:Nat) (p:G.P'),ps[j]? = some p → ∃ q,rs[j]? = some q ∧ Weak G p q) →
  (∀ (j:Nat) (ob:G.O),(ownRs G js i rs)[j]? = some ob → ∃ s,(ownQs G js i rs cs)[j]? = some s ∧ NwO G hp ob s) ∧
  ∀ (vs:List Value),RepL G w R n m cs vs → (∀ (j:Nat) (s:Qs),(ownQs G js i rs cs)[j]? = some s → m2 (k + j) = hdQ m s) → k + (ownQs G js i rs cs).length ≤ n2 →
   (∀ (o:Nat) (lk:Bool) (u:G.U) (l:List (G.El u)),o ∈ fzC G js i cs → n0 ≤ o → hp[o]? = some (.row lk u l) → RepP G w R2 (.sl u l) (m o)) → RepL G w R2 n2 m2 (ownCs G js i k rs) vs
 | [],i,k,ps,rs,h,hl,_=>by
  cases h
  have:rs = []:=List.eq_nil_of_length_eq_zero hl
  subst this
  exact ⟨fun j ob hj=>(by cases hj),fun vs hv _ _ _=>⟨hv.1,fun i c hi=>(by cases hi)⟩⟩
 | c :: cs,i,k,ps,rs,h,hl,hw=>by
  cases rs with
  | nil=>simp at hl
  | cons r rs =>
   have hlr:rs.length = cs.length:=by simpa using hl
   unfold ownPs at h
   split at h
   ·cases h
   ·rename_i ps' hps
    have next:∀ {p:G.P'},ps = p :: ps' → Weak G p r ∧ ∀ (j:Nat) (p:G.P'),ps'[j]? = some p → ∃ q,rs[j]? = some q ∧ Weak G p q:=by
     rintro p rfl
     refine ⟨?_,fun j q hj=>hw (j + 1) q hj⟩
     obtain ⟨q,hq,h2⟩:=hw 0 p rfl
     cases hq
     exact h2
    have tl:∀ {v:Value} {vs:List Value},RepL G w R n m (c :: cs) (v :: vs) → RepC G w R n m c v ∧ RepL G w R n m cs vs:=by
     intro v vs hv
     obtain ⟨v',h3,h4⟩:=hv.2 0 c rfl
     cases h3
     exact ⟨h4,by have:=hv.drop 1;simpa using this⟩
    have cons:∀ {c':G.C} {cs':List G.C} {v:Value} {vs:List Value},RepC G w R2 n2 m2 c' v → RepL G w R2 n2 m2 cs' vs → RepL G w R2 n2 m2 (c' :: cs') (v :: vs):=by
     intro c' cs' v vs h1 h2
     refine ⟨by simp [h2.1],fun j x hj=>?_⟩
     cases j with
     | zero=>cases hj;exact ⟨v,rfl,h1⟩
     | succ j=>exact h2.2 j x hj
    split at h
    ·rename_i p
     split at h
     ·rename_i hjs
      split at h
      ·cases h
       obtain ⟨hw1,hw2⟩:=next rfl
       rcases hw1 with e | ⟨_,u,e⟩ | ⟨e,_⟩
       rotate_left 2
       ·cases e
       ·subst e
        obtain ⟨h5,h6⟩:=own_ok hro (n2:=n2) (m2:=m2) (k:=k) hps hlr hw2
        simp only [ownRs,ownQs,ownCs,fzC,hjs]
        refine ⟨h5,fun vs hv hQ hk hz=>?_⟩
        cases vs with
        | nil=>have:=hv.1;simp at this
        | cons v vs =>
         obtain ⟨t1,t2⟩:=tl hv
         exact cons (RepP.mono G hro (fun _ _=>rfl) t1) (h6 vs t2 hQ hk hz)
       ·subst e
        obtain ⟨h5,h6⟩:=own_ok hro (n2:=n2) (m2:=m2) (k:=k + 1) hps hlr hw2
        simp only [ownRs,ownQs,ownCs,fzC,hjs]
        refine ⟨fun j ob hj=>?_,fun vs hv hQ hk hz=>?_⟩
        ·cases j with
         | zero=>cases hj;exact ⟨.nil,rfl,u,rfl⟩
         | succ j=>exact h5 j ob hj
        ·cases vs with
         | nil=>have:=hv.1;simp at this
         | cons v vs =>
          obtain ⟨t1,t2⟩:=tl hv
          simp only [List.length_cons] at hk
          refine cons ?_ (h6 vs t2 (fun j s hj=>by rw [show k + 1 + j = k + (j + 1) from by omega];exact hQ (j + 1) s hj) (by omega) hz)
          cases t1 with
          | val _ h1=>exact ⟨by omega,(hQ 0 .nil rfl).symm,rfl⟩
      ·cases h
       obtain ⟨hw1,hw2⟩:=next rfl
       rcases hw1 with e | ⟨e,_⟩ | ⟨_,t,u,e⟩
       rotate_left 1
       ·cases e
       rotate_left 1
       ·subst e
        obtain ⟨h5,h6⟩:=own_ok hro (n2:=n2) (m2:=m2) (k:=k) hps hlr hw2
        simp only [ownRs,ownQs,ownCs,fzC,hjs]
        refine ⟨h5,fun vs hv hQ hk hz=>?_⟩
        cases vs with
        | nil=>have:=hv.1;simp at this
        | cons v vs =>
         obtain ⟨t1,t2⟩:=tl hv
         exact cons (RepP.mono G hro (fun _ _=>rfl) t1) (h6 vs t2 hQ hk hz)
       ·subst e
        obtain ⟨h5,h6⟩:=own_ok hro (n2:=n2) (m2:=m2) (k:=k + 1) hps hlr hw2
        simp only [ownRs,ownQs,ownCs,fzC,hjs]
        refine ⟨fun j ob hj=>?_,fun vs hv hQ hk hz=>?_⟩
        ·cases j with
         | zero=>cases hj;exact ⟨.nilm,rfl,t,u,rfl⟩
         | succ j=>exact h5 j ob hj
        ·cases vs with
         | nil=>have:=hv.1;simp at this
         | cons v vs =>
          obtain ⟨t1,t2⟩:=tl hv
          simp only [List.length_cons] at hk
          refine cons ?_ (h6 vs t2 (fun j s hj=>by rw [show k + 1 + j = k + (j + 1) from by omega];exact hQ (j + 1) s hj) (by omega) hz)
          cases t1 with
          | val _ h1=>exact ⟨by omega,(hQ 0 .nilm rfl).symm,rfl⟩
      ·cases h
     ·rename_i hjs
      cases h
      obtain ⟨hw1,hw2⟩:=next rfl
      obtain ⟨h5,h6⟩:=own_ok hro (n2:=n2) (m2:=m2) (k:=k) hps hlr hw2
      simp only [ownRs,ownQs,ownCs,fzC,hjs]
      refine ⟨h5,fun vs hv hQ hk hz=>?_⟩
      cases vs with
      | nil=>have:=hv.1;simp at this
      | cons v vs =>
       obtain ⟨t1,t2⟩:=tl hv
       exact cons (RepP.weak G (RepP.mono G hro (fun _ _=>rfl) t1) hw1) (h6 vs t2 hQ hk hz)
    ·rename_i q
     split at h
     ·rename_i lk u l hq
      split at h
      ·rename_i hjs
       split at h
       ·rename_i hlk
        cases h
        subst hlk
        obtain ⟨hw1,hw2⟩:=next rfl
        rcases hw1 with e | ⟨e,_⟩ | ⟨e,_⟩
        ·subst e
         obtain ⟨h5,h6⟩:=own_ok hro (n2:=n2) (m2:=m2) (k:=k + 1) hps hlr hw2
         simp only [ownRs,ownQs,ownCs,fzC,hjs]
         refine ⟨fun j ob hj=>?_,fun vs hv hQ hk hz=>?_⟩
         ·cases j with
          | zero=>cases hj;exact ⟨.old q,rfl,hq,.inl ⟨u,l,rfl⟩⟩
          | succ j=>exact h5 j ob hj
         ·cases vs with
          | nil=>have:=hv.1;simp at this
          | cons v vs =>
           obtain ⟨t1,t2⟩:=tl hv
           simp only [List.length_cons] at hk
           refine cons ?_ (h6 vs t2 (fun j s hj=>by rw [show k + 1 + j = k + (j + 1) from by omega];exact hQ (j + 1) s hj) (by omega) hz)
           exact ⟨by omega,t1.2.1.trans (hQ 0 (.old q) rfl).symm,t1.2.2⟩
        ·cases e
        ·cases e
       ·cases h
      ·rename_i hjs
       split at h
       ·rename_i hnq
        cases h
        obtain ⟨hw1,hw2⟩:=next rfl
        obtain ⟨h5,h6⟩:=own_ok hro (n2:=n2) (m2:=m2) (k:=k) hps hlr hw2
        simp only [ownRs,ownQs,ownCs,fzC,hjs]
        refine ⟨h5,fun vs hv hQ hk hz=>?_⟩
        cases vs with
        | nil=>have:=hv.1;simp at this
        | cons v vs =>
         obtain ⟨t1,t2⟩:=tl hv
         refine cons (RepP.weak G ?_ hw1) (h6 vs t2 hQ hk fun o lk u l ho=>hz o lk u l (List.mem_cons_of_mem _ ho))
         obtain ⟨_,rfl,_⟩:=t1
         exact hz q lk u l List.mem_cons_self hnq hq
       ·cases h
     ·rename_i lk t u d hq
      split at h
      ·rename_i hjs
       split at h
       ·rename_i hlk
        cases h
        subst hlk
        obtain ⟨hw1,hw2⟩:=next rfl
        rcases hw1 with e | ⟨e,_⟩ | ⟨e,_⟩
        ·subst e
         obtain ⟨h5,h6⟩:=own_ok hro (n2:=n2) (m2:=m2) (k:=k + 1) hps hlr hw2
         simp only [ownRs,ownQs,ownCs,fzC,hjs]
         refine ⟨fun j ob hj=>?_,fun vs hv hQ hk hz=>?_⟩
         ·cases j with
          | zero=>cases hj;exact ⟨.old q,rfl,hq,.inr ⟨t,u,_,rfl⟩⟩
          | succ j=>exact h5 j ob hj
         ·cases vs with
          | nil=>have:=hv.1;simp at this
          | cons v vs =>
           obtain ⟨t1,t2⟩:=tl hv
           simp only [List.length_cons] at hk
           refine cons ?_ (h6 vs t2 (fun j s hj=>by rw [show k + 1 + j = k + (j + 1) from by omega];exact hQ (j + 1) s hj) (by omega) hz)
           exact ⟨by omega,t1.2.1.trans (hQ 0 (.old q) rfl).symm,t1.2.2⟩
        ·cases e
        ·cases e
       ·cases h
      ·cases h
     ·cases h
    ·cases h
theorem own_row (hok:G.Ok) {n0:Nat} {js:List Nat} {cs:List G.C} {ps:List G.P'} {u:G.U} {x:G.El u} (h1:ownPs G n0 hp js 0 cs = some ps) (h2:G.unrow u ps = some x) :
  (G.row u x).length = cs.length ∧ ∀ (j:Nat) (p:G.P'),ps[j]? = some p → ∃ q,(G.row u x)[j]? = some q ∧ Weak G p q:=by
 obtain ⟨h3,h4⟩:=hok.unrow u ps x h2
 exact ⟨by rw [hok.row_sz,← h3,ownPs_len h1],h4⟩
theorem boxCs_of {q:Nat} {cs:List G.C} (h:hp[q]? = some (.box cs)):boxCs G hp q = cs:=by unfold boxCs;rw [h]
def Wr (G:Sg P) (hp:G.Hp) (os:List (Nat × Ob G.U)) (o:Nat) (ob:G.O):Prop:=ob = .dead ∨ (keptB G os o = true ∧ ob.live = true ∧ ∃ ob',hp[o]? = some ob' ∧ ob'.live = true ∧ ob'.mov = ob.mov)
theorem Wr.cons {q:Nat} {kd:Ob G.U} {os:List (Nat × Ob G.U)} {o:Nat} {ob:G.O} (h:Wr G hp os o ob):Wr G hp ((q,kd) :: os) o ob:=by
 rcases h with h | ⟨h1,h2⟩
 ·exact .inl h
 ·refine .inr ⟨?_,h2⟩
  cases kd <;> simp only [keptB,h1,Bool.or_true]
theorem encR_src {n0:Nat}:∀ (os:List (Nat × Ob G.U)) (y:TyR G os) (k:Nat) (B:G.Hp),decR G n0 hp os = some y →
  ∀ (o:Nat) (ob:G.O),(encR G os y k B)[o]? = some ob → (B[o]? = some ob ∧ ∀ p ∈ os,p.1 ≠ o) ∨ Wr G hp os o ob
 | [],_,_,_,_=>fun o ob ho=>.inl ⟨ho,fun p hp=>by cases hp⟩
 | (q,kd) :: os,y,k,B,hd=>by
  have step:∀ (y':TyR G os) (k':Nat) (X:G.O),decR G n0 hp os = some y' → (∀ o,o = q → Wr G hp ((q,kd) :: os) o X) → ∀ (o:Nat) (ob:G.O),(encR G os y' k' (B.set q X))[o]? = some ob → (B[o]? = some ob ∧ ∀ p ∈ (q,kd) :: os,p.1 ≠ o) ∨ Wr G hp ((q,kd) :: os) o ob:=by
   intro y' k' X hy hX o ob ho
   rcases encR_src os y' k' _ hy o ob ho with ⟨h1,h2⟩ | h
   ·rw [List.getElem?_set] at h1
    by_cases he:q = o
    ·subst he
     rw [if_pos rfl] at h1
     split at h1
     ·cases h1;exact .inr (hX q rfl)
     ·cases h1
    ·rw [if_neg he] at h1
     refine .inl ⟨h1,fun p hp=>?_⟩
     rcases List.mem_cons.1 hp with rfl | hp
     ·exact he
     ·exact h2 p hp
   ·exact .inr h.cons
  have kept:kd ≠ .gone → keptB G ((q,kd) :: os) q = true:=by
   intro hk
   cases kd <;> first | exact absurd rfl hk | simp [keptB]
  cases kd with
  | row u =>
   obtain ⟨l,y⟩:=y
   unfold decR at hd
   split at hd
   ·rename_i u' l' hq
    split at hd
    ·rename_i l2 y2 hl hy
     cases hd
     exact step _ _ _ hy fun o e=>by subst e;exact .inr ⟨kept (by simp),rfl,_,hq,rfl,rfl⟩
    ·cases hd
   ·cases hd
  | bx u js =>
   obtain ⟨l,y⟩:=y
   unfold decR at hd
   split at hd
   ·rename_i cs hq
    split at hd
    ·rename_i ps y2 hps hy
     split at hd
     ·rename_i x hx
      cases hd
      exact step _ _ _ hy fun o e=>by subst e;exact .inr ⟨kept (by simp),rfl,_,hq,rfl,rfl⟩
     ·cases hd
    ·cases hd
   ·cases hd
  | ab a =>
   obtain ⟨l,y⟩:=y
   unfold decR at hd
   split at hd
   ·rename_i a' d' hq
    split at hd
    ·rename_i d2 y2 hd2 hy
     cases hd
     exact step _ _ _ hy fun o e=>by subst e;exact .inr ⟨kept (by simp),rfl,_,hq,rfl,rfl⟩
    ·cases hd
   ·cases hd
  | gone =>
   unfold decR at hd
   split at hd
   ·rename_i ob0 hq
    have hd':(if goneB G ob0 = true then decR G n0 hp os else none) = some (show TyR G os from y):=hd
    split at hd'
    ·exact step _ _ _ hd' fun o _=>.inl rfl
    ·cases hd'
   ·cases hd
theorem encR_length:∀ (os:List (Nat × Ob G.U)) (y:TyR G os) (k:Nat) (B:G.Hp),(encR G os y k B).length = B.length
 | [],_,_,_=>rfl
 | (o,.row u) :: os,(l,y),k,B=>(encR_length os y k _).trans (by simp)
 | (o,.bx u js) :: os,(l,y),k,B=>(encR_length os y _ _).trans (by simp)
 | (o,.ab a) :: os,(l,y),k,B=>(encR_length os y k _).trans (by simp)
 | (o,.gone) :: os,y,k,B=>(encR_length os y k _).trans (by simp)
theorem encR_keep {n0:Nat}:∀ (os:List (Nat × Ob G.U)) (y:TyR G os) (k:Nat) (B:G.Hp),decR G n0 hp os = some y → ∀ (o:Nat) (ob:G.O),hp[o]? = some ob → ob.lockd = true → B[o]? = some ob → (encR G os y k B)[o]? = some ob
 | [],_,_,_,_,_,_,_,_,h=>h
 | (q,kd) :: os,y,k,B,hd,o,ob,ho,hl,hB=>by
  have step:∀ (y':TyR G os) (k':Nat) (X:G.O),decR G n0 hp os = some y' → (q = o → X = ob) → (encR G os y' k' (B.set q X))[o]? = some ob:=by
   intro y' k' X hy hX
   refine encR_keep os y' k' _ hy o ob ho hl ?_
   rw [List.getElem?_set]
   by_cases he:q = o
   ·subst he
    rw [if_pos rfl,if_pos (List.getElem?_eq_some_iff.1 hB).1,hX rfl]
   ·rw [if_neg he];exact hB
  cases kd with
  | row u =>
   obtain ⟨l,y⟩:=y
   unfold decR at hd
   split at hd
   ·rename_i u' l' hq
    split at hd
    ·rename_i l2 y2 hl' hy
     cases hd
     exact step _ _ _ hy fun e=>by subst e;rw [hq] at ho;cases ho;cases hl
    ·cases hd
   ·cases hd
  | bx u js =>
   obtain ⟨l,y⟩:=y
   unfold decR at hd
   split at hd
   ·rename_i cs hq
    split at hd
    ·rename_i ps y2 hps hy
     split at hd
     ·rename_i x hx
      cases hd
      exact step _ _ _ hy fun e=>by subst e;rw [hq] at ho;cases ho;cases hl
     ·cases hd
    ·cases hd
   ·cases hd
  | ab a =>
   obtain ⟨l,y⟩:=y
   unfold decR at hd
   split at hd
   ·rename_i a' d' hq
    split at hd
    ·rename_i d2 y2 hd2 hy
     cases hd
     exact step _ _ _ hy fun e=>by subst e;rw [hq] at ho;cases ho;cases hl
    ·cases hd
   ·cases hd
  | gone =>
   unfold decR at hd
   split at hd
   ·rename_i ob0 hq
    have hd':(if goneB G ob0 = true then decR G n0 hp os else none) = some (show TyR G os from y):=hd
    split at hd'
    ·rename_i hg
     exact step _ _ _ hd' fun e=>by
      subst e
      rw [hq] at ho
      cases ho
      cases ob <;> first | rfl | (simp [goneB,hl] at hg)
    ·cases hd'
   ·cases hd
theorem newR_src (w:World) (m:Nat → Value) (hok:G.Ok) {n0:Nat}:∀ (os:List (Nat × Ob G.U)) (y:TyR G os),decR G n0 hp os = some y → (qR G hp os y).length = (newR G os y).length ∧
  ∀ (j:Nat) (ob:G.O),(newR G os y)[j]? = some ob → ∃ s,(qR G hp os y)[j]? = some s ∧ NwO G hp ob s
 | [],_,_=>⟨rfl,fun j ob hj=>by cases hj⟩
 | (q,.row u) :: os,(l,y),hd=>by
  unfold decR at hd
  split at hd
  ·split at hd
   ·rename_i hy
    cases hd
    exact newR_src w m hok os _ hy
   ·cases hd
  ·cases hd
 | (q,.bx u js) :: os,(l,y),hd=>by
  unfold decR at hd
  split at hd
  ·rename_i cs hq
   split at hd
   ·rename_i ps y2 hps hy
    split at hd
    ·rename_i x hx
     cases hd
     obtain ⟨h1,h2⟩:=own_row hok hps hx
     obtain ⟨h3,h4⟩:=newR_src w m hok os _ hy
     have h5:=ownQs_len js _ cs 0 h1
     have h6:=(own_ok (w:=w) (R:=fun _=>True) (n:=0) (m:=m) (R2:=fun _=>True) (fun _ h=>h) (n2:=0) (m2:=m) (k:=0) hps h1 h2).1
     simp only [newR,qR,boxCs_of hq]
     refine ⟨by simp [h3,h5],fun j ob hj=>?_⟩
     rw [List.getElem?_append] at hj ⊢
     rw [h5]
     split at hj
     ·rename_i hlt;rw [if_pos hlt];exact h6 j ob hj
     ·rename_i hlt;rw [if_neg hlt];exact h4 _ ob hj
    ·cases hd
   ·cases hd
  ·cases hd
 | (q,.ab a) :: os,(l,y),hd=>by
  unfold decR at hd
  split at hd
  ·split at hd
   ·rename_i hy
    cases hd
    exact newR_src w m hok os _ hy
   ·cases hd
  ·cases hd
 | (q,.gone) :: os,y,hd=>by
  unfold decR at hd
  split at hd
  ·rename_i ob0 hq
   have hd':(if goneB G ob0 = true then decR G n0 hp os else none) = some (show TyR G os from y):=hd
   split at hd'
   ·exact newR_src w m hok os y hd'
   ·cases hd'
  ·cases hd
theorem newR_nw {ob:G.O} {s:Qs} (h:NwO G hp ob s):Nw G hp ob s:=by
 cases s with
 | nil=>obtain ⟨v,rfl⟩:=h;exact ⟨rfl,trivial⟩
 | nilm=>obtain ⟨t,v,rfl⟩:=h;exact ⟨rfl,trivial⟩
 | old q =>
  obtain ⟨h1,⟨v,l,rfl⟩ | ⟨t,v,d,rfl⟩⟩:=h
  ·exact ⟨rfl,_,h1,rfl,rfl⟩
  ·exact ⟨rfl,_,h1,rfl,rfl⟩
theorem newS_src (w:World) (m:Nat → Value) (hok:G.Ok) {n0:Nat}:∀ (ss:List (Nat × Kd G.U)) (os:List (Nat × Ob G.U)) (y:TyS G ss os) (k:Nat),decS G n0 env fr hp ss os = some y → (qS G env fr hp ss os y).length = (newS G ss os y k).length ∧
  ∀ (j:Nat) (ob:G.O),(newS G ss os y k)[j]? = some ob → ∃ s,(qS G env fr hp ss os y)[j]? = some s ∧ Nw G hp ob s
 | [],_,_,_,_=>⟨rfl,fun j ob hj=>by cases hj⟩
 | (t,.tv u) :: ss,os,(x,y),k,hd=>by
  unfold decS at hd
  split at hd
  ·split at hd
   ·rename_i hy
    cases hd
    exact newS_src w m hok ss os _ k hy
   ·cases hd
  ·cases hd
 | (t,.os o) :: ss,os,y,k,hd=>by
  unfold decS at hd
  split at hd
  ·rename_i o' hz
   have hd':(if o' = o ∧ o < n0 then decS G n0 env fr hp ss os else none) = some (show TyS G ss os from y):=hd
   split at hd'
   ·exact newS_src w m hok ss os y k hd'
   ·cases hd'
  ·cases hd
 | (t,.bx u js) :: ss,os,(x,y),k,hd=>by
  unfold decS at hd
  split at hd
  ·rename_i q hz
   split at hd
   ·rename_i cs hq
    split at hd
    ·rename_i ps y2 hps hy
     split at hd
     ·rename_i x hx
      cases hd
      obtain ⟨h1,h2⟩:=own_row hok hps hx
      have h5:=ownQs_len js _ cs 0 h1
      obtain ⟨h3,h4⟩:=newS_src w m hok ss os _ (k + 1 + (ownRs G js 0 (G.row u x)).length) hy
      have h6:=(own_ok (w:=w) (R:=fun _=>True) (n:=0) (m:=m) (R2:=fun _=>True) (fun _ h=>h) (n2:=0) (m2:=m) (k:=0) hps h1 h2).1
      simp only [newS,qS,hz,ptrOf,boxCs_of hq]
      refine ⟨by simp [h3,h5],fun j ob hj=>?_⟩
      cases j with
      | zero=>cases hj;exact ⟨.old q,rfl,rfl,_,hq,rfl,rfl⟩
      | succ j =>
       simp only [List.getElem?_cons_succ] at hj ⊢
       rw [List.getElem?_append] at hj ⊢
       rw [h5]
       split at hj
       ·rename_i hlt
        rw [if_pos hlt]
        obtain ⟨s,h7,h8⟩:=h6 j ob hj
        exact ⟨s,h7,newR_nw h8⟩
       ·rename_i hlt;rw [if_neg hlt];exact h4 _ ob hj
     ·cases hd
    ·cases hd
   ·cases hd
  ·cases hd
 | (t,.nr u) :: ss,os,(l,y),k,hd=>by
  unfold decS at hd
  split at hd
  ·rename_i q hz
   split at hd
   ·rename_i v l' hq
    split at hd
    ·rename_i l2 y2 hl hy
     cases hd
     obtain ⟨rfl,rfl⟩:=castL_some hl
     obtain ⟨h3,h4⟩:=newS_src w m hok ss os _ (k + 1) hy
     simp only [newS,qS,hz,ptrOf]
     refine ⟨by simp [h3],fun j ob hj=>?_⟩
     cases j with
     | zero=>cases hj;exact ⟨.old q,rfl,rfl,_,hq,rfl,rfl⟩
     | succ j=>exact h4 j ob hj
    ·cases hd
   ·cases hd
  ·cases hd
theorem new_row2 (hh:HRel G N hp m w) {R2:Nat → Prop} (hro:∀ b,Rof G hp m w b → R2 b) {n2:Nat} {m2:Nat → Value} {o:Nat} {ob:G.O} {s:Qs} (hs:NwO G hp ob s) (hm:m2 o = hdQ m s):RepO G w R2 n2 m2 N o ob:=by
 cases s with
 | nil =>
  obtain ⟨v,rfl⟩:=hs
  show ∃ xs,_
  rw [hm]
  exact ⟨[],World.ownsRow_nil w N _ _,fun k x j p hk=>by simp at hk,by simp⟩
 | nilm =>
  obtain ⟨t,v,rfl⟩:=hs
  show RepA G w R2 N _ (m2 o) _ ∧ _
  rw [hm]
  exact ⟨⟨rfl,rfl⟩,rfl⟩
 | old q =>
  obtain ⟨h1,⟨v,l,rfl⟩ | ⟨t,v,d,rfl⟩⟩:=hs
  ·obtain ⟨xs,h1,h2,h3⟩:=hh.obj q _ h1
   exact ⟨xs,by rw [hm];exact h1,RowRep.mono hro (fun _ _=>rfl) h2,h3⟩
  ·have:=hh.obj q _ h1
   exact ⟨by rw [hm];exact RepA.mono hro (fun _ _=>rfl) (fun _ _=>rfl) this.1,by rw [hm];exact this.2⟩
theorem new_box2 (hok:G.Ok) (hh:HRel G N hp m w) {R2:Nat → Prop} (hro:∀ b,Rof G hp m w b → R2 b) {n0 n2:Nat} {m2:Nat → Value} {js:List Nat} {o q k:Nat} {cs:List G.C} {ps:List G.P'} {u:G.U} {x:G.El u} (hq:hp[q]? = some (.box cs)) (hps:ownPs G n0 hp js 0 cs = some ps) (hx:G.unrow u ps = some x)
  (hm:m2 o = m q) (hQ:∀ (j:Nat) (s:Qs),(ownQs G js 0 (G.row u x) cs)[j]? = some s → m2 (k + j) = hdQ m s) (hk:k + (ownQs G js 0 (G.row u x) cs).length ≤ n2)
  (hz:∀ (o:Nat) (lk:Bool) (u:G.U) (l:List (G.El u)),o ∈ fzC G js 0 cs → n0 ≤ o → hp[o]? = some (.row lk u l) → RepP G w R2 (.sl u l) (m o)):RepO G w R2 n2 m2 N o (.box (ownCs G js 0 k (G.row u x))):=by
 obtain ⟨h1,h2⟩:=own_row hok hps hx
 obtain ⟨b,t,vs,e1,e2,e3,e4,e5⟩:=hh.obj q _ hq
 exact ⟨b,t,vs,hm.trans e1,e2,e3,(own_ok hro hps h1 h2).2 _ e4 hQ hk hz,e5⟩
theorem encR_rep (hok:G.Ok) (hh:HRel G N hp m w) {R2:Nat → Prop} (hro:∀ b,Rof G hp m w b → R2 b) {n0 n2:Nat} {m2:Nat → Value} (hlow:∀ o,o < n0 → m2 o = m o):∀ (os:List (Nat × Ob G.U)) (y:TyR G os) (k:Nat) (B:G.Hp),B.length = n0 → decR G n0 hp os = some y →
  (∀ (j:Nat) (s:Qs),(qR G hp os y)[j]? = some s → m2 (k + j) = hdQ m s) → k + (qR G hp os y).length ≤ n2 →
  (∀ (o:Nat) (lk:Bool) (u:G.U) (l:List (G.El u)),o ∈ fzR G hp os → n0 ≤ o → hp[o]? = some (.row lk u l) → RepP G w R2 (.sl u l) (m o)) →
  (∀ (o:Nat) (ob:G.O),B[o]? = some ob → (∃ p ∈ os,p.1 = o) ∨ RepO G w R2 n2 m2 N o ob) → ∀ (o:Nat) (ob:G.O),(encR G os y k B)[o]? = some ob → RepO G w R2 n2 m2 N o ob
 | [],_,_,_,_,_,_,_,_,hB=>fun o ob ho=>by
  rcases hB o ob ho with ⟨p,hp,_⟩ | h
  ·cases hp
  ·exact h
 | (q,kd) :: os,y,k,B,hBl,hd,hQ,hk,hz,hB=>by
  have step:∀ (y':TyR G os) (k':Nat) (X:G.O),decR G n0 hp os = some y' → (∀ (j:Nat) (s:Qs),(qR G hp os y')[j]? = some s → m2 (k' + j) = hdQ m s) → k' + (qR G hp os y').length ≤ n2 →
    (q < n0 → RepO G w R2 n2 m2 N q X) → ∀ (o:Nat) (ob:G.O),(encR G os y' k' (B.set q X))[o]? = some ob → RepO G w R2 n2 m2 N o ob:=by
   intro y' k' X hy hQ' hk' hX
   refine encR_rep hok hh hro hlow os y' k' _ (by simpa using hBl) hy hQ' hk' (fun o lk u l ho=>hz o lk u l ?_) fun o ob ho=>?_
   ·cases kd <;> simp only [fzR] <;> first | exact ho | exact List.mem_append_right _ ho
   ·rw [List.getElem?_set] at ho
    by_cases he:q = o
    ·subst he
     rw [if_pos rfl] at ho
     split at ho
     ·rename_i hlt;cases ho;exact .inr (hX (by omega))
     ·cases ho
    ·rw [if_neg he] at ho
     rcases hB o ob ho with ⟨p,hp,h1⟩ | h
     ·rcases List.mem_cons.1 hp with rfl | hp
      ·exact absurd h1 he
      ·exact .inl ⟨p,hp,h1⟩
     ·exact .inr h
  cases kd with
  | row u =>
   obtain ⟨l,y⟩:=y
   unfold decR at hd
   split at hd
   ·rename_i u' l' hq
    split at hd
    ·rename_i l2 y2 hl hy
     cases hd
     obtain ⟨rfl,rfl⟩:=castL_some hl
     refine step _ _ _ hy hQ hk fun hlt=>?_
     obtain ⟨xs,h1,h2,h3⟩:=hh.obj q _ hq
     exact ⟨xs,by rw [hlow q hlt];exact h1,RowRep.mono hro (fun _ _=>rfl) h2,h3⟩
    ·cases hd
   ·cases hd
  | bx u js =>
   obtain ⟨l,y⟩:=y
   unfold decR at hd
   split at hd
   ·rename_i cs hq
    split at hd
    ·rename_i ps y2 hps hy
     split at hd
     ·rename_i x hx
      cases hd
      have h5:=ownQs_len js _ cs 0 (own_row hok hps hx).1
      simp only [qR,boxCs_of hq,List.length_append] at hQ hk
      simp only [fzR,boxCs_of hq] at hz
      refine step _ _ _ hy (fun j s hj=>?_) (by omega) fun hlt=>new_box2 hok hh hro hq hps hx (hlow q hlt) (fun j s hj=>hQ j s ?_) (by omega) fun o lk u l ho=>hz o lk u l (List.mem_append_left _ ho)
      ·rw [Nat.add_assoc,← h5]
       refine hQ _ s ?_
       rw [List.getElem?_append_right (by omega),Nat.add_sub_cancel_left]
       exact hj
      ·rw [List.getElem?_append_left (List.getElem?_eq_some_iff.1 hj).1]
       exact hj
     ·cases hd
    ·cases hd
   ·cases hd
  | ab a =>
   obtain ⟨l,y⟩:=y
   unfold decR at hd
   split at hd
   ·rename_i a' d' hq
    split at hd
    ·rename_i d2 y2 hd2 hy
     cases hd
     obtain ⟨rfl,rfl⟩:=castA_some G hd2
     refine step _ _ _ hy hQ hk fun hlt=>?_
     have:=hh.obj q _ hq
     exact ⟨by rw [hlow q hlt];exact RepA.mono hro (fun _ _=>rfl) (fun _ _=>rfl) this.1,by rw [hlow q hlt];exact this.2⟩
    ·cases hd
   ·cases hd
  | gone =>
   unfold decR at hd
   split at hd
   ·rename_i ob0 hq
    have hd':(if goneB G ob0 = true then decR G n0 hp os else none) = some (show TyR G os from y):=hd
    split at hd'
    ·exact step _ _ _ hd' hQ hk fun _=>trivial
    ·cases hd'
   ·cases hd
theorem newS_rep (hok:G.Ok) (hh:HRel G N hp m w) {R2:Nat → Prop} (hro:∀ b,Rof G hp m w b → R2 b) {n0 n2:Nat} {m2:Nat → Value}:∀ (ss:List (Nat × Kd G.U)) (os:List (Nat × Ob G.U)) (y:TyS G ss os) (k:Nat),decS G n0 env fr hp ss os = some y →
  (∀ (j:Nat) (s:Qs),(qS G env fr hp ss os y)[j]? = some s → m2 (k + j) = hdQ m s) → k + (qS G env fr hp ss os y).length ≤ n2 →
  (∀ (o:Nat) (lk:Bool) (u:G.U) (l:List (G.El u)),o ∈ fzS G env fr hp ss → n0 ≤ o → hp[o]? = some (.row lk u l) → RepP G w R2 (.sl u l) (m o)) →
  ∀ (j:Nat) (ob:G.O),(newS G ss os y k)[j]? = some ob → RepO G w R2 n2 m2 N (k + j) ob
 | [],_,_,_,_,_,_,_=>fun j ob hj=>by cases hj
 | (t,.tv u) :: ss,os,(x,y),k,hd,hQ,hk,hz=>by
  unfold decS at hd
  split at hd
  ·split at hd
   ·rename_i hy
    cases hd
    exact newS_rep hok hh hro ss os _ k hy hQ hk fun o lk u l ho=>hz o lk u l (List.mem_append_right _ ho)
   ·cases hd
  ·cases hd
 | (t,.os o) :: ss,os,y,k,hd,hQ,hk,hz=>by
  unfold decS at hd
  split at hd
  ·rename_i o' hz'
   have hd':(if o' = o ∧ o < n0 then decS G n0 env fr hp ss os else none) = some (show TyS G ss os from y):=hd
   split at hd'
   ·exact newS_rep hok hh hro ss os y k hd' hQ hk hz
   ·cases hd'
  ·cases hd
 | (t,.bx u js) :: ss,os,(x,y),k,hd,hQ,hk,hz=>by
  unfold decS at hd
  split at hd
  ·rename_i q hz'
   split at hd
   ·rename_i cs hq
    split at hd
    ·rename_i ps y2 hps hy
     split at hd
     ·rename_i x hx
      cases hd
      obtain ⟨h1,h2⟩:=own_row hok hps hx
      have h5:=ownQs_len js _ cs 0 h1
      have h6:=(own_ok (w:=w) (R:=fun _=>True) (n:=0) (m:=m) (R2:=fun _=>True) (fun _ h=>h) (n2:=0) (m2:=m) (k:=0) hps h1 h2).1
      simp only [qS,hz',ptrOf,boxCs_of hq,List.length_append,List.length_cons] at hQ hk
      simp only [fzS,hz',ptrOf,boxCs_of hq] at hz
      have hQ1:∀ (j:Nat) (s:Qs),(ownQs G js 0 (G.row u x) cs)[j]? = some s → m2 (k + 1 + j) = hdQ m s:=by
       intro j s hj
       rw [show k + 1 + j = k + (j + 1) from by omega]
       refine hQ (j + 1) s ?_
       rw [List.getElem?_cons_succ,List.getElem?_append_left (List.getElem?_eq_some_iff.1 hj).1]
       exact hj
      have ih:=newS_rep (n2:=n2) (m2:=m2) hok hh hro ss os _ (k + 1 + (ownRs G js 0 (G.row u x)).length) hy (fun j s hj=>by
       rw [← h5,show k + 1 + (ownQs G js 0 (G.row u x) cs).length + j = k + (((ownQs G js 0 (G.row u x) cs).length + j) + 1) from by omega]
       refine hQ _ s ?_
       rw [List.getElem?_cons_succ,List.getElem?_append_right (by omega),Nat.add_sub_cancel_left]
       exact hj) (by omega) fun o lk u l ho=>hz o lk u l (List.mem_append_right _ ho)
      simp only [newS]
      intro j ob hj
      cases j with
      | zero =>
       cases hj
       exact new_box2 hok hh hro hq hps hx (hQ 0 (.old q) rfl) hQ1 (by omega) fun o lk u l ho=>hz o lk u l (List.mem_append_left _ ho)
      | succ j =>
       rw [List.getElem?_cons_succ,List.getElem?_append] at hj
       split at hj
       ·obtain ⟨s,h7,h8⟩:=h6 j ob hj
        rw [show k + (j + 1) = k + 1 + j from by omega]
        exact new_row2 hh hro h8 (hQ1 j s h7)
       ·rename_i hlt
        have:=ih _ ob hj
        rwa [show k + 1 + (ownRs G js 0 (G.row u x)).length + (j - (ownRs G js 0 (G.row u x)).length) = k + (j + 1) from by omega] at this
     ·cases hd
    ·cases hd
   ·cases hd
  ·cases hd
 | (t,.nr u) :: ss,os,(l,y),k,hd,hQ,hk,hz=>by
  unfold decS at hd
  split at hd
  ·rename_i q hz'
   split at hd
   ·rename_i v l' hq
    split at hd
    ·rename_i l2 y2 hl hy
     cases hd
     obtain ⟨rfl,rfl⟩:=castL_some hl
     simp only [qS,hz',ptrOf,List.length_cons] at hQ hk
     have ih:=newS_rep (n2:=n2) (m2:=m2) hok hh hro ss os _ (k + 1) hy (fun j s hj=>by
      rw [show k + 1 + j = k + (j + 1) from by omega]
      exact hQ (j + 1) s hj) (by omega) hz
     simp only [newS]
     intro j ob hj
     cases j with
     | zero=>cases hj;exact new_row2 hh hro (s:=.old q) ⟨hq,.inl ⟨_,_,rfl⟩⟩ (hQ 0 (.old q) rfl)
     | succ j =>
      have:=ih j ob hj
      rwa [show k + 1 + j = k + (j + 1) from by omega] at this
    ·cases hd
   ·cases hd
  ·cases hd
theorem decR_of {n0:Nat}:∀ (ss:List (Nat × Kd G.U)) (os:List (Nat × Ob G.U)) {y:TyS G ss os},decS G n0 env fr hp ss os = some y → decR G n0 hp os = some (objPart G ss os y)
 | [],_,_,h=>h
 | (t,.tv u) :: ss,os,y,h=>by
  unfold decS at h
  split at h
  ·split at h
   ·rename_i x y' hx hy
    cases h
    exact decR_of ss os hy
   ·cases h
  ·cases h
 | (t,.os o) :: ss,os,y,h=>by
  unfold decS at h
  split at h
  ·rename_i o' hz
   have h':(if o' = o ∧ o < n0 then decS G n0 env fr hp ss os else none) = some (show TyS G ss os from y):=h
   split at h'
   ·exact decR_of ss os h'
   ·cases h'
  ·cases h
 | (t,.bx u js) :: ss,os,y,h=>by
  unfold decS at h
  split at h
  ·split at h
   ·split at h
    ·rename_i hy
     split at h
     ·cases h
      exact decR_of ss os hy
     ·cases h
    ·cases h
   ·cases h
  ·cases h
 | (t,.nr u) :: ss,os,y,h=>by
  unfold decS at h
  split at h
  ·split at h
   ·split at h
    ·rename_i hy
     cases h
     exact decR_of ss os hy
    ·cases h
   ·cases h
  ·cases h
theorem encS_ok (hok:G.Ok) {hp2:G.Hp} {m2:Nat → Value} (hf:FRel G env fr hp m tmps w) (hro:∀ b,Rof G hp m w b → Rof G hp2 m2 w b) {n0:Nat} (hlow:∀ o,o < n0 → m2 o = m o) (hle:n0 ≤ hp2.length):∀ (ss:List (Nat × Kd G.U)) (os:List (Nat × Ob G.U)) {y:TyS G ss os} {k:Nat} {fr2:G.Fr},
  decS G n0 env fr hp ss os = some y → (∀ (j:Nat) (s:Qs),(qS G env fr hp ss os y)[j]? = some s → m2 (k + j) = hdQ m s) → k + (qS G env fr hp ss os y).length ≤ hp2.length →
  (∀ (o:Nat) (lk:Bool) (u:G.U) (l:List (G.El u)),o ∈ fzS G env fr hp ss → n0 ≤ o → hp[o]? = some (.row lk u l) → RepP G w (Rof G hp2 m2 w) (.sl u l) (m o)) →
  FRel G env' fr2 hp2 m2 tmps w → FRel G env' (encS G ss os y k fr2) hp2 m2 tmps w
 | [],_,_,_,_,_,_,_,_,h2=>h2
 | (t,.tv u) :: ss,os,y,k,fr2,h,hQ,hk,hz,h2=>by
  unfold decS at h
  split at h
  ·rename_i z hz'
   split at h
   ·rename_i x y' hx hy
    cases h
    simp only [fzS,hz'] at hz
    refine encS_ok hok hf hro hlow hle ss os hy hQ hk (fun o lk u l ho=>hz o lk u l (List.mem_append_right _ ho)) (h2.put ?_)
    have:=hf.get t
    rw [hz'] at this
    exact unN_ok hok hro hx (fun o lk u l ho=>hz o lk u l (List.mem_append_left _ ho)) this
   ·cases h
  ·cases h
 | (t,.os o) :: ss,os,y,k,fr2,h,hQ,hk,hz,h2=>by
  unfold decS at h
  split at h
  ·rename_i o' hz'
   have h':(if o' = o ∧ o < n0 then decS G n0 env fr hp ss os else none) = some (show TyS G ss os from y):=h
   split at h'
   ·rename_i he
    obtain ⟨rfl,hlt⟩:=he
    refine encS_ok hok hf hro hlow hle ss os h' hQ hk hz (h2.put ?_)
    have:=hf.get t
    rw [hz'] at this
    exact ⟨by omega,this.2.1.trans (hlow _ hlt).symm,this.2.2⟩
   ·cases h'
  ·cases h
 | (t,.bx u js) :: ss,os,y,k,fr2,h,hQ,hk,hz,h2=>by
  unfold decS at h
  split at h
  ·rename_i q hz'
   split at h
   ·rename_i cs hq
    split at h
    ·rename_i ps y2 hps hy
     split at h
     ·rename_i x hx
      cases h
      have h5:=ownQs_len js _ cs 0 (own_row hok hps hx).1
      simp only [qS,hz',ptrOf,boxCs_of hq,List.length_append,List.length_cons] at hQ hk
      simp only [fzS,hz',ptrOf,boxCs_of hq] at hz
      refine encS_ok hok hf hro hlow hle ss os hy (k:=k + 1 + (ownRs G js 0 (G.row u x)).length) (fun j s hj=>?_) (by omega) (fun o lk u l ho=>hz o lk u l (List.mem_append_right _ ho)) (h2.put ?_)
      ·rw [← h5,show k + 1 + (ownQs G js 0 (G.row u x) cs).length + j = k + (((ownQs G js 0 (G.row u x) cs).length + j) + 1) from by omega]
       refine hQ _ s ?_
       rw [List.getElem?_cons_succ,List.getElem?_append_right (by omega),Nat.add_sub_cancel_left]
       exact hj
      ·have:=hf.get t
       rw [hz'] at this
       obtain ⟨_,b,e1,e2⟩:=this
       exact ⟨by omega,b,(hQ 0 (.old q) rfl).trans e1,e2⟩
     ·cases h
    ·cases h
   ·cases h
  ·cases h
 | (t,.nr u) :: ss,os,y,k,fr2,h,hQ,hk,hz,h2=>by
  unfold decS at h
  split at h
  ·rename_i q hz'
   split at h
   ·rename_i v l' hq
    split at h
    ·rename_i l2 y2 hl hy
     cases h
     simp only [qS,hz',ptrOf,List.length_cons] at hQ hk
     refine encS_ok hok hf hro hlow hle ss os hy (k:=k + 1) (fun j s hj=>?_) (by omega) hz (h2.put ?_)
     ·rw [show k + 1 + j = k + (j + 1) from by omega]
      exact hQ (j + 1) s hj
     ·have:=hf.get t
      rw [hz'] at this
      exact ⟨by omega,this.2.1.trans (hQ 0 (.old q) rfl).symm,this.2.2⟩
    ·cases h
   ·cases h
  ·cases h
theorem nodupB_get {S:List Qs} (h:nodupB (S.filterMap Qs.nat?) = true):∀ (i j o:Nat),S[i]? = some (.old o) → S[j]? = some (.old o) → i = j:=by
 induction S with
 | nil=>intro i j o hi;cases hi
 | cons s S ih =>
  intro i j o hi hj
  have hmem:∀ q:Nat,S[q]? = some (.old o) → o ∈ S.filterMap Qs.nat?:=fun q hq=>List.mem_filterMap.2 ⟨.old o,List.mem_of_getElem? hq,rfl⟩
  cases s with
  | nil =>
   cases i with
   | zero=>cases hi
   | succ i =>
    cases j with
    | zero=>cases hj
    | succ j=>exact congrArg _ (ih h i j o hi hj)
  | nilm =>
   cases i with
   | zero=>cases hi
   | succ i =>
    cases j with
    | zero=>cases hj
    | succ j=>exact congrArg _ (ih h i j o hi hj)
  | old q =>
   have h':(!(S.filterMap Qs.nat?).contains q && nodupB (S.filterMap Qs.nat?)) = true:=by simpa [nodupB,Qs.nat?] using h
   rw [Bool.and_eq_true] at h'
   have hq:q ∉ S.filterMap Qs.nat?:=by simpa using h'.1
   cases i with
   | zero =>
    cases hi
    cases j with
    | zero=>rfl
    | succ j=>exact absurd (hmem j hj) hq
   | succ i =>
    cases j with
    | zero=>cases hj;exact absurd (hmem i hi) hq
    | succ j=>exact congrArg _ (ih h'.2 i j o hi hj)
theorem decT_ok (hok:G.Ok) (hh:HRel G N hp m w) (hf:FRel G env fr hp m tmps w) {T:Tp G.U} {y:G.Ty T} {B:G.Hp} (hd:decT G B.length env fr hp T = some y)
  (hB:∀ (o:Nat) (ob:G.O),B[o]? = some ob → (∃ p ∈ T.objs,p.1 = o) ∨ ob = .dead ∨ ∃ ob',hp[o]? = some ob' ∧ ob'.lockd = true ∧ Cov G B.length ob' ob) :
  ∃ m2,(∀ o,o < B.length → m2 o = m o) ∧ HRel G N (encH G T y B) m2 w ∧ (∀ b,Rof G hp m w b → Rof G (encH G T y B) m2 w b) ∧ B.length ≤ (encH G T y B).length ∧ decR G B.length hp T.objs = some (objPart G T.slots T.objs y) ∧
   (∀ (o:Nat),o < B.length → (encH G T y B)[o]? = (encR G T.objs (objPart G T.slots T.objs y) (B.length + (newS G T.slots T.objs y B.length).length) B)[o]?) ∧
   ∀ {env':G.Env} {fr2:G.Fr},FRel G env' fr2 (encH G T y B) m2 tmps w → FRel G env' (encT G T y B.length fr2) (encH G T y B) m2 tmps w:=by
 unfold decT at hd
 split at hd
 ·rename_i y' hy
  split at hd
  ·rename_i hq
   cases hd
   have hdr:=decR_of T.slots T.objs hy
   obtain ⟨s1,s2⟩:=newS_src w m hok T.slots T.objs y B.length hy
   obtain ⟨r1,r2⟩:=newR_src w m hok T.objs _ hdr
   unfold okQ at hq
   rw [Bool.and_eq_true,List.all_eq_true] at hq
   obtain ⟨hnd,hall⟩:=hq
   have hQlen:(qT G env fr hp T y).length = (newT G T y B.length).length:=by unfold qT newT;rw [List.length_append,List.length_append,s1,r1]
   have hQsrc:∀ (j:Nat) (ob:G.O),(newT G T y B.length)[j]? = some ob → ∃ s,(qT G env fr hp T y)[j]? = some s ∧ Nw G hp ob s:=by
    intro j ob hj
    unfold newT at hj
    unfold qT
    rw [List.getElem?_append] at hj ⊢
    rw [s1]
    split at hj
    ·rename_i hlt;rw [if_pos hlt];exact s2 j ob hj
    ·rename_i hlt
     rw [if_neg hlt]
     obtain ⟨s,h2,h3⟩:=r2 _ ob hj
     exact ⟨s,h2,newR_nw h3⟩
   let m2:=m2Q m B.length (qT G env fr hp T y)
   have hlow:∀ o,o < B.length → m2 o = m o:=fun o ho=>m2Q_lt m _ ho
   have hQ:∀ (j:Nat) (s:Qs),(qT G env fr hp T y)[j]? = some s → m2 (B.length + j) = hdQ m s:=fun j s hj=>m2Q_ge m _ hj
   have hlen:(encH G T y B).length = B.length + (newT G T y B.length).length:=by unfold encH;rw [List.length_append,encR_length]
   have hleft:∀ (o:Nat),o < B.length → (encH G T y B)[o]? = (encR G T.objs (objPart G T.slots T.objs y) (B.length + (newS G T.slots T.objs y B.length).length) B)[o]?:=fun o ho=>by
    unfold encH;rw [List.getElem?_append_left (by rw [encR_length];exact ho)]
   have hright:∀ (o:Nat),B.length ≤ o → (encH G T y B)[o]? = (newT G T y B.length)[o - B.length]?:=fun o ho=>by
    unfold encH;rw [List.getElem?_append_right (by rw [encR_length];exact ho),encR_length]
   -- where a live object of the new state comes from
   have src:∀ (o:Nat) (ob:G.O),(encH G T y B)[o]? = some ob → ob.live = true → blkOf (m2 o) = none ∨ ∃ o' ob',hp[o']? = some ob' ∧ ob'.live = true ∧ m2 o = m o' ∧
     ((o < B.length ∧ o' = o ∧ (keptB G T.objs o = true ∨ ob'.lockd = true)) ∨ (B.length ≤ o ∧ (qT G env fr hp T y)[o - B.length]? = some (.old o') ∧ ob'.lockd = false)):=by
    intro o ob ho hl
    rcases Nat.lt_or_ge o B.length with hlt | hge
    ·rw [hleft o hlt] at ho
     rcases encR_src T.objs _ _ B hdr o ob ho with ⟨h1,h2⟩ | h
     ·rcases hB o ob h1 with ⟨p,hp1,hp2⟩ | rfl | ⟨ob',h3,h4,h5⟩
      ·exact absurd hp2 (h2 p hp1)
      ·cases hl
      ·exact .inr ⟨o,ob',h3,h5.live hl,hlow o hlt,.inl ⟨hlt,rfl,.inr h4⟩⟩
     ·rcases h with rfl | ⟨h1,_,ob',h3,h4,_⟩
      ·cases hl
      ·exact .inr ⟨o,ob',h3,h4,hlow o hlt,.inl ⟨hlt,rfl,.inl h1⟩⟩
    ·rw [hright o hge] at ho
     obtain ⟨s,h1,_,h2⟩:=hQsrc _ ob ho
     have h3:=hQ _ s h1
     rw [show B.length + (o - B.length) = o from by omega] at h3
     cases s with
     | nil=>left;rw [h3];rfl
     | nilm=>left;rw [h3];rfl
     | old q =>
      obtain ⟨ob',h4,h5,h6⟩:=h2
      exact .inr ⟨q,ob',h4,h5,h3,.inr ⟨hge,h1,h6⟩⟩
   have hro:∀ b,Rof G hp m w b → Rof G (encH G T y B) m2 w b:=by
    rintro b ⟨h1,h2⟩
    refine ⟨h1,?_⟩
    rintro (hS | ⟨o,ob,ho,hl,hb⟩)
    ·exact h2 (.inl hS)
    rcases src o ob ho hl with h | ⟨o',ob',h3,h4,h5,_⟩
    ·rw [h] at hb;cases hb
    ·exact h2 (.inr ⟨o',ob',h3,h4,by rw [← h5];exact hb⟩)
   have hmemQ:∀ {j q:Nat},(qT G env fr hp T y)[j]? = some (.old q) → q ∈ (qT G env fr hp T y).filterMap Qs.nat?:=fun h=>List.mem_filterMap.2 ⟨.old _,List.mem_of_getElem? h,rfl⟩
   have hkQ:∀ {j q:Nat},(qT G env fr hp T y)[j]? = some (.old q) → keptB G T.objs q = false ∧ ∀ o ∈ fzS G env fr hp T.slots ++ fzR G hp T.objs,o ≠ q:=by
    intro j q hj
    have h1:=hall q (hmemQ hj)
    rw [Bool.and_eq_true] at h1
    refine ⟨by simpa using h1.1,fun o ho e=>?_⟩
    subst e
    have:=h1.2
    simp only [Bool.not_eq_true',List.contains_eq_mem,decide_eq_false_iff_not] at this
    exact this ho
   have hz:∀ (o:Nat) (lk:Bool) (u:G.U) (l:List (G.El u)),o ∈ fzS G env fr hp T.slots ++ fzR G hp T.objs → B.length ≤ o → hp[o]? = some (.row lk u l) → RepP G w (Rof G (encH G T y B) m2 w) (.sl u l) (m o):=by
    intro o lk u l ho hge hrow
    refine frz_ok hh hro (fun q ob b hq hl hb=>?_) hrow
    rcases src q ob hq hl with h | ⟨o',ob',h3,h4,h5,h6⟩
    ·rw [h] at hb;cases hb
    ·refine ⟨o',ob',h3,h4,by rw [← h5];exact hb,?_⟩
     rcases h6 with ⟨h7,rfl,_⟩ | ⟨_,h7,_⟩
     ·omega
     ·exact fun e=>(hkQ h7).2 o ho e.symm
   have hk:B.length + (newS G T.slots T.objs y B.length).length + (qR G hp T.objs (objPart G T.slots T.objs y)).length ≤ (encH G T y B).length:=by
    rw [hlen,r1];unfold newT;rw [List.length_append];omega
   have hQs:∀ (j:Nat) (s:Qs),(qS G env fr hp T.slots T.objs y)[j]? = some s → m2 (B.length + j) = hdQ m s:=fun j s hj=>hQ j s (by
    unfold qT;rw [List.getElem?_append_left (List.getElem?_eq_some_iff.1 hj).1];exact hj)
   have hQr:∀ (j:Nat) (s:Qs),(qR G hp T.objs (objPart G T.slots T.objs y))[j]? = some s → m2 (B.length + (newS G T.slots T.objs y B.length).length + j) = hdQ m s:=fun j s hj=>by
    rw [Nat.add_assoc]
    refine hQ _ s ?_
    unfold qT
    rw [List.getElem?_append_right (by omega),s1,Nat.add_sub_cancel_left]
    exact hj
   refine ⟨m2,hlow,⟨fun o ob ho=>?_,fun o o' ob ob' b ho ho' hl hl' hb hb'=>?_,hh.base,hh.held,hh.gh⟩,hro,by rw [hlen];omega,hdr,hleft,fun hf2=>?_⟩
   ·rcases Nat.lt_or_ge o B.length with hlt | hge
    ·rw [hleft o hlt] at ho
     refine encR_rep hok hh hro hlow T.objs _ _ B rfl hdr hQr hk (fun o lk u l ho=>hz o lk u l (List.mem_append_right _ ho)) (fun q x hx=>?_) o ob ho
     rcases hB q x hx with h | rfl | ⟨ob',h3,h4,h5⟩
     ·exact .inl h
     ·exact .inr trivial
     ·have hltq:=(List.getElem?_eq_some_iff.1 hx).1
      exact .inr (RepO.mono hro (fun _ _=>rfl) (by rw [hlen];omega) (fun q' _ hq'=>hlow q' hq') (hlow q hltq) (fun _ _ _=>rfl) (h5.rep _ _ _ _ _ _ (hh.obj q ob' h3)))
    ·rw [hright o hge] at ho
     unfold newT at ho
     rw [List.getElem?_append] at ho
     split at ho
     ·have:=newS_rep hok hh hro T.slots T.objs y B.length hy hQs (by omega) (fun o lk u l ho=>hz o lk u l (List.mem_append_left _ ho)) _ ob ho (n2:=(encH G T y B).length) (m2:=m2)
      rwa [show B.length + (o - B.length) = o from by omega] at this
     ·obtain ⟨s,h2,h3⟩:=r2 _ ob ho
      have h4:=hQr _ s h2
      rw [show B.length + (newS G T.slots T.objs y B.length).length + (o - B.length - (newS G T.slots T.objs y B.length).length) = o from by omega] at h4
      exact new_row2 hh hro h3 h4
   ·rcases src o ob ho hl with h | ⟨p,x,h3,h4,h5,h6⟩
    ·rw [h] at hb;cases hb
    rcases src o' ob' ho' hl' with h | ⟨p',x',h3',h4',h5',h6'⟩
    ·rw [h] at hb';cases hb'
    have e:=hh.sep p p' x x' b h3 h3' h4 h4' (by rw [← h5];exact hb) (by rw [← h5'];exact hb')
    subst e
    rw [h3] at h3'
    cases h3'
    rcases h6 with ⟨_,rfl,g1⟩ | ⟨g0,g1,g2⟩ <;> rcases h6' with ⟨_,g3,g4⟩ | ⟨g5,g3,g4⟩
    ·exact g3
    ·rcases g1 with g1 | g1
     ·rw [(hkQ g3).1] at g1;cases g1
     ·rw [g4] at g1;cases g1
    ·subst g3
     rcases g4 with g4 | g4
     ·rw [(hkQ g1).1] at g4;cases g4
     ·rw [g2] at g4;cases g4
    ·have:=nodupB_get hnd _ _ _ g1 g3
     omega
   ·refine encS_ok hok hf hro hlow (by rw [hlen];omega) T.slots T.objs hy hQs (by rw [s1];omega) (fun o lk u l ho=>hz o lk u l (List.mem_append_left _ ho)) hf2
  ·cases hd
 ·cases hd
end
end Go.Proofs.YtgbicnkpnhifgaaGreatDoor
