/- Joined by merge.py: PlQ6, PlQ7, PlG1, PlRw, PlG2, PlG3, PlG4, PlG5, PlH1, PlJ1, PlQ8a, PlQ8b, PlH2, PlH3, PlH4, PlJ1b, PlT2, PlT4a, PlT4, PlJ1c, PlT5, PlY6. -/
import Derived.Test.YtgbicnkpnhifgaaGreatDoorM12
set_option linter.unusedSectionVars false
set_option linter.unusedVariables false
set_option linter.unusedSimpArgs false
namespace Go.Proofs.YtgbicnkpnhifgaaGreatDoor
theorem loop_sumG {α τ:Type} {F:Int × τ × Unit → Option ((Int × τ × Unit) ⊕ (τ × Unit))} {w:List α} (R:τ → Rat → Nat → Prop) (f:α → Rat) (e:Nat) (hw:w.length ≤ 1000000) {t0:τ} {q0:Rat} {c0:Nat} (h0:R t0 q0 c0)
  (hin:∀ (k:Nat) (h:k < w.length) (t:τ) (q:Rat),R t q (c0 + e * k) → Gs (F ((k:Int),t,())) fun y=>∃ t',y = .inl (((k + 1:Nat):Int),t',()) ∧ R t' (q + f w[k]) (c0 + e * k + e))
  (hout:∀ t,F ((w.length:Int),t,()) = some (.inr (t,()))):Gs (iterF F big (0,t0,())) fun r=>R r.1 (q0 + sumQ f w) (c0 + e * w.length):=by
 obtain ⟨r,h1,h2⟩:=loop_sum (F:=F) (K:=some) (P:=fun r=>R r.1 (q0 + sumQ f w) (c0 + e * w.length)) R f e hw h0 (fun k h t q ht=>by
  obtain ⟨y,h1,t',rfl,h2⟩:=hin k h t q ht
  exact ⟨t',h1,h2⟩) hout fun t ht=>⟨(t,()),rfl,ht⟩
 refine ⟨r,?_,h2⟩
 revert h1
 cases iterF F big (0,t0,()) with
 | none=>intro h1;cases h1
 | some a=>intro h1;exact h1
def reactB (b:TBeam) (i:Nat):Rat:=reactQ b.even b.length (lds b.loads) (sp b) b.supports.length (momB b) i
def Rk (n i:Nat) (O t:List Texact) (q:Rat) (c:Nat):Prop:=t.length = n ∧ (∀ j,j < i → t[j]? = O[j]?) ∧ ∃ v,t[i]? = some v ∧ Xq v q c
theorem Rk.set {n i:Nat} {O t:List Texact} {q r:Rat} {c e:Nat} {z:Texact} (h:Rk n i O t q c) (hi:i < n) (hz:Xq z r e):Rk n i O (t.set i z) r e:=by
 obtain ⟨h1,h2,h3⟩:=h
 refine ⟨by simp [h1],fun j hj=>?_,z,by rw [get_set (by omega),if_pos rfl],hz⟩
 rw [get_set (by omega),if_neg (by omega)]
 exact h2 j hj
theorem Rk.mono {n i:Nat} {O t:List Texact} {q:Rat} {c e:Nat} (h:Rk n i O t q c) (hc:c ≤ e):Rk n i O t q e:=by
 obtain ⟨h1,h2,v,h3,h4⟩:=h
 exact ⟨h1,h2,v,h3,h4.mono hc⟩
theorem Rk.cast {n i:Nat} {O t:List Texact} {q r:Rat} {c:Nat} (h:Rk n i O t q c) (e:q = r):Rk n i O t r c:=e ▸ h
set_option maxHeartbeats 2000000 in
theorem f_reactions {b:TBeam} (hb:BeamIn b) (hs:SupOk b) {m:List Texact} (hm:∀ i,i < b.supports.length → ∃ x,m[i]? = some x ∧ Xq x (momB b i) 82000) :
  Gs (F_beam_reactions b m) fun r=>r.length = b.supports.length ∧ ∀ i,i < b.supports.length → ∃ x,r[i]? = some x ∧ Xq x (reactB b i) 330000:=by
 unfold F_beam_reactions
 have hl:=hb.l1
 have hn1:=hs.n1
 have hn10:=hs.n10
 have hln:=hb.ln
 have hw1:IntKind.i64.wrap (((b.supports.length:Nat):Int) - 1) = ((b.supports.length - 1:Nat):Int):=by rw [wrap64 (by omega) (by omega)];omega
 refine gif ⟨by omega,by omega⟩ ?_
 refine gloop (fun s:List Texact × Unit=>s.1.length = b.supports.length ∧ ∀ i,i < b.supports.length → ∃ x,s.1[i]? = some x ∧ Xq x (reactB b i) 330000)
  (fun i s=>∃ O,s = ((i:Int),O,()) ∧ O.length = b.supports.length ∧ ∀ j,j < i → ∃ x,O[j]? = some x ∧ Xq x (reactB b j) 330000)
  b.supports.length (by unfold big;omega) ⟨_,rfl,by simp,fun j hj=>absurd hj (Nat.not_lt_zero j)⟩ ?_ ?_
 ·rintro i s hi ⟨O,rfl,hOl,hO⟩
  rcases Nat.lt_or_ge i b.supports.length with hlt | hge
  ·refine gt (decide_eq_true (by show (i:Int) < ((b.supports.length:Nat):Int);omega)) ?_
   have pi:=sp_get hlt
   have ri:=sp_rg hs hlt
   obtain ⟨z0,zz1,zz2⟩:=f_whole 0 (by omega) (by omega)
   obtain ⟨qo,qo1⟩:∃ q,O[i]? = some q:=⟨_,List.getElem?_eq_getElem (by omega)⟩
   obtain ⟨mi,mi1,mi2⟩:=hm i hlt
   have start:Rk b.supports.length i O (O.set i z0) (0:Rat) 2:=by
    refine ⟨by simp [hOl],fun j hj=>?_,z0,by rw [get_set (by omega),if_pos rfl],zz2⟩
    rw [get_set (by omega),if_neg (by omega)]
   have ht0:Int.toNat ((i:Nat):Int) = i:=Int.toNat_natCast i
   simp only [ht0]
   refine goo (idx_w rfl pi) (goo zz1 (goo (idx_w rfl qo1) (goo qo1 ?_)))
   refine gcalll (loop_sumG (w:=b.loads) (Rk b.supports.length i O) (fun x=>if x.at_ = sp b i then (x.weight:Rat) else 0) 3 (by omega) start ?_ ?_) ?_
   ·rintro k hk t q ⟨t1,t2,v,v1,v2⟩
    obtain ⟨x0,x1,x2,x3⟩:=hb.ld _ (List.getElem_mem hk)
    have hx:=idx_nat hk
    have w1:IntKind.i64.wrap ((k:Int) + 1) = ((k + 1:Nat):Int):=by rw [wrap64 (by omega) (by omega)];omega
    refine gt (decide_eq_true (by show (k:Int) < ((b.loads.length:Nat):Int);omega)) (goo hx ?_)
    generalize b.loads[k] = x at *
    rcases Decidable.em (x.at_ = sp b i) with h | h
    ·obtain ⟨a,a1,a2⟩:=f_whole x.weight (by omega) (by omega)
     obtain ⟨p,p1,p2⟩:=f_eplus v2 a2 (by omega) (by omega)
     refine gbt (by rw [beq_iff_eq];exact h) (goo (idx_q v1) (goo v1 (goo a1 (goo p1 (goo (idx_q v1) (goo v1 (gs (gend ⟨t.set i p,by simp only [w1],?_⟩))))))))
     rw [if_pos h]
     exact Rk.set ⟨t1,t2,v,v1,v2⟩ hlt (p2.mono (by omega))
    ·refine gbf (by rw [beq_eq_false_iff_ne];exact h) (gs (gend ⟨t,by simp only [w1],?_⟩))
     rw [if_neg h]
     exact ⟨t1,t2,v,v1,v2.skip⟩
   ·intro t
    have e0:decide (((b.loads.length:Nat):Int) < ((b.loads.length:Nat):Int)) = false:=by simp
    simp only [e0,cond_false]
   rintro ⟨t,u⟩ ht
   have ht:Rk b.supports.length i O t (atQ (lds b.loads) (sp b i)) 122:=(ht.mono (by omega)).cast (by unfold atQ lds;rw [sumQ_map];grind)
   refine gcalll (Q:=fun r:List Texact × Unit=>Rk b.supports.length i O r.1 (atQ (lds b.loads) (sp b i) + (if 0 < i then leverQ b.even (lds b.loads) (sp b (i - 1)) (sp b i) false + (momB b (i - 1) - momB b i) / ((sp b i - sp b (i - 1):Int):Rat) else 0)) 164427) ?_ ?_
   ·obtain ⟨t1,t2,v,v1,v2⟩:=id ht
    rcases Nat.eq_zero_or_pos i with h0 | h0
    ·subst h0
     refine gf (decide_eq_false (by omega)) (gend ?_)
     rw [if_neg (by omega)]
     exact (ht.mono (by omega)).cast (by grind)
    ·obtain ⟨j,rfl⟩:∃ j,i = j + 1:=⟨i - 1,by omega⟩
     have w1:IntKind.i64.wrap (((j + 1:Nat):Int) - 1) = (j:Int):=by rw [wrap64 (by omega) (by omega)];omega
     have pj:=sp_get (b:=b) (i:=j) (by omega)
     have rj:=sp_rg hs (i:=j) (by omega)
     have hc:sp b j < sp b (j + 1):=hs.inc j (by omega)
     obtain ⟨mj,mj1,mj2⟩:=hm j (by omega)
     obtain ⟨l,l1,l2⟩:=f_lever hb (fr:=sp b j) (to:=sp b (j + 1)) false rj.1 hc ri.2
     obtain ⟨a,a1,a2⟩:=f_eplus v2 l2 (by omega) (by omega)
     obtain ⟨d,d1,d2⟩:=f_eless mj2 mi2 (by omega) (by omega)
     obtain ⟨g,g1,g2⟩:=f_bgap hb hs (i:=j) (by omega)
     obtain ⟨e,e1,e2⟩:=f_eby d2 g2 (by have:=gp_pos hs j (by omega);grind) (by omega) (by omega)
     obtain ⟨f,f1,f2⟩:=f_eplus a2 e2 (by omega) (by omega)
     refine gt (decide_eq_true (by omega)) (go (idx_w w1 pj) (go (idx_q v1) (go v1 (go (idx_w w1 mj1) (go (idx_q mi1) (go l1 (go a1 (go d1 (go g1 (go e1 (go f1 (go (idx_q v1) (go v1 (gend ?_))))))))))))))
     refine Rk.set ht hlt ((f2.mono (by omega)).cast ?_)
     rw [if_pos (by omega)]
     show _ = atQ (lds b.loads) (sp b (j + 1)) + (leverQ b.even (lds b.loads) (sp b j) (sp b (j + 1)) false + (momB b j - momB b (j + 1)) / gp b j)
     grind
   rintro ⟨t',u'⟩ ht'
   clear ht
   obtain ⟨qa,hqa⟩:∃ qa,atQ (lds b.loads) (sp b i) + (if 0 < i then leverQ b.even (lds b.loads) (sp b (i - 1)) (sp b i) false + (momB b (i - 1) - momB b i) / ((sp b i - sp b (i - 1):Int):Rat) else 0) = qa:=⟨_,rfl⟩
   rw [hqa] at ht'
   have w2:IntKind.i64.wrap ((i:Int) + 1) = ((i + 1:Nat):Int):=by rw [wrap64 (by omega) (by omega)];omega
   refine gcalll (Q:=fun r:List Texact × Unit=>Rk b.supports.length i O r.1 (qa + (if i + 1 < b.supports.length then leverQ b.even (lds b.loads) (sp b i) (sp b (i + 1)) true + (momB b (i + 1) - momB b i) / ((sp b (i + 1) - sp b i:Int):Rat) else 0)) 328732) ?_ ?_
   ·obtain ⟨t1,t2,v,v1,v2⟩:=id ht'
    rcases Nat.lt_or_ge (i + 1) b.supports.length with h0 | h0
    ·have pj:=sp_get (b:=b) (i:=i + 1) (by omega)
     have rj:=sp_rg hs (i:=i + 1) (by omega)
     have hc:sp b i < sp b (i + 1):=hs.inc i (by omega)
     obtain ⟨mj,mj1,mj2⟩:=hm (i + 1) (by omega)
     obtain ⟨l,l1,l2⟩:=f_lever hb (fr:=sp b i) (to:=sp b (i + 1)) true ri.1 hc rj.2
     obtain ⟨a,a1,a2⟩:=f_eplus v2 l2 (by omega) (by omega)
     obtain ⟨d,d1,d2⟩:=f_eless mj2 mi2 (by omega) (by omega)
     obtain ⟨g,g1,g2⟩:=f_bgap hb hs (i:=i) (by omega)
     obtain ⟨e,e1,e2⟩:=f_eby d2 g2 (by have:=gp_pos hs i (by omega);grind) (by omega) (by omega)
     obtain ⟨f,f1,f2⟩:=f_eplus a2 e2 (by omega) (by omega)
     refine gt (decide_eq_true (by show IntKind.i64.wrap ((i:Int) + 1) < ((b.supports.length:Nat):Int);rw [w2];omega)) (go (idx_w w2 pj) (go (idx_q v1) (go v1 (go (idx_w w2 mj1) (go (idx_q mi1) (go l1 (go a1 (go d1 (go g1 (go e1 (go f1 (go (idx_q v1) (go v1 (gend ?_))))))))))))))
     refine Rk.set ht' hlt ((f2.mono (by omega)).cast ?_)
     rw [if_pos (by omega)]
     show _ = qa + (leverQ b.even (lds b.loads) (sp b i) (sp b (i + 1)) true + (momB b (i + 1) - momB b i) / gp b i)
     grind
    ·refine gf (decide_eq_false (by show ¬ IntKind.i64.wrap ((i:Int) + 1) < ((b.supports.length:Nat):Int);rw [w2];omega)) (gend ?_)
     rw [if_neg (by omega)]
     exact (ht'.mono (by omega)).cast (by grind)
   rintro ⟨ta,ua⟩ hta
   clear ht'
   obtain ⟨qb,hqb⟩:∃ qb,qa + (if i + 1 < b.supports.length then leverQ b.even (lds b.loads) (sp b i) (sp b (i + 1)) true + (momB b (i + 1) - momB b i) / ((sp b (i + 1) - sp b i:Int):Rat) else 0) = qb:=⟨_,rfl⟩
   rw [hqb] at hta
   refine gcalll (Q:=fun r:List Texact × Unit=>Rk b.supports.length i O r.1 (qb + (if i = 0 then beyondQ b.even (lds b.loads) (sp b i) else 0)) 328940) ?_ ?_
   ·obtain ⟨t1,t2,v,v1,v2⟩:=id hta
    rcases Decidable.em (i = 0) with h0 | h0
    ·obtain ⟨l,l1,l2⟩:=f_beyond hb (a:=sp b i) ri.1 ri.2
     obtain ⟨a,a1,a2⟩:=f_eplus v2 l2 (by omega) (by omega)
     refine gt (by rw [beq_iff_eq];omega) (go (idx_q v1) (go v1 (go l1 (go a1 (go (idx_q v1) (go v1 (gend ?_)))))))
     rw [if_pos h0]
     exact Rk.set hta hlt (a2.mono (by omega))
    ·refine gf (by rw [beq_eq_false_iff_ne];omega) (gend ?_)
     rw [if_neg h0]
     exact (hta.mono (by omega)).cast (by grind)
   rintro ⟨tb,ub⟩ htb
   clear hta
   obtain ⟨qc,hqc⟩:∃ qc,qb + (if i = 0 then beyondQ b.even (lds b.loads) (sp b i) else 0) = qc:=⟨_,rfl⟩
   rw [hqc] at htb
   refine gcall (Q:=fun r:List Texact × Unit=>Rk b.supports.length i O r.1 (qc + (if i + 1 = b.supports.length then beyondQ b.even (turnW b.length (lds b.loads)) (b.length - sp b i) else 0)) 330000) ?_ ?_
   ·obtain ⟨t1,t2,v,v1,v2⟩:=id htb
    rcases Decidable.em (i + 1 = b.supports.length) with h0 | h0
    ·have hbl:IntKind.i64.wrap (b.length - sp b i) = b.length - sp b i:=wrap64 (by omega) (by omega)
     obtain ⟨l,l1,l2⟩:=f_beyond (turn_in hb) (a:=b.length - sp b i) (by omega) (by show b.length - sp b i ≤ b.length;omega)
     rw [turn_lds] at l2
     obtain ⟨a,a1,a2⟩:=f_eplus v2 l2 (by omega) (by omega)
     refine gt (by rw [hw1,beq_iff_eq];omega) (go (idx_q v1) (go v1 (go (f_turned hb hs) (go (by rw [hbl];exact l1) (go a1 (go (idx_q v1) (go v1 (gend ?_))))))))
     rw [if_pos h0]
     exact Rk.set htb hlt (a2.mono (by omega))
    ·refine gf (by rw [hw1,beq_eq_false_iff_ne];omega) (gend ?_)
     rw [if_neg h0]
     exact (htb.mono (by omega)).cast (by grind)
   rintro ⟨tc,uc⟩ ⟨c1,c2,v,v1,v2⟩
   refine gend ⟨hlt,tc,by simp only [w2],c1,fun j hj=>?_⟩
   rcases Decidable.em (j = i) with h | h
   ·subst h
    refine ⟨v,v1,v2.cast ?_⟩
    unfold reactB reactQ
    rw [← hqc,← hqb,← hqa]
   ·rw [c2 j (by omega)]
    exact hO j (by omega)
  ·have:i = b.supports.length:=by omega
   subst this
   exact gf (decide_eq_false (by show ¬ ((b.supports.length:Nat):Int) < ((b.supports.length:Nat):Int);omega)) (gend ⟨hOl,hO⟩)
 ·rintro ⟨O,u⟩ h
  exact gend h
end Go.Proofs.YtgbicnkpnhifgaaGreatDoor

namespace Go.Proofs.YtgbicnkpnhifgaaGreatDoor
def badH1 (b:TBeam):Bool:=!nameB b.name || (decide (b.length < 1) || (decide (b.length > 1048576) || (decide (b.even < 0) || decide (b.even > 1048576))))
def badH2 (b:TBeam):Bool:=decide (((b.supports.length:Nat):Int) < 1) || (decide (((b.supports.length:Nat):Int) > 10) || decide (((b.loads.length:Nat):Int) > 40))
def badS (b:TBeam) (i:Nat):Bool:=decide (sp b i < 0) || (decide (sp b i > b.length) || (decide (0 < i) && decide (sp b i ≤ sp b (i - 1))))
def badL (b:TBeam) (x:TLoad):Bool:=decide (x.at_ < 0) || (decide (x.at_ > b.length) || (decide (x.weight < 0) || decide (x.weight > 67108864)))
def validBm (b:TBeam):Bool:=!badH1 b && (!badH2 b && ((List.range b.supports.length).all (fun i=>!badS b i) && b.loads.all (fun x=>!badL b x)))
theorem bif_or (c d:Bool):((bif c then some (true,()) else some (d,())):Option (Bool × Unit)) = some (c || d,()):=by cases c <;> rfl
theorem all_of {n:Nat} {p:Nat → Bool} (h:∀ j,j < n → p j = true):(List.range n).all p = true:=by
 rw [List.all_eq_true]
 intro j hj
 exact h j (List.mem_range.1 hj)
theorem all_not {n:Nat} {p:Nat → Bool} {k:Nat} (hk:k < n) (h:p k = false):(List.range n).all p = false:=by
 rw [List.all_eq_false]
 exact ⟨k,List.mem_range.2 hk,by rw [h];simp⟩
theorem f_badload (b:TBeam) (x:TLoad):F_beam_Valid_1 x b = some (badL b x):=by
 unfold F_beam_Valid_1 badL
 simp only [bif_or,Option.bind_some]
theorem bad_sup {b:TBeam} {k:Nat} (hk:k < b.supports.length) (hn:b.supports.length ≤ 1000000) (x:Int) (hx:x = sp b k) :
  ((bif (decide (x < 0)) then some (true,()) else (bif (decide (x > b.length)) then some (true,()) else (bif (decide ((k:Int) > 0)) then (idx b.supports (IntKind.i64.wrap ((k:Int) - 1))).bind fun x10=>some ((decide (x ≤ x10)),()) else some (false,()))):Option (Bool × Unit))) = some (badS b k,()):=by
 subst hx
 have h:((bif (decide ((k:Int) > 0)) then (idx b.supports (IntKind.i64.wrap ((k:Int) - 1))).bind fun x10=>some ((decide (sp b k ≤ x10)),()) else some (false,())):Option (Bool × Unit)) = some (decide (0 < k) && decide (sp b k ≤ sp b (k - 1)),()):=by
  rcases Nat.eq_zero_or_pos k with h | h
  ·subst h;rfl
  ·rw [decide_eq_true (show (k:Int) > 0 by omega),decide_eq_true h,wrap64 (by omega) (by omega),show (k:Int) - 1 = ((k - 1:Nat):Int) from by omega,sp_idx (by omega)]
   rfl
 rw [h,bif_or,bif_or]
 rfl
theorem f_bvalid {b:TBeam} (hname:b.name.size ≤ 1000000) (hn:b.supports.length ≤ 1000000) (hl:b.loads.length ≤ 1000000):F_beam_Valid b = some (validBm b):=by
 apply gs_eq
 unfold F_beam_Valid
 rw [f_name _ (by omega)]
 simp only [Option.bind_some,bif_or]
 have hh:(!nameB b.name || (decide (b.length < 1) || (decide (b.length > 1048576) || (decide (b.even < 0) || (decide (b.even > 1048576) || (decide (((b.supports.length:Nat):Int) < 1) || (decide (((b.supports.length:Nat):Int) > 10) || decide (((b.loads.length:Nat):Int) > 40)))))))) = (badH1 b || badH2 b):=by
  unfold badH1 badH2
  simp only [Bool.or_assoc]
 rw [hh]
 cases h1:(badH1 b || badH2 b) with
 | true =>
  refine gt rfl (gend ?_)
  unfold validBm
  rw [Bool.or_eq_true] at h1
  rcases h1 with h | h <;> simp [h]
 | false =>
  rw [Bool.or_eq_false_iff] at h1
  refine gf rfl ?_
  refine gloop (fun r:(Bool × Unit) ⊕ Unit=>match r with
    | .inl y=>y.1 = false ∧ (List.range b.supports.length).all (fun i=>!badS b i) = false
    | .inr _=>(List.range b.supports.length).all (fun i=>!badS b i) = true)
   (fun k s=>s = ((k:Int),()) ∧ ∀ j,j < k → (!badS b j) = true) b.supports.length (by unfold big;omega) ⟨rfl,fun j hj=>absurd hj (Nat.not_lt_zero j)⟩ ?_ ?_
  ·rintro k s hk ⟨rfl,hj⟩
   rcases Nat.lt_or_ge k b.supports.length with hlt | hge
   ·refine gt (decide_eq_true (by show (k:Int) < ((b.supports.length:Nat):Int);omega)) (go (sp_idx hlt) (go (bad_sup hlt hn _ rfl) ?_))
    cases hb:badS b k with
    | true=>exact gt rfl (gend ⟨rfl,all_not hlt (by rw [hb];rfl)⟩)
    | false =>
     refine gf rfl (gend ⟨hlt,by show (IntKind.i64.wrap ((k:Int) + 1),()) = (((k + 1:Nat):Int),());rw [wrap64 (by omega) (by omega)];rfl,fun j hj2=>?_⟩)
     rcases Decidable.em (j = k) with h | h
     ·subst h;rw [hb];rfl
     ·exact hj j (by omega)
   ·have:k = b.supports.length:=by omega
    subst this
    exact gf (decide_eq_false (by show ¬ ((b.supports.length:Nat):Int) < ((b.supports.length:Nat):Int);omega)) (gend (all_of hj))
  ·rintro (y | y) hr
   ·obtain ⟨h2,h3⟩:=hr
    refine gend ?_
    unfold validBm
    rw [h3,h2]
    simp
   ·simp only at hr ⊢
    refine go (f_slices_ContainsFunc_api_Load b.loads (by omega) (fun z16=>F_beam_Valid_1 z16 b) (fun x=>badL b x) (fun x _=>f_badload b x)) (gend ?_)
    unfold validBm
    rw [hr,h1.1,h1.2]
    simp only [Bool.not_false,Bool.true_and]
    rw [Bool.eq_iff_iff]
    simp
theorem valid_in {b:TBeam} (h:validBm b = true):BeamIn b ∧ SupOk b:=by
 unfold validBm at h
 rw [Bool.and_eq_true,Bool.and_eq_true,Bool.and_eq_true] at h
 obtain ⟨h1,h2,h3,h4⟩:=h
 unfold badH1 at h1
 unfold badH2 at h2
 simp only [Bool.not_eq_true',Bool.or_eq_false_iff,decide_eq_false_iff_not] at h1 h2
 obtain ⟨_,a1,a2,a3,a4⟩:=h1
 obtain ⟨b1,b2,b3⟩:=h2
 rw [List.all_eq_true] at h3 h4
 have hS:∀ i,i < b.supports.length → 0 ≤ sp b i ∧ sp b i ≤ b.length ∧ (0 < i → sp b (i - 1) < sp b i):=by
  intro i hi
  have:=h3 i (List.mem_range.2 hi)
  unfold badS at this
  simp only [Bool.not_eq_true',Bool.or_eq_false_iff,Bool.and_eq_false_iff,decide_eq_false_iff_not] at this
  omega
 refine ⟨⟨by omega,by omega,by omega,by omega,?_,by omega⟩,⟨by omega,by omega,?_,?_⟩⟩
 ·intro x hx
  have:=h4 x hx
  unfold badL at this
  simp only [Bool.not_eq_true',Bool.or_eq_false_iff,decide_eq_false_iff_not] at this
  unfold LoadOk
  omega
 ·intro x hx
  obtain ⟨i,hi,rfl⟩:=List.getElem_of_mem hx
  have:=hS i hi
  have e:sp b i = b.supports[i]:=by unfold sp;rw [List.getD_eq_getElem?_getD,List.getElem?_eq_getElem hi];rfl
  omega
 ·intro i hi
  have:=(hS (i + 1) hi).2.2 (by omega)
  simpa [sp] using this
end Go.Proofs.YtgbicnkpnhifgaaGreatDoor

namespace Go.Proofs.YtgbicnkpnhifgaaGreatDoor
structure Wg (l:List Int) (v:Nat):Prop where
 dig:dig (16777216:Int) l
 tight:tight l
 len:l.length ≤ 16000000
 val:bv (16777216:Int) l = v
theorem Wg.zero {l:List Int} {v:Nat} (h:Wg l v):l = [] ↔ v = 0:=by
 rw [← bv_zero (by decide) h.dig h.tight,h.val];omega
theorem Wg.lt {l:List Int} {v:Nat} (h:Wg l v):v < 2 ^ (24 * l.length):=by
 have h1:=(bv_range (by decide) h.dig).2
 rw [h.val] at h1
 have e:(16777216:Int) ^ l.length = ((2 ^ (24 * l.length):Nat):Int):=by
  rw [Nat.pow_mul,Int.natCast_pow];rfl
 rw [e] at h1
 exact_mod_cast h1
theorem Wg.le {a b:List Int} {u v:Nat} (ha:Wg a u) (hb:Wg b v) (h:u ≤ v):a.length ≤ b.length:=by
 rcases Nat.lt_or_ge b.length a.length with hl | hl
 ·have:=bv_lt_len (by decide) hb.dig ha.dig ha.tight hl
  rw [ha.val,hb.val] at this
  omega
 ·exact hl
end Go.Proofs.YtgbicnkpnhifgaaGreatDoor

namespace Go.Proofs.YtgbicnkpnhifgaaGreatDoor
theorem Wg.ne {l:List Int} {v:Nat} (h:Wg l v) (hv:0 < v):0 < l.length:=by
 apply List.length_pos_iff.2
 intro e
 have:=h.zero.1 e
 omega
end Go.Proofs.YtgbicnkpnhifgaaGreatDoor

namespace Go.Proofs.YtgbicnkpnhifgaaGreatDoor
def tilt (b:TBeam):Prop:=b.supports.length = 1 ∧ fstQ b ≠ lstQ b
def reaL (b:TBeam):List Rat:=(List.range b.supports.length).map (reactB b)
structure SmallB (b:TBeam):Prop where
 name:b.name.size ≤ 1000000
 sup:b.supports.length ≤ 1000000
 ld:b.loads.length ≤ 1000000
theorem list_of {α:Type} {R:α → Rat → Prop} {l:List α} {n:Nat} (f:Nat → Rat) (hl:l.length = n) (h:∀ i,i < n → ∃ x,l[i]? = some x ∧ R x (f i)):∀ (i:Nat) (h1:i < l.length) (h2:i < ((List.range n).map f).length),R l[i] ((List.range n).map f)[i]:=by
 intro i h1 h2
 obtain ⟨x,x1,x2⟩:=h i (by omega)
 rw [List.getElem?_eq_getElem h1] at x1
 injection x1 with x1
 rw [x1]
 simpa using x2
theorem f_given_ok {b:TBeam} (hw:SmallB b) (h:validBm b = true) (ht:¬ tilt b):Gs (F_beam_given b) fun r=>r.2 = 0 ∧ r.1.length = b.supports.length ∧ ∀ i,i < b.supports.length → ∃ x,r.1[i]? = some x ∧ Xq x (momB b i) 82000:=by
 obtain ⟨hb,hs⟩:=valid_in h
 unfold F_beam_given
 refine go (f_bvalid hw.name hw.sup hw.ld) (gf (by rw [h];rfl) (gcall (f_moments hb hs) fun r hr=>?_))
 have h2:r.2 = true:=hr.1.2 fun h1=>Classical.byContradiction fun h3=>ht ⟨h1,h3⟩
 refine gf (by rw [h2];rfl) (gend ⟨rfl,hr.2 h2⟩)
theorem f_Reactions {b:TBeam} (hw:SmallB b) (h:validBm b = true) (ht:¬ tilt b):F_beam_Reactions b = some (outL (reaL b)):=by
 apply gs_eq
 obtain ⟨hb,hs⟩:=valid_in h
 have hn:b.supports.length ≤ 10:=hs.n10
 unfold F_beam_Reactions
 refine gcall (f_given_ok hw h ht) fun r hr=>?_
 obtain ⟨h1,h2,h3⟩:=hr
 refine gf (by rw [h1];rfl) (gcall (f_reactions hb hs h3) fun t ht=>?_)
 refine go (f_fractions (qs:=reaL b) (c:=330000) (by omega) (by rw [ht.1];unfold reaL;simp) ?_) (gend rfl)
 exact list_of (R:=fun x q=>Xq x q 330000) (reactB b) ht.1 ht.2
end Go.Proofs.YtgbicnkpnhifgaaGreatDoor

namespace Go.Proofs.YtgbicnkpnhifgaaGreatDoor
def wgtQ (b:TBeam):Rat:=(b.even:Rat) * b.length / 1000 + sumQ (fun x:Ld=>(x.2:Rat)) (lds b.loads)
def leQ (w:List Ld) (a:Int):Rat:=sumQ (fun x=>if x.1 ≤ a then (x.2:Rat) else 0) w
theorem le_split (w:List Ld) (a:Int):leQ w a = atQ w a + sumQ (fun x=>if x.1 < a then (x.2:Rat) else 0) w:=by
 unfold leQ atQ
 rw [← sumQ_add]
 apply sumQ_congr
 intro x _
 rcases Int.lt_trichotomy x.1 a with h | h | h
 ·rw [if_pos (by omega),if_neg (by omega),if_pos h];grind
 ·rw [if_pos (by omega),if_pos h,if_neg (by omega)];grind
 ·rw [if_neg (by omega),if_neg (by omega),if_neg (by omega)];grind
theorem le_next (w:List Ld) {a c:Int} (h:a < c):leQ w c = leQ w a + sumQ (fun x=>if x.1 ≤ a ∨ c ≤ x.1 then 0 else (x.2:Rat)) w + atQ w c:=by
 unfold leQ atQ
 rw [← sumQ_add,← sumQ_add]
 apply sumQ_congr
 intro x _
 rcases Int.lt_or_le a x.1 with h1 | h1
 ·rcases Int.lt_trichotomy x.1 c with h2 | h2 | h2
  ·rw [if_pos (by omega),if_neg (by omega),if_neg (by omega),if_neg (by omega)];grind
  ·rw [if_pos (by omega),if_neg (by omega),if_pos (by omega),if_pos h2];grind
  ·rw [if_neg (by omega),if_neg (by omega),if_pos (by omega),if_neg (by omega)];grind
 ·rw [if_pos (by omega),if_pos h1,if_pos (.inl h1),if_neg (by omega)];grind
theorem le_end {L:Int} {w:List Ld} (s:Int):leQ w s + sumQ (fun x=>if x.1 < L - s then (x.2:Rat) else 0) (turnW L w) = sumQ (fun x=>(x.2:Rat)) w:=by
 unfold leQ turnW
 rw [sumQ_map,← sumQ_add]
 apply sumQ_congr
 intro x _
 simp only
 by_cases h:x.1 ≤ s
 ·rw [if_pos h,if_neg (by omega)];grind
 ·rw [if_neg h,if_pos (by omega)];grind
theorem sumQ_range (f:Nat → Rat):∀ (n:Nat),sumQ f (List.range n) = sumN f n
 | 0=>rfl
 | n + 1=>by rw [List.range_succ,sumQ_append,sumQ_range f n];simp only [sumQ,sumN];grind
def Fk (b:TBeam) (k:Nat):Rat:=sumN (reactB b) k
def Tk (b:TBeam) (k:Nat):Rat:=sumN (fun i=>reactB b i * (sp b i:Rat)) k
theorem cast_sub' (a c:Int):((a - c:Int):Rat) = (a:Rat) - (c:Rat):=Rat.intCast_sub a c
theorem gp_ne {b:TBeam} (hs:SupOk b) {i:Nat} (h:i + 1 < b.supports.length):gp b i ≠ 0:=by
 have:=gp_pos hs i h
 grind
theorem equil {b:TBeam} (hb:BeamIn b) (hs:SupOk b) (ht:¬ tilt b):∀ (k:Nat),k < b.supports.length →
  (Fk b (k + 1) = if k + 1 < b.supports.length then (b.even:Rat) * (sp b k:Rat) / 1000 + leQ (lds b.loads) (sp b k) + (leverQ b.even (lds b.loads) (sp b k) (sp b (k + 1)) true + (momB b (k + 1) - momB b k) / gp b k) else wgtQ b) ∧
  Fk b (k + 1) * (sp b k:Rat) - Tk b (k + 1) = momB b k + overQ b.even (lds b.loads) (sp b k):=by
 intro k
 have hfin:∀ k,k + 1 = b.supports.length → (b.even:Rat) * (sp b k:Rat) / 1000 + leQ (lds b.loads) (sp b k) + beyondQ b.even (turnW b.length (lds b.loads)) (b.length - sp b k) = wgtQ b:=by
  intro k hk
  have h1:=le_end (L:=b.length) (w:=lds b.loads) (sp b k)
  unfold beyondQ wgtQ
  rw [cast_sub']
  grind
 induction k with
 | zero =>
  intro h0
  have hr:reactB b 0 = atQ (lds b.loads) (sp b 0) + 0 + (if 0 + 1 < b.supports.length then leverQ b.even (lds b.loads) (sp b 0) (sp b (0 + 1)) true + (momB b (0 + 1) - momB b 0) / gp b 0 else 0) + beyondQ b.even (lds b.loads) (sp b 0) + (if 0 + 1 = b.supports.length then beyondQ b.even (turnW b.length (lds b.loads)) (b.length - sp b 0) else 0):=by
   unfold reactB reactQ
   rw [if_neg (by omega),if_pos rfl]
   rfl
  have hF:Fk b (0 + 1) = reactB b 0:=by unfold Fk;simp only [sumN];grind
  have hT:Tk b (0 + 1) = reactB b 0 * (sp b 0:Rat):=by unfold Tk;simp only [sumN];grind
  have hl:=le_split (lds b.loads) (sp b 0)
  have hM:momB b 0 = fstQ b:=by
   unfold momB
   by_cases h1:b.supports.length = 1
   ·have:=Classical.byContradiction fun h3=>ht ⟨h1,h3⟩
    rw [show (0:Nat) = b.supports.length - 1 from by omega,mom_last]
    exact this.symm
   ·rw [mom_first _ _ _ _ (by omega)]
  constructor
  ·rw [hF,hr]
   by_cases h1:0 + 1 < b.supports.length
   ·rw [if_pos h1,if_pos h1,if_neg (by omega)]
    unfold beyondQ
    grind
   ·have h2:0 + 1 = b.supports.length:=by omega
    have h3:=hfin 0 h2
    rw [if_neg h1,if_neg h1,if_pos h2,← h3,hl]
    unfold beyondQ
    grind
  ·rw [hF,hT,hM]
   unfold fstQ
   grind
 | succ k ih =>
  intro h0
  obtain ⟨h1,h2⟩:=ih (by omega)
  rw [if_pos (by omega)] at h1
  have hlt:sp b k < sp b (k + 1):=hs.inc k (by omega)
  have hr:reactB b (k + 1) = atQ (lds b.loads) (sp b (k + 1)) + (leverQ b.even (lds b.loads) (sp b k) (sp b (k + 1)) false + (momB b k - momB b (k + 1)) / gp b k) + (if k + 1 + 1 < b.supports.length then leverQ b.even (lds b.loads) (sp b (k + 1)) (sp b (k + 1 + 1)) true + (momB b (k + 1 + 1) - momB b (k + 1)) / gp b (k + 1) else 0) + 0 + (if k + 1 + 1 = b.supports.length then beyondQ b.even (turnW b.length (lds b.loads)) (b.length - sp b (k + 1)) else 0):=by
   unfold reactB reactQ
   rw [if_pos (show 0 < k + 1 by omega),if_neg (show ¬ k + 1 = 0 by omega)]
   rfl
  have hF:Fk b (k + 1 + 1) = Fk b (k + 1) + reactB b (k + 1):=rfl
  have hT:Tk b (k + 1 + 1) = Tk b (k + 1) + reactB b (k + 1) * (sp b (k + 1):Rat):=rfl
  have hbo:=lever_both (E:=b.even) (w:=lds b.loads) hlt
  have hln:=le_next (lds b.loads) hlt
  have hov:=over_next (E:=b.even) (w:=lds b.loads) hlt
  have hg:=gp_ne hs (i:=k) (by omega)
  have hgd:((sp b (k + 1) - sp b k:Int):Rat) = gp b k:=rfl
  have hgs:gp b k = (sp b (k + 1):Rat) - (sp b k:Rat):=cast_sub' _ _
  rw [hgd] at hbo hov
  have hcut:(b.even:Rat) * (sp b (k + 1):Rat) / 1000 + leQ (lds b.loads) (sp b (k + 1)) = Fk b (k + 1) + (atQ (lds b.loads) (sp b (k + 1)) + (leverQ b.even (lds b.loads) (sp b k) (sp b (k + 1)) false + (momB b k - momB b (k + 1)) / gp b k)):=by
   rw [h1,hln]
   have e:(momB b (k + 1) - momB b k) / gp b k + (momB b k - momB b (k + 1)) / gp b k = 0:=by grind
   grind
  constructor
  ·rw [hF,hr]
   by_cases h3:k + 1 + 1 < b.supports.length
   ·rw [if_pos h3,if_pos h3,if_neg (by omega)]
    grind
   ·have h4:k + 1 + 1 = b.supports.length:=by omega
    have h5:=hfin (k + 1) h4
    rw [if_neg h3,if_neg h3,if_pos h4,← h5]
    grind
  ·rw [hF,hT]
   have e1:gp b k * ((momB b (k + 1) - momB b k) / gp b k) = momB b (k + 1) - momB b k:=by grind
   have e2:(Fk b (k + 1) + reactB b (k + 1)) * (sp b (k + 1):Rat) - (Tk b (k + 1) + reactB b (k + 1) * (sp b (k + 1):Rat)) = (Fk b (k + 1) * (sp b k:Rat) - Tk b (k + 1)) + gp b k * Fk b (k + 1):=by
    rw [hgs];grind
   rw [e2,h2,hov]
   have e3:leQ (lds b.loads) (sp b k) = sumQ (fun x:Ld=>if x.1 ≤ sp b k then (x.2:Rat) else 0) (lds b.loads):=rfl
   rw [← e3]
   have e4:gp b k * Fk b (k + 1) = gp b k * ((b.even:Rat) * (sp b k:Rat) / 1000 + leQ (lds b.loads) (sp b k)) + gp b k * leverQ b.even (lds b.loads) (sp b k) (sp b (k + 1)) true + gp b k * ((momB b (k + 1) - momB b k) / gp b k):=by
    rw [h1];grind
   rw [e4,e1]
   grind
theorem all_weight {b:TBeam} (hb:BeamIn b) (hs:SupOk b) (ht:¬ tilt b):Fk b b.supports.length = wgtQ b:=by
 have hn:=hs.n1
 have h:=(equil hb hs ht (b.supports.length - 1) (by omega)).1
 rw [if_neg (by omega),show b.supports.length - 1 + 1 = b.supports.length from by omega] at h
 exact h
end Go.Proofs.YtgbicnkpnhifgaaGreatDoor

namespace Go.Proofs.YtgbicnkpnhifgaaGreatDoor
def setBeam (s:TSet):TBeam:=⟨s.name,s.length,s.lines,s.items.map (fun x=>⟨x.at_ + x.width / 2,x.weight⟩),s.pipe⟩
theorem set_sp {s:TSet} {i:Nat} (h:i < s.lines.length):sp (setBeam s) i = s.lines[i]:=by
 show s.lines.getD i 0 = _
 rw [List.getD_eq_getElem?_getD,List.getElem?_eq_getElem h];rfl
theorem set_valid {s:TSet} (hg:Good s):validBm (setBeam s) = true ∧ ¬ tilt (setBeam s):=by
 have a1:=hg.n0;have a2:=hg.n1;have a3:=hg.p0;have a4:=hg.p1;have a5:=hg.ln0;have a6:=hg.ln1;have a7:=hg.ni
 constructor
 ·unfold validBm
  rw [Bool.and_eq_true,Bool.and_eq_true,Bool.and_eq_true]
  refine ⟨?_,?_,?_,?_⟩
  ·unfold badH1
   simp only [Bool.not_eq_true',Bool.or_eq_false_iff,decide_eq_false_iff_not,Bool.not_eq_false']
   refine ⟨hg.name,?_,?_,?_,?_⟩
   ·show ¬ s.length < 1;omega
   ·show ¬ s.length > 1048576;omega
   ·show ¬ s.pipe < 0;omega
   ·show ¬ s.pipe > 1048576;omega
  ·unfold badH2
   simp only [Bool.not_eq_true',Bool.or_eq_false_iff,decide_eq_false_iff_not]
   refine ⟨?_,?_,?_⟩
   ·show ¬ ((s.lines.length:Nat):Int) < 1;omega
   ·show ¬ ((s.lines.length:Nat):Int) > 10;omega
   ·show ¬ (((s.items.map _).length:Nat):Int) > 40;rw [List.length_map];omega
  ·apply all_of
   intro j hj
   have hj2:j < s.lines.length:=hj
   have h:=hg.lat j hj2
   rw [lineAt_eq _ _ _ hj2,Bool.and_eq_true,between_iff,Bool.or_eq_true,decide_eq_true_iff,decide_eq_true_iff] at h
   have e1:=set_sp hj2
   have e2:=set_sp (s:=s) (i:=j - 1) (by omega)
   unfold badS
   simp only [Bool.not_eq_true',Bool.or_eq_false_iff,Bool.and_eq_false_iff,decide_eq_false_iff_not]
   rw [e1,e2]
   show ¬ s.lines[j] < 0 ∧ ¬ s.lines[j] > s.length ∧ _
   omega
  ·rw [List.all_eq_true]
   intro x hx
   obtain ⟨y,hy,rfl⟩:=List.mem_map.1 hx
   have h:=hg.items y hy
   have b1:=h.p0;have b2:=h.w1;have b3:=h.pw;have b4:=h.m0;have b5:=h.m1
   unfold badL
   simp only [Bool.not_eq_true',Bool.or_eq_false_iff,decide_eq_false_iff_not]
   show ¬ y.at_ + y.width / 2 < 0 ∧ ¬ y.at_ + y.width / 2 > s.length ∧ ¬ y.weight < 0 ∧ ¬ y.weight > 67108864
   omega
 ·rintro ⟨h,_⟩
  have:s.lines.length = 1:=h
  omega
theorem set_small {s:TSet} (hn:s.name.size ≤ 1000000) (hg:Good s):SmallB (setBeam s):=by
 have a6:=hg.ln1;have a7:=hg.ni
 exact ⟨hn,by show s.lines.length ≤ _;omega,by show (s.items.map _).length ≤ _;rw [List.length_map];omega⟩
theorem sum_weights (s:TSet):sumQ (fun x:Ld=>(x.2:Rat)) (lds (setBeam s).loads) = ((sumTo (·.weight) s.items s.items.length:Int):Rat):=by
 unfold lds setBeam sumTo
 rw [List.take_length]
 simp only [List.map_map]
 rw [sumQ_map]
 have:∀ l:List TItem,sumQ (fun x:TItem=>((((fun x:TLoad=>(x.at_,x.weight)) ∘ fun x:TItem=>(⟨x.at_ + x.width / 2,x.weight⟩:TLoad)) x).2:Rat)) l = (((l.map (·.weight)).sum:Int):Rat):=by
  intro l
  induction l with
  | nil=>rfl
  | cons x l ih =>
   simp only [sumQ,List.map_cons,List.sum_cons,Rat.intCast_add]
   rw [ih]
   rfl
 exact this s.items
theorem set_weight {s:TSet} (hg:Good s):wgtQ (setBeam s) = ((weightI s:Int):Rat):=by
 unfold wgtQ weightI pipeI
 rw [sum_weights,Rat.intCast_add,Rat.intCast_mul]
 congr 1
 show (s.pipe:Rat) * (s.length:Rat) / 1000 = _
 have h:=hg.nm
 obtain ⟨k,hk⟩:∃ k,s.length = 1000 * k:=⟨s.length / 1000,by omega⟩
 have h2:s.length / 1000 = k:=by omega
 rw [h2,hk,Rat.intCast_mul]
 have:((1000:Int):Rat) = 1000:=rfl
 rw [this]
 grind
end Go.Proofs.YtgbicnkpnhifgaaGreatDoor

namespace Go.Proofs.YtgbicnkpnhifgaaGreatDoor
theorem mid_of {L:Int} {x:TItem} (h:GoodItem L x) (hL:L ≤ 1048576):IntKind.i64.wrap (x.at_ + IntKind.i64.wrap (x.width.tdiv 2)) = x.at_ + x.width / 2:=by
 have b1:=h.p0;have b2:=h.w1;have b3:=h.pw
 rw [Int.tdiv_eq_ediv_of_nonneg (by omega),wrap64 (n:=x.width / 2) (by omega) (by omega),wrap64 (by omega) (by omega)]
theorem t_beamOf {s:TSet} (hg:Good s):F_batten_beamOf s = some (setBeam s):=by
 have a6:=hg.ln1;have a7:=hg.ni;have a2:=hg.n1
 apply gs_eq
 unfold F_batten_beamOf
 refine go (f_clone_int _ (by omega)) ?_
 refine gloop (fun r:TBeam × Unit=>r.1 = setBeam s) (fun k t=>k ≤ s.items.length ∧ t = ((k:Int),⟨s.name,s.length,s.lines,(s.items.take k).map (fun x=>⟨x.at_ + x.width / 2,x.weight⟩),s.pipe⟩,())) s.items.length (by unfold big;omega) ⟨Nat.zero_le _,rfl⟩ ?_ ?_
 ·rintro k t hk ⟨_,rfl⟩
  rcases Nat.lt_or_ge k s.items.length with hlt | hge
  ·have hm:=mid_of (hg.items _ (List.getElem_mem hlt)) a2
   have hmid:F_batten_middle s.items[k] = some (s.items[k].at_ + s.items[k].width / 2):=by unfold F_batten_middle;rw [hm]
   refine gt (decide_eq_true (by show (k:Int) < ((s.items.length:Nat):Int);omega)) (go (idx_at hlt) (go hmid (gif (by simp;omega) (gend ⟨hlt,hlt,?_⟩))))
   rw [List.take_succ_eq_append_getElem hlt,List.map_append]
   show (IntKind.i64.wrap ((k:Int) + 1),_,()) = _
   rw [wrap64 (by omega) (by omega)]
   rfl
  ·refine gf (decide_eq_false (by show ¬ (k:Int) < ((s.items.length:Nat):Int);omega)) (gend ?_)
   show (⟨s.name,s.length,s.lines,(s.items.take k).map (fun x=>⟨x.at_ + x.width / 2,x.weight⟩),s.pipe⟩:TBeam) = setBeam s
   rw [List.take_of_length_le hge];rfl
 ·rintro ⟨t,u⟩ h
  exact gend h
structure Sm (s:TSet):Prop where
 fits:Fits s
 name:s.name.size ≤ 1000000
theorem sm_of {s:TSet} {m:Int} (h:smallB s m = true):Sm s:=by
 refine ⟨small_fits h,?_⟩
 simp only [smallB,smallH,Bool.and_eq_true,decide_eq_true_eq,List.all_eq_true] at h
 omega
def linesT (s:TSet):List TFrac × Int:=if validB s = true then outL (reaL (setBeam s)) else ([],1)
theorem t_lines {s:TSet} (h:Sm s):F_batten_Lines s = some (linesT s):=by
 apply gs_eq
 unfold F_batten_Lines linesT
 refine go (f_valid s h.fits) ?_
 cases hv:validB s with
 | false=>exact gt rfl (gend rfl)
 | true =>
  have hg:=Good.of hv
  obtain ⟨h1,h2⟩:=set_valid hg
  exact gf rfl (go (t_beamOf hg) (go (f_Reactions (set_small h.name hg) h1 h2) (gend rfl)))
theorem lq_len {s:TSet}:(reaL (setBeam s)).length = s.lines.length:=by unfold reaL setBeam;simp
theorem lines_cases (s:TSet):(validB s = false ∧ linesT s = ([],1)) ∨ (validB s = true ∧ (∀ q ∈ reaL (setBeam s),fitQ q) ∧ linesT s = ((reaL (setBeam s)).map frQ,0)) ∨ (validB s = true ∧ linesT s = ([],5)):=by
 unfold linesT
 by_cases hv:validB s = true
 ·right
  rw [if_pos hv]
  by_cases hf:∀ q ∈ reaL (setBeam s),fitQ q
  ·exact .inl ⟨hv,hf,outL_fit hf⟩
  ·exact .inr ⟨hv,outL_big hf⟩
 ·left
  rw [if_neg hv]
  exact ⟨by simpa using hv,rfl⟩
end Go.Proofs.YtgbicnkpnhifgaaGreatDoor

namespace Go.Proofs.YtgbicnkpnhifgaaGreatDoor
def headT (s:TSet):TFrac × TFrac × Int:=match linesT s with
 | (_,0)=>match sumO (reaL (setBeam s)) 0 with
  | none=>(⟨0,0⟩,⟨0,0⟩,5)
  | some q=>if fitQ (q * (s.purchase:Rat)) then (frQ q,frQ (q * (s.purchase:Rat)),0) else (⟨0,0⟩,⟨0,0⟩,5)
 | (_,e)=>(⟨0,0⟩,⟨0,0⟩,e)
theorem frq_int (n:Int):(⟨n,1⟩:TFrac) = frQ (n:Rat):=(fr_int n).symm
theorem t_head {s:TSet} (h:Sm s):F_liftline_Head s = some (headT s):=by
 apply gs_eq
 unfold F_liftline_Head headT
 refine go (t_lines h) ?_
 rcases lines_cases s with ⟨_,e⟩ | ⟨hv,hf,e⟩ | ⟨_,e⟩
 ·rw [e];exact gt rfl (gend rfl)
 ·rw [e]
  have hg:=Good.of hv
  have hn:(reaL (setBeam s)).length = s.lines.length:=lq_len
  have hn3:=hg.ln1
  have a4:=hg.u0;have a5:=hg.u1
  refine gf rfl (go (t_sum (by omega) hf) ?_)
  unfold sumH
  simp only
  cases hs:sumO (reaL (setBeam s)) 0 with
  | none=>exact gt rfl (gend rfl)
  | some q =>
   have hq:=sumO_fit _ _ _ t_fit0 hs
   have hp:=t_fitint (n:=s.purchase) (by omega)
   have hmul:=t_mul hq hp
   have hw:F_liftline_whole s.purchase = some (frQ (s.purchase:Rat)):=by unfold F_liftline_whole;rw [frq_int]
   refine gf rfl (go hw (go hmul ?_))
   by_cases hfit:fitQ (q * (s.purchase:Rat))
   ·rw [fr_fit hfit]
    simp only [if_pos hfit]
    exact gf rfl (gend rfl)
   ·rw [fr_big hfit]
    simp only [if_neg hfit]
    exact gt rfl (gend rfl)
 ·rw [e];exact gt rfl (gend rfl)
theorem sumT_eq:∀ (l:List Rat),sumT l = sumQ (fun x=>x) l
 | []=>rfl
 | x :: l=>by simp only [sumT,sumQ,sumT_eq l]
theorem head_weight {s:TSet} (hv:validB s = true) {q:Rat} (hs:sumO (reaL (setBeam s)) 0 = some q):q = ((weightI s:Int):Rat):=by
 have hg:=Good.of hv
 obtain ⟨h1,h2⟩:=set_valid hg
 obtain ⟨hb,hsu⟩:=valid_in h1
 have e:=sumO_eq _ _ _ hs
 have hw:=all_weight hb hsu h2
 rw [e,sumT_eq,← set_weight hg,← hw]
 unfold Fk reaL
 rw [sumQ_map,sumQ_range]
 grind
end Go.Proofs.YtgbicnkpnhifgaaGreatDoor

namespace Go.Proofs.YtgbicnkpnhifgaaGreatDoor
theorem f_near (l:List TBrick) (hb:bricksB l = true) (hn:∀ x ∈ l,x.name.size ≤ 2147483648) (w:Int) (hw:-1099511627776 ≤ w ∧ w ≤ 1099511627776) :
  Gs (F_bricks_Nearest l w) fun y=>y.2 = 0 ∧ Chs l y.1 ∧ ∀ c,Chs l c → farZ w (wsum l y.1) ≤ farZ w (wsum l c):=by
 obtain ⟨h8,hg⟩:=bricks_good hb
 unfold F_bricks_Nearest
 refine go (f_avalid l (by omega) hn) ?_
 refine gf (by rw [hb];rfl) ?_
 refine gbf (decide_eq_false (by omega)) (gs (gf (decide_eq_false (by omega)) ?_))
 have e1:IntKind.i64.wrap (((l.length:Nat):Int) + 1) = ((l.length + 1:Nat):Int):=by rw [wrap64 (by omega) (by omega)];omega
 have e2:IntKind.i64.wrap (((l.length:Nat):Int) - 1) = ((l.length:Nat):Int) - 1:=wrap64 (by omega) (by omega)
 rw [e1,e2,Int.toNat_natCast]
 refine gif ⟨by omega,by omega⟩ ?_
 refine gcall (rest_loop l hg h8) fun y hy=>?_
 obtain ⟨b,hv,hq⟩:=near_ok l hg h8 y.1 hy w (by omega) 16 0 0 0 false (by omega) (by omega) (by omega) (by omega) (fun h=>by cases h)
 have hN:F_bricks_search__nearest (Tsearch.mk l y.1) w = some b:=by
  unfold F_bricks_search__nearest
  have hv':vN 16 l y.1 w 0 0 0 false = some (b,true):=hv
  show (vN 16 l y.1 w 0 0 0 false).bind _ = _
  rw [hv']
  rfl
 refine go hN ?_
 have hd0:l.drop 0 = l:=rfl
 obtain ⟨c0,hc0,hbc⟩:∃ c,Chs l c ∧ b = wsum l c:=by
  rcases hq.some_ with ⟨c,h1,h2⟩ | ⟨h1,_⟩
  ·rw [hd0] at h1 h2
   exact ⟨c,h1,by omega⟩
  ·cases h1
 refine gcall (f_window l hb hn b b (Int.le_refl _)) fun z hz=>?_
 obtain ⟨_,h2,h3⟩:=hz
 have h4:=h3 c0 hc0 (by omega) (by omega)
 obtain ⟨h5,h6,h7⟩:=h2 h4
 refine gend ⟨h4,h5,fun c hc=>?_⟩
 have h8:=hq.all c (by rw [hd0];exact hc)
 rw [hd0,Int.zero_add] at h8
 have h9:wsum l z.1 = b:=by omega
 rw [h9]
 exact h8
theorem needed_tight {s:TSet} (h:Good s):-1048576 ≤ neededI s ∧ neededI s ≤ 4294967296:=by
 have h1:=weights_bound h s.items.length (Nat.le_refl _)
 have h2:0 ≤ s.length / 1000:=by have:=h.n0;omega
 have h3:s.length / 1000 ≤ 1048:=by have:=h.n1;omega
 have h4:pipeI s ≤ 1048576 * 1048:=Int.mul_le_mul h.p1 h3 h2 (by decide)
 have h5:=pipe_bound h
 have h6:weightI s = pipeI s + sumTo (·.weight) s.items s.items.length:=rfl
 have h7:0 ≤ weightI s * s.purchase:=Int.mul_nonneg (by omega) (by have:=h.u0;omega)
 have h8:weightI s * s.purchase ≤ 1140850688 * 2:=Int.mul_le_mul (by omega) h.u1 (by have:=h.u0;omega) (by decide)
 have h9:=h.a0;have h10:=h.a1
 unfold neededI
 omega
theorem y_one {s:TSet} (hf:Fits s) (hv:validB s = true) {c:List Int} (hc:Chs s.bricks c):F_top_TopBricks_1 c s = some (hsT s (wsum s.bricks c),farZ (neededI s) (wsum s.bricks c),true):=by
 obtain ⟨h1,h2,h3,h4⟩:=y_loaded hf hv hc
 have hw:=wsum_bound hv hc
 apply gs_eq
 unfold F_top_TopBricks_1
 refine go h1 (gf rfl (go (y_holds h3 h2) (go (f_balance _ h3) ?_)))
 rw [if_pos h2,h4]
 rw [far_bal hv (by omega)]
 exact gbt rfl (gs (gend rfl))
theorem y_sub {a:Rat} {n:Int} (ha:fitQ a) (hn:n.natAbs ≤ 1152921504606846976):F_ratio_Sub (frQ a) ⟨n,1⟩ = some (outQ (a - (n:Rat))):=by
 apply gs_eq
 unfold F_ratio_Sub
 have hq:=t_fitint (n:=-n) (by omega)
 have h1:=t_add ha hq
 rw [← frq_int] at h1
 refine gcall (Q:=fun y:Bool × Unit=>y.1 = false) (go (rv_true (fr_rv ha).1) (gf rfl (go (rv_true (fr_rvint hn).1) (gend rfl)))) ?_
 rintro y hy
 refine gf hy ?_
 have w1:IntKind.i64.wrap (0 - n) = -n:=by rw [wrap64 (by omega) (by omega)];omega
 show Gs ((F_ratio_Add (frQ a) (TFrac.mk (IntKind.i64.wrap (0 - n)) 1)).bind _) _
 rw [w1]
 refine go h1 (gend ?_)
 rw [Rat.intCast_neg,Rat.sub_eq_add_neg]
theorem y_head {s:TSet} (hv:validB s = true):(headT s).2.2 = 0 → (headT s).2.1 = frQ (((weightI s * s.purchase:Int)):Rat):=by
 unfold headT
 split
 ·split
  ·intro h;cases h
  ·rename_i q hs
   have hq:=head_weight hv hs
   split
   ·intro _
    show frQ (q * (s.purchase:Rat)) = _
    rw [hq,Rat.intCast_mul]
   ·intro h;cases h
 ·intro h
  rename_i x e hne hx
  have h0:e = 0:=h
  subst h0
  exact absurd rfl hne
theorem y_count (l:List TBrick) (hb:bricksB l = true):Gs (F_ref26_Count l) fun _=>True:=by
 obtain ⟨h8,hg⟩:=bricks_good hb
 unfold F_ref26_Count
 refine gloop (fun _=>True) (fun k y=>∃ n:Int,y = (n,(k:Int),()) ∧ 0 ≤ n ∧ n ≤ 1000000) l.length (by unfold big;omega) ⟨1,rfl,by omega,by omega⟩ ?_ ?_
 ·rintro k y hk ⟨n,rfl,h0,h1⟩
  rcases Nat.lt_or_ge k l.length with hlk | hge
  ·have hgk:=hg _ (List.getElem_mem hlk)
   have c0:=hgk.c0;have c1:=hgk.c1
   refine gt (decide_eq_true (by show (k:Int) < ((l.length:Nat):Int);omega)) (go (idx_at hlk) ?_)
   have m0:0 ≤ n * (l[k].count + 1):=Int.mul_nonneg h0 (by omega)
   have m1:n * (l[k].count + 1) ≤ 1000000 * 61:=Int.mul_le_mul h1 (by omega) (by omega) (by decide)
   have w1:IntKind.i64.wrap (l[k].count + 1) = l[k].count + 1:=wrap64 (by omega) (by omega)
   have w2:IntKind.i64.wrap (n * (l[k].count + 1)) = n * (l[k].count + 1):=wrap64 (by omega) (by omega)
   have w3:IntKind.i64.wrap ((k:Int) + 1) = ((k + 1:Nat):Int):=by rw [wrap64 (by omega) (by omega)];omega
   simp only [w1,w2,w3]
   by_cases hbig:n * (l[k].count + 1) > 1000000
   ·exact gt (decide_eq_true hbig) (gend trivial)
   ·exact gf (decide_eq_false hbig) (gend ⟨hlk,_,rfl,m0,by omega⟩)
  ·have:k = l.length:=by omega
   subst this
   exact gf (decide_eq_false (by show ¬ ((l.length:Nat):Int) < ((l.length:Nat):Int);omega)) (gend trivial)
 ·rintro r _
  cases r with
  | inl r=>exact gend trivial
  | inr r=>exact gend trivial
theorem main_TopBricks (x0:TSet) (x1:List Int) (w0:W_Set x0) (w1:W_l_int1 x1):F_top_TopBricks x0 x1 = some true:=by
 apply gs_eq
 unfold F_top_TopBricks
 refine go y_awake (gf rfl ?_)
 cases hs:smallB x0 6 with
 | false=>exact goo (f_small x0 6) (by rw [hs];exact gbt rfl (gs (gt rfl (gend rfl))))
 | true =>
  have h:=sm_of hs
  have hf:=h.fits
  cases hv:validB x0 with
  | false=>exact goo (f_small x0 6) (by rw [hs];exact gbf rfl (goo (f_rvalid x0 hf) (by rw [hv];exact gbt rfl (gs (gt rfl (gend rfl))))))
  | true =>
   have hg:=Good.of hv
   have hvb:=(valid_parts hv).2
   obtain ⟨n26,hn26,_⟩:=y_count x0.bricks hvb
   refine goo (f_small x0 6) ?_
   rw [hs]
   refine gbf rfl (goo (f_rvalid x0 hf) ?_)
   rw [hv]
   refine gbf rfl (goo hn26 ?_)
   by_cases h500:n26 > 500
   ·exact gbt (decide_eq_true h500) (gs (gt rfl (gend rfl)))
   refine gbf (decide_eq_false h500) (gs ?_)
   by_cases h10:((x1.length:Nat):Int) > 10
   ·exact gt (decide_eq_true h10) (gend rfl)
   refine gf (decide_eq_false h10) ?_
   have hx1:x1.length ≤ 10:=by omega
   have hnt:=needed_tight hg
   have hbr0:=hg.b0;have hbr1:=hg.b1
   refine go (f_needed x0 hf) ?_
   rw [if_pos hv]
   refine gf rfl ?_
   refine gcall (Q:=fun y:(Bool × Unit) ⊕ Unit=>y = .inr ()) ?_ ?_
   ·refine go (t_head h) ?_
    cases he:((headT x0).2.2 == 0) with
    | false=>exact gf rfl (gend rfl)
    | true =>
     have hl:=y_head hv (by simpa using he)
     refine gt rfl (go (show F_ref02_Of x0.arbor = some ⟨x0.arbor,1⟩ from rfl) ?_)
     rw [hl]
     have ha0:=hg.a0;have ha1:=hg.a1
     have hwp:weightI x0 * x0.purchase = neededI x0 + x0.arbor:=by unfold neededI;omega
     have hfit:=t_fitint (n:=weightI x0 * x0.purchase) (by omega)
     refine go (y_sub hfit (by omega)) ?_
     have e3:((weightI x0 * x0.purchase:Int):Rat) - (x0.arbor:Rat) = ((neededI x0:Int):Rat):=by
      unfold neededI
      rw [Rat.intCast_sub]
     rw [e3,fr_fit (t_fitint (n:=neededI x0) (by omega)),← frq_int]
     refine gbf rfl (goo (show F_ref02_Of (neededI x0) = some ⟨neededI x0,1⟩ from rfl) (gs (gf ?_ (gend rfl))))
     show (!((neededI x0 == neededI x0) && ((1:Int) == 1))) = false
     simp
   ·rintro _ rfl
    have hfill:Gs (F_bricks_Fill x0) fun y=>y.2 = 0 ∧ Chs x0.bricks y.1 ∧ ∀ c,Chs x0.bricks c → farZ (neededI x0) (wsum x0.bricks y.1) ≤ farZ (neededI x0) (wsum x0.bricks c):=by
     unfold F_bricks_Fill
     refine go (f_needed x0 hf) ?_
     rw [if_pos hv]
     refine gf rfl ?_
     exact gcall (f_near x0.bricks hvb hf.bnames (neededI x0) (by omega)) fun z hz=>gend hz
    refine gcall hfill ?_
    rintro ⟨best,fe⟩ ⟨h0,hbest,hleast⟩
    have h0:fe = 0:=h0
    subst h0
    refine go (y_one hf hv hbest) (gbf rfl (gs (gf rfl ?_)))
    have w2:IntKind.i64.wrap (neededI x0 - x0.brake) = neededI x0 - x0.brake:=wrap64 (by omega) (by omega)
    have w3:IntKind.i64.wrap (neededI x0 + x0.brake) = neededI x0 + x0.brake:=wrap64 (by omega) (by omega)
    simp only [w2,w3]
    refine gcall (f_window x0.bricks hvb hf.bnames (neededI x0 - x0.brake) (neededI x0 + x0.brake) (by omega)) ?_
    rintro ⟨c,ge⟩ ⟨g1,g2,g3⟩
    have g1:ge = 0 ∨ ge = 12:=g1
    have hfar:∀ x:Int,hsT x0 x = true ↔ neededI x0 - x0.brake ≤ x ∧ x ≤ neededI x0 + x0.brake:=by
     intro x
     unfold hsT farZ maxZ
     rw [decide_eq_true_eq]
     split <;> omega
    have his:hsT x0 (wsum x0.bricks best) = (ge == 0):=by
     rcases g1 with e | e
     ·subst e
      obtain ⟨k1,k2,k3⟩:=g2 rfl
      have k4:=hleast c k1
      have k5:=(hfar (wsum x0.bricks c)).2 ⟨k2,k3⟩
      unfold hsT at k5 ⊢
      rw [decide_eq_true_eq] at k5
      exact decide_eq_true (Int.le_trans k4 k5)
     ·subst e
      cases hh:hsT x0 (wsum x0.bricks best) with
      | false=>rfl
      | true =>
       have k1:=(hfar _).1 hh
       exact absurd (g3 best hbest k1.1 k1.2) (by show ¬ (12:Int) = 0;decide)
    refine gcall (Q:=fun y:Bool × Unit=>y.1 = false) ?_ ?_
    ·refine gf (by show (!(hsT x0 (wsum x0.bricks best) == (ge == 0))) = false;rw [his];cases (ge == 0) <;> rfl) ?_
     rcases g1 with e | e
     ·subst e;exact gf rfl (gend rfl)
     ·subst e;exact gt rfl (gend rfl)
    rintro ⟨y28,⟨⟩⟩ hy
    cases hy
    refine gf rfl ?_
    refine gcall (Q:=fun y:(Bool × Unit) ⊕ Unit=>y = .inr ()) ?_ ?_
    ·rcases g1 with e | e
     ·subst e
      obtain ⟨k1,k2,k3⟩:=g2 rfl
      have k5:=(hfar (wsum x0.bricks c)).2 ⟨k2,k3⟩
      refine gt rfl (go (y_one hf hv k1) (gbf rfl (gs (gf ?_ (gend rfl)))))
      show (!hsT x0 (wsum x0.bricks c)) = false
      rw [k5];rfl
     ·subst e;exact gf rfl (gend rfl)
    ·rintro _ rfl
     refine gcall (aw_ok hf hv (c:=x1) (by omega)) ?_
     rintro ⟨wn,we⟩ hw
     by_cases hwe:we = 0
     ·have hc1:=hw hwe
      subst hwe
      refine gf rfl (go (y_one hf hv hc1) (gbt rfl (gbt (decide_eq_true (hleast x1 hc1)) ?_)))
      cases hh:hsT x0 (wsum x0.bricks best) with
      | true=>exact gbt rfl (gs (gend rfl))
      | false =>
       refine gbf rfl (gs (gend ?_))
       show (!hsT x0 (wsum x0.bricks x1)) = true
       cases h2:hsT x0 (wsum x0.bricks x1) with
       | false=>rfl
       | true =>
        unfold hsT at hh h2
        rw [decide_eq_true_eq] at h2
        rw [decide_eq_false_iff_not] at hh
        exact absurd (Int.le_trans (hleast x1 hc1) h2) hh
     ·exact gt (by show (we != 0) = true;simp [hwe]) (gend rfl)
end Go.Proofs.YtgbicnkpnhifgaaGreatDoor
