/- Joined by merge.py: PlY3, PlGo, Pl16, PlY4, PlY5, PlR1, PlR2, PlR3, PlR4, PlR5, PlR6, PlR7, PlF1, PlR8, PlR9, PlR10, PlR11, PlR12, PlR13, PlR14, PlR15, PlV1, PlV2, PlV3, PlV4, PlT1, PlQ1, PlQ2, PlN1, PlN2, PlN3, PlN4, PlN5, PlN6, PlN7, PlN8, PlN9, PlN10, PlN11, PlN12, PlN13, PlN14, PlQ3, PlQ4, PlQ5. -/
import Derived.Test.YtgbicnkpnhifgaaGreatDoorM11
set_option linter.unusedSectionVars false
set_option linter.unusedVariables false
set_option linter.unusedSimpArgs false
namespace Go.Proofs.YtgbicnkpnhifgaaGreatDoor
structure FirstQ (l:List TBrick) (low high:Int) (cap kk:Nat) (cs:List Int) (sum:Int) (found:Bool) (y:(Nat × List Int) × Bool × Int × List Int):Prop where
 cap:y.1.1 = cap
 len:kk ≤ y.1.2.length
 pre:y.1.2.take kk = cs.take kk
 kept:found = true → y.2.1 = true
 fit:y.2.1 = true → Chs l y.2.2.2 ∧ low ≤ wsum l y.2.2.2 ∧ wsum l y.2.2.2 ≤ high
 all:∀ c,Chs (l.drop kk) c → low ≤ sum + wsum (l.drop kk) c → sum + wsum (l.drop kk) c ≤ high → y.2.1 = true
theorem first_ok (l:List TBrick) (hg:∀ x ∈ l,GoodBrick x) (h8:l.length ≤ 8) (rest:List Int) (hr:RestOk l rest) (low high:Int) :
  ∀ (d kk:Nat) (cs:List Int) (sum num:Int) (found:Bool) (most:Int) (best:List Int),kk ≤ l.length → l.length < d + kk → kk ≤ cs.length → Chs (l.take kk) (cs.take kk) → sum = wsum (l.take kk) (cs.take kk) → sum ≤ kk * 62914560 →
   (found = true → Chs l best ∧ low ≤ wsum l best ∧ wsum l best ≤ high) → ∃ y,vF d l rest low high (l.length,cs) kk sum num found most best = some y ∧ FirstQ l low high l.length kk cs sum found y:=by
 intro d
 induction d with
 | zero=>intro i _ _ _ _ _ _ h1 h2;omega
 | succ d ih =>
  intro kk cs sum num found most best hi hd hcl hch hsum h1 hb
  have hdg:∀ x ∈ l.drop kk,GoodBrick x:=fun x hx=>hg x (List.mem_of_mem_drop hx)
  have htg:∀ x ∈ l.take kk,GoodBrick x:=fun x hx=>hg x (List.mem_of_mem_take hx)
  have h0:0 ≤ sum:=by rw [hsum];exact (chs_bound _ _ htg hch).1
  have hrb:=restS_bound (l.drop kk) hdg
  have hdl:(l.drop kk).length = l.length - kk:=List.length_drop
  have hrb':restS (l.drop kk) ≤ 503316480:=by omega
  have hs:sum ≤ 503316480:=by omega
  show ∃ y,textF (vF d) l rest low high (l.length,cs) kk sum num found most best some = some y ∧ _
  unfold textF
  have hx0:rest[kk]? = some (restS (l.drop kk)):=hr kk hi
  have hx1:idx rest (kk:Int) = some (restS (l.drop kk)):=by
   unfold idx
   rw [if_pos (by omega),Int.toNat_natCast]
   exact hx0
  have hP:((bif found then (bif (decide (num ≥ most)) then some (true,()) else (bif (decide (sum > high)) then some (true,()) else (idx rest ((kk:Nat):Int)).bind fun _x5=>(rest[(Int.toNat ((kk:Nat):Int))]?).bind fun x6=>some ((decide ((IntKind.i64.wrap (sum + x6)) < low)),()))) else (bif (decide (sum > high)) then some (true,()) else (idx rest ((kk:Nat):Int)).bind fun _x7=>(rest[(Int.toNat ((kk:Nat):Int))]?).bind fun x8=>some ((decide ((IntKind.i64.wrap (sum + x8)) < low)),()))):Option (Bool × Unit)) = some (found && decide (num ≥ most) || (decide (sum > high) || decide (sum + restS (l.drop kk) < low)),()):=by
   rw [hx1,Int.toNat_natCast,hx0]
   simp only [Option.bind_some]
   rw [wrap64 (n:=sum + restS (l.drop kk)) (by omega) (by omega)]
   cases found <;> cases decide (num ≥ most) <;> cases decide (sum > high) <;> rfl
  rw [hP]
  simp only [Option.bind_some]
  cases hp:found && decide (num ≥ most) || (decide (sum > high) || decide (sum + restS (l.drop kk) < low)) with
  | true =>
   refine ⟨_,rfl,rfl,hcl,rfl,fun h=>h,hb,fun c hc h2 h3=>?_⟩
   simp only [Bool.or_eq_true,Bool.and_eq_true,decide_eq_true_eq] at hp
   rcases hp with hp | hp
   ·exact hp.1
   ·have:=chs_bound _ _ hdg hc
    omega
  | false =>
   simp only [cond_false]
   by_cases he:kk = l.length
   ·subst he
    have e1:(((l.length:Nat):Int) == ((l.length:Nat):Int)) = true:=by simp
    have htk:l.take l.length = l:=List.take_length
    rw [e1,if_pos hcl,f_clone_int _ (by rw [List.length_take];omega)]
    simp only [Bool.or_eq_false_iff,decide_eq_false_iff_not] at hp
    rw [htk] at hch hsum
    rw [List.drop_length] at hp
    have hz:restS ([]:List TBrick) = 0:=rfl
    refine ⟨_,rfl,rfl,hcl,rfl,fun _=>rfl,fun _=>⟨hch,?_,?_⟩,fun _ _ _ _=>rfl⟩
    ·show low ≤ wsum l (cs.take l.length)
     omega
    ·show wsum l (cs.take l.length) ≤ high
     omega
   ·have hlt:kk < l.length:=by omega
    have e1:(((kk:Nat):Int) == ((l.length:Nat):Int)) = false:=by simp;omega
    rw [e1]
    simp only [cond_false]
    have hdc:l.drop kk = l[kk] :: l.drop (kk + 1):=List.drop_eq_getElem_cons hlt
    have hgi:=hg l[kk] (List.getElem_mem hlt)
    obtain ⟨r,hr1,hr2⟩:=iter_inv (F:=fun s25:Int × (List Int) × Int × Bool × (Nat × List Int) × Unit=>(idx l ((kk:Nat):Int)).bind fun x26=>(bif (decide (s25.1 ≤ x26.count)) then (idx l ((kk:Nat):Int)).bind fun x27=>(if kk ≤ s25.2.2.2.2.1.2.length ∧ kk + ([s25.1]:List Int).length ≤ s25.2.2.2.2.1.1 then (vF d l rest low high (s25.2.2.2.2.1.1,(s25.2.2.2.2.1.2.take kk ++ ([s25.1]:List Int))) (kk + ([s25.1]:List Int).length) (IntKind.i64.wrap (sum + (IntKind.i64.wrap (s25.1 * x27.weight)))) (IntKind.i64.wrap (num + s25.1)) s25.2.2.2.1 s25.2.2.1 s25.2.1).bind fun r28=>some (.inl ((IntKind.i64.wrap (s25.1 + 1)),r28.2.2.2,r28.2.2.1,r28.2.1,r28.1,())) else none) else some (.inr (s25.2.1,s25.2.2.1,s25.2.2.2.1,s25.2.2.2.2.1,()))))
     (Q:=fun r:(List Int) × Int × Bool × (Nat × List Int) × Unit=>FirstQ l low high l.length kk cs sum found (r.2.2.2.1,r.2.2.1,r.2.1,r.1))
     (fun k s=>∃ b m f t,s = ((k:Int),b,m,f,(l.length,t),()) ∧ kk ≤ t.length ∧ t.take kk = cs.take kk ∧ (found = true → f = true) ∧ (f = true → Chs l b ∧ low ≤ wsum l b ∧ wsum l b ≤ high) ∧ ∀ c ct,Chs (l.drop kk) (c :: ct) → c < k → low ≤ sum + wsum (l.drop kk) (c :: ct) → sum + wsum (l.drop kk) (c :: ct) ≤ high → f = true)
     (l[kk].count.toNat + 1) (by have:=hgi.c1;unfold big;omega) (by
      rintro k s hk ⟨b,m,f,t,rfl,ht1,ht2,hf1,hf2,hf4⟩
      have hc0:=hgi.c0
      have hc1:=hgi.c1
      simp only [idx_at hlt,Option.bind_some]
      by_cases hkc:(k:Int) ≤ l[kk].count
      ·left
       have hm:=brick_part hgi (n:=(k:Int)) (by omega) hkc
       rw [decide_eq_true hkc]
       simp only [cond_true]
       have hlen:kk ≤ t.length ∧ kk + ([(k:Int)]:List Int).length ≤ l.length:=⟨ht1,by simp;omega⟩
       rw [if_pos hlen]
       rw [wrap64 (n:=(k:Int) * l[kk].weight) (by omega) (by omega),wrap64 (n:=sum + _) (by omega) (by omega),wrap64 (n:=(k:Int) + 1) (by omega) (by omega)]
       have e3:(t.take kk ++ [(k:Int)]).take (kk + 1) = cs.take kk ++ [(k:Int)]:=by
        rw [ht2,List.take_of_length_le]
        simp;omega
       have e4:l.take (kk + 1) = l.take kk ++ [l[kk]]:=List.take_succ_eq_append_getElem hlt
       have hca:=chs_append (l.take kk) (cs.take kk) [l[kk]] [(k:Int)] hch ⟨⟨by omega,hkc⟩,trivial⟩
       obtain ⟨y,hv,hq⟩:=ih (kk + 1) (t.take kk ++ [(k:Int)]) (sum + (k:Int) * l[kk].weight) (IntKind.i64.wrap (num + (k:Int))) f m b hlt (by omega) (by simp;omega) (by rw [e3,e4];exact hca.1) (by
        rw [e3,e4,hca.2,hsum]
        have:wsum [l[kk]] [(k:Int)] = l[kk].weight * k:=by simp [wsum]
        rw [this,Int.mul_comm]) (by push_cast;omega) hf2
       have e5:kk + ([(k:Int)]:List Int).length = kk + 1:=rfl
       rw [e5,hv]
       have hext:∀ ct,Chs (l.drop (kk + 1)) ct → sum + wsum (l.drop kk) ((k:Int) :: ct) = sum + (k:Int) * l[kk].weight + wsum (l.drop (kk + 1)) ct:=by
        intro ct hct
        rw [hdc,wsum_cons,Int.mul_comm];omega
       obtain ⟨⟨yc,yt⟩,yf,ym,yb⟩:=y
       have hqc:yc = l.length:=hq.cap
       subst hqc
       refine ⟨_,rfl,by omega,yb,ym,yf,yt,by push_cast;rfl,?_,?_,fun hf=>hq.kept (hf1 hf),hq.fit,?_⟩
       ·have:=hq.len
        have:kk + 1 ≤ yt.length:=this
        omega
       ·have h5:yt.take (kk + 1) = (t.take kk ++ [(k:Int)]).take (kk + 1):=hq.pre
        rw [e3] at h5
        have h6:=congrArg (List.take kk) h5
        rw [List.take_take,Nat.min_eq_left (by omega),List.take_append_of_le_length (by simp;omega),List.take_take,Nat.min_self] at h6
        exact h6
       ·intro c ct hct hc h5 h6
        by_cases hck:c < (k:Int)
        ·exact hq.kept (hf4 c ct hct hck h5 h6)
        ·have:c = (k:Int):=by push_cast at hc;omega
         subst this
         rw [hdc] at hct
         have h7:=hext ct hct.2
         rw [h7] at h5 h6
         exact hq.all ct hct.2 h5 h6
      ·right
       rw [decide_eq_false hkc]
       refine ⟨_,rfl,rfl,ht1,ht2,hf1,hf2,fun c hc h5 h6=>?_⟩
       match c,hc,h5,h6 with
       | [],hc,_,_=>rw [hdc] at hc;exact hc.elim
       | c :: ct,hc,h5,h6 =>
        refine hf4 c ct hc ?_ h5 h6
        rw [hdc] at hc
        have:=hc.1.2
        omega) (s:=((0:Nat),best,most,found,(l.length,cs),()))
     ⟨best,most,found,cs,rfl,hcl,rfl,fun h=>h,hb,fun c ct hct hc=>by rw [hdc] at hct;have:=hct.1.1;omega⟩
    refine ⟨_,(congrArg (fun x=>Option.bind x _) hr1).trans rfl,hr2⟩
end Go.Proofs.YtgbicnkpnhifgaaGreatDoor

namespace Go.Proofs.YtgbicnkpnhifgaaGreatDoor
def Gs {γ:Type} (X:Option γ) (P:γ → Prop):Prop:=∃ y,X = some y ∧ P y
theorem go {α γ:Type} {X:Option α} {a:α} {K:α → Option γ} {P:γ → Prop} (h:X = some a) (g:Gs (K a) P):Gs (X.bind K) P:=by subst h;exact g
theorem goo {α β γ:Type} {X:Option α} {a:α} {K:α → Option β} {L:β → Option γ} {P:γ → Prop} (h:X = some a) (g:Gs ((K a).bind L) P):Gs ((X.bind K).bind L) P:=by subst h;exact g
theorem gt {γ:Type} {c:Bool} {X Y:Option γ} {P:γ → Prop} (h:c = true) (g:Gs X P):Gs (bif c then X else Y) P:=by subst h;exact g
theorem gf {γ:Type} {c:Bool} {X Y:Option γ} {P:γ → Prop} (h:c = false) (g:Gs Y P):Gs (bif c then X else Y) P:=by subst h;exact g
theorem gbt {α γ:Type} {c:Bool} {X Y:Option α} {K:α → Option γ} {P:γ → Prop} (h:c = true) (g:Gs (X.bind K) P):Gs ((bif c then X else Y).bind K) P:=by subst h;exact g
theorem gbf {α γ:Type} {c:Bool} {X Y:Option α} {K:α → Option γ} {P:γ → Prop} (h:c = false) (g:Gs (Y.bind K) P):Gs ((bif c then X else Y).bind K) P:=by subst h;exact g
theorem gif {γ:Type} {c:Prop} [Decidable c] {X Y:Option γ} {P:γ → Prop} (h:c) (g:Gs X P):Gs (if c then X else Y) P:=by rw [if_pos h];exact g
theorem gbif {α γ:Type} {c:Prop} [Decidable c] {X Y:Option α} {K:α → Option γ} {P:γ → Prop} (h:c) (g:Gs (X.bind K) P):Gs ((if c then X else Y).bind K) P:=by rw [if_pos h];exact g
theorem gs {α γ:Type} {a:α} {K:α → Option γ} {P:γ → Prop} (g:Gs (K a) P):Gs ((some a).bind K) P:=g
theorem gend {γ:Type} {a:γ} {P:γ → Prop} (g:P a):Gs (some a) P:=⟨a,rfl,g⟩
theorem gcall {α γ:Type} {X:Option α} {Q:α → Prop} {K:α → Option γ} {P:γ → Prop} (h:Gs X Q) (g:∀ a,Q a → Gs (K a) P):Gs (X.bind K) P:=by
 obtain ⟨a,h1,h2⟩:=h
 exact go h1 (g a h2)
theorem gcalll {α β γ:Type} {X:Option α} {Q:α → Prop} {K:α → Option β} {L:β → Option γ} {P:γ → Prop} (h:Gs X Q) (g:∀ a,Q a → Gs ((K a).bind L) P):Gs ((X.bind K).bind L) P:=by
 obtain ⟨a,h1,h2⟩:=h
 exact goo h1 (g a h2)
theorem gloop {σ ρ γ:Type} {F:σ → Option (σ ⊕ ρ)} {K:ρ → Option γ} {P:γ → Prop} (Q:ρ → Prop) (I:Nat → σ → Prop) (n:Nat) (hn:n < big) {s:σ}
  (h:I 0 s) (step:∀ k s,k ≤ n → I k s → Gs (F s) fun y=>match y with | .inl s'=>k < n ∧ I (k + 1) s' | .inr r=>Q r) (hK:∀ r,Q r → Gs (K r) P):Gs ((iterF F big s).bind K) P:=by
 obtain ⟨r,h1,h2⟩:=iter_inv (F:=F) (Q:=Q) I n hn (fun k s hk hi=>by
  obtain ⟨y,h1,h2⟩:=step k s hk hi
  cases y with
  | inl s'=>exact .inl ⟨s',h1,h2.1,h2.2⟩
  | inr r=>exact .inr ⟨r,h1,h2⟩) h
 exact go h1 (hK r h2)
theorem gs_eq {γ:Type} {X:Option γ} {a:γ} (h:Gs X fun r=>r = a):X = some a:=by
 obtain ⟨y,h1,rfl⟩:=h
 exact h1
end Go.Proofs.YtgbicnkpnhifgaaGreatDoor

namespace Go.Proofs.YtgbicnkpnhifgaaGreatDoor
theorem runL_gsum {α ρ:Type} (p:α → Bool) (f:α → Int) (a:ρ) (fin:Int → ρ) (l:List α) (t:Int):runL (fun t x=>bif p x then .inr a else .inl (t + f x)) fin l t = bif l.any p then a else fin (t + (l.map f).sum):=by
 induction l generalizing t with
 | nil=>simp [runL]
 | cons x l ih =>
  unfold runL
  rw [List.any_cons,List.map_cons,List.sum_cons]
  cases p x with
  | true=>rfl
  | false=>simp only [cond_false,Bool.false_or];rw [ih,Int.add_assoc]
theorem f_avalid (l:List TBrick) (hl:l.length ≤ 2147483648) (hn:∀ x ∈ l,x.name.size ≤ 2147483648):F_arbor_Valid l = some (bricksB l):=by
 unfold F_arbor_Valid bricksB
 by_cases h8:l.length ≤ 8
 ·have e1:decide (((l.length:Nat):Int) > 8) = false:=decide_eq_false (by omega)
  rw [e1,decide_eq_true h8]
  simp only [cond_false,Bool.true_and]
  rw [iter_pairs brickB (fun x y=>!sameName x.name y.name) l (by omega) (·.count) (.inl (false,())) (fun t=>.inr (t,())) ?hin ?hout]
  ·cases pairsB brickB (fun x y=>!sameName x.name y.name) l <;> rfl
  case hout=>intro _;simp only [lt_no,cond_false]
  case hin =>
   intro k hk hok
   have hna:=hn l[k] (List.getElem_mem hk)
   have hsum:=counts_to hok (by omega)
   simp only [lt_yes hk,cond_true,idx_at hk,Option.bind_some,f_name l[k].name (by omega)]
   rw [okAt_eq hk]
   have hbr:brickB l[k] = (nameB l[k].name && (!decide (l[k].weight < 1) && (!decide (l[k].weight > 1048576) && (!decide (l[k].count < 0) && !decide (l[k].count > 60))))):=by
    unfold brickB betweenB
    cases nameB l[k].name <;> by_cases h1:l[k].weight < 1 <;> by_cases h2:l[k].weight > 1048576 <;> by_cases h3:l[k].count < 0 <;> by_cases h4:l[k].count > 60 <;> simp [h1,h2,h3,h4] <;> omega
   cases hb:brickB l[k] with
   | false =>
    rw [hb] at hbr
    cases ha:nameB l[k].name <;> cases h1:decide (l[k].weight < 1) <;> cases h2:decide (l[k].weight > 1048576) <;> cases h3:decide (l[k].count < 0) <;> cases h4:decide (l[k].count > 60) <;> first | rfl | (rw [ha,h1,h2,h3,h4] at hbr;cases hbr)
   | true =>
    have hg:=GoodBrick.of hb
    have hc0:=hg.c0
    have hc1:=hg.c1
    have hw0:=hg.w0
    have hw1:=hg.w1
    rw [hg.name,decide_eq_false (show ¬ l[k].weight < 1 by omega),decide_eq_false (show ¬ l[k].weight > 1048576 by omega),decide_eq_false (show ¬ l[k].count < 0 by omega),decide_eq_false (show ¬ l[k].count > 60 by omega)]
    simp only [Bool.not_true,cond_false,Option.bind_some,Bool.true_and,Int.toNat_natCast]
    rw [if_pos ⟨by omega,by omega,by omega⟩]
    have hdr:(l.take k).drop (Int.toNat 0) = l.take k:=by simp
    rw [hdr,f_slices_ContainsFunc_api_Brick (l.take k) (by rw [List.length_take];omega) (fun z11=>F_arbor_Valid_1 z11 l[k]) (fun z=>sameName z.name l[k].name) (fun z _=>rfl)]
    have hall:((l.take k).any fun z=>sameName z.name l[k].name) = !(l.take k).all fun x=>!sameName x.name l[k].name:=by
     rw [List.not_all_eq_any_not];congr 1;funext z;rw [Bool.not_not]
    rw [hall,wrap64 (by omega) (by omega),wrap64 (by omega) (by omega)]
    cases (l.take k).all fun x=>!sameName x.name l[k].name <;> rfl
 ·have e1:decide (((l.length:Nat):Int) > 8) = true:=decide_eq_true (by omega)
  rw [e1,decide_eq_false h8]
  rfl
def outC (x:TBrick × Int):Bool:=decide (x.2 < 0) || decide (x.2 > x.1.count)
def weightP (l:List TBrick) (cs:List Int):Int × Int:=bif !bricksB l then (0,1) else bif !decide (cs.length = l.length) then (0,3) else bif (l.zip cs).any outC then (0,2) else (wsum l cs,0)
theorem bricks_good {l:List TBrick} (h:bricksB l = true):l.length ≤ 8 ∧ ∀ x ∈ l,GoodBrick x:=by
 unfold bricksB at h
 simp only [Bool.and_eq_true,decide_eq_true_eq] at h
 exact ⟨h.1,fun x hx=>GoodBrick.of (pairs_one h.2.1 x hx)⟩
theorem outC_no {x:TBrick × Int} (h:outC x = false) (hg:GoodBrick x.1):0 ≤ x.2 * x.1.weight ∧ x.2 * x.1.weight ≤ 62914560:=by
 simp only [outC,Bool.or_eq_false_iff,decide_eq_false_iff_not] at h
 have h1:=hg.w0
 have h2:=hg.c1
 have h3:=hg.w1
 refine ⟨Int.mul_nonneg (by omega) (by omega),?_⟩
 have:=Int.mul_le_mul (show x.2 ≤ 60 by omega) h3 (by omega) (by decide)
 exact Int.le_trans this (by decide)
theorem wsum_zip (l:List TBrick) (cs:List Int):((l.zip cs).map fun x=>x.2 * x.1.weight).sum = wsum l cs:=by
 unfold wsum
 induction l generalizing cs with
 | nil=>rfl
 | cons b l ih=>cases cs with
  | nil=>rfl
  | cons c cs=>simp only [List.zip_cons_cons,List.map_cons,List.zipWith_cons_cons,List.sum_cons];rw [ih,Int.mul_comm]
theorem f_aweight (l:List TBrick) (cs:List Int) (hl:l.length ≤ 2147483648) (hn:∀ x ∈ l,x.name.size ≤ 2147483648) (hc:cs.length ≤ 2147483648):F_arbor_Weight l cs = some (weightP l cs):=by
 unfold F_arbor_Weight weightP
 rw [f_avalid l hl hn]
 cases hb:bricksB l with
 | false=>rfl
 | true =>
  obtain ⟨h8,hg⟩:=bricks_good hb
  simp only [Option.bind_some,Bool.not_true,cond_false]
  by_cases hlen:cs.length = l.length
  case neg =>
   have e:(((cs.length:Nat):Int) != ((l.length:Nat):Int)) = true:=by rw [bne_iff_ne];omega
   rw [e,decide_eq_false hlen];rfl
  have e:(((cs.length:Nat):Int) != ((l.length:Nat):Int)) = false:=by rw [bne_eq_false_iff_eq];omega
  rw [e,decide_eq_true hlen]
  simp only [cond_false,Bool.not_true]
  have hzl:(l.zip cs).length = cs.length:=by rw [List.length_zip];omega
  have hloop:=iter_ak (F:=fun s7:Int × Int × Unit=>(bif (decide (s7.2.1 < ((cs.length:Nat):Int))) then (idx cs s7.2.1).bind fun x8=>((bif (decide (x8 < 0)) then some (true,()) else (idx l s7.2.1).bind fun x9=>some ((decide (x8 > x9.count)),())):Option (Bool × Unit)).bind fun y10=>(bif y10.1 then some (.inr (.inl (0,2,()))) else (idx l s7.2.1).bind fun x11=>some (.inl ((IntKind.i64.wrap (s7.1 + (IntKind.i64.wrap (x8 * x11.weight)))),(IntKind.i64.wrap (s7.2.1 + 1)),()))) else some (.inr (.inr ((s7.1,())))):Option ((Int × Int × Unit) ⊕ ((Int × Int × Unit) ⊕ (Int × Unit)))))
   (l.zip cs) (by omega) (fun t x=>bif outC x then .inr (.inl (0,2,())) else .inl (t + x.2 * x.1.weight)) (fun t=>.inr (t,())) (fun k t=>0 ≤ t ∧ t ≤ k * 62914560) 0 (by omega) (fun k hk t ht=>by
    have hk1:k < cs.length:=by omega
    have hk2:k < l.length:=by omega
    have hz:(l.zip cs)[k] = (l[k],cs[k]):=List.getElem_zip
    rw [hz]
    simp only [lt_yes hk1,cond_true,idx_at hk1,idx_at hk2,Option.bind_some]
    cases ho:outC (l[k],cs[k]) with
    | true =>
     refine ⟨?_,fun t' h'=>by cases h'⟩
     simp only [outC,Bool.or_eq_true,decide_eq_true_eq] at ho
     by_cases h1:cs[k] < 0
     ·rw [decide_eq_true h1];rfl
     ·rw [decide_eq_false h1,decide_eq_true (show cs[k] > l[k].count by omega)];rfl
    | false =>
     have hm:=outC_no ho (hg _ (List.getElem_mem hk2))
     simp only [outC,Bool.or_eq_false_iff,decide_eq_false_iff_not] at ho hm
     refine ⟨?_,fun t' h'=>by cases h';omega⟩
     rw [decide_eq_false ho.1,decide_eq_false ho.2]
     simp only [cond_false,Option.bind_some]
     rw [wrap64 (n:=cs[k] * l[k].weight) (by omega) (by omega),wrap64 (by omega) (by omega),wrap64 (by omega) (by omega)]) (fun t _=>by rw [hzl];simp only [lt_no,cond_false])
  rw [hloop,runL_gsum,Int.zero_add,wsum_zip]
  cases (l.zip cs).any outC <;> rfl
end Go.Proofs.YtgbicnkpnhifgaaGreatDoor

namespace Go.Proofs.YtgbicnkpnhifgaaGreatDoor
theorem rest_loop (l:List TBrick) (hg:∀ x ∈ l,GoodBrick x) (h8:l.length ≤ 8) :
  Gs (iterF (σ:=Int × List Int × Unit) (ρ:=List Int × Unit) (fun s13=>(bif (decide (s13.1 ≥ 0)) then (idx s13.2.1 (IntKind.i64.wrap (s13.1 + 1))).bind fun _x14=>(s13.2.1[(Int.toNat (IntKind.i64.wrap (s13.1 + 1)))]?).bind fun x15=>(idx l s13.1).bind fun x16=>(idx l s13.1).bind fun x17=>(idx s13.2.1 s13.1).bind fun _x18=>(s13.2.1[(Int.toNat s13.1)]?).bind fun x19=>some (.inl ((IntKind.i64.wrap (s13.1 - 1)),(s13.2.1.set (Int.toNat s13.1) (IntKind.i64.wrap (x15 + (IntKind.i64.wrap (x16.weight * x17.count))))),())) else some (.inr (s13.2.1,())))) big (((l.length:Nat):Int) - 1,(List.replicate (l.length + 1) (0:Int)),())) fun y=>RestOk l y.1:=by
 obtain ⟨r,hr1,hr2⟩:=iter_inv (F:=fun s13:Int × List Int × Unit=>(bif (decide (s13.1 ≥ 0)) then (idx s13.2.1 (IntKind.i64.wrap (s13.1 + 1))).bind fun _x14=>(s13.2.1[(Int.toNat (IntKind.i64.wrap (s13.1 + 1)))]?).bind fun x15=>(idx l s13.1).bind fun x16=>(idx l s13.1).bind fun x17=>(idx s13.2.1 s13.1).bind fun _x18=>(s13.2.1[(Int.toNat s13.1)]?).bind fun x19=>some (.inl ((IntKind.i64.wrap (s13.1 - 1)),(s13.2.1.set (Int.toNat s13.1) (IntKind.i64.wrap (x15 + (IntKind.i64.wrap (x16.weight * x17.count))))),())) else some (.inr (s13.2.1,()))))
  (Q:=fun y:List Int × Unit=>RestOk l y.1)
  (fun k s=>∃ r,s = ((l.length:Int) - 1 - k,r,()) ∧ r.length = l.length + 1 ∧ ∀ j,l.length - k ≤ j → j ≤ l.length → r[j]? = some (restS (l.drop j))) l.length (by unfold big;omega) (by
   rintro k s hk ⟨r,rfl,hlen,hall⟩
   by_cases hlt:k < l.length
   ·left
    have hj:l.length - k ≤ l.length - k:=Nat.le_refl _
    have hx:=hall (l.length - k) hj (by omega)
    have hi1:l.length - 1 - k < l.length:=by omega
    have e0:((l.length:Int) - 1 - k) = ((l.length - 1 - k:Nat):Int):=by omega
    have e1:IntKind.i64.wrap (((l.length:Int) - 1 - k) + 1) = ((l.length - k:Nat):Int):=by rw [wrap64 (by omega) (by omega)];omega
    have hgi:=hg l[l.length - 1 - k] (List.getElem_mem hi1)
    have hdc:l.drop (l.length - 1 - k) = l[l.length - 1 - k] :: l.drop (l.length - k):=by
     rw [List.drop_eq_getElem_cons hi1]
     congr 2
     omega
    have hm:=brick_part hgi (n:=l[l.length - 1 - k].count) hgi.c0 (Int.le_refl _)
    have hrb:=restS_bound (l.drop (l.length - k)) (fun x hx=>hg x (List.mem_of_mem_drop hx))
    have hrl:(l.drop (l.length - k)).length ≤ 8:=by rw [List.length_drop];omega
    simp only [e1]
    have hx2:idx r ((l.length - k:Nat):Int) = some (restS (l.drop (l.length - k))):=by
     unfold idx
     rw [if_pos (by omega),Int.toNat_natCast]
     exact hx
    have hget:r[l.length - 1 - k]? = some (r[l.length - 1 - k]'(by omega)):=List.getElem?_eq_getElem (by omega)
    have hx3:idx r ((l.length - 1 - k:Nat):Int) = some (r[l.length - 1 - k]'(by omega)):=idx_at (by omega)
    rw [decide_eq_true (show (l.length:Int) - 1 - k ≥ 0 by omega),hx2,Int.toNat_natCast,hx]
    simp only [cond_true,Option.bind_some]
    rw [e0,idx_at hi1]
    simp only [Option.bind_some]
    rw [hx3,Int.toNat_natCast,hget]
    simp only [Option.bind_some]
    rw [Int.mul_comm] at hm
    rw [wrap64 (n:=l[l.length - 1 - k].weight * _) (by omega) (by omega),wrap64 (n:=restS _ + _) (by omega) (by omega),wrap64 (n:=((l.length - 1 - k:Nat):Int) - 1) (by omega) (by omega)]
    refine ⟨_,rfl,hlt,_,by congr 1;omega,by rw [List.length_set];exact hlen,fun j hj1 hj2=>?_⟩
    rw [List.getElem?_set]
    by_cases hje:l.length - 1 - k = j
    ·subst hje
     rw [if_pos rfl,if_pos (by omega),hdc,restS_cons,Int.add_comm]
    ·rw [if_neg hje]
     exact hall j (by omega) hj2
   ·right
    obtain rfl:k = l.length:=by omega
    rw [decide_eq_false (by show ¬ ((l.length:Int) - 1 - (l.length:Nat) ≥ 0);omega)]
    exact ⟨_,rfl,fun j hj=>hall j (by omega) hj⟩) (s:=(((l.length:Nat):Int) - 1,(List.replicate (l.length + 1) (0:Int)),()))
  ⟨_,by congr 1;omega,by simp,fun j hj1 hj2=>by
   obtain rfl:j = l.length:=by omega
   rw [List.drop_length]
   simp [restS]⟩
 exact ⟨r,hr1,hr2⟩
theorem f_window (l:List TBrick) (hb:bricksB l = true) (hn:∀ x ∈ l,x.name.size ≤ 2147483648) (low high:Int) (hlh:low ≤ high) :
  Gs (F_bricks_Window l low high) fun y=>(y.2 = 0 ∨ y.2 = 12) ∧ (y.2 = 0 → Chs l y.1 ∧ low ≤ wsum l y.1 ∧ wsum l y.1 ≤ high) ∧ ∀ c,Chs l c → low ≤ wsum l c → wsum l c ≤ high → y.2 = 0:=by
 obtain ⟨h8,hg⟩:=bricks_good hb
 unfold F_bricks_Window
 refine go (f_avalid l (by omega) hn) ?_
 refine gf (by rw [hb];rfl) ?_
 refine gf (by rw [decide_eq_false_iff_not];omega) ?_
 have e1:IntKind.i64.wrap (((l.length:Nat):Int) + 1) = ((l.length + 1:Nat):Int):=by rw [wrap64 (by omega) (by omega)];omega
 have e2:IntKind.i64.wrap (((l.length:Nat):Int) - 1) = ((l.length:Nat):Int) - 1:=wrap64 (by omega) (by omega)
 rw [e1,e2,Int.toNat_natCast]
 refine gif ⟨by omega,by omega⟩ ?_
 refine gcall (rest_loop l hg h8) fun y hy=>?_
 refine gif rfl ?_
 refine gif ⟨by omega,by omega⟩ ?_
 rw [Int.toNat_natCast]
 obtain ⟨z,hz,hq⟩:=first_ok l hg h8 y.1 hy (maxZ low (-1125899906842624)) (minZ high 1125899906842624) 16 0 [] 0 0 false 0 [] (by omega) (by omega) (by simp) trivial rfl (by simp) (fun h=>by cases h)
 refine go hz ?_
 have hd0:l.drop 0 = l:=rfl
 have hcl:∀ c,Chs l c → (maxZ low (-1125899906842624) ≤ wsum l c ∧ wsum l c ≤ minZ high 1125899906842624 ↔ low ≤ wsum l c ∧ wsum l c ≤ high):=by
  intro c hc
  have h1:=chs_bound l c hg hc
  have h2:=restS_bound l hg
  unfold maxZ minZ
  split <;> split <;> omega
 cases hf:z.2.1 with
 | false =>
  refine ⟨_,rfl,.inr rfl,fun h=>absurd h (by decide),fun c hc h1 h2=>?_⟩
  have h3:=(hcl c hc).2 ⟨h1,h2⟩
  have h4:=hq.all c hc (by rw [hd0];omega) (by rw [hd0];omega)
  rw [hf] at h4
  cases h4
 | true =>
  obtain ⟨h1,h2⟩:=hq.fit hf
  exact ⟨_,rfl,.inl rfl,fun _=>⟨h1,(hcl _ h1).1 h2⟩,fun _ _ _ _=>rfl⟩
end Go.Proofs.YtgbicnkpnhifgaaGreatDoor

namespace Go.Proofs.YtgbicnkpnhifgaaGreatDoor
theorem chs_sum:∀ (l:List TBrick) (c:List Int),Chs l c → (∀ x ∈ l,GoodBrick x) → c.sum ≤ (l.map (·.count)).sum ∧ ∀ x ∈ c,0 ≤ x ∧ x ≤ 60
 | [],[],_,_=>⟨by simp,by simp⟩
 | b :: l,c :: cs,h,hg=>by
  obtain ⟨h1,h2⟩:=chs_sum l cs h.2 (fun x hx=>hg x (by simp [hx]))
  have hb:=hg b (by simp)
  have h3:=h.1.1
  have h4:=h.1.2
  have h5:=hb.c1
  refine ⟨by simp only [List.sum_cons,List.map_cons];omega,fun x hx=>?_⟩
  rcases List.mem_cons.1 hx with rfl | hx
  ·omega
  ·exact h2 x hx
theorem y_loaded {s:TSet} (hf:Fits s) (hv:validB s = true) {c:List Int} (hc:Chs s.bricks c) :
  F_arbor_Loaded s c = some (setC s c,0) ∧ validB (setC s c) = true ∧ Fits (setC s c) ∧ balanceI (setC s c) = neededI s - wsum s.bricks c:=by
 have hg:=Good.of hv
 have hlen:=chs_len _ _ hc
 obtain ⟨h1,h2⟩:=chs_sum _ _ hc hg.bricks
 have hb:c.any badC = false:=by
  rw [List.any_eq_false]
  intro x hx
  have:=h2 x hx
  unfold badC
  rw [decide_eq_false (by omega),decide_eq_false (by omega)]
  decide
 have hs:¬ c.sum > 60:=by
  have:=hg.bsum
  rw [sumTo_all] at this
  omega
 refine ⟨?_,valid_setC hv hlen hb hs,setC_fits hf hlen,?_⟩
 ·rw [f_loaded s c hf (by have:=hg.nb;omega)]
  unfold loadedP
  rw [hv,hb,decide_eq_true hlen,decide_eq_false hs]
  rfl
 ·show neededI (setC s c) - thereW (withC s.bricks c) = _
  rw [wsum_with]
  rfl
theorem y_holds {s:TSet} (h:Fits s) (hv:validB s = true):F_arbor_Holds s = some (decide (maxZ (balanceI s) (IntKind.i64.wrap (0 - balanceI s)) ≤ s.brake),0):=by
 apply gs_eq
 unfold F_arbor_Holds
 refine go (f_balance s h) ?_
 rw [if_pos hv]
 exact gbt rfl (gs (gend rfl))
def hsT (s:TSet) (x:Int):Bool:=decide (farZ (neededI s) x ≤ s.brake)
theorem far_bal {s:TSet} (hv:validB s = true) {x:Int} (hx:0 ≤ x ∧ x ≤ 1099511627776):maxZ (neededI s - x) (IntKind.i64.wrap (0 - (neededI s - x))) = farZ (neededI s) x:=by
 have hb:=needed_bound (Good.of hv)
 rw [wrap64 (n:=0 - (neededI s - x)) (by omega) (by omega)]
 unfold farZ maxZ
 split <;> split <;> omega
theorem aw_chs:∀ (l:List TBrick) (c:List Int),c.length = l.length → (l.zip c).any outC = false → Chs l c
 | [],[],_,_=>trivial
 | b :: l,c :: cs,h,ho=>by
  simp only [List.zip_cons_cons,List.any_cons,Bool.or_eq_false_iff,outC,decide_eq_false_iff_not] at ho
  exact ⟨⟨by omega,by omega⟩,aw_chs l cs (by simpa using h) ho.2⟩
theorem aw_ok {s:TSet} (hf:Fits s) (hv:validB s = true) {c:List Int} (hc:c.length ≤ 2147483648):Gs (F_arbor_Weight s.bricks c) fun y=>y.2 = 0 → Chs s.bricks c:=by
 refine ⟨_,f_aweight s.bricks c hf.bricks hf.bnames hc,?_⟩
 unfold weightP
 rw [(valid_parts hv).2]
 by_cases hl:c.length = s.bricks.length
 ·rw [decide_eq_true hl]
  cases ho:(s.bricks.zip c).any outC with
  | true=>intro h;cases h
  | false=>exact fun _=>aw_chs _ _ hl ho
 ·rw [decide_eq_false hl]
  intro h;cases h
theorem wsum_bound {s:TSet} (hv:validB s = true) {c:List Int} (hc:Chs s.bricks c):0 ≤ wsum s.bricks c ∧ wsum s.bricks c ≤ 503316480:=by
 have hg:=Good.of hv
 have h1:=chs_bound _ _ hg.bricks hc
 have h2:=restS_bound _ hg.bricks
 have h3:=hg.nb
 omega
end Go.Proofs.YtgbicnkpnhifgaaGreatDoor

namespace Go.Proofs.YtgbicnkpnhifgaaGreatDoor
theorem wrapu (n:Int):IntKind.u64.wrap n = n % 18446744073709551616:=by
 simp only [IntKind.wrap,IntKind.bits,IntKind.signed,Bool.false_and,Bool.false_eq_true,if_false]
 rfl
theorem f_gcd (a b:Nat) (hb:b < big):F_ratio_gcd a b = some (Nat.gcd a b:Int):=by
 unfold F_ratio_gcd
 have go:∀ (fuel b a:Nat),b < fuel → iterF (σ:=Int × Int × Unit) (ρ:=Int × Unit) (fun s1=>(bif (s1.2.1 != 0) then (if s1.2.1 = 0 then none else some (.inl (s1.2.1,(s1.1.tmod s1.2.1),()))) else some (.inr (s1.1,())))) fuel (a,b,()) = some ((Nat.gcd a b:Int),()):=by
  intro fuel
  induction fuel with
  | zero=>intro b a h;omega
  | succ fuel ih =>
   intro b a h
   unfold iterF
   rcases Nat.eq_zero_or_pos b with rfl | hp
   ·simp
   ·have h1:((b:Int) != 0) = true:=by simp;omega
    rw [h1,cond_true,if_neg (by simp;omega)]
    simp only [show ((a:Int).tmod b) = ((a % b:Nat):Int) from by rw [Int.tmod_eq_emod_of_nonneg (by omega)];rfl]
    simp only [Option.bind_some]
    rw [ih (a % b) b (by have:=Nat.mod_lt a hp;omega),Nat.gcd_comm a b,Nat.gcd_rec b a,Nat.gcd_comm]
 rw [go big b a hb]
 rfl
theorem f_size {n:Int} (h:-9223372036854775808 ≤ n) (h2:n ≤ 9223372036854775807):F_ratio_size n = some (n.natAbs:Int):=by
 unfold F_ratio_size
 rw [wrapu,wrapu]
 by_cases hn:n < 0
 ·rw [decide_eq_true hn,cond_true];congr 1;omega
 ·rw [decide_eq_false hn,cond_false];congr 1;omega
theorem sh32 (x:Int):x.fdiv (2 ^ min (Int.toNat 32) IntKind.u64.bits) = x / 4294967296:=by
 rw [show (2 ^ min (Int.toNat 32) IntKind.u64.bits:Int) = 4294967296 from by decide,Int.fdiv_eq_ediv_of_nonneg _ (by omega)]
theorem lo32 {x:Int} (h:0 ≤ x):bitsOf .and .u64 x 4294967295 = x % 4294967296:=by
 obtain ⟨n,rfl⟩:=Int.eq_ofNat_of_zero_le h
 show IntKind.u64.wrap (((BitVec.ofInt 64 (n:Int) &&& BitVec.ofInt 64 4294967295).toNat:Nat):Int) = _
 rw [wrapu,BitVec.toNat_and,show (4294967295:Int) = ((2 ^ 32 - 1:Nat):Int) from rfl,BitVec.ofInt_natCast,BitVec.ofInt_natCast,BitVec.toNat_ofNat,BitVec.toNat_ofNat,Nat.mod_eq_of_lt (show 2 ^ 32 - 1 < 2 ^ 64 by decide),Nat.and_two_pow_sub_one_eq_mod]
 omega
theorem f_mul64 {x y:Int} (hx:0 ≤ x) (hx2:x < 18446744073709551616) (hy:0 ≤ y) (hy2:y < 18446744073709551616) :
  F_math_bits_Mul64 x y = some (x * y / 18446744073709551616,x * y % 18446744073709551616):=by
 unfold F_math_bits_Mul64
 simp only [sh32,lo32 hx,lo32 hy,wrapu]
 have ex:x = 4294967296 * (x / 4294967296) + x % 4294967296:=by omega
 have ey:y = 4294967296 * (y / 4294967296) + y % 4294967296:=by omega
 have a0:0 ≤ x / 4294967296:=by omega
 have a1:x / 4294967296 ≤ 4294967295:=by omega
 have b0:0 ≤ x % 4294967296:=by omega
 have b1:x % 4294967296 ≤ 4294967295:=by omega
 have c0:0 ≤ y / 4294967296:=by omega
 have c1:y / 4294967296 ≤ 4294967295:=by omega
 have d0:0 ≤ y % 4294967296:=by omega
 have d1:y % 4294967296 ≤ 4294967295:=by omega
 generalize x / 4294967296 = a at *
 generalize x % 4294967296 = b at *
 generalize y / 4294967296 = c at *
 generalize y % 4294967296 = d at *
 have exy:x * y = 18446744073709551616 * (a * c) + 4294967296 * (a * d + b * c) + b * d:=by rw [ex,ey];grind
 have bd (u v:Int) (u0:0 ≤ u) (u1:u ≤ 4294967295) (v0:0 ≤ v) (v1:v ≤ 4294967295):0 ≤ u * v ∧ u * v ≤ 18446744065119617025 :=
  ⟨Int.mul_nonneg u0 v0,Int.le_trans (Int.mul_le_mul u1 v1 v0 (by omega)) (by omega)⟩
 have p:=bd a c a0 a1 c0 c1
 have q:=bd a d a0 a1 d0 d1
 have r:=bd b c b0 b1 c0 c1
 have t:=bd b d b0 b1 d0 d1
 rw [exy]
 generalize a * c = A at *
 generalize a * d = B at *
 generalize b * c = C at *
 generalize b * d = D at *
 have e1:D % 18446744073709551616 = D:=by omega
 have e2:B % 18446744073709551616 = B:=by omega
 have e3:C % 18446744073709551616 = C:=by omega
 have e4:A % 18446744073709551616 = A:=by omega
 rw [e1,e2,e3,e4]
 have e5:(B + D / 4294967296) % 18446744073709551616 = B + D / 4294967296:=by omega
 rw [e5,lo32 (by omega)]
 congr 2
 omega
theorem f_product {x y:Int} (hx:0 ≤ x) (hx2:x < 18446744073709551616) (hy:0 ≤ y) (hy2:y < 18446744073709551616) :
  F_ratio_product x y = some ⟨x * y / 18446744073709551616,x * y % 18446744073709551616⟩:=by
 unfold F_ratio_product
 rw [f_mul64 hx hx2 hy hy2]
 rfl
def wv (w:Twide):Int:=w.hi * 18446744073709551616 + w.lo
structure WOk (w:Twide):Prop where
 h0:0 ≤ w.hi
 h1:w.hi < 18446744073709551616
 l0:0 ≤ w.lo
 l1:w.lo < 18446744073709551616
def ofV (v:Int):Twide:=⟨v / 18446744073709551616,v % 18446744073709551616⟩
theorem wok_of {v:Int} (h:0 ≤ v) (h2:v < 340282366920938463463374607431768211456):WOk (ofV v):=⟨by unfold ofV;dsimp only;omega,by unfold ofV;dsimp only;omega,by unfold ofV;dsimp only;omega,by unfold ofV;dsimp only;omega⟩
theorem wv_of (v:Int):wv (ofV v) = v:=by unfold wv ofV;dsimp only;omega
theorem f_plus {a b:Twide} (ha:WOk a) (hb:WOk b) (h:wv a + wv b < 340282366920938463463374607431768211456):F_ratio_plus a b = some (ofV (wv a + wv b)):=by
 obtain ⟨h0,h1,l0,l1⟩:=ha
 obtain ⟨g0,g1,m0,m1⟩:=hb
 unfold wv at *
 unfold F_ratio_plus u64M ofV
 rw [if_pos (by omega),if_pos (by omega)]
 congr 2 <;> omega
theorem f_minus {a b:Twide} (ha:WOk a) (hb:WOk b) (h:wv b ≤ wv a):F_ratio_minus a b = some (ofV (wv a - wv b)):=by
 obtain ⟨h0,h1,l0,l1⟩:=ha
 obtain ⟨g0,g1,m0,m1⟩:=hb
 unfold wv at *
 unfold F_ratio_minus u64M ofV
 rw [if_pos (by omega),if_pos (by omega)]
 congr 2 <;> omega
theorem f_less {a b:Twide} (ha:WOk a) (hb:WOk b):F_ratio_less a b = some (decide (wv a < wv b)):=by
 obtain ⟨h0,h1,l0,l1⟩:=ha
 obtain ⟨g0,g1,m0,m1⟩:=hb
 unfold wv F_ratio_less
 by_cases h:a.hi < b.hi
 ·rw [decide_eq_true h]
  simp only [cond_true,Option.bind_some]
  congr 1;symm;apply decide_eq_true;omega
 ·rw [decide_eq_false h]
  by_cases h2:a.hi = b.hi
  ·simp only [cond_true,cond_false,h2,beq_self_eq_true,Option.bind_some]
   congr 1;apply decide_eq_decide.mpr;omega
  ·simp only [cond_false,beq_eq_false_iff_ne.mpr h2,Option.bind_some]
   congr 1;symm;apply decide_eq_false;omega
theorem f_signed {n:Bool} {x y:Int} (hx:0 ≤ x) (hx2:x < 18446744073709551616) (hy:0 ≤ y) (hy2:y < 18446744073709551616) :
  F_ratio_signed n x y = some (if x ≤ 1152921504606846976 ∧ y ≤ 1152921504606846976 then (⟨if n then -x else x,y⟩,0) else (⟨0,0⟩,5)):=by
 unfold F_ratio_signed
 by_cases h:x ≤ 1152921504606846976
 ·by_cases h2:y ≤ 1152921504606846976
  ·rw [if_pos ⟨h,h2⟩]
   rw [wrap64 (n:=x) (by omega) (by omega),wrap64 (n:=y) (by omega) (by omega),wrap64 (n:=0 - x) (by omega) (by omega)]
   cases n <;> simp [show ¬ x > 1152921504606846976 from by omega,show ¬ y > 1152921504606846976 from by omega]
  ·rw [if_neg (by omega)]
   simp [show ¬ x > 1152921504606846976 from by omega,show y > 1152921504606846976 from by omega]
 ·rw [if_neg (by omega)]
  simp [show x > 1152921504606846976 from by omega]
end Go.Proofs.YtgbicnkpnhifgaaGreatDoor

namespace Go.Proofs.YtgbicnkpnhifgaaGreatDoor
def lenTab:ByteArray:=⟨#[0,1,2,2,3,3,3,3,4,4,4,4,4,4,4,4,5,5,5,5,5,5,5,5,5,5,5,5,5,5,5,5,6,6,6,6,6,6,6,6,6,6,6,6,6,6,6,6,6,6,6,6,6,6,6,6,6,6,6,6,6,6,6,6,7,7,7,7,7,7,7,7,7,7,7,7,7,7,7,7,7,7,7,7,7,7,7,7,7,7,7,7,7,7,7,7,7,7,7,7,7,7,7,7,7,7,7,7,7,7,7,7,7,7,7,7,7,7,7,7,7,7,7,7,7,7,7,7,8,8,8,8,8,8,8,8,8,8,8,8,8,8,8,8,8,8,8,8,8,8,8,8,8,8,8,8,8,8,8,8,8,8,8,8,8,8,8,8,8,8,8,8,8,8,8,8,8,8,8,8,8,8,8,8,8,8,8,8,8,8,8,8,8,8,8,8,8,8,8,8,8,8,8,8,8,8,8,8,8,8,8,8,8,8,8,8,8,8,8,8,8,8,8,8,8,8,8,8,8,8,8,8,8,8,8,8,8,8,8,8,8,8,8,8,8,8,8,8,8,8,8,8,8,8,8,8]⟩
theorem tab8:∀ k:Fin 256,0 < k.val → ∃ t:Fin 9,1 ≤ t.val ∧ idxB lenTab (k.val:Int) = some (UInt8.ofNat t.val) ∧ 2 ^ (t.val - 1) ≤ k.val ∧ k.val < 2 ^ t.val:=by decide +kernel
theorem tab8i {x:Int} (h0:0 < x) (h1:x < 256):∃ t:Nat,1 ≤ t ∧ t ≤ 8 ∧ idxB lenTab x = some (UInt8.ofNat t) ∧ 2 ^ (t - 1) ≤ x.toNat ∧ x.toNat < 2 ^ t:=by
 obtain ⟨n,rfl⟩:=Int.eq_ofNat_of_zero_le (Int.le_of_lt h0)
 obtain ⟨t,h2,h3,h4,h5⟩:=tab8 ⟨n,by omega⟩ (by simpa using h0)
 exact ⟨t.val,h2,by have:=t.isLt;omega,h3,h4,h5⟩
theorem wrap8 {x:Int} (h0:0 ≤ x) (h1:x < 256):IntKind.u8.wrap x = x:=by
 simp only [IntKind.wrap,IntKind.bits,IntKind.signed,Bool.false_and,Bool.false_eq_true,if_false]
 rw [show ((2:Int) ^ 8) = 256 from rfl]
 omega
theorem len_end {y x:Int} {n:Nat} (hn:n ≤ 56) (h0:0 < x) (h1:x < 256) (hl:x * 2 ^ n ≤ y) (hu:y < (x + 1) * 2 ^ n) :
  ∃ s:Nat,s ≤ 63 ∧ ((idxB lenTab (IntKind.u8.wrap x)).bind fun b4=>some (IntKind.i64.wrap ((n:Int) + (IntKind.i64.wrap ((b4.toNat:Nat):Int))))) = some (64 - (s:Int)) ∧ 9223372036854775808 ≤ y * 2 ^ s ∧ y * 2 ^ s < 18446744073709551616:=by
 obtain ⟨t,t1,t8,e,l,u⟩:=tab8i h0 h1
 have et:(UInt8.ofNat t).toNat = t:=by rw [UInt8.toNat_ofNat'];omega
 rw [wrap8 (by omega) h1,e]
 simp only [Option.bind_some]
 rw [et,wrap64 (n:=(t:Int)) (by omega) (by omega),wrap64 (by omega) (by omega)]
 refine ⟨64 - (n + t),by omega,by congr 1;omega,?_,?_⟩
 ·have h2:(2:Int) ^ (t - 1) ≤ x:=by
   have:((2 ^ (t - 1):Nat):Int) = (2:Int) ^ (t - 1):=Int.natCast_pow 2 _
   omega
  have h3:(2:Int) ^ (t - 1) * 2 ^ n * 2 ^ (64 - (n + t)) ≤ y * 2 ^ (64 - (n + t)) :=
   Int.mul_le_mul_of_nonneg_right (Int.le_trans (Int.mul_le_mul_of_nonneg_right h2 (Int.le_of_lt (Int.pow_pos (by decide)))) hl) (Int.le_of_lt (Int.pow_pos (by decide)))
  have h4:(2:Int) ^ (t - 1) * 2 ^ n * 2 ^ (64 - (n + t)) = 9223372036854775808:=by
   rw [← Int.pow_add,← Int.pow_add,show t - 1 + n + (64 - (n + t)) = 63 from by omega]
   rfl
  omega
 ·have h2:x + 1 ≤ (2:Int) ^ t:=by
   have:((2 ^ t:Nat):Int) = (2:Int) ^ t:=Int.natCast_pow 2 _
   omega
  have h3:y * 2 ^ (64 - (n + t)) < (2:Int) ^ t * 2 ^ n * 2 ^ (64 - (n + t)) :=
   Int.mul_lt_mul_of_pos_right (Int.lt_of_lt_of_le hu (Int.mul_le_mul_of_nonneg_right h2 (Int.le_of_lt (Int.pow_pos (by decide))))) (Int.pow_pos (by decide))
  have h4:(2:Int) ^ t * 2 ^ n * 2 ^ (64 - (n + t)) = 18446744073709551616:=by
   rw [← Int.pow_add,← Int.pow_add,show t + n + (64 - (n + t)) = 64 from by omega]
   rfl
  omega
theorem sh16 (x:Int):x.fdiv (2 ^ min (Int.toNat 16) IntKind.u64.bits) = x / 65536:=by
 rw [show (2 ^ min (Int.toNat 16) IntKind.u64.bits:Int) = 65536 from by decide,Int.fdiv_eq_ediv_of_nonneg _ (by omega)]
theorem sh8 (x:Int):x.fdiv (2 ^ min (Int.toNat 8) IntKind.u64.bits) = x / 256:=by
 rw [show (2 ^ min (Int.toNat 8) IntKind.u64.bits:Int) = 256 from by decide,Int.fdiv_eq_ediv_of_nonneg _ (by omega)]
theorem len_eq (x:Int):F_math_bits_Len64 x = (((bif (decide (x ≥ 4294967296)) then some ((x.fdiv (2 ^ min (Int.toNat 32) IntKind.u64.bits)),32,()) else some (x,0,())):Option (Int × Int × Unit)).bind fun y1=>((bif (decide (y1.1 ≥ 65536)) then some ((y1.1.fdiv (2 ^ min (Int.toNat 16) IntKind.u64.bits)),(IntKind.i64.wrap (y1.2.1 + 16)),()) else some (y1.1,y1.2.1,())):Option (Int × Int × Unit)).bind fun y2=>((bif (decide (y2.1 ≥ 256)) then some ((y2.1.fdiv (2 ^ min (Int.toNat 8) IntKind.u64.bits)),(IntKind.i64.wrap (y2.2.1 + 8)),()) else some (y2.1,y2.2.1,())):Option (Int × Int × Unit)).bind fun y3=>(idxB lenTab (IntKind.u8.wrap y3.1)).bind fun b4=>some (IntKind.i64.wrap (y3.2.1 + (IntKind.i64.wrap ((b4.toNat:Nat):Int))))):=by kernel_rfl
theorem f_len64 {y:Int} (h0:0 < y) (h1:y < 18446744073709551616):∃ s:Nat,s ≤ 63 ∧ F_math_bits_Len64 y = some (64 - (s:Int)) ∧ 9223372036854775808 ≤ y * 2 ^ s ∧ y * 2 ^ s < 18446744073709551616:=by
 rw [len_eq]
 simp only [sh32,sh16,sh8]
 have fin:∀ (x:Int) (n:Nat) (k:Int),(n:Int) = k → n ≤ 56 → 0 < x → x < 256 → x * 2 ^ n ≤ y → y < (x + 1) * 2 ^ n → ∃ s:Nat,s ≤ 63 ∧ ((idxB lenTab (IntKind.u8.wrap x)).bind fun b4=>some (IntKind.i64.wrap (k + (IntKind.i64.wrap ((b4.toNat:Nat):Int))))) = some (64 - (s:Int)) ∧ 9223372036854775808 ≤ y * 2 ^ s ∧ y * 2 ^ s < 18446744073709551616:=by
  rintro x n k rfl hn hx hx2 hl hu
  exact len_end hn hx hx2 hl hu
 by_cases c1:y ≥ 4294967296
 ·rw [decide_eq_true c1]
  simp only [cond_true,Option.bind_some]
  by_cases c2:y / 4294967296 ≥ 65536
  ·rw [decide_eq_true c2]
   simp only [cond_true,Option.bind_some]
   by_cases c3:y / 4294967296 / 65536 ≥ 256
   ·rw [decide_eq_true c3]
    simp only [cond_true,Option.bind_some]
    exact fin _ 56 _ (by rfl) (by omega) (by omega) (by omega) (by omega) (by omega)
   ·rw [decide_eq_false c3]
    simp only [cond_false,Option.bind_some]
    exact fin _ 48 _ (by rfl) (by omega) (by omega) (by omega) (by omega) (by omega)
  ·rw [decide_eq_false c2]
   simp only [cond_false,Option.bind_some]
   by_cases c3:y / 4294967296 ≥ 256
   ·rw [decide_eq_true c3]
    simp only [cond_true,Option.bind_some]
    exact fin _ 40 _ (by rfl) (by omega) (by omega) (by omega) (by omega) (by omega)
   ·rw [decide_eq_false c3]
    simp only [cond_false,Option.bind_some]
    exact fin _ 32 _ (by rfl) (by omega) (by omega) (by omega) (by omega) (by omega)
 ·rw [decide_eq_false c1]
  simp only [cond_false,Option.bind_some]
  by_cases c2:y ≥ 65536
  ·rw [decide_eq_true c2]
   simp only [cond_true,Option.bind_some]
   by_cases c3:y / 65536 ≥ 256
   ·rw [decide_eq_true c3]
    simp only [cond_true,Option.bind_some]
    exact fin _ 24 _ (by rfl) (by omega) (by omega) (by omega) (by omega) (by omega)
   ·rw [decide_eq_false c3]
    simp only [cond_false,Option.bind_some]
    exact fin _ 16 _ (by rfl) (by omega) (by omega) (by omega) (by omega) (by omega)
  ·rw [decide_eq_false c2]
   simp only [cond_false,Option.bind_some]
   by_cases c3:y ≥ 256
   ·rw [decide_eq_true c3]
    simp only [cond_true,Option.bind_some]
    exact fin _ 8 _ (by rfl) (by omega) (by omega) (by omega) (by omega) (by omega)
   ·rw [decide_eq_false c3]
    simp only [cond_false,Option.bind_some]
    exact fin _ 0 _ (by rfl) (by omega) (by omega) (by omega) (by omega) (by omega)
end Go.Proofs.YtgbicnkpnhifgaaGreatDoor

namespace Go.Proofs.YtgbicnkpnhifgaaGreatDoor
theorem knuth {σ:Type} (st:Int → Int → σ) {F:σ → Option (σ ⊕ (Int × Unit))} {D U u1 a b:Int} (hD:D = a * 4294967296 + b) (ha:2147483648 ≤ a) (ha2:a < 4294967296) (hb:0 ≤ b) (hb2:b < 4294967296)
  (hU:0 ≤ U) (hU2:U < D) (hu:0 ≤ u1) (hu2:u1 < 4294967296)
  (hF:∀ q r,0 ≤ q → q ≤ 4294967297 → 0 ≤ r → r < 4294967296 → F (st q r) =
   if q ≥ 4294967296 ∨ q * b > 4294967296 * r + u1 then (if r + a ≥ 4294967296 then some (.inr ((q - 1) % 18446744073709551616,())) else some (.inl (st ((q - 1) % 18446744073709551616) (r + a)))) else some (.inr (q,()))) :
  iterF F big (st (U / a) (U % a)) = some ((U * 4294967296 + u1) / D,()):=by
 have hDp:0 < D:=by omega
 generalize hQ:(U * 4294967296 + u1) / D = Q
 have hQ1:Q * D ≤ U * 4294967296 + u1:=by rw [← hQ,Int.mul_comm];exact Int.mul_ediv_self_le (by omega)
 have hQ2:U * 4294967296 + u1 < (Q + 1) * D:=by rw [← hQ];have:=Int.lt_mul_ediv_self_add (x:=U * 4294967296 + u1) hDp;rw [Int.add_mul,Int.one_mul,Int.mul_comm _ D];exact this
 have hQ0:0 ≤ Q:=by rw [← hQ];exact Int.ediv_nonneg (by omega) (by omega)
 have hQB:Q < 4294967296:=by
  rw [← hQ]
  apply Int.ediv_lt_of_lt_mul hDp
  omega
 have go:∀ (fuel:Nat) (q r:Int),(q - Q).toNat < fuel → Q ≤ q → q ≤ 4294967297 → 0 ≤ r → r < 4294967296 → q * a + r = U → iterF F fuel (st q r) = some (Q,()):=by
  intro fuel
  induction fuel with
  | zero=>intro q r h;omega
  | succ fuel ih =>
   intro q r hf hq hq2 hr hr2 he
   unfold iterF
   rw [hF q r (by omega) hq2 hr hr2]
   have hqD:q * D = (U - r) * 4294967296 + q * b:=by rw [hD,← he];grind
   by_cases c:q ≥ 4294967296 ∨ q * b > 4294967296 * r + u1
   ·rw [if_pos c]
    have hlt:Q < q:=by
     rcases c with c | c
     ·omega
     ·apply Int.lt_of_not_ge
      intro h
      have:q = Q:=by omega
      subst this
      omega
    by_cases c2:r + a ≥ 4294967296
    ·rw [if_pos c2]
     simp only [Option.bind_some]
     have h1:(q - 1) * D ≤ U * 4294967296 + u1:=by
      have e:(q - 1) * D = (U - (r + a)) * 4294967296 + (q - 1) * b:=by rw [hD,← he];grind
      have:(q - 1) * b ≤ 4294967296 * 4294967295:=Int.mul_le_mul (by omega) (by omega) hb (by omega)
      omega
     have h2:q - 1 < Q + 1:=Int.lt_of_mul_lt_mul_right (Int.lt_of_le_of_lt h1 hQ2) (by omega)
     congr 2
     omega
    ·rw [if_neg c2]
     simp only [Option.bind_some]
     rw [show (q - 1) % 18446744073709551616 = q - 1 from by omega]
     exact ih _ _ (by omega) (by omega) (by omega) (by omega) (by omega) (by rw [← he];grind)
   ·rw [if_neg c]
    simp only [Option.bind_some]
    have h1:q * D ≤ U * 4294967296 + u1:=by omega
    have h2:q < Q + 1:=Int.lt_of_mul_lt_mul_right (Int.lt_of_le_of_lt h1 hQ2) (by omega)
    congr 2
    omega
 have hm:=Int.emod_nonneg U (b:=a) (by omega)
 have hm2:=Int.emod_lt_of_pos U (b:=a) (by omega)
 have hd:U / a * a + U % a = U:=by rw [Int.mul_comm];exact Int.mul_ediv_add_emod U a
 have hle:U / a ≤ 4294967297:=by
  have:U / a < 4294967298:=by
   apply Int.ediv_lt_of_lt_mul (by omega)
   omega
  omega
 refine go big _ _ (by unfold big;omega) ?_ hle hm (by omega) hd
 have:Q * a ≤ U:=by
  have h:Q * D = Q * a * 4294967296 + Q * b:=by rw [hD];grind
  have h2:0 ≤ Q * b:=Int.mul_nonneg hQ0 hb
  omega
 exact Int.le_ediv_of_mul_le (by omega) this
end Go.Proofs.YtgbicnkpnhifgaaGreatDoor

namespace Go.Proofs.YtgbicnkpnhifgaaGreatDoor
def divR (D a b R u0 q1 r3:Int):Option (Int × Int):=(if a = 0 then none else (iterF (σ:=Int × Int × Unit) (ρ:=Int × Unit) (fun s9=>((bif (decide (s9.2.1 ≥ 4294967296)) then some (true,()) else some ((decide ((IntKind.u64.wrap (s9.2.1 * b)) > (IntKind.u64.wrap ((IntKind.u64.wrap (4294967296 * s9.1)) + u0)))),())):Option (Bool × Unit)).bind fun y10=>(bif y10.1 then (bif (decide ((IntKind.u64.wrap (s9.1 + a)) ≥ 4294967296)) then some (.inr ((IntKind.u64.wrap (s9.2.1 - 1)),())) else some (.inl ((IntKind.u64.wrap (s9.1 + a)),(IntKind.u64.wrap (s9.2.1 - 1)),()))) else some (.inr (s9.2.1,())))) big ((IntKind.u64.wrap (R - (IntKind.u64.wrap ((IntKind.u64.wrap (R.tdiv a)) * a)))),(IntKind.u64.wrap (R.tdiv a)),())).bind fun y11=>(if (IntKind.u64.wrap r3) < 0 then none else some ((IntKind.u64.wrap ((IntKind.u64.wrap (q1 * 4294967296)) + y11.1)),((IntKind.u64.wrap ((IntKind.u64.wrap ((IntKind.u64.wrap (R * 4294967296)) + u0)) - (IntKind.u64.wrap (y11.1 * D)))).fdiv (2 ^ min (Int.toNat (IntKind.u64.wrap r3)) IntKind.u64.bits)))))
def divL (D a b U u1 u0 r3:Int):Option (Int × Int):=(if a = 0 then none else (iterF (σ:=Int × Int × Unit) (ρ:=Int × Unit) (fun s5=>((bif (decide (s5.1 ≥ 4294967296)) then some (true,()) else some ((decide ((IntKind.u64.wrap (s5.1 * b)) > (IntKind.u64.wrap ((IntKind.u64.wrap (4294967296 * s5.2.1)) + u1)))),())):Option (Bool × Unit)).bind fun y6=>(bif y6.1 then (bif (decide ((IntKind.u64.wrap (s5.2.1 + a)) ≥ 4294967296)) then some (.inr ((IntKind.u64.wrap (s5.1 - 1)),())) else some (.inl ((IntKind.u64.wrap (s5.1 - 1)),(IntKind.u64.wrap (s5.2.1 + a)),()))) else some (.inr (s5.1,())))) big ((IntKind.u64.wrap (U.tdiv a)),(IntKind.u64.wrap (U - (IntKind.u64.wrap ((IntKind.u64.wrap (U.tdiv a)) * a)))),())).bind fun y7=>divR D a b (IntKind.u64.wrap ((IntKind.u64.wrap ((IntKind.u64.wrap (U * 4294967296)) + u1)) - (IntKind.u64.wrap (y7.1 * D)))) u0 y7.1 r3)
theorem div_eq (hi lo y:Int):F_math_bits_Div64 hi lo y = (((bif (y == 0) then none else some (())):Option (Unit)).bind fun _=>((bif (decide (y ≤ hi)) then none else some (())):Option (Unit)).bind fun _=>(bif (hi == 0) then (if y = 0 then none else (if y = 0 then none else some ((IntKind.u64.wrap (lo.tdiv y)),(lo.tmod y)))) else (F_math_bits_LeadingZeros64 y).bind fun r3=>(if (IntKind.u64.wrap r3) < 0 then none else (if (IntKind.u64.wrap r3) < 0 then none else (if (IntKind.u64.wrap (64 - (IntKind.u64.wrap r3))) < 0 then none else (if (IntKind.u64.wrap r3) < 0 then none else divL (IntKind.u64.wrap (y * 2 ^ min (Int.toNat (IntKind.u64.wrap r3)) IntKind.u64.bits)) ((IntKind.u64.wrap (y * 2 ^ min (Int.toNat (IntKind.u64.wrap r3)) IntKind.u64.bits)).fdiv (2 ^ min (Int.toNat 32) IntKind.u64.bits)) (bitsOf .and .u64 (IntKind.u64.wrap (y * 2 ^ min (Int.toNat (IntKind.u64.wrap r3)) IntKind.u64.bits)) 4294967295) (bitsOf .or .u64 (IntKind.u64.wrap (hi * 2 ^ min (Int.toNat (IntKind.u64.wrap r3)) IntKind.u64.bits)) (lo.fdiv (2 ^ min (Int.toNat (IntKind.u64.wrap (64 - (IntKind.u64.wrap r3)))) IntKind.u64.bits))) ((IntKind.u64.wrap (lo * 2 ^ min (Int.toNat (IntKind.u64.wrap r3)) IntKind.u64.bits)).fdiv (2 ^ min (Int.toNat 32) IntKind.u64.bits)) (bitsOf .and .u64 (IntKind.u64.wrap (lo * 2 ^ min (Int.toNat (IntKind.u64.wrap r3)) IntKind.u64.bits)) 4294967295) r3)))))):=by kernel_rfl
end Go.Proofs.YtgbicnkpnhifgaaGreatDoor

namespace Go.Proofs.YtgbicnkpnhifgaaGreatDoor
theorem f_divR {D U u0 a b q1:Int} {s:Nat} (hs:s ≤ 63) (hD:D = a * 4294967296 + b) (ha:2147483648 ≤ a) (ha2:a < 4294967296) (hb:0 ≤ b) (hb2:b < 4294967296)
  (hU:0 ≤ U) (hU2:U < D) (hu:0 ≤ u0) (hu2:u0 < 4294967296) (hq:0 ≤ q1) (hq2:q1 < 4294967296) :
  divR D a b U u0 q1 s = some (q1 * 4294967296 + (U * 4294967296 + u0) / D,((U * 4294967296 + u0) % D) / 2 ^ s):=by
 have hDp:0 < D:=by omega
 have hm:=Int.emod_nonneg U (b:=a) (by omega)
 have hm2:=Int.emod_lt_of_pos U (b:=a) (by omega)
 have hd:U / a * a + U % a = U:=by rw [Int.mul_comm];exact Int.mul_ediv_add_emod U a
 have hd0:0 ≤ U / a:=Int.ediv_nonneg hU (by omega)
 have hle:U / a ≤ 4294967297:=by
  have:U / a < 4294967298:=by
   apply Int.ediv_lt_of_lt_mul (by omega)
   omega
  omega
 have hua:0 ≤ U / a * a:=Int.mul_nonneg hd0 (by omega)
 unfold divR
 simp only [wrapu]
 rw [if_neg (by omega),Int.tdiv_eq_ediv_of_nonneg hU]
 rw [show (U / a) % 18446744073709551616 = U / a from by omega,show (U / a * a) % 18446744073709551616 = U / a * a from by omega,show (U - U / a * a) % 18446744073709551616 = U % a from by omega]
 have hk:=knuth (fun q r=>(r,q,())) (F:=fun s9=>((bif (decide (s9.2.1 ≥ 4294967296)) then some (true,()) else some ((decide (((s9.2.1 * b) % 18446744073709551616) > ((((4294967296 * s9.1) % 18446744073709551616) + u0) % 18446744073709551616))),())):Option (Bool × Unit)).bind fun y10=>(bif y10.1 then (bif (decide (((s9.1 + a) % 18446744073709551616) ≥ 4294967296)) then some (.inr (((s9.2.1 - 1) % 18446744073709551616),())) else some (.inl (((s9.1 + a) % 18446744073709551616),((s9.2.1 - 1) % 18446744073709551616),()))) else some (.inr (s9.2.1,())))) hD ha ha2 hb hb2 hU hU2 hu hu2 (by
  intro q r h0 h1 h2 h3
  dsimp only
  rw [show (4294967296 * r) % 18446744073709551616 = 4294967296 * r from by omega,show (4294967296 * r + u0) % 18446744073709551616 = 4294967296 * r + u0 from by omega,show (r + a) % 18446744073709551616 = r + a from by omega]
  by_cases c:q ≥ 4294967296
  ·rw [decide_eq_true c,if_pos (Or.inl c)]
   simp only [cond_true,Option.bind_some]
   by_cases c2:r + a ≥ 4294967296
   ·rw [decide_eq_true c2,if_pos c2,cond_true]
   ·rw [decide_eq_false c2,if_neg c2,cond_false]
  ·rw [decide_eq_false c]
   have hqb:0 ≤ q * b:=Int.mul_nonneg h0 hb
   have hqb2:q * b ≤ 4294967295 * 4294967295:=Int.mul_le_mul (by omega) (by omega) hb (by omega)
   rw [show (q * b) % 18446744073709551616 = q * b from by omega]
   simp only [cond_false,Option.bind_some]
   by_cases c1:q * b > 4294967296 * r + u0
   ·rw [decide_eq_true c1,if_pos (Or.inr c1)]
    simp only [cond_true]
    by_cases c2:r + a ≥ 4294967296
    ·rw [decide_eq_true c2,if_pos c2,cond_true]
    ·rw [decide_eq_false c2,if_neg c2,cond_false]
   ·rw [decide_eq_false c1,if_neg (by omega),cond_false])
 rw [hk]
 simp only [Option.bind_some]
 have hQ0:0 ≤ (U * 4294967296 + u0) / D:=Int.ediv_nonneg (by omega) (by omega)
 have hQB:(U * 4294967296 + u0) / D < 4294967296:=by
  apply Int.ediv_lt_of_lt_mul hDp
  omega
 have hr:=Int.emod_nonneg (U * 4294967296 + u0) (b:=D) (by omega)
 have hr2:=Int.emod_lt_of_pos (U * 4294967296 + u0) (b:=D) hDp
 have hrd:(U * 4294967296 + u0) / D * D + (U * 4294967296 + u0) % D = U * 4294967296 + u0:=by rw [Int.mul_comm];exact Int.mul_ediv_add_emod _ D
 generalize (U * 4294967296 + u0) / D = Q at *
 generalize (U * 4294967296 + u0) % D = R at *
 generalize Q * D = QD at *
 rw [if_neg (by omega),show ((s:Int) % 18446744073709551616) = (s:Int) from by omega,Int.toNat_natCast,show min s IntKind.u64.bits = s from Nat.min_eq_left (by show s ≤ 64;omega)]
 rw [Int.fdiv_eq_ediv_of_nonneg _ (Int.le_of_lt (Int.pow_pos (by decide)))]
 rw [show (q1 * 4294967296 % 18446744073709551616 + Q) % 18446744073709551616 = q1 * 4294967296 + Q from by omega]
 rw [show ((U * 4294967296 % 18446744073709551616 + u0) % 18446744073709551616 - QD % 18446744073709551616) % 18446744073709551616 = R from by omega]
theorem f_divL {D U u1 u0 a b:Int} {s:Nat} (hs:s ≤ 63) (hD:D = a * 4294967296 + b) (ha:2147483648 ≤ a) (ha2:a < 4294967296) (hb:0 ≤ b) (hb2:b < 4294967296)
  (hU:0 ≤ U) (hU2:U < D) (hu1:0 ≤ u1) (hu12:u1 < 4294967296) (hu:0 ≤ u0) (hu2:u0 < 4294967296) :
  divL D a b U u1 u0 s = some ((U * 18446744073709551616 + (u1 * 4294967296 + u0)) / D,((U * 18446744073709551616 + (u1 * 4294967296 + u0)) % D) / 2 ^ s):=by
 have hDp:0 < D:=by omega
 have hm:=Int.emod_nonneg U (b:=a) (by omega)
 have hm2:=Int.emod_lt_of_pos U (b:=a) (by omega)
 have hd:U / a * a + U % a = U:=by rw [Int.mul_comm];exact Int.mul_ediv_add_emod U a
 have hd0:0 ≤ U / a:=Int.ediv_nonneg hU (by omega)
 have hle:U / a ≤ 4294967297:=by
  have:U / a < 4294967298:=by
   apply Int.ediv_lt_of_lt_mul (by omega)
   omega
  omega
 have hua:0 ≤ U / a * a:=Int.mul_nonneg hd0 (by omega)
 unfold divL
 simp only [wrapu]
 rw [if_neg (by omega),Int.tdiv_eq_ediv_of_nonneg hU]
 rw [show (U / a) % 18446744073709551616 = U / a from by omega,show (U / a * a) % 18446744073709551616 = U / a * a from by omega,show (U - U / a * a) % 18446744073709551616 = U % a from by omega]
 have hk:=knuth (fun q r=>(q,r,())) (F:=fun s5=>((bif (decide (s5.1 ≥ 4294967296)) then some (true,()) else some ((decide (((s5.1 * b) % 18446744073709551616) > ((((4294967296 * s5.2.1) % 18446744073709551616) + u1) % 18446744073709551616))),())):Option (Bool × Unit)).bind fun y6=>(bif y6.1 then (bif (decide (((s5.2.1 + a) % 18446744073709551616) ≥ 4294967296)) then some (.inr (((s5.1 - 1) % 18446744073709551616),())) else some (.inl (((s5.1 - 1) % 18446744073709551616),((s5.2.1 + a) % 18446744073709551616),()))) else some (.inr (s5.1,())))) hD ha ha2 hb hb2 hU hU2 hu1 hu12 (by
  intro q r h0 h1 h2 h3
  dsimp only
  rw [show (4294967296 * r) % 18446744073709551616 = 4294967296 * r from by omega,show (4294967296 * r + u1) % 18446744073709551616 = 4294967296 * r + u1 from by omega,show (r + a) % 18446744073709551616 = r + a from by omega]
  by_cases c:q ≥ 4294967296
  ·rw [decide_eq_true c,if_pos (Or.inl c)]
   simp only [cond_true,Option.bind_some]
   by_cases c2:r + a ≥ 4294967296
   ·rw [decide_eq_true c2,if_pos c2,cond_true]
   ·rw [decide_eq_false c2,if_neg c2,cond_false]
  ·rw [decide_eq_false c]
   have hqb:0 ≤ q * b:=Int.mul_nonneg h0 hb
   have hqb2:q * b ≤ 4294967295 * 4294967295:=Int.mul_le_mul (by omega) (by omega) hb (by omega)
   rw [show (q * b) % 18446744073709551616 = q * b from by omega]
   simp only [cond_false,Option.bind_some]
   by_cases c1:q * b > 4294967296 * r + u1
   ·rw [decide_eq_true c1,if_pos (Or.inr c1)]
    simp only [cond_true]
    by_cases c2:r + a ≥ 4294967296
    ·rw [decide_eq_true c2,if_pos c2,cond_true]
    ·rw [decide_eq_false c2,if_neg c2,cond_false]
   ·rw [decide_eq_false c1,if_neg (by omega),cond_false])
 rw [hk]
 simp only [Option.bind_some]
 have hQ0:0 ≤ (U * 4294967296 + u1) / D:=Int.ediv_nonneg (by omega) (by omega)
 have hQB:(U * 4294967296 + u1) / D < 4294967296:=by
  apply Int.ediv_lt_of_lt_mul hDp
  omega
 have hr:=Int.emod_nonneg (U * 4294967296 + u1) (b:=D) (by omega)
 have hr2:=Int.emod_lt_of_pos (U * 4294967296 + u1) (b:=D) hDp
 have hrd:(U * 4294967296 + u1) / D * D + (U * 4294967296 + u1) % D = U * 4294967296 + u1:=by rw [Int.mul_comm];exact Int.mul_ediv_add_emod _ D
 generalize (U * 4294967296 + u1) / D = Q at *
 generalize (U * 4294967296 + u1) % D = R at *
 rw [show ((U * 4294967296 % 18446744073709551616 + u1) % 18446744073709551616 - Q * D % 18446744073709551616) % 18446744073709551616 = R from by omega]
 rw [f_divR hs hD ha ha2 hb hb2 hr hr2 hu hu2 hQ0 hQB]
 have e:U * 18446744073709551616 + (u1 * 4294967296 + u0) = (R * 4294967296 + u0) + D * (Q * 4294967296):=by
  have:D * (Q * 4294967296) = Q * D * 4294967296:=by grind
  omega
 rw [e,Int.add_mul_ediv_left _ _ (by omega),Int.add_mul_emod_self_left,Int.add_comm (_ / D)]
end Go.Proofs.YtgbicnkpnhifgaaGreatDoor

namespace Go.Proofs.YtgbicnkpnhifgaaGreatDoor
theorem f_lz {y:Int} (h0:0 < y) (h1:y < 18446744073709551616):∃ s:Nat,s ≤ 63 ∧ F_math_bits_LeadingZeros64 y = some (s:Int) ∧ 9223372036854775808 ≤ y * 2 ^ s ∧ y * 2 ^ s < 18446744073709551616:=by
 obtain ⟨s,h2,h3,h4⟩:=f_len64 h0 h1
 refine ⟨s,h2,?_,h4⟩
 unfold F_math_bits_LeadingZeros64
 rw [h3,Option.bind_some,show (64:Int) - (64 - (s:Int)) = s from by omega,wrap64 (by omega) (by omega)]
theorem or_add {h l:Int} {s:Nat} (hh:0 ≤ h) (hl:0 ≤ l) (hl2:l < 2 ^ s) (hb:h * 2 ^ s + l < 18446744073709551616):bitsOf .or .u64 (h * 2 ^ s) l = h * 2 ^ s + l:=by
 obtain ⟨m,rfl⟩:=Int.eq_ofNat_of_zero_le hh
 obtain ⟨n,rfl⟩:=Int.eq_ofNat_of_zero_le hl
 have e:(m:Int) * 2 ^ s = ((2 ^ s * m:Nat):Int):=by rw [Int.natCast_mul,Int.natCast_pow,Int.mul_comm];rfl
 have hn:n < 2 ^ s:=by
  have:((2 ^ s:Nat):Int) = (2:Int) ^ s:=Int.natCast_pow 2 _
  omega
 rw [e] at hb ⊢
 show IntKind.u64.wrap (((BitVec.ofInt 64 ((2 ^ s * m:Nat):Int) ||| BitVec.ofInt 64 (n:Int)).toNat:Nat):Int) = _
 rw [wrapu,BitVec.toNat_or,BitVec.ofInt_natCast,BitVec.ofInt_natCast,BitVec.toNat_ofNat,BitVec.toNat_ofNat,Nat.mod_eq_of_lt (show 2 ^ s * m < 2 ^ 64 by omega),Nat.mod_eq_of_lt (show n < 2 ^ 64 by omega),← Nat.two_pow_add_eq_or_of_lt hn]
 omega
theorem mem_mul (n y:Int) {t:Int} (h:0 < t):(n * t) % (y * t) = (n % y) * t:=by rw [Int.mul_comm n,Int.mul_comm y,Int.mul_emod_mul_of_pos _ _ h,Int.mul_comm]
theorem f_div64 {hi lo y:Int} (h0:0 ≤ hi) (h1:hi < y) (y1:y < 18446744073709551616) (l0:0 ≤ lo) (l1:lo < 18446744073709551616) :
  F_math_bits_Div64 hi lo y = some ((hi * 18446744073709551616 + lo) / y,(hi * 18446744073709551616 + lo) % y):=by
 rw [div_eq]
 rw [beq_eq_false_iff_ne.mpr (show y ≠ 0 by omega),decide_eq_false (show ¬ y ≤ hi by omega)]
 simp only [cond_false,Option.bind_some]
 by_cases hz:hi = 0
 ·subst hz
  rw [beq_self_eq_true,cond_true,if_neg (by omega),if_neg (by omega),Int.tdiv_eq_ediv_of_nonneg l0,Int.tmod_eq_emod_of_nonneg l0,wrapu,Int.zero_mul,Int.zero_add]
  have:lo / y ≤ lo:=Int.ediv_le_self _ l0
  have h2:0 ≤ lo / y:=Int.ediv_nonneg l0 (by omega)
  rw [show lo / y % 18446744073709551616 = lo / y from by omega]
 ·rw [beq_eq_false_iff_ne.mpr hz,cond_false]
  obtain ⟨s,hs,e,d1,d2⟩:=f_lz (show 0 < y by omega) y1
  rw [e,Option.bind_some]
  have es:IntKind.u64.wrap (s:Int) = (s:Int):=by rw [wrapu];omega
  have et:IntKind.u64.wrap (64 - (s:Int)) = ((64 - s:Nat):Int):=by rw [wrapu];omega
  have em:min s IntKind.u64.bits = s:=Nat.min_eq_left (by show s ≤ 64;omega)
  have em2:min (64 - s) IntKind.u64.bits = 64 - s:=Nat.min_eq_left (by show 64 - s ≤ 64;omega)
  simp only [es,et,Int.toNat_natCast,em,em2,sh32]
  rw [if_neg (by omega),if_neg (by omega),if_neg (by omega),if_neg (by omega)]
  have hTS:(2:Int) ^ s * 2 ^ (64 - s) = 18446744073709551616:=by
   rw [← Int.pow_add,show s + (64 - s) = 64 from by omega]
   rfl
  have hT:(0:Int) < 2 ^ s:=Int.pow_pos (by decide)
  have hS:(0:Int) < 2 ^ (64 - s):=Int.pow_pos (by decide)
  rw [Int.fdiv_eq_ediv_of_nonneg _ (Int.le_of_lt hS)]
  have la:0 ≤ lo / 2 ^ (64 - s):=Int.ediv_nonneg l0 (by omega)
  have lb:lo / 2 ^ (64 - s) < 2 ^ s:=by
   apply Int.ediv_lt_of_lt_mul hS
   rw [hTS];exact l1
  have lm:=Int.emod_nonneg lo (b:=2 ^ (64 - s)) (by omega)
  have lm2:=Int.emod_lt_of_pos lo (b:=2 ^ (64 - s)) hS
  have hU2:hi * 2 ^ s + lo / 2 ^ (64 - s) < y * 2 ^ s:=by
   have:(hi + 1) * 2 ^ s ≤ y * 2 ^ s:=Int.mul_le_mul_of_nonneg_right (by omega) (by omega)
   rw [Int.add_mul,Int.one_mul] at this
   omega
  have hh0:0 ≤ hi * 2 ^ s:=Int.mul_nonneg h0 (by omega)
  have elo:lo * 2 ^ s = lo / 2 ^ (64 - s) * 18446744073709551616 + lo % 2 ^ (64 - s) * 2 ^ s:=by
   have:=Int.mul_ediv_add_emod lo (2 ^ (64 - s))
   rw [← hTS]
   grind
  have hv0:0 ≤ lo % 2 ^ (64 - s) * 2 ^ s:=Int.mul_nonneg lm (by omega)
  have hv1:lo % 2 ^ (64 - s) * 2 ^ s < 18446744073709551616:=by
   rw [← hTS,Int.mul_comm ((2:Int) ^ s)]
   exact Int.mul_lt_mul_of_pos_right lm2 hT
  have w1:IntKind.u64.wrap (y * 2 ^ s) = y * 2 ^ s:=by rw [wrapu];omega
  have w2:IntKind.u64.wrap (hi * 2 ^ s) = hi * 2 ^ s:=by rw [wrapu];omega
  have w3:IntKind.u64.wrap (lo * 2 ^ s) = lo % 2 ^ (64 - s) * 2 ^ s:=by rw [wrapu];omega
  rw [w1,w2,w3,or_add h0 la lb (by omega),lo32 (by omega),lo32 hv0]
  rw [f_divL hs (by omega) (by omega) (by omega) (by omega) (by omega) (by omega) hU2 (by omega) (by omega) (by omega) (by omega)]
  have eN:(hi * 2 ^ s + lo / 2 ^ (64 - s)) * 18446744073709551616 + (lo % 2 ^ (64 - s) * 2 ^ s / 4294967296 * 4294967296 + lo % 2 ^ (64 - s) * 2 ^ s % 4294967296) = (hi * 18446744073709551616 + lo) * 2 ^ s:=by
   rw [Int.mul_comm (lo % 2 ^ (64 - s) * 2 ^ s / 4294967296),Int.mul_ediv_add_emod,Int.add_mul,Int.add_mul,elo]
   grind
  rw [eN,Int.mul_ediv_mul_of_pos_left _ _ hT,mem_mul _ _ hT,Int.mul_ediv_cancel _ (by omega)]
theorem f_over {w:Twide} (hw:WOk w) {b:Int} (h0:0 < b) (h1:b < 18446744073709551616):F_ratio_over w b = some (ofV (wv w / b),wv w % b):=by
 obtain ⟨g0,g1,m0,m1⟩:=hw
 unfold F_ratio_over
 have r0:=Int.emod_nonneg w.hi (b:=b) (by omega)
 have r1:=Int.emod_lt_of_pos w.hi h0
 rw [if_neg (by omega),Int.tmod_eq_emod_of_nonneg g0,f_div64 r0 r1 h1 m0 m1]
 simp only [Option.bind_some]
 rw [if_neg (by omega),Int.tdiv_eq_ediv_of_nonneg g0,wrapu]
 have q0:0 ≤ w.hi / b:=Int.ediv_nonneg g0 (by omega)
 have q1:w.hi / b ≤ w.hi:=Int.ediv_le_self _ g0
 have e:wv w = (w.hi % b * 18446744073709551616 + w.lo) + b * (w.hi / b * 18446744073709551616):=by
  unfold wv
  have:=Int.mul_ediv_add_emod w.hi b
  grind
 rw [e,Int.add_mul_ediv_left _ _ (by omega),Int.add_mul_emod_self_left]
 have hr2:(w.hi % b * 18446744073709551616 + w.lo) / b < 18446744073709551616:=by
  apply Int.ediv_lt_of_lt_mul h0
  omega
 have hr0:0 ≤ (w.hi % b * 18446744073709551616 + w.lo) / b:=Int.ediv_nonneg (by omega) (by omega)
 unfold ofV
 congr 3 <;> omega
end Go.Proofs.YtgbicnkpnhifgaaGreatDoor

namespace Go.Proofs.YtgbicnkpnhifgaaGreatDoor
structure RV (a:TFrac):Prop where
 d0:1 ≤ a.den
 d1:a.den ≤ 1152921504606846976
 n0:-1152921504606846976 ≤ a.num
 n1:a.num ≤ 1152921504606846976
 cop:Nat.gcd a.num.natAbs a.den.toNat = 1
structure RW (a:TFrac):Prop where
 d0:-9223372036854775808 ≤ a.den
 d1:a.den ≤ 9223372036854775807
 n0:-9223372036854775808 ≤ a.num
 n1:a.num ≤ 9223372036854775807
def qOf (a:TFrac):Rat:=mkRat a.num a.den.toNat
def fitQ (q:Rat):Prop:=q.num.natAbs ≤ 1152921504606846976 ∧ q.den ≤ 1152921504606846976
instance (q:Rat):Decidable (fitQ q):=inferInstanceAs (Decidable (_ ∧ _))
def outQ (q:Rat):TFrac × Int:=if fitQ q then (⟨q.num,q.den⟩,0) else (⟨0,0⟩,5)
theorem mk_num {n:Int} {d:Nat} (hd:d ≠ 0) (c:Nat.gcd n.natAbs d = 1):mkRat n d = ⟨n,d,hd,c⟩:=by
 rw [Rat.mk_eq_mkRat]
theorem out_of {n:Int} {d:Nat} (hd:d ≠ 0) (c:Nat.gcd n.natAbs d = 1):outQ (mkRat n d) = if n.natAbs ≤ 1152921504606846976 ∧ d ≤ 1152921504606846976 then (⟨n,d⟩,0) else (⟨0,0⟩,5):=by
 rw [mk_num hd c]
 rfl
theorem f_qvalid {a:TFrac} (w:RW a):∃ v:Bool,F_ratio_Valid a = some v ∧ (v = true ↔ RV a):=by
 obtain ⟨w0,w1,w2,w3⟩:=w
 unfold F_ratio_Valid
 by_cases c1:a.den ≥ 1
 ·rw [decide_eq_true c1,cond_true]
  by_cases c2:a.den ≤ 1152921504606846976
  ·rw [decide_eq_true c2,cond_true]
   by_cases c3:a.num ≥ -1152921504606846976
   ·rw [decide_eq_true c3,cond_true]
    by_cases c4:a.num ≤ 1152921504606846976
    ·rw [decide_eq_true c4,cond_true,f_size (by omega) (by omega),wrapu,show a.den % 18446744073709551616 = ((a.den.toNat:Nat):Int) from by omega]
     simp only [Option.bind_some]
     rw [f_gcd _ _ (by unfold big;omega)]
     simp only [Option.bind_some]
     refine ⟨_,rfl,?_⟩
     rw [beq_iff_eq]
     exact ⟨fun h=>⟨c1,c2,c3,c4,by omega⟩,fun h=>by have:=h.cop;omega⟩
    ·rw [decide_eq_false c4]
     exact ⟨false,rfl,by simp,fun h=>absurd h.n1 c4⟩
   ·rw [decide_eq_false c3]
    exact ⟨false,rfl,by simp,fun h=>absurd h.n0 c3⟩
  ·rw [decide_eq_false c2]
   exact ⟨false,rfl,by simp,fun h=>absurd h.d1 c2⟩
 ·rw [decide_eq_false c1]
  exact ⟨false,rfl,by simp,fun h=>absurd h.d0 c1⟩
theorem out_red {n:Int} {d g:Nat} (hd:d ≠ 0) (hg:Nat.gcd n.natAbs d = g):outQ (mkRat n d) = if n.natAbs / g ≤ 1152921504606846976 ∧ d / g ≤ 1152921504606846976 then (⟨if n < 0 then -((n.natAbs / g:Nat):Int) else ((n.natAbs / g:Nat):Int),((d / g:Nat):Int)⟩,0) else (⟨0,0⟩,5):=by
 have hgp:0 < g:=by rw [← hg];exact Nat.gcd_pos_of_pos_right _ (by omega)
 have hgn:g ∣ n.natAbs:=by rw [← hg];exact Nat.gcd_dvd_left _ _
 have hgd:g ∣ d:=by rw [← hg];exact Nat.gcd_dvd_right _ _
 obtain ⟨a,ha⟩:=hgn
 obtain ⟨b,hb⟩:=hgd
 have hna:n.natAbs / g = a:=by rw [ha,Nat.mul_div_cancel_left _ hgp]
 have hdb:d / g = b:=by rw [hb,Nat.mul_div_cancel_left _ hgp]
 have hcop:Nat.gcd a b = 1:=by
  have:=Nat.gcd_div_gcd_div_gcd_of_pos_right (n:=n.natAbs) (m:=d) (by omega)
  rw [hg,hna,hdb] at this
  exact this
 rw [hna,hdb]
 have hb0:b ≠ 0:=by rintro rfl;omega
 have e:mkRat n d = mkRat (if n < 0 then -(a:Int) else a) b:=by
  have:n = (if n < 0 then -(a:Int) else a) * g:=by
   have h2:((n.natAbs:Nat):Int) = (g:Int) * a:=by rw [ha];exact Int.natCast_mul _ _
   split
   ·rw [Int.neg_mul,Int.mul_comm];omega
   ·rw [Int.mul_comm];omega
  rw [hb,Nat.mul_comm g b]
  conv=>lhs;rw [this]
  exact Rat.mkRat_mul_right (by omega)
 rw [e,out_of hb0 (by split <;> simpa using hcop)]
 congr 1
 rw [show (if n < 0 then -(a:Int) else a).natAbs = a from by split <;> omega]
end Go.Proofs.YtgbicnkpnhifgaaGreatDoor

namespace Go.Proofs.YtgbicnkpnhifgaaGreatDoor
def frQ (q:Rat):TFrac:=⟨q.num,(q.den:Int)⟩
theorem fr_rv {q:Rat} (h:fitQ q):RV (frQ q) ∧ qOf (frQ q) = q:=by
 obtain ⟨h1,h2⟩:=h
 have h3:=q.den_pos
 refine ⟨⟨by show (1:Int) ≤ (q.den:Int);omega,by show (q.den:Int) ≤ 1152921504606846976;omega,by show -1152921504606846976 ≤ q.num;omega,by show q.num ≤ 1152921504606846976;omega,?_⟩,?_⟩
 ·show Nat.gcd q.num.natAbs ((q.den:Int)).toNat = 1
  rw [Int.toNat_natCast]
  exact q.reduced
 ·unfold qOf frQ
  dsimp only
  rw [Int.toNat_natCast,Rat.mkRat_self]
theorem fr_fit {q:Rat} (h:fitQ q):outQ q = (frQ q,0):=by unfold outQ;rw [if_pos h];rfl
theorem fr_big {q:Rat} (h:¬ fitQ q):outQ q = (⟨0,0⟩,5):=by unfold outQ;rw [if_neg h]
theorem fr_rvint {n:Int} (h:n.natAbs ≤ 1152921504606846976):RV ⟨n,1⟩ ∧ qOf ⟨n,1⟩ = (n:Rat):=by
 refine ⟨⟨by dsimp only;omega,by dsimp only;omega,by dsimp only;omega,by dsimp only;omega,by simp⟩,?_⟩
 unfold qOf
 show mkRat n 1 = _
 exact Rat.mkRat_one n
theorem fr_int (n:Int):frQ (n:Rat) = ⟨n,1⟩:=by unfold frQ;rw [Rat.num_intCast,Rat.den_intCast];rfl
def outL (l:List Rat):List TFrac × Int:=if l.all (fun q=>decide (fitQ q)) then (l.map frQ,0) else ([],5)
theorem outL_fit {l:List Rat} (h:∀ q ∈ l,fitQ q):outL l = (l.map frQ,0):=by
 unfold outL
 rw [if_pos (by rw [List.all_eq_true];intro q hq;exact decide_eq_true (h q hq))]
theorem outL_big {l:List Rat} (h:¬ ∀ q ∈ l,fitQ q):outL l = ([],5):=by
 unfold outL
 rw [if_neg]
 rw [List.all_eq_true]
 intro e
 exact h fun q hq=>of_decide_eq_true (e q hq)
theorem iter_told {α:Type} {T:α → Option (TFrac × Int)} {R:α → Rat → Prop} (hT:∀ a q,R a q → T a = some (outQ q)) {l:List α} {qs:List Rat} (hl:l.length ≤ 1000000) (hq:l.length = qs.length) (hR:∀ (i:Nat) (h:i < l.length) (h2:i < qs.length),R l[i] qs[i]) :
  ((iterF (σ:=Int × List TFrac × Unit) (ρ:=(List TFrac × Int × List TFrac × Unit) ⊕ (List TFrac × Unit)) (fun s5=>(bif (decide (s5.1 < ((l.length:Nat):Int))) then (idx l s5.1).bind fun x6=>(T x6).bind fun r7=>(bif (r7.2 != 0) then some (.inr (.inl (([]:List TFrac),r7.2,s5.2.1,()))) else (if s5.2.1.length + ([r7.1]:List TFrac).length ≤ 2147483648 then some (.inl ((IntKind.i64.wrap (s5.1 + 1)),(s5.2.1 ++ ([r7.1]:List TFrac)),())) else none)) else some (.inr (.inr ((s5.2.1,())))))) big (0,([]:List TFrac),())).bind fun y8=>(match y8 with | .inl y9=>some (y9.1,y9.2.1) | .inr y10=>some (y10.1,0))) = some (outL qs):=by
 obtain ⟨r,g1,g2⟩:=iter_inv (F:=(fun s5:Int × List TFrac × Unit=>(bif (decide (s5.1 < ((l.length:Nat):Int))) then (idx l s5.1).bind fun x6=>(T x6).bind fun r7=>(bif (r7.2 != 0) then some (.inr (.inl (([]:List TFrac),r7.2,s5.2.1,()))) else (if s5.2.1.length + ([r7.1]:List TFrac).length ≤ 2147483648 then some (.inl ((IntKind.i64.wrap (s5.1 + 1)),(s5.2.1 ++ ([r7.1]:List TFrac)),())) else none)) else some (.inr (.inr ((s5.2.1,()))):(Int × List TFrac × Unit) ⊕ ((List TFrac × Int × List TFrac × Unit) ⊕ (List TFrac × Unit)))) ))
  (Q:=fun r=>match r with | .inl y=>(y.1,y.2.1) = outL qs | .inr y=>(y.1,(0:Int)) = outL qs)
  (fun k s=>k ≤ l.length ∧ s = ((k:Int),(qs.take k).map frQ,()) ∧ ∀ q ∈ qs.take k,fitQ q) l.length (by unfold big;omega) (fun k s hk hi=>by
   obtain ⟨_,rfl,hf⟩:=hi
   rcases Nat.lt_or_ge k l.length with hlt | hge
   ·have h2:k < qs.length:=by omega
    have e0:decide ((k:Int) < ((l.length:Nat):Int)) = true:=decide_eq_true (by omega)
    simp only [e0,cond_true,idx_at hlt,Option.bind_some,hT _ _ (hR k hlt h2)]
    by_cases hq2:fitQ qs[k]
    ·rw [fr_fit hq2]
     refine .inl ⟨((k + 1:Nat),(qs.take (k + 1)).map frQ,()),?_,hlt,hlt,rfl,?_⟩
     ·have e1:(((frQ qs[k],(0:Int)).2) != 0) = false:=rfl
      simp only [e1,cond_false]
      rw [if_pos (by simp;omega),wrap64 (by omega) (by omega),List.take_succ_eq_append_getElem h2,List.map_append]
      rfl
     ·intro q hq3
      rw [List.take_succ_eq_append_getElem h2] at hq3
      rcases List.mem_append.1 hq3 with h | h
      ·exact hf q h
      ·simp at h;subst h;exact hq2
    ·rw [fr_big hq2]
     refine .inr ⟨_,rfl,?_⟩
     show (([]:List TFrac),(5:Int)) = outL qs
     rw [outL_big]
     intro h
     exact hq2 (h _ (List.getElem_mem _))
   ·have e0:decide ((k:Int) < ((l.length:Nat):Int)) = false:=decide_eq_false (by omega)
    refine .inr ⟨.inr ((qs.take k).map frQ,()),by simp only [e0,cond_false],?_⟩
    rw [List.take_of_length_le (by omega)] at hf
    show ((qs.take k).map frQ,(0:Int)) = outL qs
    rw [List.take_of_length_le (by omega),outL_fit hf]) (s:=(0,([]:List TFrac),())) ⟨Nat.zero_le _,rfl,fun q hq=>by simp at hq⟩
 rw [g1]
 cases r with
 | inl y=>simpa using g2
 | inr y=>simpa using g2
end Go.Proofs.YtgbicnkpnhifgaaGreatDoor

namespace Go.Proofs.YtgbicnkpnhifgaaGreatDoor
theorem cop_mul {n1 d1 n2 d2:Nat} (h1:Nat.gcd n1 d1 = 1) (h2:Nat.gcd n2 d2 = 1) (p1:0 < d1) (p2:0 < d2) :
  Nat.gcd ((n1 / Nat.gcd n1 d2) * (n2 / Nat.gcd n2 d1)) ((d1 / Nat.gcd n2 d1) * (d2 / Nat.gcd n1 d2)) = 1:=by
 have a1:Nat.Coprime (n1 / Nat.gcd n1 d2) (d2 / Nat.gcd n1 d2):=Nat.gcd_div_gcd_div_gcd_of_pos_right p2
 have a2:Nat.Coprime (n2 / Nat.gcd n2 d1) (d1 / Nat.gcd n2 d1):=Nat.gcd_div_gcd_div_gcd_of_pos_right p1
 have a3:Nat.Coprime (n1 / Nat.gcd n1 d2) (d1 / Nat.gcd n2 d1):=Nat.Coprime.coprime_dvd_left (Nat.div_dvd_of_dvd (Nat.gcd_dvd_left _ _)) (Nat.Coprime.coprime_dvd_right (Nat.div_dvd_of_dvd (Nat.gcd_dvd_right _ _)) h1)
 have a4:Nat.Coprime (n2 / Nat.gcd n2 d1) (d2 / Nat.gcd n1 d2):=Nat.Coprime.coprime_dvd_left (Nat.div_dvd_of_dvd (Nat.gcd_dvd_left _ _)) (Nat.Coprime.coprime_dvd_right (Nat.div_dvd_of_dvd (Nat.gcd_dvd_right _ _)) h2)
 exact Nat.Coprime.mul_left (Nat.Coprime.mul_right a3 a1) (Nat.Coprime.mul_right a2 a4)
theorem mul_red {n1 n2:Int} {d1 d2:Nat} (p1:0 < d1) (p2:0 < d2) (h1:Nat.gcd n1.natAbs d1 = 1) (h2:Nat.gcd n2.natAbs d2 = 1) {p q:Nat}
  (hp:p = (n1.natAbs / Nat.gcd n1.natAbs d2) * (n2.natAbs / Nat.gcd n2.natAbs d1)) (hq:q = (d1 / Nat.gcd n2.natAbs d1) * (d2 / Nat.gcd n1.natAbs d2)) :
  Nat.gcd (n1 * n2).natAbs (d1 * d2) = Nat.gcd n1.natAbs d2 * Nat.gcd n2.natAbs d1 ∧ (n1 * n2).natAbs / (Nat.gcd n1.natAbs d2 * Nat.gcd n2.natAbs d1) = p ∧ d1 * d2 / (Nat.gcd n1.natAbs d2 * Nat.gcd n2.natAbs d1) = q:=by
 have hc:=cop_mul h1 h2 p1 p2
 have g1:0 < Nat.gcd n1.natAbs d2:=Nat.gcd_pos_of_pos_right _ p2
 have g2:0 < Nat.gcd n2.natAbs d1:=Nat.gcd_pos_of_pos_right _ p1
 have e1:=Nat.div_mul_cancel (Nat.gcd_dvd_left n1.natAbs d2)
 have e2:=Nat.div_mul_cancel (Nat.gcd_dvd_left n2.natAbs d1)
 have e3:=Nat.div_mul_cancel (Nat.gcd_dvd_right n1.natAbs d2)
 have e4:=Nat.div_mul_cancel (Nat.gcd_dvd_right n2.natAbs d1)
 rw [← hp,← hq] at hc
 have en:(n1 * n2).natAbs = p * (Nat.gcd n1.natAbs d2 * Nat.gcd n2.natAbs d1):=by
  rw [Int.natAbs_mul,hp]
  generalize Nat.gcd n1.natAbs d2 = u at *
  generalize Nat.gcd n2.natAbs d1 = v at *
  conv=>lhs;rw [← e1,← e2]
  grind
 have ed:d1 * d2 = q * (Nat.gcd n1.natAbs d2 * Nat.gcd n2.natAbs d1):=by
  rw [hq]
  generalize Nat.gcd n1.natAbs d2 = u at *
  generalize Nat.gcd n2.natAbs d1 = v at *
  conv=>lhs;rw [← e3,← e4]
  grind
 have gg:=Nat.mul_pos g1 g2
 rw [en,ed]
 refine ⟨?_,Nat.mul_div_cancel _ gg,Nat.mul_div_cancel _ gg⟩
 rw [Nat.gcd_mul_right,hc,Nat.one_mul]
end Go.Proofs.YtgbicnkpnhifgaaGreatDoor

namespace Go.Proofs.YtgbicnkpnhifgaaGreatDoor
theorem RV.w {a:TFrac} (h:RV a):RW a:=⟨by have:=h.d0;omega,by have:=h.d1;omega,by have:=h.n0;omega,by have:=h.n1;omega⟩
theorem rv_true {a:TFrac} (h:RV a):F_ratio_Valid a = some true:=by
 obtain ⟨v,e,i⟩:=f_qvalid h.w
 rw [e,i.mpr h]
theorem f_rmul {a b:TFrac} (ha:RV a) (hb:RV b):F_ratio_Mul a b = some (outQ (qOf a * qOf b)):=by
 obtain ⟨an,ad⟩:=a
 obtain ⟨bn,bd⟩:=b
 obtain ⟨x0,x1,x2,x3,x4⟩:=id ha
 obtain ⟨y0,y1,y2,y3,y4⟩:=id hb
 dsimp only at *
 obtain ⟨d1,rfl⟩:=Int.eq_ofNat_of_zero_le (show 0 ≤ ad by omega)
 obtain ⟨d2,rfl⟩:=Int.eq_ofNat_of_zero_le (show 0 ≤ bd by omega)
 rw [Int.toNat_natCast] at x4 y4
 unfold F_ratio_Mul
 rw [rv_true ha,rv_true hb]
 simp only [Option.bind_some,Bool.not_true,cond_false]
 rw [f_size (by omega) (by omega),f_size (by omega) (by omega)]
 simp only [Option.bind_some,wrapu]
 rw [show (d2:Int) % 18446744073709551616 = d2 from by omega,show (d1:Int) % 18446744073709551616 = d1 from by omega,f_gcd _ _ (by unfold big;omega),f_gcd _ _ (by unfold big;omega)]
 simp only [Option.bind_some]
 have g1:0 < Nat.gcd an.natAbs d2:=Nat.gcd_pos_of_pos_right _ (by omega)
 have g2:0 < Nat.gcd bn.natAbs d1:=Nat.gcd_pos_of_pos_right _ (by omega)
 obtain ⟨hg,hp,hq⟩:=mul_red (n1:=an) (n2:=bn) (d1:=d1) (d2:=d2) (by omega) (by omega) x4 y4 rfl rfl
 have hout:=out_red (n:=an * bn) (d:=d1 * d2) (Nat.ne_of_gt (Nat.mul_pos (by omega) (by omega))) hg
 rw [hp,hq] at hout
 rw [show qOf ⟨an,d1⟩ * qOf ⟨bn,d2⟩ = mkRat (an * bn) (d1 * d2) from by unfold qOf;exact Rat.mkRat_mul_mkRat _ _ _ _,hout]
 have dv (u v w:Nat) (hw:u ≤ w):u / v ≤ w:=Nat.le_trans (Nat.div_le_self _ _) hw
 have k1:=dv an.natAbs (Nat.gcd an.natAbs d2) 1152921504606846976 (by omega)
 have k2:=dv bn.natAbs (Nat.gcd bn.natAbs d1) 1152921504606846976 (by omega)
 have k3:=dv d1 (Nat.gcd bn.natAbs d1) 1152921504606846976 (by omega)
 have k4:=dv d2 (Nat.gcd an.natAbs d2) 1152921504606846976 (by omega)
 have tm (u v:Nat):(u:Int).tdiv (v:Int) = ((u / v:Nat):Int):=by rw [Int.tdiv_eq_ediv_of_nonneg (by omega),Int.natCast_ediv]
 simp only [tm]
 have hz:an * bn = 0 ↔ an.natAbs / Nat.gcd an.natAbs d2 * (bn.natAbs / Nat.gcd bn.natAbs d1) = 0:=by
  have e:=Nat.div_mul_cancel (show Nat.gcd an.natAbs d2 * Nat.gcd bn.natAbs d1 ∣ (an * bn).natAbs from by rw [← hg];exact Nat.gcd_dvd_left _ _)
  rw [hp] at e
  rw [← Int.natAbs_eq_zero,← e]
  simp [Nat.mul_eq_zero,Nat.ne_of_gt g1,Nat.ne_of_gt g2]
 generalize an.natAbs / Nat.gcd an.natAbs d2 = A at *
 generalize bn.natAbs / Nat.gcd bn.natAbs d1 = B at *
 generalize d1 / Nat.gcd bn.natAbs d1 = C at *
 generalize d2 / Nat.gcd an.natAbs d2 = E at *
 have i1:((Nat.gcd an.natAbs d2:Nat):Int) ≠ 0:=by omega
 have i2:((Nat.gcd bn.natAbs d1:Nat):Int) ≠ 0:=by omega
 rw [if_neg i2,if_neg i1,if_neg i1,if_neg i2]
 rw [show (A:Int) % 18446744073709551616 = A from by omega,show (B:Int) % 18446744073709551616 = B from by omega,show (C:Int) % 18446744073709551616 = C from by omega,show (E:Int) % 18446744073709551616 = E from by omega]
 rw [f_product (by omega) (by omega) (by omega) (by omega),f_product (by omega) (by omega) (by omega) (by omega)]
 simp only [Option.bind_some]
 rw [← Int.natCast_mul,← Int.natCast_mul]
 have hs:an * bn ≠ 0 → (!((decide (an < 0)) == (decide (bn < 0)))) = decide (an * bn < 0):=by
  intro h
  have h1:an ≠ 0:=by rintro rfl;simp at h
  have h2:bn ≠ 0:=by rintro rfl;simp at h
  by_cases c1:an < 0 <;> by_cases c2:bn < 0
  ·have:=Int.mul_pos_of_neg_of_neg c1 c2;simp [c1,c2];omega
  ·have:=Int.mul_neg_of_neg_of_pos c1 (show 0 < bn by omega);simp [c1,c2,this]
  ·have:=Int.mul_neg_of_pos_of_neg (show 0 < an by omega) c2;simp [c1,c2,this]
  ·have:=Int.mul_pos (show 0 < an by omega) (show 0 < bn by omega);simp [c1,c2];omega
 generalize A * B = p at *
 generalize C * E = q at *
 by_cases c1:(p:Int) / 18446744073709551616 > 0
 ·rw [decide_eq_true c1,if_neg (by omega)]
  simp only [cond_true,Option.bind_some]
 ·rw [decide_eq_false c1]
  simp only [cond_false,Option.bind_some]
  by_cases c2:(q:Int) / 18446744073709551616 > 0
  ·rw [decide_eq_true c2,if_neg (by omega)]
   simp only [cond_true]
  ·rw [decide_eq_false c2,cond_false,show (p:Int) % 18446744073709551616 = p from by omega,show (q:Int) % 18446744073709551616 = q from by omega]
   rw [f_signed (by omega) (by omega) (by omega) (by omega),f_signed (by omega) (by omega) (by omega) (by omega)]
   have hcond:((p:Int) ≤ 1152921504606846976 ∧ (q:Int) ≤ 1152921504606846976) ↔ (p ≤ 1152921504606846976 ∧ q ≤ 1152921504606846976):=by omega
   by_cases h0:(p:Int) > 0
   ·rw [decide_eq_true h0,hs (by intro h;have:=hz.mp h;omega)]
    simp only [cond_true,Option.bind_some,hcond,decide_eq_true_eq]
   ·obtain rfl:p = 0:=by omega
    rw [decide_eq_false h0,hz.mpr rfl]
    simp only [cond_false,Option.bind_some,hcond]
    rfl
end Go.Proofs.YtgbicnkpnhifgaaGreatDoor

namespace Go.Proofs.YtgbicnkpnhifgaaGreatDoor
theorem wok_prod {x y:Int} (hx:0 ≤ x) (hx2:x < 18446744073709551616) (hy:0 ≤ y) (hy2:y < 18446744073709551616):F_ratio_product x y = some (ofV (x * y)) ∧ WOk (ofV (x * y)):=by
 refine ⟨f_product hx hx2 hy hy2,wok_of (Int.mul_nonneg hx hy) ?_⟩
 have:x * y ≤ 18446744073709551615 * 18446744073709551615:=Int.mul_le_mul (by omega) (by omega) hy (by omega)
 omega
end Go.Proofs.YtgbicnkpnhifgaaGreatDoor

namespace Go.Proofs.YtgbicnkpnhifgaaGreatDoor
theorem int_gcd_add {n1 n2:Int} {e1 e2:Nat} (h1:Nat.gcd n1.natAbs e1 = 1) (h:Nat.gcd e2 e1 = 1):Nat.gcd (n1 * e2 + n2 * e1).natAbs e1 = 1:=by
 have e:Int.gcd (n1 * e2 + n2 * e1) e1 = Int.gcd (n1 * e2) e1:=by
  rw [Int.gcd_add_mul_right_left]
 have e2':Int.gcd (n1 * e2) e1 = Nat.gcd (n1.natAbs * e2) e1:=by
  show Nat.gcd (n1 * e2).natAbs e1 = _
  rw [Int.natAbs_mul];rfl
 show Int.gcd (n1 * e2 + n2 * e1) e1 = 1
 rw [e,e2']
 exact Nat.Coprime.mul_left h1 h
theorem add_red {n1 n2:Int} {e1 e2 g:Nat} (p1:0 < e1) (p2:0 < e2) (hg:0 < g) (h1:Nat.gcd n1.natAbs (e1 * g) = 1) (h2:Nat.gcd n2.natAbs (e2 * g) = 1) (hc:Nat.gcd e1 e2 = 1) :
  mkRat n1 (e1 * g) + mkRat n2 (e2 * g) = mkRat (n1 * e2 + n2 * e1) (e1 * e2 * g) ∧ Nat.gcd (n1 * e2 + n2 * e1).natAbs (e1 * e2 * g) = Nat.gcd (n1 * e2 + n2 * e1).natAbs g:=by
 constructor
 ·rw [Rat.mkRat_add_mkRat _ _ (Nat.ne_of_gt (Nat.mul_pos p1 hg)) (Nat.ne_of_gt (Nat.mul_pos p2 hg))]
  rw [show n1 * ((e2 * g:Nat):Int) + n2 * ((e1 * g:Nat):Int) = (n1 * e2 + n2 * e1) * (g:Int) from by rw [Int.natCast_mul,Int.natCast_mul];grind,show e1 * g * (e2 * g) = e1 * e2 * g * g from by grind]
  exact Rat.mkRat_mul_right (by omega)
 ·have a1:Nat.Coprime n1.natAbs e1:=Nat.Coprime.coprime_dvd_right (Nat.dvd_mul_right _ _) h1
  have a2:Nat.Coprime n2.natAbs e2:=Nat.Coprime.coprime_dvd_right (Nat.dvd_mul_right _ _) h2
  have b1:Nat.Coprime (n1 * e2 + n2 * e1).natAbs e1:=int_gcd_add a1 (by rw [Nat.gcd_comm];exact hc)
  have b2:Nat.Coprime (n1 * e2 + n2 * e1).natAbs e2:=by rw [Int.add_comm];exact int_gcd_add a2 hc
  exact Nat.Coprime.gcd_mul_left_cancel_right _ (Nat.Coprime.mul_right b1 b2).symm
end Go.Proofs.YtgbicnkpnhifgaaGreatDoor

namespace Go.Proofs.YtgbicnkpnhifgaaGreatDoor
theorem sum_sign {x y:Int} {p q:Twide} (hp:WOk p) (hq:WOk q) (ep:wv p = x.natAbs) (eq:wv q = y.natAbs) (hb:(x.natAbs:Int) + y.natAbs < 340282366920938463463374607431768211456)
  {u v:Bool} (hu:x ≠ 0 → u = decide (x < 0)) (hv:y ≠ 0 → v = decide (y < 0)) :
  ∃ n:Bool,(((bif (u == v) then (F_ratio_plus p q).bind fun r16=>some (u,r16,()) else (F_ratio_less p q).bind fun r17=>(bif r17 then (F_ratio_minus q p).bind fun r18=>some ((!u),r18,()) else (F_ratio_minus p q).bind fun r19=>some (u,r19,()))):Option (Bool × Twide × Unit))) = some (n,ofV ((x + y).natAbs:Int),()) ∧ (x + y ≠ 0 → n = decide (x + y < 0)):=by
 rw [f_less hp hq,ep,eq]
 by_cases huv:u = v
 ·subst huv
  rw [beq_self_eq_true,cond_true,f_plus hp hq (by rw [ep,eq];exact hb),ep,eq]
  by_cases hx:x = 0
  ·subst hx
   exact ⟨u,by rw [show ((0:Int).natAbs:Int) + y.natAbs = ((0 + y).natAbs:Int) from by omega];rfl,fun h=>by rw [hv (by omega)];simp⟩
  ·have hu:=hu hx
   by_cases hy:y = 0
   ·subst hy
    exact ⟨u,by rw [show (x.natAbs:Int) + (0:Int).natAbs = ((x + 0).natAbs:Int) from by omega];rfl,fun h=>by rw [hu];simp⟩
   ·have hv:=hv hy
    have hs:decide (x < 0) = decide (y < 0):=by rw [← hu,hv]
    have hs:=decide_eq_decide.mp hs
    refine ⟨u,by rw [show (x.natAbs:Int) + y.natAbs = ((x + y).natAbs:Int) from by omega];rfl,fun h=>?_⟩
    rw [hu]
    apply decide_eq_decide.mpr
    omega
 ·rw [beq_eq_false_iff_ne.mpr huv,cond_false,Option.bind_some]
  by_cases hl:(x.natAbs:Int) < y.natAbs
  ·rw [decide_eq_true hl,cond_true,f_minus hq hp (by rw [ep,eq];omega),ep,eq]
   have hv:=hv (by omega)
   have hnu:(!u) = v:=by cases u <;> cases v <;> simp at huv ⊢
   by_cases hx:x = 0
   ·subst hx
    refine ⟨!u,by rw [show (y.natAbs:Int) - (0:Int).natAbs = ((0 + y).natAbs:Int) from by omega];rfl,fun h=>?_⟩
    rw [hnu,hv];simp
   ·have hu:=hu hx
    have hs:(!decide (x < 0)) = decide (y < 0):=by rw [← hu,← hv];exact hnu
    have hs:¬ x < 0 ↔ y < 0:=by rw [← decide_not] at hs;exact decide_eq_decide.mp hs
    refine ⟨!u,by rw [show (y.natAbs:Int) - x.natAbs = ((x + y).natAbs:Int) from by omega];rfl,fun h=>?_⟩
    rw [hnu,hv]
    apply decide_eq_decide.mpr
    omega
  ·rw [decide_eq_false hl,cond_false,f_minus hp hq (by rw [ep,eq];omega),ep,eq]
   by_cases hx:x = 0
   ·subst hx
    have:y = 0:=by omega
    subst this
    exact ⟨u,rfl,fun h=>absurd rfl h⟩
   ·have hu:=hu hx
    by_cases hy:y = 0
    ·subst hy
     exact ⟨u,by rw [show (x.natAbs:Int) - (0:Int).natAbs = ((x + 0).natAbs:Int) from by omega];rfl,fun h=>by rw [hu];simp⟩
    ·have hv:=hv hy
     have hnu:(!u) = v:=by cases u <;> cases v <;> simp at huv ⊢
     have hs:(!decide (x < 0)) = decide (y < 0):=by rw [← hu,← hv];exact hnu
     have hs:¬ x < 0 ↔ y < 0:=by rw [← decide_not] at hs;exact decide_eq_decide.mp hs
     refine ⟨u,by rw [show (x.natAbs:Int) - y.natAbs = ((x + y).natAbs:Int) from by omega];rfl,fun h=>?_⟩
     rw [hu]
     apply decide_eq_decide.mpr
     omega
end Go.Proofs.YtgbicnkpnhifgaaGreatDoor

namespace Go.Proofs.YtgbicnkpnhifgaaGreatDoor
theorem ofv_nat (n:Nat):ofV (n:Int) = ⟨((n / 18446744073709551616:Nat):Int),((n % 18446744073709551616:Nat):Int)⟩:=by
 unfold ofV
 congr 1
theorem f_radd {a b:TFrac} (ha:RV a) (hb:RV b):F_ratio_Add a b = some (outQ (qOf a + qOf b)):=by
 obtain ⟨n1,ad⟩:=a
 obtain ⟨n2,bd⟩:=b
 obtain ⟨x0,x1,x2,x3,x4⟩:=id ha
 obtain ⟨y0,y1,y2,y3,y4⟩:=id hb
 dsimp only at *
 obtain ⟨d1,rfl⟩:=Int.eq_ofNat_of_zero_le (show 0 ≤ ad by omega)
 obtain ⟨d2,rfl⟩:=Int.eq_ofNat_of_zero_le (show 0 ≤ bd by omega)
 rw [Int.toNat_natCast] at x4 y4
 unfold F_ratio_Add
 rw [rv_true ha,rv_true hb]
 simp only [Option.bind_some,Bool.not_true,cond_false,wrapu]
 rw [show (d2:Int) % 18446744073709551616 = d2 from by omega,show (d1:Int) % 18446744073709551616 = d1 from by omega,f_gcd _ _ (by unfold big;omega)]
 simp only [Option.bind_some]
 have hg:0 < Nat.gcd d1 d2:=Nat.gcd_pos_of_pos_right _ (by omega)
 have hc:Nat.gcd (d1 / Nat.gcd d1 d2) (d2 / Nat.gcd d1 d2) = 1:=Nat.gcd_div_gcd_div_gcd_of_pos_right (by omega)
 have hd1:=Nat.div_mul_cancel (Nat.gcd_dvd_left d1 d2)
 have hd2:=Nat.div_mul_cancel (Nat.gcd_dvd_right d1 d2)
 have hq1:=Nat.div_le_self d1 (Nat.gcd d1 d2)
 have hq2:=Nat.div_le_self d2 (Nat.gcd d1 d2)
 have hgle:Nat.gcd d1 d2 ≤ d1:=Nat.gcd_le_left _ (by omega)
 have tm (u v:Nat):(u:Int).tdiv (v:Int) = ((u / v:Nat):Int):=by rw [Int.tdiv_eq_ediv_of_nonneg (by omega),Int.natCast_ediv]
 have hp1:0 < d1 / Nat.gcd d1 d2:=Nat.div_pos hgle hg
 have hp2:0 < d2 / Nat.gcd d1 d2:=Nat.div_pos (Nat.gcd_le_right _ (by omega)) hg
 have ea:qOf ⟨n1,d1⟩ + qOf ⟨n2,d2⟩ = mkRat n1 d1 + mkRat n2 d2:=rfl
 rw [ea]
 simp only [tm]
 generalize Nat.gcd d1 d2 = g at *
 generalize he1:d1 / g = e1 at *
 generalize he2:d2 / g = e2 at *
 have hi:((g:Nat):Int) ≠ 0:=by omega
 simp only [if_neg hi]
 rw [f_size (by omega) (by omega),f_size (by omega) (by omega)]
 simp only [Option.bind_some]
 rw [show (e1:Int) % 18446744073709551616 = e1 from by omega,show (e2:Int) % 18446744073709551616 = e2 from by omega]
 obtain ⟨p1,k1⟩:=wok_prod (x:=(n1.natAbs:Int)) (y:=(e2:Int)) (by omega) (by omega) (by omega) (by omega)
 obtain ⟨p2,k2⟩:=wok_prod (x:=(n2.natAbs:Int)) (y:=(e1:Int)) (by omega) (by omega) (by omega) (by omega)
 rw [p1,p2]
 simp only [Option.bind_some]
 rw [← hd1] at x4
 rw [← hd2] at y4
 obtain ⟨es,eg⟩:=add_red (n1:=n1) (n2:=n2) hp1 hp2 hg x4 y4 hc
 rw [show mkRat n1 d1 + mkRat n2 d2 = mkRat (n1 * e2 + n2 * e1) (e1 * e2 * g) from by rw [← hd1,← hd2];exact es]
 have ab1:((n1.natAbs:Int) * (e2:Int)) = ((n1 * e2).natAbs:Int):=by rw [Int.natAbs_mul];rfl
 have ab2:((n2.natAbs:Int) * (e1:Int)) = ((n2 * e1).natAbs:Int):=by rw [Int.natAbs_mul];rfl
 have b1:((n1 * e2).natAbs:Int) ≤ 1329227995784915872903807060280344576:=by
  rw [← ab1];exact Int.le_trans (Int.mul_le_mul (show (n1.natAbs:Int) ≤ 1152921504606846976 by omega) (show (e2:Int) ≤ 1152921504606846976 by omega) (by omega) (by omega)) (by decide)
 have b2:((n2 * e1).natAbs:Int) ≤ 1329227995784915872903807060280344576:=by
  rw [← ab2];exact Int.le_trans (Int.mul_le_mul (show (n2.natAbs:Int) ≤ 1152921504606846976 by omega) (show (e1:Int) ≤ 1152921504606846976 by omega) (by omega) (by omega)) (by decide)
 have sg (n:Int) (e:Nat) (he:0 < e):decide (n < 0) = decide (n * e < 0):=by
  apply decide_eq_decide.mpr
  constructor
  ·intro h;exact Int.mul_neg_of_neg_of_pos h (by omega)
  ·intro h
   rcases Int.lt_or_le n 0 with h1 | h1
   ·exact h1
   ·have:=Int.mul_nonneg h1 (show (0:Int) ≤ e by omega);omega
 obtain ⟨n,hsum,hn⟩:=sum_sign (x:=n1 * e2) (y:=n2 * e1) k1 k2 (by rw [wv_of,ab1]) (by rw [wv_of,ab2]) (by omega) (u:=decide (n1 < 0)) (v:=decide (n2 < 0)) (fun _=>sg n1 e2 hp2) (fun _=>sg n2 e1 hp1)
 rw [hsum]
 simp only [Option.bind_some]
 have hg18:g ≤ 1152921504606846976:=by omega
 have hM:((n1 * e2 + n2 * e1).natAbs:Int) ≤ 2658455991569831745807614120560689152:=by omega
 by_cases h0:n1 * e2 + n2 * e1 = 0
 ·rw [h0]
  rw [show (((ofV ((0:Int).natAbs:Int)).hi == 0) && ((ofV ((0:Int).natAbs:Int)).lo == 0)) = true from by decide,cond_true,Rat.zero_mkRat]
  rfl
 ·have hMp:0 < (n1 * e2 + n2 * e1).natAbs:=by omega
  have hn':=hn h0
  subst hn'
  rw [out_red (n:=n1 * e2 + n2 * e1) (d:=e1 * e2 * g) (g:=Nat.gcd (n1 * e2 + n2 * e1).natAbs g) (Nat.ne_of_gt (Nat.mul_pos (Nat.mul_pos hp1 hp2) hg)) eg]
  have hcg:Nat.gcd (n1 * e2 + n2 * e1).natAbs g ∣ g:=Nat.gcd_dvd_right _ _
  have hcp:0 < Nat.gcd (n1 * e2 + n2 * e1).natAbs g:=Nat.gcd_pos_of_pos_right _ hg
  have hcle:=Nat.le_of_dvd hg hcg
  have hrec:Nat.gcd g ((n1 * e2 + n2 * e1).natAbs % g) = Nat.gcd (n1 * e2 + n2 * e1).natAbs g:=by
   rw [Nat.gcd_comm g,← Nat.gcd_rec,Nat.gcd_comm]
  generalize hMd:(n1 * e2 + n2 * e1).natAbs = M at *
  generalize hC:Nat.gcd M g = c at *
  have hnz:(((ofV (M:Int)).hi == 0) && ((ofV (M:Int)).lo == 0)) = false:=by
   rw [ofv_nat]
   simp only [Bool.and_eq_false_iff,beq_eq_false_iff_ne]
   omega
  rw [hnz,cond_false,f_over (wok_of (by omega) (by omega)) (by omega) (by omega),wv_of]
  simp only [Option.bind_some]
  rw [show (M:Int) % (g:Int) = ((M % g:Nat):Int) from (Int.natCast_emod _ _).symm,f_gcd _ _ (by have:=Nat.mod_lt M hg;unfold big;omega),hrec]
  simp only [Option.bind_some]
  rw [f_over (wok_of (by omega) (by omega)) (by omega) (by omega),wv_of]
  simp only [Option.bind_some]
  have hcI:((c:Nat):Int) ≠ 0:=by omega
  rw [if_neg hcI]
  have hd2c:d2 / c ≤ d2:=Nat.div_le_self _ _
  have hden:e1 * e2 * g / c = e1 * (d2 / c):=by
   rw [Nat.mul_assoc,hd2,Nat.mul_div_assoc]
   exact Nat.dvd_trans hcg ⟨e2,by rw [← hd2,Nat.mul_comm]⟩
  rw [tm,hden]
  generalize d2 / c = q at *
  rw [show ((q:Nat):Int) % 18446744073709551616 = ((q:Nat):Int) from by omega]
  rw [f_product (by omega) (by omega) (by omega) (by omega)]
  simp only [Option.bind_some]
  rw [show (M:Int) / (c:Int) = ((M / c:Nat):Int) from (Int.natCast_ediv _ _).symm,← Int.natCast_mul,ofv_nat]
  generalize M / c = u at *
  generalize e1 * q = v at *
  by_cases c1:((u / 18446744073709551616:Nat):Int) > 0
  ·rw [decide_eq_true c1,if_neg (by omega)]
   simp only [cond_true,Option.bind_some]
  ·rw [decide_eq_false c1]
   simp only [cond_false,Option.bind_some]
   by_cases c2:(v:Int) / 18446744073709551616 > 0
   ·rw [decide_eq_true c2,if_neg (by omega)]
    simp only [cond_true]
   ·rw [decide_eq_false c2,cond_false,f_signed (by omega) (by omega) (by omega) (by omega)]
    rw [show ((u % 18446744073709551616:Nat):Int) = u from by omega,show (v:Int) % 18446744073709551616 = v from by omega]
    have hcond:((u:Int) ≤ 1152921504606846976 ∧ (v:Int) ≤ 1152921504606846976) ↔ (u ≤ 1152921504606846976 ∧ v ≤ 1152921504606846976):=by omega
    simp only [Option.bind_some,hcond,decide_eq_true_eq]
end Go.Proofs.YtgbicnkpnhifgaaGreatDoor

namespace Go.Proofs.YtgbicnkpnhifgaaGreatDoor
def sumO:List Rat → Rat → Option Rat
 | [],q=>some q
 | x :: l,q=>if fitQ (q + x) then sumO l (q + x) else none
def sumT:List Rat → Rat
 | []=>0
 | x :: l=>x + sumT l
theorem sumO_eq:∀ (l:List Rat) (q r:Rat),sumO l q = some r → r = q + sumT l
 | [],q,r,h=>by cases h;simp only [sumT];grind
 | x :: l,q,r,h=>by
  unfold sumO at h
  split at h
  ·have:=sumO_eq l _ r h
   simp only [sumT]
   grind
  ·cases h
theorem sumO_fit:∀ (l:List Rat) (q r:Rat),fitQ q → sumO l q = some r → fitQ r
 | [],q,r,hq,h=>by cases h;exact hq
 | x :: l,q,r,hq,h=>by
  unfold sumO at h
  split at h
  ·rename_i hf
   exact sumO_fit l _ r hf h
  ·cases h
def sumH (l:List Rat):TFrac × Int:=match sumO l 0 with
 | none=>(⟨0,0⟩,5)
 | some q=>(frQ q,0)
theorem t_fit0:fitQ (0:Rat):=by unfold fitQ;decide
theorem t_fitint {n:Int} (h:n.natAbs ≤ 1152921504606846976):fitQ (n:Rat):=by
 unfold fitQ
 rw [Rat.num_intCast,Rat.den_intCast]
 omega
theorem t_add {a b:Rat} (ha:fitQ a) (hb:fitQ b):F_ratio_Add (frQ a) (frQ b) = some (outQ (a + b)):=by
 rw [f_radd (fr_rv ha).1 (fr_rv hb).1,(fr_rv ha).2,(fr_rv hb).2]
theorem t_mul {a b:Rat} (ha:fitQ a) (hb:fitQ b):F_ratio_Mul (frQ a) (frQ b) = some (outQ (a * b)):=by
 rw [f_rmul (fr_rv ha).1 (fr_rv hb).1,(fr_rv ha).2,(fr_rv hb).2]
theorem t_sum {l:List Rat} (hl:l.length ≤ 1000) (hf:∀ q ∈ l,fitQ q):F_ratio_Sum (l.map frQ) = some (sumH l):=by
 suffices hs:Gs (F_ratio_Sum (l.map frQ)) fun r=>r = sumH l by
  obtain ⟨y,h1,rfl⟩:=hs
  exact h1
 unfold F_ratio_Sum
 refine go (f_slices_ContainsFunc_api_Frac (l.map frQ) (by rw [List.length_map];omega) (fun z2=>F_ratio_Sum_1 z2) (fun _=>false) (fun x hx=>by
  obtain ⟨q,hq,rfl⟩:=List.mem_map.1 hx
  unfold F_ratio_Sum_1
  rw [rv_true (fr_rv (hf q hq)).1]
  rfl)) (gf (by simp) (gf (decide_eq_false (by rw [List.length_map];omega)) ?_))
 refine gloop (fun R:(Int × TFrac × TFrac × Unit) ⊕ (TFrac × TFrac × Unit)=>match sumO l 0 with | none=>∃ z,R = .inl (5,⟨0,0⟩,z,()) | some r=>R = .inr (⟨0,0⟩,frQ r,()))
  (fun k s=>k ≤ l.length ∧ ∃ q,s = ((k:Int),⟨0,0⟩,frQ q,()) ∧ fitQ q ∧ sumO l 0 = sumO (l.drop k) q) l.length (by unfold big;omega) ⟨Nat.zero_le _,0,rfl,t_fit0,rfl⟩ ?_ ?_
 ·rintro k s hk ⟨_,q,rfl,hq,he⟩
  rcases Nat.lt_or_ge k l.length with hlt | hge
  ·have hx:=hf _ (List.getElem_mem hlt)
   have hi:idx (l.map frQ) (k:Int) = some (frQ l[k]):=by
    rw [idx_at (show k < (l.map frQ).length by rw [List.length_map];exact hlt),List.getElem_map]
   rw [List.drop_eq_getElem_cons hlt,show sumO (l[k] :: l.drop (k + 1)) q = if fitQ (q + l[k]) then sumO (l.drop (k + 1)) (q + l[k]) else none from rfl] at he
   refine gt (decide_eq_true (by show (k:Int) < (((l.map frQ).length:Nat):Int);rw [List.length_map];omega)) (go hi (go (t_add hq hx) ?_))
   by_cases hfit:fitQ (q + l[k])
   ·rw [if_pos hfit] at he
    rw [fr_fit hfit]
    refine gf rfl (gend ⟨hlt,hlt,_,?_,hfit,he⟩)
    show (IntKind.i64.wrap ((k:Int) + 1),_,_,()) = _
    rw [wrap64 (by omega) (by omega)];rfl
   ·rw [if_neg hfit] at he
    rw [fr_big hfit]
    refine gt rfl (gend ?_)
    rw [he]
    exact ⟨_,rfl⟩
  ·have:k = l.length:=by omega
   subst this
   refine gf (decide_eq_false (by show ¬ ((l.length:Nat):Int) < (((l.map frQ).length:Nat):Int);rw [List.length_map];omega)) (gend ?_)
   rw [List.drop_length] at he
   rw [he];rfl
 ·intro R hQ
  unfold sumH
  cases hr:sumO l 0 with
  | none =>
   rw [hr] at hQ
   obtain ⟨z,rfl⟩:=hQ
   exact gend rfl
  | some r =>
   rw [hr] at hQ
   dsimp only at hQ
   subst hQ
   exact gend rfl
end Go.Proofs.YtgbicnkpnhifgaaGreatDoor

namespace Go.Proofs.YtgbicnkpnhifgaaGreatDoor
def pq (g R:Nat → Rat) (first:Rat):Nat → Rat × Rat
 | 0=>(first,0)
 | i + 1=>((R (i + 1) - g i * (pq g R first i).1) / (2 * (g i + g (i + 1)) - g i * (pq g R first i).2),g (i + 1) / (2 * (g i + g (i + 1)) - g i * (pq g R first i).2))
def midQ (g R:Nat → Rat) (first:Rat) (i:Nat):Rat:=2 * (g i + g (i + 1)) - g i * (pq g R first i).2
def momD (g R:Nat → Rat) (first last:Rat) (n:Nat):Nat → Rat
 | 0=>last
 | d + 1=>(pq g R first (n - 1 - (d + 1))).1 - (pq g R first (n - 1 - (d + 1))).2 * momD g R first last n d
def mom (g R:Nat → Rat) (first last:Rat) (n i:Nat):Rat:=momD g R first last n (n - 1 - i)
theorem pq_bound {g R:Nat → Rat} {first:Rat} {n:Nat} (hg:∀ i,i < n → 0 < g i):∀ i,i < n → 0 ≤ (pq g R first i).2 ∧ (pq g R first i).2 ≤ 1 / 2
 | 0,_=>by constructor <;> (simp only [pq];grind)
 | i + 1,h=>by
  obtain ⟨h1,h2⟩:=pq_bound (R:=R) (first:=first) hg i (by omega)
  have g1:=hg i (by omega)
  have g2:=hg (i + 1) h
  have hm:2 * g (i + 1) ≤ 2 * (g i + g (i + 1)) - g i * (pq g R first i).2:=by
   have:=Rat.mul_le_mul_of_nonneg_left h2 (Rat.le_of_lt g1)
   grind
  simp only [pq]
  generalize 2 * (g i + g (i + 1)) - g i * (pq g R first i).2 = m at hm ⊢
  have m0:0 < m:=by grind
  have mi:0 < m⁻¹:=Rat.inv_pos.2 m0
  rw [Rat.div_def]
  constructor
  ·exact Rat.le_of_lt (Rat.mul_pos g2 mi)
  ·have h3:=Rat.mul_le_mul_of_nonneg_right hm (Rat.le_of_lt mi)
   have h4:m * m⁻¹ = 1:=Rat.mul_inv_cancel _ (by grind)
   grind
theorem mid_pos {g R:Nat → Rat} {first:Rat} {n:Nat} (hg:∀ i,i < n → 0 < g i) {i:Nat} (h:i + 1 < n):0 < midQ g R first i:=by
 obtain ⟨h1,h2⟩:=pq_bound (R:=R) (first:=first) hg i (by omega)
 have g1:=hg i (by omega)
 have g2:=hg (i + 1) h
 unfold midQ
 have:=Rat.mul_le_mul_of_nonneg_left h2 (Rat.le_of_lt g1)
 grind
theorem mom_last (g R:Nat → Rat) (first last:Rat) {n:Nat}:mom g R first last n (n - 1) = last:=by
 unfold mom;rw [Nat.sub_self];rfl
theorem mom_step (g R:Nat → Rat) (first last:Rat) {n i:Nat} (h:i + 1 < n):mom g R first last n i = (pq g R first i).1 - (pq g R first i).2 * mom g R first last n (i + 1):=by
 unfold mom
 obtain ⟨d,hd⟩:∃ d,n - 1 - i = d + 1:=⟨n - 1 - i - 1,by omega⟩
 rw [hd,show n - 1 - (i + 1) = d from by omega]
 simp only [momD]
 rw [show n - 1 - (d + 1) = i from by omega]
theorem mom_first (g R:Nat → Rat) (first last:Rat) {n:Nat} (h:1 < n):mom g R first last n 0 = first:=by
 rw [mom_step g R first last h]
 simp only [pq];grind
end Go.Proofs.YtgbicnkpnhifgaaGreatDoor

namespace Go.Proofs.YtgbicnkpnhifgaaGreatDoor
def sumQ {α:Type} (f:α → Rat):List α → Rat
 | []=>0
 | x :: l=>f x + sumQ f l
theorem sumQ_append {α:Type} (f:α → Rat):∀ (a b:List α),sumQ f (a ++ b) = sumQ f a + sumQ f b
 | [],b=>by simp only [List.nil_append,sumQ];grind
 | x :: a,b=>by simp only [List.cons_append,sumQ,sumQ_append f a b];grind
theorem sumQ_take {α:Type} (f:α → Rat) {l:List α} {k:Nat} (h:k < l.length):sumQ f (l.take (k + 1)) = sumQ f (l.take k) + f l[k]:=by
 rw [List.take_succ_eq_append_getElem h,sumQ_append]
 simp only [sumQ];grind
theorem sumQ_congr {α:Type} {f g:α → Rat}:∀ {l:List α},(∀ x ∈ l,f x = g x) → sumQ f l = sumQ g l
 | [],_=>rfl
 | x :: l,h=>by
  simp only [sumQ]
  rw [h x List.mem_cons_self,sumQ_congr fun y hy=>h y (List.mem_cons_of_mem _ hy)]
theorem sumQ_add {α:Type} (f g:α → Rat):∀ (l:List α),sumQ (fun x=>f x + g x) l = sumQ f l + sumQ g l
 | []=>by simp only [sumQ];grind
 | x :: l=>by simp only [sumQ,sumQ_add f g l];grind
theorem sumQ_mul {α:Type} (c:Rat) (f:α → Rat):∀ (l:List α),sumQ (fun x=>c * f x) l = c * sumQ f l
 | []=>by simp only [sumQ];grind
 | x :: l=>by simp only [sumQ,sumQ_mul c f l];grind
theorem sumQ_map {α β:Type} (f:β → Rat) (g:α → β):∀ (l:List α),sumQ f (l.map g) = sumQ (fun x=>f (g x)) l
 | []=>rfl
 | x :: l=>by simp only [List.map_cons,sumQ,sumQ_map f g l]
abbrev Ld:=Int × Int
def turnW (L:Int) (w:List Ld):List Ld:=w.map fun x=>(L - x.1,x.2)
def overQ (E:Int) (w:List Ld) (a:Int):Rat:=(E:Rat) * a * a / 2000 + sumQ (fun x=>if x.1 < a then (x.2:Rat) * (a - x.1) else 0) w
def sideQ (E:Int) (w:List Ld) (fr to:Int) (left:Bool):Rat :=
 (E:Rat) * ((to - fr:Int):Rat) * ((to - fr:Int):Rat) * ((to - fr:Int):Rat) / 4000 + sumQ (fun x=>if x.1 ≤ fr ∨ to ≤ x.1 then 0 else
  (x.2:Rat) * ((if left then x.1 - fr else to - x.1:Int):Rat) * (((to - fr) * (to - fr) - (if left then x.1 - fr else to - x.1) * (if left then x.1 - fr else to - x.1):Int):Rat) / ((to - fr:Int):Rat)) w
def leverQ (E:Int) (w:List Ld) (fr to:Int) (left:Bool):Rat :=
 (E:Rat) * ((to - fr:Int):Rat) / 2000 + sumQ (fun x=>if x.1 ≤ fr ∨ to ≤ x.1 then 0 else (x.2:Rat) * ((if left then to - x.1 else x.1 - fr:Int):Rat) / ((to - fr:Int):Rat)) w
def beyondQ (E:Int) (w:List Ld) (a:Int):Rat:=(E:Rat) * a / 1000 + sumQ (fun x=>if x.1 < a then (x.2:Rat) else 0) w
def atQ (w:List Ld) (a:Int):Rat:=sumQ (fun x=>if x.1 = a then (x.2:Rat) else 0) w
def reactQ (E L:Int) (w:List Ld) (s:Nat → Int) (n:Nat) (M:Nat → Rat) (i:Nat):Rat :=
 atQ w (s i) + (if 0 < i then leverQ E w (s (i - 1)) (s i) false + (M (i - 1) - M i) / ((s i - s (i - 1):Int):Rat) else 0)
  + (if i + 1 < n then leverQ E w (s i) (s (i + 1)) true + (M (i + 1) - M i) / ((s (i + 1) - s i:Int):Rat) else 0)
  + (if i = 0 then beyondQ E w (s i) else 0) + (if i + 1 = n then beyondQ E (turnW L w) (L - s i) else 0)
def sumN (f:Nat → Rat):Nat → Rat
 | 0=>0
 | k + 1=>sumN f k + f k
theorem lever_both {E:Int} {w:List Ld} {fr to:Int} (h:fr < to):leverQ E w fr to true + leverQ E w fr to false = (E:Rat) * ((to - fr:Int):Rat) / 1000 + sumQ (fun x=>if x.1 ≤ fr ∨ to ≤ x.1 then 0 else (x.2:Rat)) w:=by
 have e:sumQ (fun x:Ld=>if x.1 ≤ fr ∨ to ≤ x.1 then 0 else (x.2:Rat)) w = sumQ (fun x=>if x.1 ≤ fr ∨ to ≤ x.1 then 0 else (x.2:Rat) * ((if true then to - x.1 else x.1 - fr:Int):Rat) / ((to - fr:Int):Rat)) w + sumQ (fun x=>if x.1 ≤ fr ∨ to ≤ x.1 then 0 else (x.2:Rat) * ((if false then to - x.1 else x.1 - fr:Int):Rat) / ((to - fr:Int):Rat)) w:=by
  rw [← sumQ_add]
  apply sumQ_congr
  intro x _
  split
  ·grind
  ·have hl:((to - fr:Int):Rat) ≠ 0:=by
    intro e
    have:=Rat.intCast_inj.1 (show ((to - fr:Int):Rat) = ((0:Int):Rat) from e)
    omega
   simp only [if_true,Bool.false_eq_true,if_false,Rat.intCast_sub] at hl ⊢
   grind
 rw [e]
 unfold leverQ
 grind
theorem over_next {E:Int} {w:List Ld} {fr to:Int} (h:fr < to):overQ E w to = overQ E w fr + ((to - fr:Int):Rat) * ((E:Rat) * fr / 1000 + sumQ (fun x=>if x.1 ≤ fr then (x.2:Rat) else 0) w) + ((to - fr:Int):Rat) * leverQ E w fr to true:=by
 have hl:((to - fr:Int):Rat) ≠ 0:=by
  intro e
  have:=Rat.intCast_inj.1 (show ((to - fr:Int):Rat) = ((0:Int):Rat) from e)
  omega
 have e:sumQ (fun x:Ld=>if x.1 < to then (x.2:Rat) * (to - x.1) else 0) w = sumQ (fun x=>if x.1 < fr then (x.2:Rat) * (fr - x.1) else 0) w + ((to - fr:Int):Rat) * sumQ (fun x=>if x.1 ≤ fr then (x.2:Rat) else 0) w + ((to - fr:Int):Rat) * sumQ (fun x=>if x.1 ≤ fr ∨ to ≤ x.1 then 0 else (x.2:Rat) * ((if true then to - x.1 else x.1 - fr:Int):Rat) / ((to - fr:Int):Rat)) w:=by
  rw [← sumQ_mul,← sumQ_mul,← sumQ_add,← sumQ_add]
  apply sumQ_congr
  intro x _
  simp only [if_true]
  generalize hd:((to - fr:Int):Rat) = d at hl ⊢
  rw [Rat.intCast_sub] at hd
  rcases Int.lt_trichotomy x.1 fr with h1 | h1 | h1
  ·rw [if_pos (by omega),if_pos h1,if_pos (by omega),if_pos (by omega)];grind
  ·rw [if_pos (by omega),if_neg (by omega),if_pos (by omega),if_pos (by omega),h1];grind
  ·rcases Int.lt_or_le x.1 to with h2 | h2
   ·rw [if_pos h2,if_neg (by omega),if_neg (by omega),if_neg (by omega),Rat.intCast_sub];grind
   ·rw [if_neg (by omega),if_neg (by omega),if_neg (by omega),if_pos (by omega)];grind
 unfold overQ leverQ
 rw [e,Rat.intCast_sub]
 grind
end Go.Proofs.YtgbicnkpnhifgaaGreatDoor

namespace Go.Proofs.YtgbicnkpnhifgaaGreatDoor
def bv (B:Int):List Int → Int
 | []=>0
 | x :: l=>x + B * bv B l
def dig (B:Int) (l:List Int):Prop:=∀ x ∈ l,0 ≤ x ∧ x < B
def tight (l:List Int):Prop:=l.getLast? ≠ some 0
theorem bv_append (B:Int):∀ (a b:List Int),bv B (a ++ b) = bv B a + B ^ a.length * bv B b
 | [],b=>by simp [bv]
 | x :: a,b=>by
  simp only [List.cons_append,bv,bv_append B a b,List.length_cons,Int.pow_succ]
  grind
theorem bv_zeros (B:Int):∀ k,bv B (List.replicate k 0) = 0
 | 0=>rfl
 | k + 1=>by simp [List.replicate_succ,bv,bv_zeros B k]
theorem bv_range {B:Int} (hB:1 < B):∀ {l:List Int},dig B l → 0 ≤ bv B l ∧ bv B l < B ^ l.length
 | [],_=>by simp [bv]
 | x :: l,h=>by
  have hx:=h x List.mem_cons_self
  obtain ⟨h1,h2⟩:=bv_range hB (l:=l) fun y hy=>h y (List.mem_cons_of_mem _ hy)
  have h3:0 ≤ B * bv B l:=Int.mul_nonneg (by omega) h1
  have h4:B * bv B l + B ≤ B * B ^ l.length:=by
   have:bv B l + 1 ≤ B ^ l.length:=h2
   have:=Int.mul_le_mul_of_nonneg_left this (show 0 ≤ B by omega)
   rw [Int.mul_add,Int.mul_one] at this
   exact this
  simp only [bv,List.length_cons,Int.pow_succ]
  constructor
  ·omega
  ·rw [Int.mul_comm (B ^ l.length) B];omega
theorem bv_pos {B:Int} (hB:1 < B) {l:List Int} (h:dig B l) (ht:tight l) (hne:l ≠ []):0 < bv B l:=by
 obtain ⟨a,x,rfl⟩:∃ a x,l = a ++ [x]:=⟨l.dropLast,l.getLast hne,(List.dropLast_concat_getLast hne).symm⟩
 have hx:=h x (by simp)
 have hx0:x ≠ 0:=fun e=>ht (by simp [e])
 have ha:=(bv_range hB (l:=a) fun y hy=>h y (by simp [hy])).1
 rw [bv_append]
 have:0 < B ^ a.length:=Int.pow_pos (by omega)
 have h2:bv B [x] = x:=by simp [bv]
 rw [h2]
 have:=Int.mul_pos this (show 0 < x by omega)
 omega
theorem bv_zero {B:Int} (hB:1 < B) {l:List Int} (h:dig B l) (ht:tight l):bv B l = 0 ↔ l = []:=by
 constructor
 ·intro h0
  rcases Decidable.em (l = []) with e | e
  ·exact e
  ·have:=bv_pos hB h ht e;omega
 ·rintro rfl;rfl
theorem dig_take {B:Int} {l:List Int} (h:dig B l) (k:Nat):dig B (l.take k):=fun x hx=>h x (List.mem_of_mem_take hx)
theorem wrap32 (n:Int):IntKind.u32.wrap n = n % 4294967296:=by
 simp only [IntKind.wrap,IntKind.bits,IntKind.signed,Bool.false_and,Bool.false_eq_true,if_false]
 rfl
theorem take_snoc {l:List Int} {m:Nat} (h:m < l.length):l.take (m + 1) = l.take m ++ [l[m]]:=List.take_succ_eq_append_getElem h
theorem f_trimmed {B:Int} (l:List Int) (hd:dig B l) (hl:l.length ≤ 16777216):∃ r,F_beam_trimmed l = some r ∧ bv B r = bv B l ∧ dig B r ∧ tight r ∧ r.length ≤ l.length:=by
 unfold F_beam_trimmed
 have hb:l.length < big:=by unfold big;omega
 obtain ⟨r,h1,h2⟩:=iter_inv (Q:=fun r:List Int × Unit=>bv B r.1 = bv B l ∧ dig B r.1 ∧ tight r.1 ∧ r.1.length ≤ l.length)
  (F:=(fun s4:List Int × Unit=>((bif (decide (((s4.1.length:Nat):Int) > 0)) then (idx s4.1 (IntKind.i64.wrap (((s4.1.length:Nat):Int) - 1))).bind fun x5=>some ((x5 == 0),()) else some (false,())):Option (Bool × Unit)).bind fun y6=>(bif y6.1 then (if 0 ≤ (0:Int) ∧ (0:Int) ≤ (IntKind.i64.wrap (((s4.1.length:Nat):Int) - 1)) ∧ (IntKind.i64.wrap (((s4.1.length:Nat):Int) - 1)) ≤ ((s4.1.length:Nat):Int) then some (.inl (((s4.1.take (Int.toNat (IntKind.i64.wrap (((s4.1.length:Nat):Int) - 1)))).drop (Int.toNat (0:Int))),())) else none) else some (.inr (s4.1,())))))
  (fun k s=>∃ m,m + k = l.length ∧ s = (l.take m,()) ∧ bv B (l.take m) = bv B l) l.length hb (fun k s hk hi=>by
   obtain ⟨m,hm,rfl,hv⟩:=hi
   have hlen:(l.take m).length = m:=by rw [List.length_take];omega
   simp only [hlen]
   cases m with
   | zero=>exact .inr ⟨([],()),by simp,by simpa using hv,by intro x hx;simp at hx,by simp [tight],by simp⟩
   | succ m =>
    have hml:m < l.length:=by omega
    have hpos:(decide (((m + 1:Nat):Int) > 0)) = true:=by simp
    have hw:IntKind.i64.wrap (((m + 1:Nat):Int) - 1) = (m:Int):=by rw [wrap64 (by omega) (by omega)];omega
    have hsp:=take_snoc hml
    have hlm:(l.take m).length = m:=by rw [List.length_take];omega
    have hix:idx (l.take (m + 1)) (m:Int) = some l[m]:=by
     unfold idx
     rw [if_pos (by omega),Int.toNat_natCast,hsp,List.getElem?_append_right (by omega),hlm,Nat.sub_self];rfl
    rw [hpos,hw,cond_true,hix]
    simp only [Option.bind_some]
    cases hz:(l[m] == 0) with
    | true =>
     have hz':=eq_of_beq hz
     refine .inl ⟨(l.take m,()),?_,by omega,m,by omega,rfl,?_⟩
     ·simp only [cond_true]
      rw [if_pos ⟨Int.le_refl _,by omega,by omega⟩,Int.toNat_natCast,List.take_take,Nat.min_eq_left (Nat.le_succ m)]
      rfl
     ·rw [hsp,hz',bv_append] at hv
      rw [← hv];simp [bv]
    | false =>
     refine .inr ⟨(l.take (m + 1),()),by simp only [cond_false],hv,dig_take hd _,?_,by show (l.take (m + 1)).length ≤ _;rw [hlen];omega⟩
     intro ht
     rw [hsp,List.getLast?_concat] at ht
     rw [Option.some.inj ht] at hz
     cases hz) (s:=(l,())) ⟨l.length,by omega,by simp,by simp⟩
 rw [h1]
 exact ⟨r.1,rfl,h2⟩
end Go.Proofs.YtgbicnkpnhifgaaGreatDoor

namespace Go.Proofs.YtgbicnkpnhifgaaGreatDoor
theorem iter_bind {σ ρ γ:Type} {F:σ → Option (σ ⊕ ρ)} {K:ρ → Option γ} {Q:ρ → Prop} {P:γ → Prop} (I:Nat → σ → Prop) (n:Nat) (hn:n < big)
  (step:∀ k s,k ≤ n → I k s → (∃ s',F s = some (.inl s') ∧ k < n ∧ I (k + 1) s') ∨ ∃ r,F s = some (.inr r) ∧ Q r) {s:σ} (h:I 0 s) (hK:∀ r,Q r → ∃ y,K r = some y ∧ P y):∃ y,(iterF F big s).bind K = some y ∧ P y:=by
 obtain ⟨r,h1,h2⟩:=iter_inv I n hn step h
 rw [h1]
 exact hK r h2
theorem pow_mono {B:Int} (hB:0 < B) {m n:Nat} (h:m ≤ n):B ^ m ≤ B ^ n:=by
 obtain ⟨k,rfl⟩:=Nat.le.dest h
 have h1:0 < B ^ k:=Int.pow_pos hB
 have h2:0 < B ^ m:=Int.pow_pos hB
 rw [Int.pow_add]
 have:=Int.mul_le_mul_of_nonneg_left (show 1 ≤ B ^ k by omega) (Int.le_of_lt h2)
 rwa [Int.mul_one] at this
def dg (l:List Int) (k:Nat):Int:=l.getD k 0
theorem bv_take_succ (B:Int) (l:List Int) (k:Nat):bv B (l.take (k + 1)) = bv B (l.take k) + B ^ k * dg l k:=by
 rcases Nat.lt_or_ge k l.length with h | h
 ·rw [take_snoc h,bv_append,List.length_take,Nat.min_eq_left (by omega)]
  have:dg l k = l[k]:=by simp [dg,h]
  rw [this];simp [bv]
 ·rw [List.take_of_length_le (by omega),List.take_of_length_le h]
  have:dg l k = 0:=by simp [dg,h]
  rw [this];simp
theorem dg_range {B:Int} (hB:0 < B) {l:List Int} (h:dig B l) (k:Nat):0 ≤ dg l k ∧ dg l k < B:=by
 rcases Nat.lt_or_ge k l.length with hk | hk
 ·have:dg l k = l[k]:=by simp [dg,hk]
  rw [this];exact h _ (List.getElem_mem _)
 ·have:dg l k = 0:=by simp [dg,hk]
  rw [this];omega
theorem idx_nat {α:Type} {l:List α} {k:Nat} (h:k < l.length):idx l (k:Int) = some l[k]:=by
 unfold idx;rw [if_pos (by omega),Int.toNat_natCast,List.getElem?_eq_getElem h]
theorem set_zeros {d:List Int} {n k:Nat} (hd:d.length = k) (hk:k < n) (x:Int):(d ++ List.replicate (n - k) 0).set k x = (d ++ [x]) ++ List.replicate (n - (k + 1)) 0:=by
 obtain ⟨j,hj⟩:∃ j,n - k = j + 1:=⟨n - k - 1,by omega⟩
 have hj2:n - (k + 1) = j:=by omega
 rw [hj,hj2,List.replicate_succ,← hd,List.set_append_right _ _ (Nat.le_refl _),Nat.sub_self,List.set_cons_zero,List.append_assoc]
 rfl
theorem dig_snoc {B:Int} {l:List Int} {x:Int} (h:dig B l) (h0:0 ≤ x) (h1:x < B):dig B (l ++ [x]):=fun y hy=>by
 rcases List.mem_append.1 hy with hy | hy
 ·exact h y hy
 ·simp at hy;subst hy;exact ⟨h0,h1⟩
theorem wrap_u (n:Int):IntKind.u64.wrap n = n % 18446744073709551616:=by
 simp only [IntKind.wrap,IntKind.bits,IntKind.signed,Bool.false_and,Bool.false_eq_true,if_false]
 rfl
theorem f_added (a b:List Int) (ha:dig (4294967296:Int) a) (hb:dig (4294967296:Int) b) (hla:a.length ≤ 16000000) (hlb:b.length ≤ 16000000) :
  ∃ r,F_beam_added a b = some r ∧ (bv (4294967296:Int) r = bv (4294967296:Int) a + bv (4294967296:Int) b ∧ dig (4294967296:Int) r ∧ tight r ∧ r.length ≤ max a.length b.length + 1):=by
 unfold F_beam_added
 obtain ⟨p,hp,hle,h1,h2,hs,hm,hm2⟩:∃ p:List Int × List Int × Unit,((bif (decide (((a.length:Nat):Int) < ((b.length:Nat):Int))) then some (b,a,()) else some (a,b,())):Option ((List Int) × (List Int) × Unit)) = some p ∧
   p.2.1.length ≤ p.1.length ∧ dig (4294967296:Int) p.1 ∧ dig (4294967296:Int) p.2.1 ∧ bv (4294967296:Int) p.1 + bv (4294967296:Int) p.2.1 = bv (4294967296:Int) a + bv (4294967296:Int) b ∧ p.1.length = max a.length b.length ∧ p.1.length ≤ 16000000:=by
  rcases Nat.lt_or_ge a.length b.length with h | h
  ·have:decide (((a.length:Nat):Int) < ((b.length:Nat):Int)) = true:=by simp;omega
   rw [this]
   exact ⟨_,rfl,Nat.le_of_lt h,hb,ha,Int.add_comm _ _,(by show b.length = _;omega),hlb⟩
  ·have:decide (((a.length:Nat):Int) < ((b.length:Nat):Int)) = false:=by simp;omega
   rw [this]
   exact ⟨_,rfl,h,ha,hb,rfl,(by show a.length = _;omega),hla⟩
 rw [hp,Option.bind_some]
 obtain ⟨x,y,u⟩:=p
 simp only at hle h1 h2 hs hm hm2 ⊢
 have hw:IntKind.i64.wrap (((x.length:Nat):Int) + 1) = ((x.length + 1:Nat):Int):=by rw [wrap64 (by omega) (by omega)];omega
 rw [hw,if_pos ⟨by omega,by omega⟩]
 simp only [Int.toNat_natCast,List.length_replicate]
 have hp32:((2:Int) ^ min (Int.toNat 32) IntKind.u64.bits) = 4294967296:=by decide
 rw [hp32]
 refine iter_bind (Q:=fun r:List Int × Unit=>bv (4294967296:Int) r.1 = bv (4294967296:Int) x + bv (4294967296:Int) y ∧ dig (4294967296:Int) r.1 ∧ r.1.length = x.length + 1)
  (fun k s=>∃ c d,s = (c,(k:Int),d ++ List.replicate (x.length + 1 - k) 0,()) ∧ d.length = k ∧ k ≤ x.length + 1 ∧ dig (4294967296:Int) d ∧ 0 ≤ c ∧ c ≤ 1 ∧ bv (4294967296:Int) d + (4294967296:Int) ^ k * c = bv (4294967296:Int) (x.take k) + bv (4294967296:Int) (y.take k))
  (x.length + 1) (by unfold big;omega) ?_ ⟨0,[],by simp,rfl,Nat.zero_le _,(fun z hz=>nomatch hz),by omega,by omega,by simp [bv]⟩ ?_
 ·rintro k s hk ⟨c,d,rfl,hd,hkn,hdd,hc0,hc1,hv⟩
  rcases Nat.lt_or_ge k (x.length + 1) with hlt | hge
  ·refine .inl ⟨((c + dg x k + dg y k) / (4294967296:Int),((k + 1:Nat):Int),(d ++ [(c + dg x k + dg y k) % (4294967296:Int)]) ++ List.replicate (x.length + 1 - (k + 1)) 0,()),?_,hlt,_,_,rfl,by simp [hd],hlt,?_,?_,?_,?_⟩
   ·have hx:=dg_range (by decide) h1 k
    have hy:=dg_range (by decide) h2 k
    have e0:decide ((k:Int) < ((x.length + 1:Nat):Int)) = true:=by simp;omega
    have e1:((bif (decide ((k:Int) < ((x.length:Nat):Int))) then (idx x (k:Int)).bind fun x18=>some ((IntKind.u64.wrap (c + (IntKind.u64.wrap x18))),()) else some (c,())):Option (Int × Unit)) = some (c + dg x k,()):=by
     rcases Nat.lt_or_ge k x.length with h | h
     ·have:decide ((k:Int) < ((x.length:Nat):Int)) = true:=by simp;omega
      have hg:dg x k = x[k]:=by simp [dg,h]
      rw [this,cond_true,idx_nat h,Option.bind_some,← hg,wrap_u,wrap_u]
      congr 2
      omega
     ·have:decide ((k:Int) < ((x.length:Nat):Int)) = false:=by simp;omega
      have hg:dg x k = 0:=by simp [dg,h]
      rw [this,cond_false,hg];simp
    have e2:((bif (decide ((k:Int) < ((y.length:Nat):Int))) then (idx y (k:Int)).bind fun x20=>some ((IntKind.u64.wrap (c + dg x k + (IntKind.u64.wrap x20))),()) else some (c + dg x k,())):Option (Int × Unit)) = some (c + dg x k + dg y k,()):=by
     rcases Nat.lt_or_ge k y.length with h | h
     ·have:decide ((k:Int) < ((y.length:Nat):Int)) = true:=by simp;omega
      have hg:dg y k = y[k]:=by simp [dg,h]
      rw [this,cond_true,idx_nat h,Option.bind_some,← hg,wrap_u,wrap_u]
      congr 2
      omega
     ·have:decide ((k:Int) < ((y.length:Nat):Int)) = false:=by simp;omega
      have hg:dg y k = 0:=by simp [dg,h]
      rw [this,cond_false,hg];simp
    have hlo:k < (d ++ List.replicate (x.length + 1 - k) (0:Int)).length:=by simp [hd];omega
    simp only [e0,cond_true]
    rw [e1]
    simp only [Option.bind_some]
    rw [e2]
    simp only [Option.bind_some]
    rw [idx_nat hlo]
    simp only [Option.bind_some,Int.toNat_natCast]
    rw [List.getElem?_eq_getElem hlo]
    simp only [Option.bind_some]
    rw [set_zeros hd hlt,wrap32,wrap64 (n:=(k:Int) + 1) (by omega) (by omega),Int.fdiv_eq_ediv_of_nonneg _ (by decide)]
    congr 3
   ·have hx:=dg_range (by decide) h1 k
    have hy:=dg_range (by decide) h2 k
    exact dig_snoc hdd (by omega) (by omega)
   ·have hx:=dg_range (by decide) h1 k
    have hy:=dg_range (by decide) h2 k
    omega
   ·have hx:=dg_range (by decide) h1 k
    have hy:=dg_range (by decide) h2 k
    omega
   ·rw [bv_take_succ,bv_take_succ,bv_append,hd]
    have he:=Int.emod_add_mul_ediv (c + dg x k + dg y k) (4294967296:Int)
    simp only [bv,Int.mul_zero,Int.add_zero]
    generalize (c + dg x k + dg y k) % (4294967296:Int) = q at he ⊢
    generalize (c + dg x k + dg y k) / (4294967296:Int) = t at he ⊢
    have:(4294967296:Int) ^ (k + 1) = (4294967296:Int) ^ k * (4294967296:Int):=Int.pow_succ _ _
    rw [this]
    grind
  ·have hk':k = x.length + 1:=by omega
   subst hk'
   have e0:decide (((x.length + 1:Nat):Int) < ((x.length + 1:Nat):Int)) = false:=by simp
   refine .inr ⟨(d,()),by simp only [e0,cond_false];simp,?_,hdd,hd⟩
   rw [List.take_of_length_le (by omega),List.take_of_length_le (by omega)] at hv
   have r1:=bv_range (by decide) h1
   have r2:=bv_range (by decide) h2
   have r3:=(bv_range (by decide) hdd).1
   have hpw:(4294967296:Int) ^ y.length ≤ (4294967296:Int) ^ x.length:=pow_mono (by decide) hle
   have hps:(4294967296:Int) ^ (x.length + 1) = (4294967296:Int) ^ x.length * (4294967296:Int):=Int.pow_succ _ _
   have hc:c = 0:=by
    rcases Int.lt_or_le c 1 with h | h
    ·omega
    ·exfalso
     have hc':c = 1:=by omega
     subst hc'
     rw [Int.mul_one,hps] at hv
     omega
   subst hc
   show bv (4294967296:Int) d = _
   omega
 ·rintro ⟨r,u⟩ ⟨q1,q2,q3⟩
  obtain ⟨t,t1,t2,t3,t4,t5⟩:=f_trimmed r q2 (by simp only at q3;omega)
  refine ⟨t,by simp only;rw [t1];rfl,by rw [t2,q1,hs],t3,t4,?_⟩
  simp only at q3
  omega
end Go.Proofs.YtgbicnkpnhifgaaGreatDoor

namespace Go.Proofs.YtgbicnkpnhifgaaGreatDoor
theorem f_taken (a b:List Int) (ha:dig (4294967296:Int) a) (hb:dig (4294967296:Int) b) (hla:a.length ≤ 16000000) (hle:b.length ≤ a.length) (hv0:bv (4294967296:Int) b ≤ bv (4294967296:Int) a) :
  ∃ r,F_beam_taken a b = some r ∧ (bv (4294967296:Int) r = bv (4294967296:Int) a - bv (4294967296:Int) b ∧ dig (4294967296:Int) r ∧ tight r ∧ r.length ≤ a.length):=by
 unfold F_beam_taken
 rw [if_pos ⟨by omega,by omega⟩]
 simp only [Int.toNat_natCast]
 refine iter_bind (Q:=fun r:List Int × Unit=>bv (4294967296:Int) r.1 = bv (4294967296:Int) a - bv (4294967296:Int) b ∧ dig (4294967296:Int) r.1 ∧ r.1.length = a.length)
  (fun k s=>∃ c d,s = (c,(k:Int),d ++ List.replicate (a.length - k) 0,()) ∧ d.length = k ∧ k ≤ a.length ∧ dig (4294967296:Int) d ∧ 0 ≤ c ∧ c ≤ 1 ∧ bv (4294967296:Int) d - (4294967296:Int) ^ k * c = bv (4294967296:Int) (a.take k) - bv (4294967296:Int) (b.take k))
  a.length (by unfold big;omega) ?_ ⟨0,[],by simp,rfl,Nat.zero_le _,(fun z hz=>nomatch hz),by omega,by omega,by simp [bv]⟩ ?_
 ·rintro k s hk ⟨c,d,rfl,hd,hkn,hdd,hc0,hc1,hv⟩
  have hx:=dg_range (by decide) ha k
  have hy:=dg_range (by decide) hb k
  rcases Nat.lt_or_ge k a.length with hlt | hge
  ·have hga:dg a k = a[k]:=by simp [dg,hlt]
   obtain ⟨t,ht⟩:∃ t,dg a k - c - dg b k = t:=⟨_,rfl⟩
   obtain ⟨c',q,hcq,hq0,hq1,hc0',hc1',htq⟩:∃ c' q,((bif (decide (t < 0)) then some (1,(IntKind.i64.wrap (t + 4294967296)),()) else some (0,t,())):Option (Int × Int × Unit)) = some (c',q,()) ∧ 0 ≤ q ∧ q < (4294967296:Int) ∧ 0 ≤ c' ∧ c' ≤ 1 ∧ q = t + (4294967296:Int) * c':=by
    rcases Int.lt_or_le t 0 with h | h
    ·have:decide (t < 0) = true:=by simpa using h
     rw [this,cond_true,wrap64 (by omega) (by omega)]
     exact ⟨1,t + 4294967296,rfl,by omega,by omega,by omega,by omega,by omega⟩
    ·have:decide (t < 0) = false:=by simp;omega
     rw [this,cond_false]
     exact ⟨0,t,rfl,by omega,by omega,by omega,by omega,by omega⟩
   refine .inl ⟨(c',((k + 1:Nat):Int),(d ++ [q]) ++ List.replicate (a.length - (k + 1)) 0,()),?_,hlt,_,_,rfl,by simp [hd],hlt,dig_snoc hdd hq0 hq1,hc0',hc1',?_⟩
   ·have e0:decide ((k:Int) < ((a.length:Nat):Int)) = true:=by simp;omega
    have e1:((bif (decide ((k:Int) < ((b.length:Nat):Int))) then (idx b (k:Int)).bind fun x16=>some ((IntKind.i64.wrap ((IntKind.i64.wrap ((IntKind.i64.wrap (dg a k)) - c)) - (IntKind.i64.wrap x16))),()) else some ((IntKind.i64.wrap ((IntKind.i64.wrap (dg a k)) - c)),())):Option (Int × Unit)) = some (t,()):=by
     rw [wrap64 (n:=dg a k) (by omega) (by omega),wrap64 (n:=dg a k - c) (by omega) (by omega)]
     rcases Nat.lt_or_ge k b.length with h | h
     ·have:decide ((k:Int) < ((b.length:Nat):Int)) = true:=by simp;omega
      have hg:dg b k = b[k]:=by simp [dg,h]
      rw [this,cond_true,idx_nat h,Option.bind_some,← hg,wrap64 (n:=dg b k) (by omega) (by omega),wrap64 (by omega) (by omega),ht]
     ·have:decide ((k:Int) < ((b.length:Nat):Int)) = false:=by simp;omega
      have hg:dg b k = 0:=by simp [dg,h]
      rw [this,cond_false,← ht,hg];simp
    have hlo:k < (d ++ List.replicate (a.length - k) (0:Int)).length:=by simp [hd];omega
    simp only [e0,cond_true]
    rw [idx_nat hlt]
    simp only [Option.bind_some]
    rw [← hga,e1]
    simp only [Option.bind_some]
    rw [hcq]
    simp only [Option.bind_some]
    rw [idx_nat hlo]
    simp only [Option.bind_some,Int.toNat_natCast]
    rw [List.getElem?_eq_getElem hlo]
    simp only [Option.bind_some]
    rw [set_zeros hd hlt,wrap32,wrap64 (n:=(k:Int) + 1) (by omega) (by omega),Int.emod_eq_of_lt hq0 hq1]
    congr 3
   ·rw [bv_take_succ,bv_take_succ,bv_append,hd]
    simp only [bv,Int.mul_zero,Int.add_zero]
    have:(4294967296:Int) ^ (k + 1) = (4294967296:Int) ^ k * (4294967296:Int):=Int.pow_succ _ _
    rw [this]
    grind
  ·have hk':k = a.length:=by omega
   subst hk'
   have e0:decide (((a.length:Nat):Int) < ((a.length:Nat):Int)) = false:=by simp
   refine .inr ⟨(d,()),by simp only [e0,cond_false];simp,?_,hdd,hd⟩
   rw [List.take_of_length_le (by omega),List.take_of_length_le (by omega)] at hv
   have r3:=(bv_range (by decide) hdd).2
   rw [hd] at r3
   have hc:c = 0:=by
    rcases Int.lt_or_le c 1 with h | h
    ·omega
    ·exfalso
     have hc':c = 1:=by omega
     subst hc'
     rw [Int.mul_one] at hv
     omega
   subst hc
   show bv (4294967296:Int) d = _
   omega
 ·rintro ⟨r,u⟩ ⟨q1,q2,q3⟩
  obtain ⟨t,t1,t2,t3,t4,t5⟩:=f_trimmed r q2 (by simp only at q3;omega)
  refine ⟨t,by simp only;rw [t1];rfl,by rw [t2,q1],t3,t4,?_⟩
  simp only at q3
  omega
theorem bv_lt_of {B:Int} (hB:1 < B) {a b:List Int} (ha:dig B a) (hb:dig B b) (hl:a.length = b.length) {m:Nat} (hm:m < a.length) (hd:a.drop (m + 1) = b.drop (m + 1)) (h:dg a m < dg b m):bv B a < bv B b:=by
 have ea:a = a.take (m + 1) ++ a.drop (m + 1):=(List.take_append_drop _ _).symm
 have eb:b = b.take (m + 1) ++ b.drop (m + 1):=(List.take_append_drop _ _).symm
 rw [ea,eb,bv_append,bv_append,bv_take_succ,bv_take_succ,hd]
 have l1:(a.take (m + 1)).length = m + 1:=by rw [List.length_take];omega
 have l2:(b.take (m + 1)).length = m + 1:=by rw [List.length_take];omega
 rw [l1,l2]
 have r1:=(bv_range hB (dig_take ha m)).2
 have r2:=(bv_range hB (dig_take hb m)).1
 rw [List.length_take,Nat.min_eq_left (by omega)] at r1
 have hp:0 ≤ B ^ m:=Int.le_of_lt (Int.pow_pos (by omega))
 have:=Int.mul_le_mul_of_nonneg_left (show dg a m + 1 ≤ dg b m from h) hp
 rw [Int.mul_add,Int.mul_one] at this
 omega
theorem bv_lt_len {B:Int} (hB:1 < B) {a b:List Int} (ha:dig B a) (hb:dig B b) (ht:tight b) (hl:a.length < b.length):bv B a < bv B b:=by
 have hne:b ≠ []:=by rintro rfl;simp at hl
 obtain ⟨d,x,rfl⟩:∃ d x,b = d ++ [x]:=⟨b.dropLast,b.getLast hne,(List.dropLast_concat_getLast hne).symm⟩
 have hx:=hb x (by simp)
 have hx0:x ≠ 0:=fun e=>ht (by simp [e])
 have hd:=(bv_range hB (l:=d) fun y hy=>hb y (by simp [hy])).1
 have hr:=(bv_range hB ha).2
 rw [bv_append]
 have h2:bv B [x] = x:=by simp [bv]
 rw [h2]
 have hp:0 < B ^ d.length:=Int.pow_pos (by omega)
 have h3:B ^ a.length ≤ B ^ d.length:=pow_mono (by omega) (by simp at hl;omega)
 have:=Int.mul_le_mul_of_nonneg_left (show 1 ≤ x by omega) (Int.le_of_lt hp)
 rw [Int.mul_one] at this
 omega
end Go.Proofs.YtgbicnkpnhifgaaGreatDoor

namespace Go.Proofs.YtgbicnkpnhifgaaGreatDoor
theorem f_compared (a b:List Int) (ha:dig (4294967296:Int) a) (hb:dig (4294967296:Int) b) (hta:tight a) (htb:tight b) (hla:a.length ≤ 16000000) (hlb:b.length ≤ 16000000) :
  ∃ r,F_beam_compared a b = some r ∧ ((r < 0 ↔ bv (4294967296:Int) a < bv (4294967296:Int) b) ∧ (0 < r ↔ bv (4294967296:Int) b < bv (4294967296:Int) a)):=by
 unfold F_beam_compared
 rcases Decidable.em (a.length = b.length) with he | hne
 ·have e0:(((a.length:Nat):Int) != ((b.length:Nat):Int)) = false:=by rw [he];simp
  rw [e0,cond_false]
  refine iter_bind (Q:=fun r:(Int × Unit) ⊕ Unit=>match r with
    | .inl y=>(y.1 < 0 ↔ bv (4294967296:Int) a < bv (4294967296:Int) b) ∧ (0 < y.1 ↔ bv (4294967296:Int) b < bv (4294967296:Int) a)
    | .inr _=>((0:Int) < 0 ↔ bv (4294967296:Int) a < bv (4294967296:Int) b) ∧ ((0:Int) < 0 ↔ bv (4294967296:Int) b < bv (4294967296:Int) a))
   (fun k s=>∃ m,m + k = a.length ∧ s = ((m:Int) - 1,()) ∧ a.drop m = b.drop m) a.length (by unfold big;omega) ?_ ⟨a.length,by omega,by rw [wrap64 (by omega) (by omega)],by rw [List.drop_length,he,List.drop_length]⟩ ?_
  ·rintro k s hk ⟨m,hm,rfl,hdr⟩
   cases m with
   | zero =>
    have e1:decide ((((0:Nat):Int) - 1) ≥ 0) = false:=by decide
    refine .inr ⟨.inr (),by simp only [e1,cond_false],?_⟩
    simp only [List.drop_zero] at hdr
    subst hdr
    constructor <;> constructor <;> intro h <;> omega
   | succ m =>
    have e1:decide ((((m + 1:Nat):Int) - 1) ≥ 0) = true:=by simp
    have e2:(((m + 1:Nat):Int) - 1) = (m:Int):=by omega
    have hma:m < a.length:=by omega
    have hmb:m < b.length:=by omega
    have ga:dg a m = a[m]:=by simp [dg,hma]
    have gb:dg b m = b[m]:=by simp [dg,hmb]
    simp only [e1,cond_true]
    rw [e2,idx_nat hma,idx_nat hmb]
    simp only [Option.bind_some]
    rw [← ga,← gb]
    rcases Decidable.em (dg a m = dg b m) with h | h
    ·have e3:(dg a m != dg b m) = false:=by rw [h];simp
     rw [e3,cond_false]
     refine .inl ⟨_,rfl,by omega,m,by omega,?_,?_⟩
     ·rw [wrap64 (by omega) (by omega)]
     ·rw [List.drop_eq_getElem_cons hma,List.drop_eq_getElem_cons hmb,hdr,← ga,← gb,h]
    ·have e3:(dg a m != dg b m) = true:=by simpa using h
     rw [e3,cond_true]
     rcases Int.lt_or_le (dg a m) (dg b m) with h2 | h2
     ·have e4:decide (dg a m < dg b m) = true:=by simpa using h2
      rw [e4,cond_true]
      have:=bv_lt_of (by decide) ha hb he hma hdr h2
      exact .inr ⟨_,rfl,by constructor <;> constructor <;> intro h <;> first | omega | (simp at h;done)⟩
     ·have e4:decide (dg a m < dg b m) = false:=by simpa using h2
      rw [e4,cond_false]
      have:=bv_lt_of (by decide) hb ha he.symm hmb hdr.symm (by omega)
      exact .inr ⟨_,rfl,by constructor <;> constructor <;> intro h <;> first | omega | (simp at h;done)⟩
  ·rintro (y | y) h
   ·exact ⟨y.1,rfl,h⟩
   ·exact ⟨0,rfl,h⟩
 ·have e0:(((a.length:Nat):Int) != ((b.length:Nat):Int)) = true:=by simp;omega
  rw [e0,cond_true,wrap64 (by omega) (by omega)]
  refine ⟨_,rfl,?_⟩
  rcases Nat.lt_or_ge a.length b.length with h | h
  ·have:=bv_lt_len (by decide) ha hb htb h
   constructor <;> constructor <;> intro h <;> omega
  ·have:=bv_lt_len (by decide) hb ha hta (by omega)
   constructor <;> constructor <;> intro h <;> omega
structure Num (a:Tnumber) (v:Int):Prop where
 dig:dig (4294967296:Int) a.words
 tight:tight a.words
 len:a.words.length ≤ 8000000
 val:v = if a.neg then - bv (4294967296:Int) a.words else bv (4294967296:Int) a.words
theorem Num.zero {a:Tnumber} {v:Int} (h:Num a v):a.words = [] ↔ v = 0:=by
 rw [h.val,← bv_zero (by decide) h.dig h.tight]
 split <;> omega
theorem f_opposite {a:Tnumber} {v:Int} (h:Num a v):∃ r,F_beam_number__opposite a = some r ∧ Num r (-v) ∧ r.words = a.words:=by
 refine ⟨_,rfl,⟨h.dig,h.tight,h.len,?_⟩,rfl⟩
 rw [h.val]
 cases a.neg <;> simp
theorem f_sign {a:Tnumber} {v:Int} (h:Num a v):∃ r,F_beam_number__sign a = some r ∧ (r = 0 ↔ v = 0) ∧ (r < 0 ↔ v < 0):=by
 unfold F_beam_number__sign
 have hr:=(bv_range (by decide) h.dig).1
 have hv:=h.val
 rcases Decidable.em (a.words = []) with he | hne
 ·have e:(((a.words.length:Nat):Int) == 0) = true:=by rw [he];rfl
  rw [e,cond_true]
  have:=h.zero.1 he
  exact ⟨0,rfl,by omega,by omega⟩
 ·have e:(((a.words.length:Nat):Int) == 0) = false:=by
   have:a.words.length ≠ 0:=by simpa using hne
   simp;omega
  have hp:=bv_pos (by decide) h.dig h.tight hne
  rw [e,cond_false]
  cases hn:a.neg with
  | true=>rw [hn] at hv;simp at hv;exact ⟨-1,rfl,by omega,by omega⟩
  | false=>rw [hn] at hv;simp at hv;exact ⟨1,rfl,by omega,by omega⟩
theorem f_nplus {a b:Tnumber} {v w:Int} (ha:Num a v) (hb:Num b w) (hl:max a.words.length b.words.length + 1 ≤ 8000000):∃ r,F_beam_number__plus a b = some r ∧ Num r (v + w) ∧ r.words.length ≤ max a.words.length b.words.length + 1:=by
 unfold F_beam_number__plus
 have va:=ha.val
 have vb:=hb.val
 have la:=ha.len
 have lb:=hb.len
 cases hn:(a.neg == b.neg) with
 | true =>
  have hn':=eq_of_beq hn
  obtain ⟨r,r1,r2,r3,r4,r5⟩:=f_added a.words b.words ha.dig hb.dig (by omega) (by omega)
  rw [cond_true,r1]
  refine ⟨_,rfl,⟨r3,r4,by show r.length ≤ _;omega,?_⟩,r5⟩
  show v + w = if a.neg then - bv (4294967296:Int) r else bv (4294967296:Int) r
  rw [va,vb,r2,← hn']
  cases a.neg <;> simp <;> omega
 | false =>
  obtain ⟨c,c1,c2,c3⟩:=f_compared a.words b.words ha.dig hb.dig ha.tight hb.tight (by omega) (by omega)
  rw [cond_false,c1,Option.bind_some]
  rcases Int.lt_or_le c 0 with h | h
  ·have e:decide (c < 0) = true:=by simpa using h
   have hlt:=c2.1 h
   have hle:a.words.length ≤ b.words.length:=by
    rcases Nat.lt_or_ge b.words.length a.words.length with h | h
    ·have:=bv_lt_len (by decide) hb.dig ha.dig ha.tight h;omega
    ·exact h
   obtain ⟨r,r1,r2,r3,r4,r5⟩:=f_taken b.words a.words hb.dig ha.dig (by omega) hle (by omega)
   rw [e,cond_true,r1]
   refine ⟨_,rfl,⟨r3,r4,by show r.length ≤ _;omega,?_⟩,by show r.length ≤ _;omega⟩
   show v + w = if b.neg then - bv (4294967296:Int) r else bv (4294967296:Int) r
   rw [va,vb,r2]
   cases h1:a.neg <;> cases h2:b.neg <;> simp [h1,h2] at hn ⊢ <;> omega
  ·have e:decide (c < 0) = false:=by simpa using h
   have hge:bv (4294967296:Int) b.words ≤ bv (4294967296:Int) a.words:=by
    rcases Int.lt_or_le (bv (4294967296:Int) a.words) (bv (4294967296:Int) b.words) with h2 | h2
    ·have:=c2.2 h2;omega
    ·exact h2
   have hle:b.words.length ≤ a.words.length:=by
    rcases Nat.lt_or_ge a.words.length b.words.length with h | h
    ·have:=bv_lt_len (by decide) ha.dig hb.dig hb.tight h;omega
    ·exact h
   obtain ⟨r,r1,r2,r3,r4,r5⟩:=f_taken a.words b.words ha.dig hb.dig (by omega) hle hge
   rw [e,cond_false,r1]
   refine ⟨_,rfl,⟨r3,r4,by show r.length ≤ _;omega,?_⟩,by show r.length ≤ _;omega⟩
   show v + w = if a.neg then - bv (4294967296:Int) r else bv (4294967296:Int) r
   rw [va,vb,r2]
   cases h1:a.neg <;> cases h2:b.neg <;> simp [h1,h2] at hn ⊢ <;> omega
end Go.Proofs.YtgbicnkpnhifgaaGreatDoor

namespace Go.Proofs.YtgbicnkpnhifgaaGreatDoor
theorem f_integer (n:Int) (h1:-9223372036854775808 ≤ n) (h2:n ≤ 9223372036854775807):∃ r,F_beam_integer n = some r ∧ Num r n ∧ r.words.length ≤ 2:=by
 unfold F_beam_integer
 have hp32:((2:Int) ^ min (Int.toNat 32) IntKind.u64.bits) = 4294967296:=by decide
 obtain ⟨u,hu,hun⟩:∃ u:Int,((bif (decide (n < 0)) then some ((IntKind.u64.wrap (0 - (IntKind.u64.wrap n))),()) else some ((IntKind.u64.wrap n),())):Option (Int × Unit)) = some (u,()) ∧ (u = if n < 0 then -n else n):=by
  rw [wrap_u,wrap_u]
  rcases Int.lt_or_le n 0 with h | h
  ·have:decide (n < 0) = true:=by simpa using h
   rw [this,cond_true,if_pos h]
   exact ⟨_,rfl,by omega⟩
  ·have:decide (n < 0) = false:=by simpa using h
   rw [this,cond_false,if_neg (by omega)]
   exact ⟨_,rfl,by omega⟩
 rw [hu,Option.bind_some,hp32]
 simp only
 have hu0:0 ≤ u ∧ u ≤ 9223372036854775808:=by split at hun <;> omega
 rw [wrap32,wrap32,Int.fdiv_eq_ediv_of_nonneg _ (by decide)]
 have hd:dig (4294967296:Int) [u % 4294967296,u / 4294967296 % 4294967296]:=by
  intro x hx
  simp only [List.mem_cons,List.not_mem_nil,or_false] at hx
  rcases hx with rfl | rfl <;> omega
 obtain ⟨r,r1,r2,r3,r4,r5⟩:=f_trimmed _ hd (by simp)
 rw [r1]
 refine ⟨_,rfl,⟨r3,r4,by show r.length ≤ _;simp at r5;omega,?_⟩,by simpa using r5⟩
 show n = if decide (n < 0) then - bv (4294967296:Int) r else bv (4294967296:Int) r
 have hbv:bv (4294967296:Int) r = u:=by
  rw [r2]
  simp only [bv]
  omega
 rw [hbv]
 rcases Int.lt_or_le n 0 with h | h
 ·have:decide (n < 0) = true:=by simpa using h
  rw [if_pos h] at hun
  rw [this];simp;omega
 ·have:decide (n < 0) = false:=by simpa using h
  rw [if_neg (by omega)] at hun
  rw [this];simp;omega
theorem bv_set (B:Int):∀ (l:List Int) (k:Nat) (x:Int),k < l.length → bv B (l.set k x) = bv B l + B ^ k * (x - dg l k)
 | [],k,x,h=>by simp at h
 | y :: l,0,x,h=>by simp [bv,dg];omega
 | y :: l,k + 1,x,h=>by
  have:=bv_set B l k x (by simpa using h)
  simp only [List.set_cons_succ,bv,this,Int.pow_succ]
  have e:dg (y :: l) (k + 1) = dg l k:=by simp [dg]
  rw [e]
  grind
theorem dig_set {B:Int} {l:List Int} (h:dig B l) {k:Nat} {x:Int} (h0:0 ≤ x) (h1:x < B):dig B (l.set k x):=fun y hy=>by
 rcases List.mem_or_eq_of_mem_set hy with hy | rfl
 ·exact h y hy
 ·exact ⟨h0,h1⟩
theorem dg_set {l:List Int} {k q:Nat} {x:Int} (h:q ≠ k):dg (l.set k x) q = dg l q:=by
 unfold dg
 simp [List.getD_eq_getElem?_getD,List.getElem?_set,Ne.symm h]
end Go.Proofs.YtgbicnkpnhifgaaGreatDoor

namespace Go.Proofs.YtgbicnkpnhifgaaGreatDoor
theorem step_of {σ ρ:Type} {X:Option (σ ⊕ ρ)} {k n:Nat} {J:σ → Prop} (hk:k < n) (h:∃ y,X = some y ∧ ∃ s',y = Sum.inl s' ∧ J s'):∃ s',X = some (.inl s') ∧ k < n ∧ J s':=by
 obtain ⟨y,h1,s',rfl,h2⟩:=h
 exact ⟨s',h1,hk,h2⟩
theorem dg_get {l:List Int} {k:Nat} (h:k < l.length):dg l k = l[k]:=by simp [dg,h]
set_option maxHeartbeats 1000000 in
theorem f_times {a b:Tnumber} {v w:Int} (ha:Num a v) (hb:Num b w) (hl:a.words.length + b.words.length ≤ 8000000):∃ r,F_beam_number__times a b = some r ∧ Num r (v * w) ∧ r.words.length ≤ a.words.length + b.words.length:=by
 unfold F_beam_number__times
 have hp32:((2:Int) ^ min (Int.toNat 32) IntKind.u64.bits) = 4294967296:=by decide
 have hw:IntKind.i64.wrap (((a.words.length:Nat):Int) + ((b.words.length:Nat):Int)) = ((a.words.length + b.words.length:Nat):Int):=by rw [wrap64 (by omega) (by omega)];omega
 rw [hw,hp32,if_pos ⟨by omega,by omega⟩]
 simp only [Int.toNat_natCast]
 have hda:=ha.dig
 have hdb:=hb.dig
 obtain ⟨x,hx⟩:∃ x,a.words = x:=⟨_,rfl⟩
 obtain ⟨y,hy⟩:∃ y,b.words = y:=⟨_,rfl⟩
 rw [hx] at hda hl ⊢
 rw [hy] at hdb hl ⊢
 refine iter_bind (Q:=fun r:List Int × Unit=>bv (4294967296:Int) r.1 = bv (4294967296:Int) x * bv (4294967296:Int) y ∧ dig (4294967296:Int) r.1 ∧ r.1.length = x.length + y.length)
  (fun i s=>∃ out,s = ((i:Int),out,()) ∧ i ≤ x.length ∧ out.length = x.length + y.length ∧ dig (4294967296:Int) out ∧ bv (4294967296:Int) out = bv (4294967296:Int) (x.take i) * bv (4294967296:Int) y ∧ ∀ q,i + y.length ≤ q → dg out q = 0)
  x.length (by unfold big;omega) ?_ ⟨List.replicate (x.length + y.length) 0,rfl,Nat.zero_le _,by simp,?_,?_,?_⟩ ?_
 ·rintro i s hi ⟨out,rfl,_,hlen,hdo,hv,hz⟩
  rcases Nat.lt_or_ge i x.length with hlt | hge
  ·refine .inl (step_of hlt ?_)
   have e0:decide ((i:Int) < ((x.length:Nat):Int)) = true:=by simp;omega
   simp only [e0,cond_true]
   rw [idx_nat hlt,← dg_get hlt]
   simp only [Option.bind_some]
   have hxi:=dg_range (by decide) hda i
   obtain ⟨p,hp⟩:∃ p,dg x i = p:=⟨_,rfl⟩
   rw [hp] at hxi ⊢
   refine iter_bind (Q:=fun r:Int × List Int × Unit=>r.2.1.length = x.length + y.length ∧ dig (4294967296:Int) r.2.1 ∧ 0 ≤ r.1 ∧ r.1 < (4294967296:Int) ∧ bv (4294967296:Int) r.2.1 + (4294967296:Int) ^ (i + y.length) * r.1 = bv (4294967296:Int) out + p * bv (4294967296:Int) y * (4294967296:Int) ^ i ∧ ∀ q,i + y.length ≤ q → dg r.2.1 q = 0)
    (fun k s=>∃ c o2,s = (c,(k:Int),o2,()) ∧ k ≤ y.length ∧ o2.length = x.length + y.length ∧ dig (4294967296:Int) o2 ∧ 0 ≤ c ∧ c < (4294967296:Int) ∧ bv (4294967296:Int) o2 + (4294967296:Int) ^ (i + k) * c = bv (4294967296:Int) out + p * bv (4294967296:Int) (y.take k) * (4294967296:Int) ^ i ∧ ∀ q,i + k ≤ q → dg o2 q = dg out q)
    y.length (by unfold big;omega) ?_ ⟨0,out,rfl,Nat.zero_le _,hlen,hdo,by omega,by omega,by simp [bv],fun _ _=>rfl⟩ ?_
   ·rintro k s hk ⟨c,o2,rfl,_,hl2,hd2,hc0,hc1,hv2,hz2⟩
    rcases Nat.lt_or_ge k y.length with hkl | hkg
    ·have hyk:=dg_range (by decide) hdb k
     have hok:=dg_range (by decide) hd2 (i + k)
     have hik:i + k < o2.length:=by omega
     obtain ⟨g,hg⟩:∃ g,dg y k = g:=⟨_,rfl⟩
     obtain ⟨z,hzz⟩:∃ z,dg o2 (i + k) = z:=⟨_,rfl⟩
     rw [hg] at hyk
     rw [hzz] at hok
     have hpg0:0 ≤ p * g:=Int.mul_nonneg hxi.1 hyk.1
     have hpg1:p * g ≤ 4294967295 * 4294967295:=Int.mul_le_mul (by omega) (by omega) hyk.1 (by omega)
     obtain ⟨pg,hpg⟩:∃ pg,p * g = pg:=⟨_,rfl⟩
     rw [hpg] at hpg0 hpg1
     refine .inl ⟨((c + (pg + z)) / (4294967296:Int),((k + 1:Nat):Int),o2.set (i + k) ((c + (pg + z)) % (4294967296:Int)),()),?_,hkl,_,_,rfl,hkl,by simp [hl2],dig_set hd2 (by omega) (by omega),by omega,by omega,?_,?_⟩
     ·have e1:decide ((k:Int) < ((y.length:Nat):Int)) = true:=by simp;omega
      have e2:IntKind.i64.wrap ((i:Int) + (k:Int)) = ((i + k:Nat):Int):=by rw [wrap64 (by omega) (by omega)];omega
      simp only [e1,cond_true,e2]
      rw [idx_nat hkl,← dg_get hkl,hg]
      simp only [Option.bind_some]
      rw [idx_nat hik]
      simp only [Option.bind_some,Int.toNat_natCast]
      rw [List.getElem?_eq_getElem hik,← dg_get hik,hzz]
      simp only [Option.bind_some]
      have w1:IntKind.u64.wrap ((IntKind.u64.wrap p) * (IntKind.u64.wrap g)) = pg:=by
       rw [wrap_u p,wrap_u g,Int.emod_eq_of_lt hxi.1 (by omega),Int.emod_eq_of_lt hyk.1 (by omega),hpg,wrap_u]
       omega
      have w2:IntKind.u64.wrap (c + (IntKind.u64.wrap (pg + (IntKind.u64.wrap z)))) = c + (pg + z):=by
       rw [wrap_u z,wrap_u,wrap_u]
       omega
      rw [w1,w2,wrap32,wrap64 (n:=(k:Int) + 1) (by omega) (by omega),Int.fdiv_eq_ediv_of_nonneg _ (by decide)]
      congr 3
     ·rw [bv_set _ _ _ _ hik,bv_take_succ,hg,hzz]
      have he:=Int.emod_add_mul_ediv (c + (pg + z)) (4294967296:Int)
      generalize (c + (pg + z)) % (4294967296:Int) = q at he ⊢
      generalize (c + (pg + z)) / (4294967296:Int) = t at he ⊢
      have h1:(4294967296:Int) ^ (i + (k + 1)) = (4294967296:Int) ^ (i + k) * (4294967296:Int):=by rw [← Nat.add_assoc];exact Int.pow_succ _ _
      have h2:(4294967296:Int) ^ (i + k) = (4294967296:Int) ^ i * (4294967296:Int) ^ k:=Int.pow_add _ _ _
      rw [h1]
      have h3:p * (bv (4294967296:Int) (y.take k) + (4294967296:Int) ^ k * g) * (4294967296:Int) ^ i = p * bv (4294967296:Int) (y.take k) * (4294967296:Int) ^ i + (4294967296:Int) ^ (i + k) * pg:=by rw [h2,← hpg];grind
      rw [h3]
      grind
     ·intro q hq
      rw [dg_set (by omega)]
      exact hz2 q (by omega)
    ·have hk':k = y.length:=by omega
     subst hk'
     have e1:decide (((y.length:Nat):Int) < ((y.length:Nat):Int)) = false:=by simp
     refine .inr ⟨(c,o2,()),by simp only [e1,cond_false],hl2,hd2,hc0,hc1,?_,fun q hq=>(hz2 q hq).trans (hz q hq)⟩
     rw [List.take_length] at hv2
     exact hv2
   ·rintro ⟨c,o2,u⟩ ⟨q1,q2,q3,q4,q5,q6⟩
    simp only at q1 q2 q3 q4 q5 q6 ⊢
    have hin:i + y.length < o2.length:=by omega
    have e2:IntKind.i64.wrap ((i:Int) + ((y.length:Nat):Int)) = ((i + y.length:Nat):Int):=by rw [wrap64 (by omega) (by omega)];omega
    rw [e2,idx_nat hin]
    simp only [Option.bind_some,Int.toNat_natCast]
    rw [List.getElem?_eq_getElem hin]
    simp only [Option.bind_some]
    rw [wrap32,Int.emod_eq_of_lt q3 q4,wrap64 (n:=(i:Int) + 1) (by omega) (by omega)]
    refine ⟨_,rfl,_,rfl,_,rfl,hlt,by simp [q1],dig_set q2 q3 q4,?_,?_⟩
    ·rw [bv_set _ _ _ _ hin,q6 _ (Nat.le_refl _),bv_take_succ,hp,Int.sub_zero,q5,hv]
     grind
    ·intro q hq
     rw [dg_set (by omega)]
     exact q6 q (by omega)
  ·have hi':i = x.length:=by omega
   subst hi'
   have e0:decide (((x.length:Nat):Int) < ((x.length:Nat):Int)) = false:=by simp
   refine .inr ⟨(out,()),by simp only [e0,cond_false],?_,hdo,hlen⟩
   rw [List.take_length] at hv
   exact hv
 ·intro z hz
  have:=List.eq_of_mem_replicate hz
  omega
 ·rw [bv_zeros];simp [bv]
 ·intro q _
  unfold dg
  simp only [List.getD_eq_getElem?_getD,List.getElem?_replicate]
  split <;> rfl
 ·rintro ⟨r,u⟩ ⟨q1,q2,q3⟩
  simp only at q1 q2 q3 ⊢
  obtain ⟨t,t1,t2,t3,t4,t5⟩:=f_trimmed r q2 (by omega)
  rw [t1]
  refine ⟨_,rfl,⟨t3,t4,by show t.length ≤ _;omega,?_⟩,by show t.length ≤ _;omega⟩
  show v * w = if (!(a.neg == b.neg)) then - bv (4294967296:Int) t else bv (4294967296:Int) t
  have va:=ha.val
  have vb:=hb.val
  rw [hx] at va
  rw [hy] at vb
  rw [va,vb,t2,q1]
  cases a.neg <;> cases b.neg <;> simp [Int.neg_mul,Int.mul_neg,Int.neg_mul_neg]
end Go.Proofs.YtgbicnkpnhifgaaGreatDoor

namespace Go.Proofs.YtgbicnkpnhifgaaGreatDoor
theorem or32 (m h:Nat) (hm:m < 2147483648) (hh:h < 2):bitsOf .or .u32 (m:Int) ((h * 2147483648:Nat):Int) = ((m + h * 2147483648:Nat):Int):=by
 unfold bitsOf
 rw [wrap32]
 have h1:(BitVec.ofInt IntKind.u32.bits (m:Int) ||| BitVec.ofInt IntKind.u32.bits ((h * 2147483648:Nat):Int)).toNat = m ||| h * 2147483648:=by
  show (BitVec.ofInt 32 (m:Int) ||| BitVec.ofInt 32 ((h * 2147483648:Nat):Int)).toNat = _
  rw [BitVec.toNat_or,BitVec.toNat_ofInt,BitVec.toNat_ofInt]
  have e1:((m:Int) % ((2 ^ 32:Nat):Int)).toNat = m:=by
   rw [Int.emod_eq_of_lt (by omega) (by omega)];exact Int.toNat_natCast _
  have e2:(((h * 2147483648:Nat):Int) % ((2 ^ 32:Nat):Int)).toNat = h * 2147483648:=by
   rw [Int.emod_eq_of_lt (by omega) (by omega)];exact Int.toNat_natCast _
  rw [e1,e2]
 have h2:m ||| h * 2147483648 = m + h * 2147483648:=by
  have:=Nat.two_pow_add_eq_or_of_lt (i:=31) (b:=m) hm h
  rw [Nat.or_comm,Nat.mul_comm h,Nat.add_comm m]
  exact this.symm
 show ((BitVec.ofInt IntKind.u32.bits (m:Int) ||| BitVec.ofInt IntKind.u32.bits ((h * 2147483648:Nat):Int)).toNat:Int) % 4294967296 = _
 rw [h1,h2]
 omega
theorem orI {m h:Int} (hm0:0 ≤ m) (hm:m < 2147483648) (hh0:0 ≤ h) (hh:h < 2):bitsOf .or .u32 m (h * 2147483648) = m + h * 2147483648:=by
 obtain ⟨m',rfl⟩:=Int.eq_ofNat_of_zero_le hm0
 obtain ⟨h',rfl⟩:=Int.eq_ofNat_of_zero_le hh0
 have:=or32 m' h' (by omega) (by omega)
 have e:((h' * 2147483648:Nat):Int) = (h':Int) * 2147483648:=by omega
 rw [e] at this
 rw [this]
 omega
theorem f_halved (a:List Int) (ha:dig (4294967296:Int) a) (hla:a.length ≤ 16000000):∃ r,F_beam_halved a = some r ∧ (2 * bv (4294967296:Int) r + dg a 0 % 2 = bv (4294967296:Int) a ∧ dig (4294967296:Int) r ∧ tight r ∧ r.length ≤ a.length):=by
 unfold F_beam_halved
 rw [if_pos ⟨by omega,by omega⟩]
 have hp1:((2:Int) ^ min (Int.toNat 1) IntKind.u32.bits) = 2:=by decide
 have hp31:((2:Int) ^ min (Int.toNat 31) IntKind.u32.bits) = 2147483648:=by decide
 rw [hp1,hp31]
 simp only [Int.toNat_natCast]
 refine iter_bind (Q:=fun r:List Int × Unit=>2 * bv (4294967296:Int) r.1 + dg a 0 % 2 = bv (4294967296:Int) a ∧ dig (4294967296:Int) r.1 ∧ r.1.length = a.length)
  (fun k s=>∃ d,s = ((k:Int),d ++ List.replicate (a.length - k) 0,()) ∧ d.length = k ∧ k ≤ a.length ∧ dig (4294967296:Int) d ∧ 2 * bv (4294967296:Int) d + dg a 0 % 2 = bv (4294967296:Int) (a.take k) + (4294967296:Int) ^ k * (dg a k % 2))
  a.length (by unfold big;omega) ?_ ⟨[],by simp,rfl,Nat.zero_le _,(fun z hz=>nomatch hz),by simp [bv]⟩ ?_
 ·rintro k s hk ⟨d,rfl,hd,hkn,hdd,hv⟩
  rcases Nat.lt_or_ge k a.length with hlt | hge
  ·have hx:=dg_range (by decide) ha k
   have hy:=dg_range (by decide) ha (k + 1)
   obtain ⟨x,hxe⟩:∃ x,dg a k = x:=⟨_,rfl⟩
   obtain ⟨y,hye⟩:∃ y,dg a (k + 1) = y:=⟨_,rfl⟩
   rw [hxe] at hx hv
   rw [hye] at hy
   refine .inl ⟨(((k + 1:Nat):Int),(d ++ [x / 2 + y % 2 * 2147483648]) ++ List.replicate (a.length - (k + 1)) 0,()),?_,hlt,_,rfl,by simp [hd],hlt,dig_snoc hdd (by omega) (by omega),?_⟩
   ·have e0:decide ((k:Int) < ((a.length:Nat):Int)) = true:=by simp;omega
    have e2:IntKind.i64.wrap ((k:Int) + 1) = ((k + 1:Nat):Int):=by rw [wrap64 (by omega) (by omega)];omega
    have hlo:k < (d ++ List.replicate (a.length - k) (0:Int)).length:=by simp [hd];omega
    have s1:=set_zeros hd hlt (x / 2)
    have hl1:k < ((d ++ [x / 2]) ++ List.replicate (a.length - (k + 1)) (0:Int)).length:=by simp [hd]
    have g1:((d ++ [x / 2]) ++ List.replicate (a.length - (k + 1)) (0:Int))[k]? = some (x / 2):=by
     rw [List.getElem?_append_left (by simp [hd]),List.getElem?_append_right (by omega),hd,Nat.sub_self];rfl
    have i1:idx ((d ++ [x / 2]) ++ List.replicate (a.length - (k + 1)) (0:Int)) (k:Int) = some (x / 2):=by
     unfold idx;rw [if_pos (by omega),Int.toNat_natCast];exact g1
    have s2:((d ++ [x / 2]) ++ List.replicate (a.length - (k + 1)) (0:Int)).set k (x / 2 + y % 2 * 2147483648) = (d ++ [x / 2 + y % 2 * 2147483648]) ++ List.replicate (a.length - (k + 1)) 0:=by
     rw [← s1,List.set_set]
     exact set_zeros hd hlt _
    simp only [e0,cond_true,e2]
    rw [idx_nat hlt,← dg_get hlt,hxe]
    simp only [Option.bind_some]
    rw [idx_nat hlo]
    simp only [Option.bind_some,Int.toNat_natCast]
    rw [List.getElem?_eq_getElem hlo]
    simp only [Option.bind_some]
    rw [Int.fdiv_eq_ediv_of_nonneg _ (by decide),s1,i1,g1]
    simp only [Option.bind_some]
    rcases Nat.lt_or_ge (k + 1) a.length with h | h
    ·have e3:decide (((k + 1:Nat):Int) < ((a.length:Nat):Int)) = true:=by simp;omega
     rw [e3,cond_true,idx_nat h,← dg_get h,hye]
     simp only [Option.bind_some]
     have e4:IntKind.u32.wrap (y * 2147483648) = y % 2 * 2147483648:=by rw [wrap32];omega
     rw [e4,orI (by omega) (by omega) (by omega) (by omega),s2]
    ·have e3:decide (((k + 1:Nat):Int) < ((a.length:Nat):Int)) = false:=by simp;omega
     have hy0:y = 0:=by rw [← hye];simp [dg,h]
     rw [e3,cond_false,hy0]
     simp
   ·rw [bv_take_succ,bv_append,hd,hxe,hye]
    simp only [bv,Int.mul_zero,Int.add_zero]
    have h1:(4294967296:Int) ^ (k + 1) = (4294967296:Int) ^ k * (4294967296:Int):=Int.pow_succ _ _
    have h2:x = 2 * (x / 2) + x % 2:=by omega
    rw [h1]
    generalize x / 2 = q at h2 ⊢
    generalize x % 2 = t at h2 hv ⊢
    generalize y % 2 = z
    subst h2
    grind
  ·have hk':k = a.length:=by omega
   subst hk'
   have e0:decide (((a.length:Nat):Int) < ((a.length:Nat):Int)) = false:=by simp
   refine .inr ⟨(d,()),by simp only [e0,cond_false];simp,?_,hdd,hd⟩
   rw [List.take_length] at hv
   have:dg a a.length = 0:=by simp [dg]
   rw [this] at hv
   show 2 * bv (4294967296:Int) d + dg a 0 % 2 = _
   rw [hv];simp
 ·rintro ⟨r,u⟩ ⟨q1,q2,q3⟩
  obtain ⟨t,t1,t2,t3,t4,t5⟩:=f_trimmed r q2 (by simp only at q3;omega)
  refine ⟨t,by simp only;rw [t1];rfl,by rw [t2];exact q1,t3,t4,?_⟩
  simp only at q3
  omega
end Go.Proofs.YtgbicnkpnhifgaaGreatDoor

namespace Go.Proofs.YtgbicnkpnhifgaaGreatDoor
theorem and1 {x:Int} (h0:0 ≤ x) (h1:x < 4294967296):bitsOf .and .u32 x 1 = x % 2:=by
 obtain ⟨n,rfl⟩:=Int.eq_ofNat_of_zero_le h0
 unfold bitsOf
 rw [wrap32]
 have e:(BitVec.ofInt IntKind.u32.bits (n:Int) &&& BitVec.ofInt IntKind.u32.bits 1).toNat = n % 2:=by
  show (BitVec.ofInt 32 (n:Int) &&& BitVec.ofInt 32 1).toNat = _
  rw [BitVec.toNat_and,BitVec.toNat_ofInt]
  have e1:((n:Int) % ((2 ^ 32:Nat):Int)).toNat = n:=by
   rw [Int.emod_eq_of_lt (by omega) (by omega)];exact Int.toNat_natCast _
  have e2:(BitVec.ofInt 32 1).toNat = 1:=by decide
  rw [e1,e2,Nat.and_one_is_mod]
 show ((BitVec.ofInt IntKind.u32.bits (n:Int) &&& BitVec.ofInt IntKind.u32.bits 1).toNat:Int) % 4294967296 = _
 rw [e]
 omega
structure Wd (l:List Int) (v:Nat):Prop where
 dig:dig (4294967296:Int) l
 tight:tight l
 len:l.length ≤ 16000000
 val:bv (4294967296:Int) l = v
theorem Wd.ne {l:List Int} {v:Nat} (h:Wd l v) (hv:0 < v):l ≠ []:=by
 rintro rfl
 have:=h.val
 simp [bv] at this
 omega
theorem Wd.pos {l:List Int} {v:Nat} (h:Wd l v) (hne:l ≠ []):0 < v:=by
 have:=bv_pos (by decide) h.dig h.tight hne
 have:=h.val
 omega
theorem bv_mod2:∀ (l:List Int),bv (4294967296:Int) l % 2 = dg l 0 % 2
 | []=>by simp [bv,dg]
 | x :: l=>by
  have e:dg (x :: l) 0 = x:=by simp [dg]
  rw [e]
  simp only [bv]
  omega
theorem Wd.bit {l:List Int} {v:Nat} (h:Wd l v) (hv:0 < v):∃ x,idx l 0 = some x ∧ (bitsOf .and .u32 x 1 == 0) = decide (v % 2 = 0):=by
 have hl:0 < l.length:=by
  have:=h.ne hv
  cases l with
  | nil=>exact absurd rfl this
  | cons _ _=>simp
 have hr:=dg_range (by decide) h.dig 0
 have hm:=bv_mod2 l
 refine ⟨dg l 0,?_,?_⟩
 ·rw [dg_get hl];exact idx_nat hl
 ·rw [and1 hr.1 hr.2,← hm,h.val]
  rcases Nat.mod_two_eq_zero_or_one v with e | e
  ·rw [decide_eq_true e];have:((v:Int) % 2) = 0:=by omega
   rw [this];rfl
  ·rw [decide_eq_false (by omega)];have:((v:Int) % 2) = 1:=by omega
   rw [this];rfl
theorem Wd.half {l:List Int} {v:Nat} (h:Wd l v) (he:v % 2 = 0):∃ r,F_beam_halved l = some r ∧ Wd r (v / 2) ∧ r.length ≤ l.length:=by
 obtain ⟨r,r1,r2,r3,r4,r5⟩:=f_halved l h.dig h.len
 refine ⟨r,r1,⟨r3,r4,by have:=h.len;omega,?_⟩,r5⟩
 have hm:=bv_mod2 l
 have hv:=h.val
 omega
theorem Wd.lt {l:List Int} {v:Nat} (h:Wd l v):v < 2 ^ (32 * l.length):=by
 have h1:=(bv_range (by decide) h.dig).2
 rw [h.val] at h1
 have e:(4294967296:Int) ^ l.length = ((2 ^ (32 * l.length):Nat):Int):=by
  rw [Nat.pow_mul,Int.natCast_pow];rfl
 rw [e] at h1
 exact_mod_cast h1
theorem odd_loop {γ:Type} {F:List Int × Unit → Option ((List Int × Unit) ⊕ (List Int × Unit))} {K:List Int × Unit → Option γ} {P:γ → Prop} {l:List Int} {v:Nat} (h:Wd l v) (hv:0 < v)
  (hin:∀ (r:List Int) (u:Nat),Wd r u → 0 < u → u % 2 = 0 → ∃ t,F (r,()) = some (.inl (t,())) ∧ Wd t (u / 2) ∧ t.length ≤ r.length) (hout:∀ (r:List Int) (u:Nat),Wd r u → u % 2 = 1 → F (r,()) = some (.inr (r,())))
  (hK:∀ (r:List Int) (u j:Nat),Wd r u → u % 2 = 1 → v = 2 ^ j * u → r.length ≤ l.length → ∃ y,K (r,()) = some y ∧ P y):∃ y,(iterF F big (l,())).bind K = some y ∧ P y:=by
 refine iter_bind (Q:=fun s=>∃ u j,Wd s.1 u ∧ u % 2 = 1 ∧ v = 2 ^ j * u ∧ s.1.length ≤ l.length)
  (fun k s=>∃ r u,s = (r,()) ∧ Wd r u ∧ 0 < u ∧ v = 2 ^ k * u ∧ r.length ≤ l.length) (32 * l.length) (by have:=h.len;unfold big;omega) ?_ ⟨l,v,rfl,h,hv,by simp,Nat.le_refl _⟩ ?_
 ·rintro k s hk ⟨r,u,rfl,hw,hu,he,hl⟩
  rcases Nat.mod_two_eq_zero_or_one u with hm | hm
  ·obtain ⟨t,t1,t2,t3⟩:=hin r u hw hu hm
   refine .inl ⟨_,t1,?_,t,u / 2,rfl,t2,by omega,?_,by omega⟩
   ·have hlt:=h.lt
    rw [he] at hlt
    apply Classical.byContradiction
    intro hge
    have hkk:k = 32 * l.length:=by omega
    subst hkk
    have:2 ^ (32 * l.length) * 1 ≤ 2 ^ (32 * l.length) * u:=Nat.mul_le_mul_left _ hu
    omega
   ·rw [he,Nat.pow_succ,Nat.mul_assoc]
    congr 1
    omega
  ·exact .inr ⟨_,hout r u hw hm,u,k,hw,hm,he,hl⟩
 ·rintro ⟨r,x⟩ ⟨u,j,h1,h2,h3,h4⟩
  exact hK r u j h1 h2 h3 h4
end Go.Proofs.YtgbicnkpnhifgaaGreatDoor

namespace Go.Proofs.YtgbicnkpnhifgaaGreatDoor
theorem cop_two {g:Nat} (hg:g % 2 = 1) (i:Nat):Nat.Coprime g (2 ^ i):=by
 apply Nat.Coprime.pow_right
 show Nat.gcd g 2 = 1
 rw [Nat.gcd_comm,Nat.gcd_rec,hg]
 rfl
theorem gcd_odd {i j x y:Nat} (h:Nat.gcd (2 ^ i * x) (2 ^ j * y) % 2 = 1):Nat.gcd (2 ^ i * x) (2 ^ j * y) = Nat.gcd x y:=by
 apply Nat.dvd_antisymm
 ·refine Nat.dvd_gcd ?_ ?_
  ·exact (cop_two h i).dvd_of_dvd_mul_left (Nat.gcd_dvd_left _ _)
  ·exact (cop_two h j).dvd_of_dvd_mul_left (Nat.gcd_dvd_right _ _)
 ·refine Nat.dvd_gcd ?_ ?_
  ·exact Nat.dvd_trans (Nat.gcd_dvd_left _ _) (Nat.dvd_mul_left _ _)
  ·exact Nat.dvd_trans (Nat.gcd_dvd_right _ _) (Nat.dvd_mul_left _ _)
theorem gcd_sub {x y:Nat} (h:y ≤ x):Nat.gcd (x - y) y = Nat.gcd x y:=by
 obtain ⟨d,rfl⟩:=Nat.le.dest h
 rw [Nat.add_sub_cancel_left,Nat.add_comm y d,Nat.gcd_add_self_left]
theorem gcd_mod {x y:Nat} (h:¬(x % 2 = 0 ∧ y % 2 = 0)):Nat.gcd x y % 2 = 1:=by
 rcases Nat.mod_two_eq_zero_or_one (Nat.gcd x y) with e | e
 ·exfalso
  have h2:2 ∣ Nat.gcd x y:=Nat.dvd_of_mod_eq_zero e
  exact h ⟨Nat.mod_eq_zero_of_dvd (Nat.dvd_trans h2 (Nat.gcd_dvd_left _ _)),Nat.mod_eq_zero_of_dvd (Nat.dvd_trans h2 (Nat.gcd_dvd_right _ _))⟩
 ·exact e
theorem Wd.le {a b:List Int} {u v:Nat} (ha:Wd a u) (hb:Wd b v) (h:u ≤ v):a.length ≤ b.length:=by
 rcases Nat.lt_or_ge b.length a.length with hl | hl
 ·have:=bv_lt_len (by decide) hb.dig ha.dig ha.tight hl
  rw [ha.val,hb.val] at this
  omega
 ·exact hl
theorem Wd.add {a b:List Int} {u v:Nat} (ha:Wd a u) (hb:Wd b v) (hl:max a.length b.length + 1 ≤ 16000000):∃ r,F_beam_added a b = some r ∧ Wd r (u + v):=by
 obtain ⟨r,r1,r2,r3,r4,r5⟩:=f_added a b ha.dig hb.dig ha.len hb.len
 exact ⟨r,r1,r3,r4,by omega,by rw [r2,ha.val,hb.val];omega⟩
theorem Wd.sub {a b:List Int} {u v:Nat} (ha:Wd a u) (hb:Wd b v) (h:v ≤ u):∃ r,F_beam_taken a b = some r ∧ Wd r (u - v) ∧ r.length ≤ a.length:=by
 obtain ⟨r,r1,r2,r3,r4,r5⟩:=f_taken a b ha.dig hb.dig ha.len (hb.le ha h) (by rw [ha.val,hb.val];omega)
 exact ⟨r,r1,⟨r3,r4,by have:=ha.len;omega,by rw [r2,ha.val,hb.val];omega⟩,r5⟩
theorem Wd.cmp {a b:List Int} {u v:Nat} (ha:Wd a u) (hb:Wd b v):∃ r,F_beam_compared a b = some r ∧ (r < 0 ↔ u < v) ∧ (0 < r ↔ v < u):=by
 obtain ⟨r,r1,r2,r3⟩:=f_compared a b ha.dig hb.dig ha.tight hb.tight ha.len hb.len
 rw [ha.val,hb.val] at r2 r3
 exact ⟨r,r1,by rw [r2];omega,by rw [r3];omega⟩
end Go.Proofs.YtgbicnkpnhifgaaGreatDoor

namespace Go.Proofs.YtgbicnkpnhifgaaGreatDoor
theorem sub_bound {x y:Nat} (h:y ≤ x):(x - y) * y ≤ x * y:=Nat.mul_le_mul_right _ (Nat.sub_le _ _)
set_option maxHeartbeats 1000000 in
theorem f_common {a b:List Int} {u v:Nat} (ha:Wd a u) (hb:Wd b v) (hu:0 < u) (hv:0 < v) (hla:a.length ≤ 8000000) (hlb:b.length ≤ 8000000):∃ r,F_beam_common a b = some r ∧ Wd r (Nat.gcd u v):=by
 unfold F_beam_common
 refine iter_bind (Q:=fun s:List Int × List Int × Int × Unit=>∃ u' v' k:Nat,Wd s.1 u' ∧ Wd s.2.1 v' ∧ 0 < u' ∧ 0 < v' ∧ s.2.2.1 = (k:Int) ∧ u = 2 ^ k * u' ∧ v = 2 ^ k * v' ∧ ¬(u' % 2 = 0 ∧ v' % 2 = 0) ∧ k ≤ 32 * a.length)
  (fun k s=>∃ a' b' u' v',s = (a',b',(k:Int),()) ∧ Wd a' u' ∧ Wd b' v' ∧ 0 < u' ∧ 0 < v' ∧ u = 2 ^ k * u' ∧ v = 2 ^ k * v') (32 * a.length) (by unfold big;omega) ?_ ⟨a,b,u,v,rfl,ha,hb,hu,hv,by simp,by simp⟩ ?_
 ·rintro k s hk ⟨a',b',u',v',rfl,wa,wb,pu,pv,eu,ev⟩
  obtain ⟨x,hx,hxb⟩:=wa.bit pu
  obtain ⟨y,hy,hyb⟩:=wb.bit pv
  simp only
  rw [hx]
  simp only [Option.bind_some]
  rw [hxb,hy]
  simp only [Option.bind_some]
  rw [hyb]
  rcases Nat.mod_two_eq_zero_or_one u' with mu | mu
  ·rw [decide_eq_true mu]
   simp only [cond_true,Option.bind_some]
   rcases Nat.mod_two_eq_zero_or_one v' with mv | mv
   ·obtain ⟨p,p1,p2,p3⟩:=wa.half mu
    obtain ⟨q,q1,q2,q3⟩:=wb.half mv
    rw [decide_eq_true mv,p1,q1]
    simp only [cond_true,Option.bind_some]
    have hlt:k < 32 * a.length:=by
     have h1:=ha.lt
     rw [eu] at h1
     apply Classical.byContradiction
     intro hge
     have hkk:k = 32 * a.length:=by omega
     subst hkk
     have:2 ^ (32 * a.length) * 1 ≤ 2 ^ (32 * a.length) * u':=Nat.mul_le_mul_left _ pu
     omega
    refine .inl ⟨_,rfl,hlt,p,q,u' / 2,v' / 2,?_,p2,q2,by omega,by omega,?_,?_⟩
    ·rw [wrap64 (by omega) (by omega)];rfl
    ·rw [eu,Nat.pow_succ,Nat.mul_assoc];congr 1;omega
    ·rw [ev,Nat.pow_succ,Nat.mul_assoc];congr 1;omega
   ·rw [decide_eq_false (by omega)]
    simp only [cond_false]
    exact .inr ⟨_,rfl,u',v',k,wa,wb,pu,pv,rfl,eu,ev,by omega,hk⟩
  ·rw [decide_eq_false (by omega)]
   simp only [cond_false,Option.bind_some]
   exact .inr ⟨_,rfl,u',v',k,wa,wb,pu,pv,rfl,eu,ev,by omega,hk⟩
 rintro ⟨a',b',z,uu⟩ ⟨u',v',n,wa,wb,pu,pv,hz,eu,ev,hodd,hn⟩
 simp only at wa wb hz ⊢
 subst hz
 have hg:=gcd_mod hodd
 have la':a'.length ≤ 8000000:=Nat.le_trans (wa.le ha (by rw [eu];exact Nat.le_mul_of_pos_left _ (Nat.pow_pos (by decide)))) hla
 have lb':b'.length ≤ 8000000:=Nat.le_trans (wb.le hb (by rw [ev];exact Nat.le_mul_of_pos_left _ (Nat.pow_pos (by decide)))) hlb
 obtain ⟨M,hM⟩:∃ M,32 * a'.length + 32 * b'.length = M:=⟨_,rfl⟩
 have huv:u' * v' < 2 ^ M:=by
  have h1:=wa.lt
  have h2:=wb.lt
  have h3:u' * v' < 2 ^ (32 * a'.length) * 2 ^ (32 * b'.length):=Nat.mul_lt_mul'' h1 h2
  rw [← Nat.pow_add,hM] at h3
  exact h3
 refine iter_bind (Q:=fun s:List Int × Unit=>Wd s.1 (Nat.gcd u' v'))
  (fun k s=>∃ x y X Y,s = (x,y,()) ∧ Wd x X ∧ Wd y Y ∧ 0 < Y ∧ Nat.gcd X Y = Nat.gcd u' v' ∧ ((k = 0 ∧ X * Y ≤ u' * v') ∨ (0 < k ∧ X % 2 = 0 ∧ X * Y * 2 ^ (k - 1) ≤ u' * v'))) (M + 1) (by unfold big;omega) ?_ ⟨a',b',u',v',rfl,wa,wb,pv,rfl,.inl ⟨rfl,Nat.le_refl _⟩⟩ ?_
 ·rintro k s hk ⟨x,y,X,Y,rfl,wx,wy,pY,hgg,hb⟩
  rcases Nat.eq_zero_or_pos X with hX | hX
  ·subst hX
   have hx0:x = []:=by
    rcases Decidable.em (x = []) with e | e
    ·exact e
    ·have:=wx.pos e;omega
   subst hx0
   refine .inr ⟨(y,()),by simp,?_⟩
   rw [Nat.gcd_zero_left] at hgg
   rw [← hgg];exact wy
  ·have hxl:0 < x.length:=by
    have:=wx.ne hX
    cases x with
    | nil=>exact absurd rfl this
    | cons _ _=>simp
   have hkM:k < M + 1:=by
    rcases hb with ⟨rfl,_⟩ | ⟨h0,_,h2⟩
    ·omega
    ·apply Classical.byContradiction
     intro hge
     have h3:2 ^ M ≤ 2 ^ (k - 1):=Nat.pow_le_pow_right (by decide) (by omega)
     have h4:1 * 2 ^ (k - 1) ≤ X * Y * 2 ^ (k - 1):=Nat.mul_le_mul_right _ (Nat.mul_pos hX pY)
     omega
   refine .inl (step_of hkM ?_)
   have e0:decide (((x.length:Nat):Int) > 0) = true:=by simp;omega
   simp only [e0,cond_true]
   refine odd_loop wx hX (fun r u hw hu hm=>?_) (fun r u hw hm=>?_) fun x1 X1 i w1 o1 ex l1=>?_
   ·obtain ⟨z,hz,hzb⟩:=hw.bit hu
    obtain ⟨t,t1,t2,t3⟩:=hw.half hm
    refine ⟨t,?_,t2,t3⟩
    simp only
    rw [hz]
    simp only [Option.bind_some]
    rw [hzb,decide_eq_true hm,cond_true,t1]
    rfl
   ·obtain ⟨z,hz,hzb⟩:=hw.bit (by omega)
    simp only
    rw [hz]
    simp only [Option.bind_some]
    rw [hzb,decide_eq_false (by omega)]
    rfl
   simp only
   refine odd_loop wy pY (fun r u hw hu hm=>?_) (fun r u hw hm=>?_) fun y1 Y1 j w2 o2 ey l2=>?_
   ·obtain ⟨z,hz,hzb⟩:=hw.bit hu
    obtain ⟨t,t1,t2,t3⟩:=hw.half hm
    refine ⟨t,?_,t2,t3⟩
    simp only
    rw [hz]
    simp only [Option.bind_some]
    rw [hzb,decide_eq_true hm,cond_true,t1]
    rfl
   ·obtain ⟨z,hz,hzb⟩:=hw.bit (by omega)
    simp only
    rw [hz]
    simp only [Option.bind_some]
    rw [hzb,decide_eq_false (by omega)]
    rfl
   simp only
   obtain ⟨c,c1,c2,c3⟩:=w1.cmp w2
   rw [c1]
   simp only [Option.bind_some]
   have hg1:Nat.gcd X1 Y1 = Nat.gcd u' v':=by
    rw [← hgg,ex,ey]
    refine (gcd_odd ?_).symm
    rw [← ex,← ey,hgg];exact hg
   have hXX:X1 ≤ X:=by rw [ex];exact Nat.le_mul_of_pos_left _ (Nat.pow_pos (by decide))
   have hYY:Y1 ≤ Y:=by rw [ey];exact Nat.le_mul_of_pos_left _ (Nat.pow_pos (by decide))
   have hbound:X1 * Y1 * 2 ^ k ≤ u' * v':=by
    rcases hb with ⟨rfl,h⟩ | ⟨h0,h1,h2⟩
    ·have:=Nat.mul_le_mul hXX hYY
     simp only [Nat.pow_zero,Nat.mul_one]
     omega
    ·have h5:2 * X1 ≤ X:=by
      rcases Nat.eq_zero_or_pos i with hi | hi
      ·subst hi;simp at ex;omega
      ·rw [ex]
       have:2 ^ 1 ≤ 2 ^ i:=Nat.pow_le_pow_right (by decide) hi
       exact Nat.mul_le_mul_right _ this
     have h6:2 ^ k = 2 * 2 ^ (k - 1):=by
      obtain ⟨q,rfl⟩:∃ q,k = q + 1:=⟨k - 1,by omega⟩
      rw [Nat.add_sub_cancel,Nat.pow_succ,Nat.mul_comm]
     have h7:=Nat.mul_le_mul_right (2 ^ (k - 1)) (Nat.mul_le_mul h5 hYY)
     rw [h6]
     have h8:X1 * Y1 * (2 * 2 ^ (k - 1)) = 2 * X1 * Y1 * 2 ^ (k - 1):=by grind
     rw [h8]
     omega
   rcases Int.lt_or_le c 0 with hc | hc
   ·have hlt:=c2.1 hc
    have e4:decide (c < 0) = true:=by simpa using hc
    obtain ⟨t,t1,t2,t3⟩:=w2.sub w1 (Nat.le_of_lt hlt)
    rw [e4]
    simp only [cond_true,Option.bind_some]
    rw [t1]
    refine ⟨_,rfl,_,rfl,t,x1,Y1 - X1,X1,rfl,t2,w1,by omega,?_,.inr ⟨by omega,by omega,?_⟩⟩
    ·rw [gcd_sub (Nat.le_of_lt hlt),Nat.gcd_comm];exact hg1
    ·have:=Nat.mul_le_mul_right (2 ^ k) (sub_bound (Nat.le_of_lt hlt))
     rw [Nat.add_sub_cancel]
     rw [Nat.mul_comm Y1 X1] at this
     omega
   ·have hge:Y1 ≤ X1:=by
     rcases Nat.lt_or_ge X1 Y1 with h | h
     ·have:=c2.2 h;omega
     ·exact h
    have e4:decide (c < 0) = false:=by simpa using hc
    obtain ⟨t,t1,t2,t3⟩:=w1.sub w2 hge
    rw [e4]
    simp only [cond_false,Option.bind_some]
    rw [t1]
    refine ⟨_,rfl,_,rfl,t,y1,X1 - Y1,Y1,rfl,t2,w2,by omega,?_,.inr ⟨by omega,by omega,?_⟩⟩
    ·rw [gcd_sub hge];exact hg1
    ·have:=Nat.mul_le_mul_right (2 ^ k) (sub_bound hge)
     rw [Nat.add_sub_cancel]
     omega
 ·rintro ⟨g',gu⟩ hg'
  simp only at hg' ⊢
  have hguv:Nat.gcd u v = 2 ^ n * Nat.gcd u' v':=by rw [eu,ev,Nat.gcd_mul_left]
  have pg:0 < Nat.gcd u' v':=Nat.gcd_pos_of_pos_left _ pu
  refine iter_bind (Q:=fun s:List Int × Unit=>Wd s.1 (Nat.gcd u v)) (fun k s=>∃ r,s = (r,(k:Int),()) ∧ k ≤ n ∧ Wd r (2 ^ k * Nat.gcd u' v')) n (by unfold big;omega) ?_ ⟨g',rfl,Nat.zero_le _,by simpa using hg'⟩ ?_
  ·rintro k s hk ⟨r,rfl,hkn,hw⟩
   rcases Nat.lt_or_ge k n with hlt | hge
   ·have e0:decide ((k:Int) < (n:Int)) = true:=by simp;omega
    have hle:2 ^ k * Nat.gcd u' v' ≤ u:=by
     rw [eu]
     exact Nat.mul_le_mul (Nat.pow_le_pow_right (by decide) hkn) (Nat.gcd_le_left _ pu)
    have hrl:=hw.le ha hle
    obtain ⟨t,t1,t2⟩:=hw.add hw (by omega)
    simp only [e0,cond_true]
    rw [t1]
    refine .inl ⟨_,rfl,hlt,t,?_,hlt,?_⟩
    ·rw [wrap64 (by omega) (by omega)];rfl
    ·have:2 ^ (k + 1) * Nat.gcd u' v' = 2 ^ k * Nat.gcd u' v' + 2 ^ k * Nat.gcd u' v':=by rw [Nat.pow_succ];grind
     rw [this];exact t2
   ·have hk':k = n:=by omega
    subst hk'
    have e0:decide ((k:Int) < (k:Int)) = false:=by simp
    refine .inr ⟨(r,()),by simp only [e0,cond_false],?_⟩
    rw [hguv];exact hw
  ·rintro ⟨r,x⟩ h
   exact ⟨r,rfl,h⟩
end Go.Proofs.YtgbicnkpnhifgaaGreatDoor

namespace Go.Proofs.YtgbicnkpnhifgaaGreatDoor
theorem pow32 {j:Nat} (hj:j < 32):((2:Int) ^ min (Int.toNat (j:Int)) IntKind.u32.bits) = ((2 ^ j:Nat):Int):=by
 have:min (Int.toNat (j:Int)) IntKind.u32.bits = j:=by
  rw [Int.toNat_natCast]
  show min j 32 = j
  omega
 rw [this,Int.natCast_pow];rfl
theorem bit_get {x j:Nat} (hx:x < 4294967296) (hj:j < 32):bitsOf .and .u32 ((x:Int).fdiv (2 ^ min (Int.toNat (j:Int)) IntKind.u32.bits)) 1 = ((x / 2 ^ j % 2:Nat):Int):=by
 rw [pow32 hj]
 generalize 2 ^ j = p
 rw [Int.fdiv_eq_ediv_of_nonneg _ (by omega),← Int.natCast_ediv]
 have h:=Nat.div_le_self x p
 generalize x / p = q at h ⊢
 rw [and1 (by omega) (by omega)]
 omega
theorem bit_set {m j:Nat} (hj:j < 32) (hm:2 ^ (j + 1) * m + 2 ^ j < 4294967296):bitsOf .or .u32 ((2 ^ (j + 1) * m:Nat):Int) (IntKind.u32.wrap (1 * 2 ^ min (Int.toNat (j:Int)) IntKind.u32.bits)) = ((2 ^ (j + 1) * m + 2 ^ j:Nat):Int):=by
 have h2:2 ^ (j + 1) * m ||| 2 ^ j = 2 ^ (j + 1) * m + 2 ^ j:=by
  have:=Nat.two_pow_add_eq_or_of_lt (i:=j + 1) (b:=2 ^ j) (Nat.pow_lt_pow_right (by decide) (by omega)) m
  exact this.symm
 rw [Int.one_mul,pow32 hj]
 generalize 2 ^ (j + 1) * m = q at hm h2 ⊢
 generalize 2 ^ j = p at hm h2 ⊢
 rw [wrap32,Int.emod_eq_of_lt (by omega) (by omega)]
 unfold bitsOf
 rw [wrap32]
 have h1:(BitVec.ofInt IntKind.u32.bits (q:Int) ||| BitVec.ofInt IntKind.u32.bits (p:Int)).toNat = q ||| p:=by
  show (BitVec.ofInt 32 (q:Int) ||| BitVec.ofInt 32 (p:Int)).toNat = _
  rw [BitVec.toNat_or,BitVec.toNat_ofInt,BitVec.toNat_ofInt]
  have e0:((2 ^ 32:Nat):Int) = 4294967296:=by decide
  have e1:((q:Int) % ((2 ^ 32:Nat):Int)).toNat = q:=by
   rw [e0,Int.emod_eq_of_lt (by omega) (by omega)];exact Int.toNat_natCast _
  have e2:((p:Int) % ((2 ^ 32:Nat):Int)).toNat = p:=by
   rw [e0,Int.emod_eq_of_lt (by omega) (by omega)];exact Int.toNat_natCast _
  rw [e1,e2]
 show ((BitVec.ofInt IntKind.u32.bits (q:Int) ||| BitVec.ofInt IntKind.u32.bits (p:Int)).toNat:Int) % 4294967296 = _
 rw [h1,h2]
 omega
end Go.Proofs.YtgbicnkpnhifgaaGreatDoor

namespace Go.Proofs.YtgbicnkpnhifgaaGreatDoor
theorem dg_val:∀ {l:List Int} (_:dig (4294967296:Int) l) (k:Nat),dg l k = bv (4294967296:Int) l / (4294967296:Int) ^ k % (4294967296:Int)
 | [],_,k=>by simp [dg,bv]
 | x :: l,h,0=>by
  have hx:=h x List.mem_cons_self
  have e:dg (x :: l) 0 = x:=by simp [dg]
  rw [e]
  simp only [bv,Int.pow_zero,Int.ediv_one]
  omega
 | x :: l,h,k + 1=>by
  have hx:=h x List.mem_cons_self
  have e:dg (x :: l) (k + 1) = dg l k:=by simp [dg]
  rw [e,dg_val (fun y hy=>h y (List.mem_cons_of_mem _ hy)) k]
  have e2:bv (4294967296:Int) (x :: l) / (4294967296:Int) = bv (4294967296:Int) l:=by simp only [bv];omega
  rw [Int.pow_succ,Int.mul_comm,← Int.ediv_ediv_of_nonneg (by decide),e2]
theorem bit_of {u k j:Nat} (hj:j < 32):u / 4294967296 ^ k % 4294967296 / 2 ^ j % 2 = u / 2 ^ (32 * k + j) % 2:=by
 have e0:(4294967296:Nat) = 2 ^ 32:=by decide
 have e1:(4294967296:Nat) ^ k = 2 ^ (32 * k):=by rw [e0,← Nat.pow_mul]
 have e2:(4294967296:Nat) = 2 ^ j * (2 * 2 ^ (31 - j)):=by
  rw [e0,← Nat.pow_succ',← Nat.pow_add];congr 1;omega
 rw [e1,Nat.pow_add,← Nat.div_div_eq_div_mul]
 generalize u / 2 ^ (32 * k) = w
 rw [e2,Nat.mod_mul_right_div_self,Nat.mod_mul_right_mod]
theorem room_of {q k j:Nat} (hj:j < 32):∃ m,2 ^ (32 * k + j + 1) * q / 4294967296 ^ k % 4294967296 = 2 ^ (j + 1) * m ∧ 2 ^ (j + 1) * m + 2 ^ j < 4294967296:=by
 have e0:(4294967296:Nat) = 2 ^ 32:=by decide
 have e1:(4294967296:Nat) ^ k = 2 ^ (32 * k):=by rw [e0,← Nat.pow_mul]
 have e2:(4294967296:Nat) = 2 ^ (j + 1) * 2 ^ (31 - j):=by
  rw [e0,← Nat.pow_add];congr 1;omega
 refine ⟨q % 2 ^ (31 - j),?_,?_⟩
 ·rw [e1,Nat.add_assoc,Nat.pow_add,Nat.mul_assoc,Nat.mul_div_cancel_left _ (Nat.pow_pos (by decide)),e2,Nat.mul_mod_mul_left]
 ·have h1:=Nat.mod_lt q (show 0 < 2 ^ (31 - j) from Nat.pow_pos (by decide))
  generalize q % 2 ^ (31 - j) = m at h1 ⊢
  have h2:2 ^ (j + 1) * (m + 1) ≤ 4294967296:=by
   conv=>rhs;rw [e2]
   exact Nat.mul_le_mul_left _ h1
  have h3:2 ^ (j + 1) = 2 ^ j * 2:=Nat.pow_succ _ _
  have h4:0 < 2 ^ j:=Nat.pow_pos (by decide)
  rw [Nat.mul_add,Nat.mul_one] at h2
  omega
theorem bit_step {u i:Nat}:u / 2 ^ i = 2 * (u / 2 ^ (i + 1)) + u / 2 ^ i % 2:=by
 rw [Nat.pow_succ,← Nat.div_div_eq_div_mul]
 omega
theorem Wd.dgn {l:List Int} {u:Nat} (h:Wd l u) (k:Nat):dg l k = ((u / 4294967296 ^ k % 4294967296:Nat):Int):=by
 rw [dg_val h.dig,h.val]
 rw [Int.natCast_emod,Int.natCast_ediv,Int.natCast_pow];rfl
theorem wd_one:Wd [1] 1:=⟨by intro x hx;simp at hx;subst hx;omega,by simp [tight],by decide,by simp [bv]⟩
theorem tdiv_nat (i:Nat):IntKind.i64.wrap ((i:Int).tdiv 32) = ((i / 32:Nat):Int) ∨ 9223372036854775808 ≤ i:=by
 rcases Nat.lt_or_ge i 9223372036854775808 with h | h
 ·left
  rw [Int.tdiv_eq_ediv_of_nonneg (by omega),wrap64 (by omega) (by omega)]
  omega
 ·exact .inr h
theorem tmod_nat (i:Nat):((i:Int).tmod 32) = ((i % 32:Nat):Int):=by
 rw [Int.tmod_eq_emod_of_nonneg (by omega)];omega
set_option maxHeartbeats 1000000 in
theorem f_divided {a b:List Int} {u v:Nat} (ha:Wd a u) (hb:Wd b v) (hv:0 < v) (hla:a.length ≤ 8000000) (hlb:b.length ≤ 8000000):∃ r,F_beam_divided a b = some r ∧ Wd r (u / v) ∧ r.length ≤ a.length:=by
 unfold F_beam_divided
 rw [if_pos ⟨by omega,by omega⟩]
 simp only [Int.toNat_natCast]
 have hw0:IntKind.i64.wrap ((IntKind.i64.wrap (32 * ((a.length:Nat):Int))) - 1) = ((32 * a.length:Nat):Int) - 1 - ((0:Nat):Int):=by
  rw [wrap64 (n:=32 * ((a.length:Nat):Int)) (by omega) (by omega),wrap64 (by omega) (by omega)];omega
 rw [hw0]
 obtain ⟨T,hT⟩:∃ T,32 * a.length = T:=⟨_,rfl⟩
 rw [hT]
 refine iter_bind (Q:=fun r:List Int × Unit=>bv (4294967296:Int) r.1 = ((u / v:Nat):Int) ∧ dig (4294967296:Int) r.1 ∧ r.1.length = a.length)
  (fun k s=>∃ rest out q ρ,s = (rest,(T:Int) - 1 - (k:Int),out,()) ∧ k ≤ T ∧ Wd rest ρ ∧ ρ < v ∧ q * v + ρ = u / 2 ^ (T - k) ∧ out.length = a.length ∧ dig (4294967296:Int) out ∧ bv (4294967296:Int) out = ((2 ^ (T - k) * q:Nat):Int))
  T (by unfold big;omega) ?_ ⟨[],List.replicate a.length 0,0,0,rfl,Nat.zero_le _,⟨(fun x hx=>nomatch hx),by simp [tight],by decide,by simp [bv]⟩,hv,?_,by simp,?_,?_⟩ ?_
 ·rintro k s hk ⟨rest,out,q,ρ,rfl,_,wr,hρ,hq,hlo,hdo,hvo⟩
  rcases Nat.lt_or_ge k T with hlt | hge
  ·refine .inl (step_of hlt ?_)
   obtain ⟨i,hi⟩:∃ i,T - k = i + 1:=⟨T - k - 1,by omega⟩
   have hi2:T - (k + 1) = i:=by omega
   have hii:(T:Int) - 1 - (k:Int) = (i:Int):=by omega
   have e0:decide ((T:Int) - 1 - (k:Int) ≥ 0) = true:=by simp;omega
   have hdiv:IntKind.i64.wrap ((i:Int).tdiv 32) = ((i / 32:Nat):Int):=by
    rcases tdiv_nat i with h | h
    ·exact h
    ·omega
   have hka:i / 32 < a.length:=by omega
   have hko:i / 32 < out.length:=by omega
   have hj:i % 32 < 32:=Nat.mod_lt _ (by decide)
   have hneg:¬ (((i % 32:Nat):Int) < 0):=by omega
   have hnext:IntKind.i64.wrap ((i:Int) - 1) = (T:Int) - 1 - ((k + 1:Nat):Int):=by rw [wrap64 (by omega) (by omega)];omega
   have hrl:rest.length ≤ b.length:=wr.le hb (by omega)
   obtain ⟨r1,a1,a2⟩:=wr.add wr (by omega)
   have hr1l:r1.length ≤ b.length + 1:=by
    obtain ⟨r',p1,_,_,_,p5⟩:=f_added rest rest wr.dig wr.dig wr.len wr.len
    rw [a1] at p1
    injection p1 with p1
    subst p1
    omega
   have hbit:bitsOf .and .u32 ((a[i / 32]:Int).fdiv (2 ^ min (Int.toNat ((i % 32:Nat):Int)) IntKind.u32.bits)) 1 = ((u / 2 ^ i % 2:Nat):Int):=by
    rw [← dg_get hka,ha.dgn,bit_get (Nat.mod_lt _ (by decide)) hj,bit_of hj,Nat.div_add_mod]
   have hu:u / 2 ^ i = 2 * (u / 2 ^ (i + 1)) + u / 2 ^ i % 2:=bit_step
   rw [hi] at hq hvo
   simp only [e0,cond_true,hii]
   rw [a1]
   simp only [Option.bind_some]
   rw [hdiv,tmod_nat,idx_nat hka]
   simp only [Option.bind_some]
   rw [if_neg hneg,hbit]
   obtain ⟨c,hc⟩:∃ c,u / 2 ^ i % 2 = c:=⟨_,rfl⟩
   have hc2:c < 2:=by omega
   rw [hc] at hu ⊢
   obtain ⟨r2,b1,b2⟩:∃ r2,((bif ((c:Int) == 1) then (F_beam_added r1 ([1]:List Int)).bind fun r27=>some (r27,()) else some (r1,()):Option (List Int × Unit))) = some (r2,()) ∧ Wd r2 (2 * ρ + c):=by
    rcases Nat.lt_or_ge c 1 with h | h
    ·have h0:c = 0:=by omega
     subst h0
     refine ⟨r1,rfl,?_⟩
     rw [show 2 * ρ + 0 = ρ + ρ from by omega];exact a2
    ·have h0:c = 1:=by omega
     subst h0
     obtain ⟨t,t1,t2⟩:=a2.add wd_one (by simp;omega)
     refine ⟨t,?_,?_⟩
     ·rw [t1];rfl
     ·rw [show 2 * ρ + 1 = ρ + ρ + 1 from by omega];exact t2
   rw [b1]
   simp only [Option.bind_some]
   obtain ⟨z,z1,z2,z3⟩:=b2.cmp hb
   rw [z1]
   simp only [Option.bind_some]
   rcases Int.lt_or_le z 0 with hz | hz
   ·have hlt2:=z2.1 hz
    have e1:decide (z ≥ 0) = false:=by simp;omega
    rw [e1,cond_false,hnext]
    refine ⟨_,rfl,_,rfl,r2,out,2 * q,2 * ρ + c,rfl,hlt,b2,hlt2,?_,hlo,hdo,?_⟩
    ·rw [hi2,hu,← hq];grind
    ·rw [hvo,hi2,Nat.pow_succ];congr 1;grind
   ·have hge2:v ≤ 2 * ρ + c:=by
     rcases Nat.lt_or_ge (2 * ρ + c) v with h | h
     ·have:=z2.2 h;omega
     ·exact h
    have e1:decide (z ≥ 0) = true:=by simp;omega
    obtain ⟨t,t1,t2,_⟩:=b2.sub hb hge2
    obtain ⟨m,m1,m2⟩:=room_of (q:=q) (k:=i / 32) (j:=i % 32) hj
    have hout:dg out (i / 32) = ((2 ^ (i % 32 + 1) * m:Nat):Int):=by
     have hp:32 * (i / 32) + i % 32 + 1 = i + 1:=by omega
     rw [hp] at m1
     rw [dg_val hdo,hvo,← m1]
     rw [Int.natCast_emod,Int.natCast_ediv,Int.natCast_pow];rfl
    rw [e1,cond_true,t1]
    simp only [Option.bind_some]
    rw [idx_nat hko]
    simp only [Option.bind_some,Int.toNat_natCast]
    rw [List.getElem?_eq_getElem hko]
    simp only [Option.bind_some]
    rw [if_neg hneg,hnext,← dg_get hko,hout]
    have hbs:=bit_set hj m2
    simp only [Int.toNat_natCast] at hbs
    rw [hbs]
    refine ⟨_,rfl,_,rfl,t,_,2 * q + 1,2 * ρ + c - v,rfl,hlt,t2,by omega,?_,by simp [hlo],dig_set hdo (Int.natCast_nonneg _) (Int.ofNat_lt.2 m2),?_⟩
    ·have:(2 * q + 1) * v = 2 * (q * v) + v:=by grind
     rw [hi2,hu,← hq,this];omega
    ·have hpw:(4294967296:Int) ^ (i / 32) * ((2 ^ (i % 32):Nat):Int) = ((2 ^ i:Nat):Int):=by
      have e4:((4294967296:Int):Int) = ((4294967296:Nat):Int):=rfl
      have e5:(4294967296:Nat) ^ (i / 32) = 2 ^ (32 * (i / 32)):=by
       rw [Nat.pow_mul]
      rw [e4,← Int.natCast_pow,← Int.natCast_mul,e5,← Nat.pow_add,Nat.div_add_mod]
     rw [bv_set _ _ _ _ hko,hvo,hout,Int.natCast_add]
     have e6:(((2 ^ (i % 32 + 1) * m:Nat):Int) + ((2 ^ (i % 32):Nat):Int)) - ((2 ^ (i % 32 + 1) * m:Nat):Int) = ((2 ^ (i % 32):Nat):Int):=by omega
     first | rw [hpw] | (rw [e6,hpw])
     rw [hi2,← Int.natCast_add]
     congr 1
     rw [Nat.pow_succ];grind
  ·have hk':k = T:=by omega
   subst hk'
   have e0:decide ((k:Int) - 1 - (k:Int) ≥ 0) = false:=by simp;omega
   refine .inr ⟨(out,()),by simp only [e0,cond_false],?_,hdo,hlo⟩
   show bv (4294967296:Int) out = _
   rw [hvo]
   rw [Nat.sub_self,Nat.pow_zero,Nat.div_one] at hq
   rw [Nat.sub_self,Nat.pow_zero,Nat.one_mul]
   congr 1
   rw [← hq,Nat.mul_comm,Nat.mul_add_div hv,Nat.div_eq_of_lt hρ,Nat.add_zero]
 ·have:=ha.lt
  rw [hT] at this
  rw [Nat.sub_zero,Nat.div_eq_of_lt this];omega
 ·intro z hz
  have:=List.eq_of_mem_replicate hz
  omega
 ·rw [bv_zeros];simp
 ·rintro ⟨r,x⟩ ⟨q1,q2,q3⟩
  simp only at q1 q2 q3 ⊢
  obtain ⟨t,t1,t2,t3,t4,t5⟩:=f_trimmed r q2 (by omega)
  rw [t1]
  exact ⟨t,rfl,⟨t3,t4,by omega,by rw [t2,q1]⟩,by omega⟩
end Go.Proofs.YtgbicnkpnhifgaaGreatDoor

namespace Go.Proofs.YtgbicnkpnhifgaaGreatDoor
theorem q_mul (q:Rat):q * ((q.den:Int):Rat) = (q.num:Rat):=by
 have h:=Rat.mkRat_self q
 rw [Rat.mkRat_eq_div] at h
 have hd:((q.den:Nat):Rat) ≠ 0:=by
  intro e
  have:(q.den:Int) = 0:=by
   apply Rat.intCast_inj.1
   simpa using e
  have:=q.den_nz
  omega
 have e:(((q.den:Nat):Int):Rat) = ((q.den:Nat):Rat):=rfl
 rw [e]
 grind
theorem low_of {q:Rat} {v w:Int} (hw:w ≠ 0) (h:q * (w:Rat) = (v:Rat)):∃ t:Int,t ≠ 0 ∧ v = q.num * t ∧ w = q.den * t:=by
 have h1:=q_mul q
 have h2:q.num * w = v * q.den:=by
  apply Rat.intCast_inj.1
  rw [Rat.intCast_mul,Rat.intCast_mul]
  grind
 have hd:(q.den:Int) ∣ w:=by
  have h3:(q.den:Int) ∣ q.num * w:=⟨v,by rw [h2,Int.mul_comm]⟩
  have h4:q.den ∣ q.num.natAbs * w.natAbs:=by
   have:=Int.natAbs_dvd_natAbs.2 h3
   rwa [Int.natAbs_natCast,Int.natAbs_mul] at this
  have h5:Nat.Coprime q.den q.num.natAbs:=Nat.Coprime.symm q.reduced
  have h6:=h5.dvd_of_dvd_mul_left h4
  exact Int.ofNat_dvd_left.2 h6
 obtain ⟨t,rfl⟩:=hd
 have hd0:(q.den:Int) ≠ 0:=by have:=q.den_nz;omega
 refine ⟨t,?_,?_,rfl⟩
 ·rintro rfl;simp at hw
 ·have:v * q.den = (q.num * t) * q.den:=by rw [← h2];grind
  exact (Int.mul_eq_mul_right_iff hd0).1 this
theorem low_gcd {q:Rat} {v w:Int} (hw:w ≠ 0) (h:q * (w:Rat) = (v:Rat)):v.natAbs / Nat.gcd v.natAbs w.natAbs = q.num.natAbs ∧ w.natAbs / Nat.gcd v.natAbs w.natAbs = q.den ∧ (0 < w → (v < 0 ↔ q.num < 0)) ∧ (w < 0 → (0 < v ↔ q.num < 0)) ∧ (v = 0 ↔ q = 0):=by
 obtain ⟨t,t0,rfl,rfl⟩:=low_of hw h
 have hd0:(0:Int) < q.den:=by have:=q.den_nz;omega
 have hg:Nat.gcd (q.num * t).natAbs ((q.den:Int) * t).natAbs = t.natAbs:=by
  rw [Int.natAbs_mul,Int.natAbs_mul,Int.natAbs_natCast,Nat.gcd_mul_right,show Nat.gcd q.num.natAbs q.den = 1 from q.reduced,Nat.one_mul]
 have ht:0 < t.natAbs:=by omega
 refine ⟨?_,?_,?_,?_,?_⟩
 ·rw [hg,Int.natAbs_mul,Nat.mul_div_cancel _ ht]
 ·rw [hg,Int.natAbs_mul,Nat.mul_div_cancel _ ht,Int.natAbs_natCast]
 ·intro hp
  have:0 < t:=Int.pos_of_mul_pos_right hp hd0 |> fun x=>x
  constructor
  ·intro hv
   rcases Int.lt_or_le q.num 0 with h0 | h0
   ·exact h0
   ·have:=Int.mul_nonneg h0 (Int.le_of_lt this);omega
  ·intro hv
   exact Int.mul_neg_of_neg_of_pos hv this
 ·intro hp
  have htn:t < 0:=by
   rcases Int.lt_or_le t 0 with h0 | h0
   ·exact h0
   ·have:=Int.mul_nonneg (Int.le_of_lt hd0) h0;omega
  constructor
  ·intro hv
   rcases Int.lt_or_le q.num 0 with h0 | h0
   ·exact h0
   ·have:=Int.mul_nonneg h0 (show 0 ≤ -t by omega)
    rw [Int.mul_neg] at this;omega
  ·intro hv
   exact Int.mul_pos_of_neg_of_neg hv htn
 ·rw [← Rat.num_eq_zero]
  constructor
  ·intro hv
   rcases Int.mul_eq_zero.1 hv with e | e
   ·exact e
   ·exact absurd e t0
  ·intro e;rw [e,Int.zero_mul]
theorem Num.wd {a:Tnumber} {v:Int} (h:Num a v):Wd a.words v.natAbs:=by
 refine ⟨h.dig,h.tight,by have:=h.len;omega,?_⟩
 have h1:=(bv_range (by decide) h.dig).1
 have h2:=h.val
 split at h2 <;> omega
theorem Num.neg_iff {a:Tnumber} {v:Int} (h:Num a v) (hv:v ≠ 0):a.neg = true ↔ v < 0:=by
 have h1:=(bv_range (by decide) h.dig).1
 have h2:=h.val
 cases hn:a.neg <;> simp [hn] at h2 ⊢ <;> omega
structure Xq (x:Texact) (q:Rat) (c:Nat):Prop where
 n:Num x.n q.num
 d:Num x.d q.den
 ln:x.n.words.length ≤ c
 ld:x.d.words.length ≤ c
theorem Xq.mono {x:Texact} {q:Rat} {c e:Nat} (h:Xq x q c) (hc:c ≤ e):Xq x q e:=⟨h.n,h.d,Nat.le_trans h.ln hc,Nat.le_trans h.ld hc⟩
theorem Xq.cast {x:Texact} {q r:Rat} {c:Nat} (h:Xq x q c) (e:q = r):Xq x r c:=e ▸ h
theorem f_whole (n:Int) (h1:-9223372036854775808 ≤ n) (h2:n ≤ 9223372036854775807):∃ r,F_beam_whole n = some r ∧ Xq r (n:Rat) 2:=by
 obtain ⟨a,a1,a2,a3⟩:=f_integer n h1 h2
 obtain ⟨b,b1,b2,b3⟩:=f_integer 1 (by omega) (by omega)
 unfold F_beam_whole
 rw [a1,b1]
 exact ⟨_,rfl,a2,b2,a3,b3⟩
theorem num_of {neg:Bool} {l:List Int} {u:Nat} {z:Int} (h:Wd l u) (hl:l.length ≤ 8000000) (hz:z.natAbs = u) (hn:z ≠ 0 → (neg = true ↔ z < 0)):Num ⟨neg,l⟩ z:=by
 refine ⟨h.dig,h.tight,hl,?_⟩
 show z = if neg = true then - bv (4294967296:Int) l else bv (4294967296:Int) l
 rw [h.val]
 rcases Decidable.em (z = 0) with e | e
 ·subst e
  have:u = 0:=by omega
  subst this
  simp
 ·have:=hn e
  cases neg
  ·simp at this ⊢;omega
  ·simp at this ⊢;omega
theorem f_lowest {n d:Tnumber} {v w:Int} {q:Rat} {c:Nat} (hn:Num n v) (hd:Num d w) (hw:w ≠ 0) (hq:q * (w:Rat) = (v:Rat)) (hln:n.words.length ≤ c) (hld:d.words.length ≤ c) (hc:2 ≤ c):∃ r,F_beam_lowest n d = some r ∧ Xq r q c:=by
 unfold F_beam_lowest
 obtain ⟨s,s1,s2,s3⟩:=f_sign hn
 obtain ⟨e1,e2,e3,e4,e5⟩:=low_gcd hw hq
 rw [s1]
 simp only [Option.bind_some]
 rcases Decidable.em (v = 0) with hv | hv
 ·obtain ⟨r,r1,r2⟩:=f_whole 0 (by omega) (by omega)
  rw [s2.2 hv,r1]
  refine ⟨r,rfl,?_⟩
  have:=e5.1 hv
  subst this
  exact r2.mono hc
 ·have hs0:(s == 0) = false:=by
   rw [beq_eq_false_iff_ne];exact fun e=>hv (s2.1 e)
  rw [hs0,cond_false]
  obtain ⟨n',d',p,pn,pd,nn⟩:∃ n' d':Tnumber,((bif d.neg then (F_beam_number__opposite n).bind fun r9=>(F_beam_number__opposite d).bind fun r10=>some (r9,r10,()) else some (n,d,())):Option (Tnumber × Tnumber × Unit)) = some (n',d',()) ∧ n'.words = n.words ∧ d'.words = d.words ∧ (n'.neg = true ↔ q.num < 0):=by
   have hdn:=hd.neg_iff hw
   have hnn:=hn.neg_iff hv
   cases hdg:d.neg with
   | false =>
    refine ⟨n,d,rfl,rfl,rfl,?_⟩
    rw [hdg] at hdn
    rw [hnn]
    exact e3 (by simp at hdn;omega)
   | true =>
    rw [hdg] at hdn
    obtain ⟨x,x1,x2,x3⟩:=f_opposite hn
    obtain ⟨y,y1,y2,y3⟩:=f_opposite hd
    rw [x1,y1]
    refine ⟨x,y,rfl,x3,y3,?_⟩
    rw [x2.neg_iff (by omega),← e4 (hdn.1 rfl)]
    omega
  have hw2:=hd.wd
  have hn2:=hn.wd
  rw [p]
  simp only [Option.bind_some]
  rw [pn,pd]
  obtain ⟨g,g1,g2⟩:=f_common hn2 hw2 (by omega) (by omega) hn.len hd.len
  have hgp:0 < Nat.gcd v.natAbs w.natAbs:=Nat.gcd_pos_of_pos_left _ (by omega)
  have hgl:g.length ≤ 8000000:=Nat.le_trans (g2.le hn2 (Nat.gcd_le_left _ (by omega))) hn.len
  obtain ⟨x,x1,x2,x3⟩:=f_divided hn2 g2 hgp hn.len hgl
  obtain ⟨y,y1,y2,y3⟩:=f_divided hw2 g2 hgp hd.len hgl
  rw [g1]
  simp only [Option.bind_some]
  rw [x1,y1]
  refine ⟨_,rfl,?_,?_,?_,?_⟩
  ·rw [e1] at x2
   exact num_of x2 (Nat.le_trans x3 hn.len) rfl fun _=>nn
  ·rw [e2] at y2
   refine num_of y2 (Nat.le_trans y3 hd.len) (by omega) fun _=>?_
   simp
  ·exact Nat.le_trans x3 hln
  ·exact Nat.le_trans y3 hld
theorem f_eplus {x y:Texact} {q r:Rat} {c e:Nat} (hx:Xq x q c) (hy:Xq y r e) (hc:2 ≤ c + e) (hm:c + e + 1 ≤ 8000000):∃ z,F_beam_exact__plus x y = some z ∧ Xq z (q + r) (c + e + 1):=by
 unfold F_beam_exact__plus
 have l1:=hx.ln
 have l2:=hx.ld
 have l3:=hy.ln
 have l4:=hy.ld
 obtain ⟨a,a1,a2,a3⟩:=f_times hx.n hy.d (by omega)
 obtain ⟨b,b1,b2,b3⟩:=f_times hy.n hx.d (by omega)
 obtain ⟨s,s1,s2,s3⟩:=f_nplus a2 b2 (by omega)
 obtain ⟨d,d1,d2,d3⟩:=f_times hx.d hy.d (by omega)
 have hw:(q.den:Int) * (r.den:Int) ≠ 0:=by
  have h1:=q.den_nz
  have h2:=r.den_nz
  intro e
  rcases Int.mul_eq_zero.1 e with e | e <;> omega
 obtain ⟨z,z1,z2⟩:=f_lowest (q:=q + r) (c:=c + e + 1) s2 d2 hw (by
  have h1:=q_mul q
  have h2:=q_mul r
  simp only [Rat.intCast_mul,Rat.intCast_add]
  grind) (by omega) (by omega) (by omega)
 rw [a1,b1]
 simp only [Option.bind_some]
 rw [s1,d1]
 simp only [Option.bind_some]
 rw [z1]
 exact ⟨z,rfl,z2⟩
theorem f_eless {x y:Texact} {q r:Rat} {c e:Nat} (hx:Xq x q c) (hy:Xq y r e) (hc:2 ≤ c + e) (hm:c + e + 1 ≤ 8000000):∃ z,F_beam_exact__less x y = some z ∧ Xq z (q - r) (c + e + 1):=by
 unfold F_beam_exact__less
 obtain ⟨a,a1,a2,a3⟩:=f_opposite hy.n
 rw [a1]
 simp only [Option.bind_some]
 obtain ⟨z,z1,z2⟩:=f_eplus (y:=⟨a,y.d⟩) (r:=-r) hx ⟨a2,hy.d,by rw [a3];exact hy.ln,hy.ld⟩ hc hm
 rw [z1]
 exact ⟨z,rfl,z2.cast (by rw [Rat.sub_eq_add_neg])⟩
theorem f_etimes {x y:Texact} {q r:Rat} {c e:Nat} (hx:Xq x q c) (hy:Xq y r e) (hc:2 ≤ c + e) (hm:c + e ≤ 8000000):∃ z,F_beam_exact__times x y = some z ∧ Xq z (q * r) (c + e):=by
 unfold F_beam_exact__times
 have l1:=hx.ln
 have l2:=hx.ld
 have l3:=hy.ln
 have l4:=hy.ld
 obtain ⟨a,a1,a2,a3⟩:=f_times hx.n hy.n (by omega)
 obtain ⟨d,d1,d2,d3⟩:=f_times hx.d hy.d (by omega)
 have hw:(q.den:Int) * (r.den:Int) ≠ 0:=by
  have h1:=q.den_nz
  have h2:=r.den_nz
  intro e
  rcases Int.mul_eq_zero.1 e with e | e <;> omega
 obtain ⟨z,z1,z2⟩:=f_lowest (q:=q * r) (c:=c + e) a2 d2 hw (by
  have h1:=q_mul q
  have h2:=q_mul r
  simp only [Rat.intCast_mul]
  grind) (by omega) (by omega) (by omega)
 rw [a1,d1]
 simp only [Option.bind_some]
 rw [z1]
 exact ⟨z,rfl,z2⟩
theorem f_eby {x y:Texact} {q r:Rat} {c e:Nat} (hx:Xq x q c) (hy:Xq y r e) (hr:r ≠ 0) (hc:2 ≤ c + e) (hm:c + e ≤ 8000000):∃ z,F_beam_exact__by x y = some z ∧ Xq z (q / r) (c + e):=by
 unfold F_beam_exact__by
 have l1:=hx.ln
 have l2:=hx.ld
 have l3:=hy.ln
 have l4:=hy.ld
 obtain ⟨a,a1,a2,a3⟩:=f_times hx.n hy.d (by omega)
 obtain ⟨d,d1,d2,d3⟩:=f_times hx.d hy.n (by omega)
 have hw:(q.den:Int) * r.num ≠ 0:=by
  have h1:=q.den_nz
  intro e
  rcases Int.mul_eq_zero.1 e with e | e
  ·omega
  ·exact hr (Rat.num_eq_zero.1 e)
 obtain ⟨z,z1,z2⟩:=f_lowest (q:=q / r) (c:=c + e) a2 d2 hw (by
  have h1:=q_mul q
  have h2:=q_mul r
  simp only [Rat.intCast_mul]
  grind) (by omega) (by omega) (by omega)
 rw [a1,d1]
 simp only [Option.bind_some]
 rw [z1]
 exact ⟨z,rfl,z2⟩
theorem int_ne {n:Int} (h:n ≠ 0):(n:Rat) ≠ 0:=by
 intro e
 exact h (Rat.intCast_inj.1 (show (n:Rat) = ((0:Int):Rat) from e))
def prodZ:List Int → Int
 | []=>1
 | x :: l=>x * prodZ l
theorem prodZ_append:∀ (a b:List Int),prodZ (a ++ b) = prodZ a * prodZ b
 | [],b=>by simp [prodZ]
 | x :: a,b=>by simp only [List.cons_append,prodZ,prodZ_append a b,Int.mul_assoc]
theorem f_eproduct (d:Int) (l:List Int) (h3:-9223372036854775808 ≤ d) (h4:d ≤ 9223372036854775807) (hd:d ≠ 0) (hl:∀ x ∈ l,-9223372036854775808 ≤ x ∧ x ≤ 9223372036854775807) (hll:l.length ≤ 1000) :
  ∃ r,F_beam_product d l = some r ∧ Xq r ((prodZ l:Rat) / (d:Rat)) (2 * l.length + 2):=by
 unfold F_beam_product
 obtain ⟨o,o1,o2,o3⟩:=f_integer 1 (by omega) (by omega)
 rw [o1]
 simp only [Option.bind_some]
 refine iter_bind (Q:=fun r:Tnumber × Unit=>Num r.1 (prodZ l) ∧ r.1.words.length ≤ 2 * l.length + 2) (fun k s=>∃ t,s = ((k:Int),t,()) ∧ k ≤ l.length ∧ Num t (prodZ (l.take k)) ∧ t.words.length ≤ 2 * k + 2) l.length (by unfold big;omega) ?_ ⟨o,rfl,Nat.zero_le _,o2,by omega⟩ ?_
 ·rintro k s hk ⟨t,rfl,_,ht,htl⟩
  rcases Nat.lt_or_ge k l.length with hlt | hge
  ·have hx:=hl l[k] (List.getElem_mem _)
   obtain ⟨a,a1,a2,a3⟩:=f_integer l[k] hx.1 hx.2
   obtain ⟨p,p1,p2,p3⟩:=f_times ht a2 (by omega)
   have e0:decide ((k:Int) < ((l.length:Nat):Int)) = true:=by simp;omega
   refine .inl ⟨_,?_,hlt,p,rfl,hlt,?_,by omega⟩
   ·simp only [e0,cond_true]
    rw [idx_nat hlt]
    simp only [Option.bind_some]
    rw [a1]
    simp only [Option.bind_some]
    rw [p1,wrap64 (by omega) (by omega)]
    rfl
   ·rw [List.take_succ_eq_append_getElem hlt,prodZ_append]
    simpa [prodZ] using p2
  ·have hk':k = l.length:=by omega
   subst hk'
   have e0:decide (((l.length:Nat):Int) < ((l.length:Nat):Int)) = false:=by simp
   rw [List.take_length] at ht
   exact .inr ⟨(t,()),by simp only [e0,cond_false],ht,htl⟩
 ·rintro ⟨t,u⟩ ⟨t1,t2⟩
  simp only at t1 t2 ⊢
  obtain ⟨b,b1,b2,b3⟩:=f_integer d h3 h4
  obtain ⟨z,z1,z2⟩:=f_lowest (q:=(prodZ l:Rat) / (d:Rat)) (c:=2 * l.length + 2) t1 b2 hd (by have:=int_ne hd;grind) t2 (by omega) (by omega)
  rw [b1]
  simp only [Option.bind_some]
  rw [z1]
  exact ⟨z,rfl,z2⟩
end Go.Proofs.YtgbicnkpnhifgaaGreatDoor

namespace Go.Proofs.YtgbicnkpnhifgaaGreatDoor
theorem or64 (m h:Nat) (hm:m < 4294967296) (hh:h < 4294967296):bitsOf .or .u64 (m:Int) ((h * 4294967296:Nat):Int) = ((m + h * 4294967296:Nat):Int):=by
 unfold bitsOf
 rw [wrap_u]
 have e0:((2 ^ 64:Nat):Int) = 18446744073709551616:=by decide
 have h1:(BitVec.ofInt IntKind.u64.bits (m:Int) ||| BitVec.ofInt IntKind.u64.bits ((h * 4294967296:Nat):Int)).toNat = m ||| h * 4294967296:=by
  show (BitVec.ofInt 64 (m:Int) ||| BitVec.ofInt 64 ((h * 4294967296:Nat):Int)).toNat = _
  rw [BitVec.toNat_or,BitVec.toNat_ofInt,BitVec.toNat_ofInt]
  have e1:((m:Int) % ((2 ^ 64:Nat):Int)).toNat = m:=by
   rw [e0,Int.emod_eq_of_lt (by omega) (by omega)];exact Int.toNat_natCast _
  have e2:(((h * 4294967296:Nat):Int) % ((2 ^ 64:Nat):Int)).toNat = h * 4294967296:=by
   rw [e0,Int.emod_eq_of_lt (by omega) (by omega)];exact Int.toNat_natCast _
  rw [e1,e2]
 have h2:m ||| h * 4294967296 = m + h * 4294967296:=by
  have:=Nat.two_pow_add_eq_or_of_lt (i:=32) (b:=m) (by omega) h
  rw [Nat.or_comm,Nat.mul_comm h,Nat.add_comm m]
  exact this.symm
 show ((BitVec.ofInt IntKind.u64.bits (m:Int) ||| BitVec.ofInt IntKind.u64.bits ((h * 4294967296:Nat):Int)).toNat:Int) % 18446744073709551616 = _
 rw [h1,h2]
 omega
theorem or_word {l:List Int} {k:Nat} (hd:dig (4294967296:Int) l) (hk:k < 2):bitsOf .or .u64 (bv (4294967296:Int) (l.take k)) (IntKind.u64.wrap ((IntKind.u64.wrap (dg l k)) * 2 ^ min (Int.toNat (IntKind.i64.wrap (32 * (k:Int)))) IntKind.u64.bits)) = bv (4294967296:Int) (l.take (k + 1)):=by
 have hr:=dg_range (by decide) hd k
 have h0:=dg_range (by decide) hd 0
 rw [bv_take_succ]
 obtain ⟨x,hx⟩:∃ x,dg l k = x:=⟨_,rfl⟩
 rw [hx] at hr ⊢
 have w1:IntKind.u64.wrap x = x:=by rw [wrap_u];omega
 rw [w1]
 obtain ⟨n,rfl⟩:=Int.eq_ofNat_of_zero_le hr.1
 rcases Nat.lt_or_ge k 1 with h | h
 ·have:k = 0:=by omega
  subst this
  have e1:(2:Int) ^ min (Int.toNat (IntKind.i64.wrap (32 * ((0:Nat):Int)))) IntKind.u64.bits = 1:=by decide
  rw [e1,Int.mul_one,w1]
  have:=or64 n 0 (by omega) (by omega)
  simp only [List.take_zero,bv,Int.pow_zero,Int.one_mul,Int.zero_add]
  simp only [Nat.zero_mul,Nat.add_zero] at this
  refine Eq.trans ?_ this
  show IntKind.u64.wrap (((BitVec.ofInt IntKind.u64.bits 0) ||| (BitVec.ofInt IntKind.u64.bits (n:Int))).toNat:Int) = IntKind.u64.wrap (((BitVec.ofInt IntKind.u64.bits (n:Int)) ||| (BitVec.ofInt IntKind.u64.bits ((0:Nat):Int))).toNat:Int)
  rw [BitVec.or_comm]
  rfl
 ·have:k = 1:=by omega
  subst this
  have e1:(2:Int) ^ min (Int.toNat (IntKind.i64.wrap (32 * ((1:Nat):Int)))) IntKind.u64.bits = 4294967296:=by decide
  have e2:bv (4294967296:Int) (l.take 1) = dg l 0:=by rw [show (1:Nat) = 0 + 1 from rfl,bv_take_succ];simp [bv]
  rw [e1,e2]
  obtain ⟨m,hm⟩:=Int.eq_ofNat_of_zero_le h0.1
  rw [hm] at h0 ⊢
  have e3:IntKind.u64.wrap ((n:Int) * 4294967296) = ((n * 4294967296:Nat):Int):=by rw [wrap_u];omega
  rw [e3,or64 m n (by omega) (by omega)]
  simp only [Int.pow_one]
  omega
theorem big_words {l:List Int} {u:Nat} (h:Wd l u) (hl:2 < l.length):18446744073709551616 ≤ u:=by
 have h1:=bv_lt_len (B:=(4294967296:Int)) (a:=[4294967295,4294967295]) (by decide) (by intro x hx;simp at hx;subst hx;omega) h.dig h.tight (by simp;omega)
 rw [h.val] at h1
 simp [bv] at h1
 omega
set_option maxHeartbeats 1000000 in
theorem f_fraction {x:Texact} {q:Rat} {c:Nat} (h:Xq x q c):F_beam_exact__fraction x = some (outQ q):=by
 suffices hs:∃ r,F_beam_exact__fraction x = some r ∧ r = outQ q by
  obtain ⟨r,h1,rfl⟩:=hs
  exact h1
 have hn:=h.n.wd
 have hd:=h.d.wd
 have hnn:=h.n.neg_iff
 obtain ⟨⟨neg,wn⟩,⟨dneg,wd⟩⟩:=x
 simp only at hn hd hnn
 unfold F_beam_exact__fraction
 dsimp only
 rcases Nat.lt_or_ge 2 wn.length with hl | hl
 ·have:=big_words hn hl
  rw [decide_eq_true (by omega)]
  refine ⟨_,rfl,?_⟩
  rw [fr_big]
  unfold fitQ;omega
 ·rw [decide_eq_false (by omega),cond_false]
  refine iter_bind (Q:=fun r:TAr302 × Unit=>r.1 = ⟨(q.num.natAbs:Int),0⟩) (fun k s=>k ≤ wn.length ∧ s = ((k:Int),⟨bv (4294967296:Int) (wn.take k),0⟩,())) wn.length (by unfold big;omega) ?_ ⟨Nat.zero_le _,by simp [bv]⟩ ?_
  ·rintro k s hk ⟨_,rfl⟩
   rcases Nat.lt_or_ge k wn.length with hlt | hge
   ·have e0:decide ((k:Int) < ((wn.length:Nat):Int)) = true:=decide_eq_true (by omega)
    have e1:¬ (IntKind.i64.wrap (32 * (k:Int)) < 0):=by rw [wrap64 (by omega) (by omega)];omega
    refine .inl ⟨_,?_,hlt,hlt,rfl⟩
    simp only [e0,cond_true]
    rw [idx_nat hlt,← dg_get hlt]
    simp only [Option.bind_some]
    rw [if_neg e1,or_word hn.dig (by omega),wrap64 (n:=(k:Int) + 1) (by omega) (by omega)]
    rfl
   ·have hk':k = wn.length:=by omega
    subst hk'
    have e0:decide (((wn.length:Nat):Int) < ((wn.length:Nat):Int)) = false:=by simp
    refine .inr ⟨(⟨bv (4294967296:Int) wn,0⟩,()),by simp only [e0,cond_false,List.take_length],?_⟩
    rw [hn.val]
  ·rintro ⟨y,u⟩ hy
   simp only at hy ⊢
   subst hy
   dsimp only
   by_cases f1:(q.num.natAbs:Int) > 1152921504606846976
   ·rw [decide_eq_true f1]
    refine ⟨_,rfl,?_⟩
    rw [fr_big]
    unfold fitQ;omega
   ·rw [decide_eq_false f1,cond_false]
    rcases Nat.lt_or_ge 2 wd.length with hl2 | hl2
    ·have:=big_words hd hl2
     rw [decide_eq_true (by omega)]
     refine ⟨_,rfl,?_⟩
     rw [fr_big]
     unfold fitQ;omega
    ·rw [decide_eq_false (by omega),cond_false]
     refine iter_bind (Q:=fun r:TAr302 × Unit=>r.1 = ⟨(q.num.natAbs:Int),(q.den:Int)⟩) (fun k s=>k ≤ wd.length ∧ s = ((k:Int),⟨(q.num.natAbs:Int),bv (4294967296:Int) (wd.take k)⟩,())) wd.length (by unfold big;omega) ?_ ⟨Nat.zero_le _,by simp [bv]⟩ ?_
     ·rintro k s hk ⟨_,rfl⟩
      rcases Nat.lt_or_ge k wd.length with hlt | hge
      ·have e0:decide ((k:Int) < ((wd.length:Nat):Int)) = true:=decide_eq_true (by omega)
       have e1:¬ (IntKind.i64.wrap (32 * (k:Int)) < 0):=by rw [wrap64 (by omega) (by omega)];omega
       refine .inl ⟨_,?_,hlt,hlt,rfl⟩
       simp only [e0,cond_true]
       rw [idx_nat hlt,← dg_get hlt]
       simp only [Option.bind_some]
       rw [if_neg e1,or_word hd.dig (by omega),wrap64 (n:=(k:Int) + 1) (by omega) (by omega)]
       rfl
      ·have hk':k = wd.length:=by omega
       subst hk'
       have e0:decide (((wd.length:Nat):Int) < ((wd.length:Nat):Int)) = false:=by simp
       refine .inr ⟨(⟨(q.num.natAbs:Int),bv (4294967296:Int) wd⟩,()),by simp only [e0,cond_false,List.take_length],?_⟩
       rw [hd.val];rfl
     ·rintro ⟨y,u⟩ hy
      simp only at hy ⊢
      subst hy
      dsimp only
      by_cases f2:(q.den:Int) > 1152921504606846976
      ·rw [decide_eq_true f2]
       refine ⟨_,rfl,?_⟩
       rw [fr_big]
       unfold fitQ;omega
      ·rw [decide_eq_false f2,cond_false,fr_fit (by unfold fitQ;omega)]
       rw [wrap64 (n:=(q.num.natAbs:Int)) (by omega) (by omega),wrap64 (n:=(q.den:Int)) (by omega) (by omega),wrap64 (n:=0 - (q.num.natAbs:Int)) (by omega) (by omega)]
       unfold frQ
       cases neg with
       | true =>
        refine ⟨_,rfl,?_⟩
        rcases Decidable.em (q.num = 0) with h0 | h0
        ·rw [h0];rfl
        ·have:=(hnn h0).1 rfl
         dsimp only
         rw [show (0:Int) - (q.num.natAbs:Int) = q.num from by omega]
       | false =>
        refine ⟨_,rfl,?_⟩
        have:¬ q.num < 0:=fun hneg=>by
         have:=(hnn (by omega)).2 hneg
         cases this
        dsimp only
        rw [show ((q.num.natAbs:Nat):Int) = q.num from by omega]
theorem f_fractions {l:List Texact} {qs:List Rat} {c:Nat} (hl:l.length ≤ 1000000) (hq:l.length = qs.length) (hR:∀ (i:Nat) (h:i < l.length) (h2:i < qs.length),Xq l[i] qs[i] c):F_beam_fractions l = some (outL qs):=by
 unfold F_beam_fractions
 exact iter_told (T:=F_beam_exact__fraction) (R:=fun a q=>Xq a q c) (fun a q h=>f_fraction h) hl hq hR
end Go.Proofs.YtgbicnkpnhifgaaGreatDoor

namespace Go.Proofs.YtgbicnkpnhifgaaGreatDoor
theorem loop_sum {α τ γ:Type} {F:Int × τ × Unit → Option ((Int × τ × Unit) ⊕ (τ × Unit))} {K:τ × Unit → Option γ} {P:γ → Prop} {w:List α} (R:τ → Rat → Nat → Prop) (f:α → Rat) (e:Nat) (hw:w.length ≤ 1000000) {t0:τ} {q0:Rat} {c0:Nat} (h0:R t0 q0 c0)
  (hin:∀ (k:Nat) (h:k < w.length) (t:τ) (q:Rat),R t q (c0 + e * k) → ∃ t',F ((k:Int),t,()) = some (.inl (((k + 1:Nat):Int),t',())) ∧ R t' (q + f w[k]) (c0 + e * k + e))
  (hout:∀ t,F ((w.length:Int),t,()) = some (.inr (t,())))
  (hK:∀ t,R t (q0 + sumQ f w) (c0 + e * w.length) → ∃ y,K (t,()) = some y ∧ P y):∃ y,(iterF F big (0,t0,())).bind K = some y ∧ P y:=by
 refine iter_bind (Q:=fun s:τ × Unit=>R s.1 (q0 + sumQ f w) (c0 + e * w.length)) (fun k s=>k ≤ w.length ∧ ∃ t,s = ((k:Int),t,()) ∧ R t (q0 + sumQ f (w.take k)) (c0 + e * k)) w.length (by unfold big;omega) ?_ ⟨Nat.zero_le _,t0,rfl,?_⟩ ?_
 ·rintro k s hk ⟨_,t,rfl,ht⟩
  rcases Nat.lt_or_ge k w.length with hlt | hge
  ·obtain ⟨t',h1,h2⟩:=hin k hlt t _ ht
   refine .inl ⟨_,h1,hlt,hlt,t',rfl,?_⟩
   have e1:q0 + sumQ f (w.take (k + 1)) = q0 + sumQ f (w.take k) + f w[k]:=by rw [sumQ_take f hlt];grind
   rw [e1,Nat.mul_succ,← Nat.add_assoc]
   exact h2
  ·have hk':k = w.length:=by omega
   subst hk'
   rw [List.take_length] at ht
   exact .inr ⟨(t,()),hout t,ht⟩
 ·simp only [List.take_zero,sumQ,Nat.mul_zero,Nat.add_zero]
  have:q0 + 0 = q0:=by grind
  rw [this];exact h0
 ·rintro ⟨t,u⟩ h
  exact hK t h
def lds (w:List TLoad):List Ld:=w.map fun x=>(x.at_,x.weight)
def LoadOk (L:Int) (x:TLoad):Prop:=0 ≤ x.at_ ∧ x.at_ ≤ L ∧ 0 ≤ x.weight ∧ x.weight ≤ 67108864
structure BeamIn (b:TBeam):Prop where
 l0:1 ≤ b.length
 l1:b.length ≤ 1048576
 e0:0 ≤ b.even
 e1:b.even ≤ 1048576
 ld:∀ x ∈ b.loads,LoadOk b.length x
 ln:b.loads.length ≤ 40
theorem Xq.skip {x:Texact} {q:Rat} {c e:Nat} (h:Xq x q c):Xq x (q + 0) (c + e):=(h.mono (Nat.le_add_right _ _)).cast (by grind)
theorem prod2 (a b:Int):(prodZ [a,b]:Rat) = (a:Rat) * b:=by simp only [prodZ,Int.mul_one];rw [Rat.intCast_mul]
theorem prod3 (a b c:Int):(prodZ [a,b,c]:Rat) = (a:Rat) * b * c:=by simp only [prodZ,Int.mul_one];rw [Rat.intCast_mul,Rat.intCast_mul,Rat.mul_assoc]
theorem prod4 (a b c d:Int):(prodZ [a,b,c,d]:Rat) = (a:Rat) * b * c * d:=by simp only [prodZ,Int.mul_one];rw [Rat.intCast_mul,Rat.intCast_mul,Rat.intCast_mul];grind
theorem div_one' (q:Rat):q / ((1:Int):Rat) = q:=by
 have:((1:Int):Rat) = 1:=rfl
 rw [this];grind
theorem f_over2 {b:TBeam} (hb:BeamIn b) {a:Int} (ha:b.supports.head? = some a) (h0:0 ≤ a) (h1:a ≤ b.length):∃ r,F_beam_overhang b = some r ∧ Xq r (0 - overQ b.even (lds b.loads) a) 300:=by
 unfold F_beam_overhang
 have hl:=hb.l1
 have he0:=hb.e0
 have he1:=hb.e1
 have hln:=hb.ln
 have hx:idx b.supports 0 = some a:=by
  cases hs:b.supports with
  | nil=>rw [hs] at ha;simp at ha
  | cons x t=>rw [hs] at ha;simp at ha;subst ha;rfl
 obtain ⟨p,p1,p2⟩:=f_eproduct 2000 [b.even,a,a] (by omega) (by omega) (by omega) (by intro x hx;simp at hx;omega) (by simp)
 rw [hx]
 simp only [Option.bind_some]
 rw [p1]
 simp only [Option.bind_some]
 refine loop_sum (w:=b.loads) (fun t q c=>Xq t q c) (fun x=>if x.at_ < a then (x.weight:Rat) * (a - x.at_) else 0) 7 (by omega) p2 ?_ ?_ ?_
 ·intro k h t q ht
  have hx:=hb.ld _ (List.getElem_mem h)
  obtain ⟨x0,x1,x2,x3⟩:=hx
  have e0:decide ((k:Int) < ((b.loads.length:Nat):Int)) = true:=decide_eq_true (by omega)
  simp only [e0,cond_true]
  rw [idx_nat h]
  simp only [Option.bind_some]
  generalize b.loads[k] = x at *
  by_cases hc:x.at_ < a
  ·rw [decide_eq_true hc,if_pos hc,cond_true,wrap64 (n:=a - x.at_) (by omega) (by omega)]
   obtain ⟨z,z1,z2⟩:=f_eproduct 1 [x.weight,a - x.at_] (by omega) (by omega) (by omega) (by intro y hy;simp at hy;omega) (by simp)
   obtain ⟨s,s1,s2⟩:=f_eplus ht z2 (by omega) (by simp only [List.length_cons,List.length_nil];omega)
   rw [z1]
   simp only [Option.bind_some]
   rw [s1]
   simp only [Option.bind_some]
   rw [wrap64 (n:=(k:Int) + 1) (by omega) (by omega)]
   refine ⟨s,rfl,(s2.mono (by simp only [List.length_cons,List.length_nil];omega)).cast ?_⟩
   rw [div_one',prod2,Rat.intCast_sub]
  ·rw [decide_eq_false hc,if_neg hc,cond_false]
   simp only [Option.bind_some]
   rw [wrap64 (n:=(k:Int) + 1) (by omega) (by omega)]
   exact ⟨t,rfl,ht.skip⟩
 ·intro t
  have e0:decide (((b.loads.length:Nat):Int) < ((b.loads.length:Nat):Int)) = false:=by simp
  simp only [e0,cond_false]
 ·intro t ht
  obtain ⟨z,z1,z2⟩:=f_whole 0 (by omega) (by omega)
  obtain ⟨s,s1,s2⟩:=f_eless z2 ht (by omega) (by simp only [List.length_cons,List.length_nil];omega)
  simp only
  rw [z1]
  simp only [Option.bind_some]
  rw [s1]
  refine ⟨s,rfl,(s2.mono (by simp only [List.length_cons,List.length_nil];omega)).cast ?_⟩
  unfold overQ lds
  rw [sumQ_map,prod3]
  rfl
theorem f_side {b:TBeam} (hb:BeamIn b) {fr to:Int} (left:Bool) (h0:0 ≤ fr) (h1:fr < to) (h2:to ≤ b.length):∃ r,F_beam_side b fr to left = some r ∧ Xq r (sideQ b.even (lds b.loads) fr to left) 400:=by
 unfold F_beam_side
 have hl:=hb.l1
 have he0:=hb.e0
 have he1:=hb.e1
 have hln:=hb.ln
 have hll:IntKind.i64.wrap (to - fr) = to - fr:=wrap64 (by omega) (by omega)
 obtain ⟨p,p1,p2⟩:=f_eproduct 4000 [b.even,to - fr,to - fr,to - fr] (by omega) (by omega) (by omega) (by intro x hx;simp at hx;omega) (by simp)
 rw [hll,p1]
 simp only [Option.bind_some]
 refine loop_sum (w:=b.loads) (fun t q c=>Xq t q c) (fun x=>if x.at_ ≤ fr ∨ to ≤ x.at_ then 0 else
  (x.weight:Rat) * ((if left then x.at_ - fr else to - x.at_:Int):Rat) * (((to - fr) * (to - fr) - (if left then x.at_ - fr else to - x.at_) * (if left then x.at_ - fr else to - x.at_):Int):Rat) / ((to - fr:Int):Rat)) 9 (by omega) p2 ?_ ?_ ?_
 ·intro k h t q ht
  have hx:=hb.ld _ (List.getElem_mem h)
  obtain ⟨x0,x1,x2,x3⟩:=hx
  have e0:decide ((k:Int) < ((b.loads.length:Nat):Int)) = true:=decide_eq_true (by omega)
  simp only [e0,cond_true]
  rw [idx_nat h]
  simp only [Option.bind_some]
  generalize b.loads[k] = x at *
  by_cases hc:x.at_ ≤ fr ∨ to ≤ x.at_
  ·have ht1:(((bif (decide (x.at_ ≤ fr)) then some (true,()) else some ((decide (x.at_ ≥ to)),())):Option (Bool × Unit))) = some (true,()):=by
    rcases Int.lt_or_le fr x.at_ with h3 | h3
    ·rw [decide_eq_false (by omega),cond_false,decide_eq_true (by omega)]
    ·rw [decide_eq_true h3];rfl
   rw [ht1,if_pos hc]
   simp only [Option.bind_some,cond_true]
   rw [wrap64 (n:=(k:Int) + 1) (by omega) (by omega)]
   exact ⟨t,rfl,ht.skip⟩
  ·have ht1:(((bif (decide (x.at_ ≤ fr)) then some (true,()) else some ((decide (x.at_ ≥ to)),())):Option (Bool × Unit))) = some (false,()):=by
    rw [decide_eq_false (by omega),cond_false,decide_eq_false (by omega)]
   rw [ht1,if_neg hc]
   simp only [Option.bind_some,cond_false]
   obtain ⟨a,ha⟩:∃ a,(if left then x.at_ - fr else to - x.at_:Int) = a:=⟨_,rfl⟩
   have hab:0 < a ∧ a < to - fr:=by rw [← ha];split <;> omega
   have hy:(((bif (!left) then some ((IntKind.i64.wrap (to - x.at_)),()) else some ((IntKind.i64.wrap (x.at_ - fr)),())):Option (Int × Unit))) = some (a,()):=by
    rw [← ha,wrap64 (n:=to - x.at_) (by omega) (by omega),wrap64 (n:=x.at_ - fr) (by omega) (by omega)]
    cases left <;> rfl
   rw [hy,ha]
   simp only [Option.bind_some]
   have hsq1:(to - fr) * (to - fr) ≤ 1048576 * 1048576:=Int.mul_le_mul (by omega) (by omega) (by omega) (by omega)
   have hsq2:a * a ≤ (to - fr) * (to - fr):=Int.mul_le_mul (by omega) (by omega) (by omega) (by omega)
   have hsq0:0 ≤ a * a:=Int.mul_nonneg (by omega) (by omega)
   rw [wrap64 (n:=(to - fr) * (to - fr)) (by omega) (by omega),wrap64 (n:=a * a) (by omega) (by omega),wrap64 (n:=(to - fr) * (to - fr) - a * a) (by omega) (by omega)]
   obtain ⟨z,z1,z2⟩:=f_eproduct (to - fr) [x.weight,a,(to - fr) * (to - fr) - a * a] (by omega) (by omega) (by omega) (by intro y hy;simp at hy;omega) (by simp)
   obtain ⟨s,s1,s2⟩:=f_eplus ht z2 (by omega) (by simp only [List.length_cons,List.length_nil];omega)
   rw [z1]
   simp only [Option.bind_some]
   rw [s1]
   simp only [Option.bind_some]
   rw [wrap64 (n:=(k:Int) + 1) (by omega) (by omega)]
   refine ⟨s,rfl,(s2.mono (by simp only [List.length_cons,List.length_nil];omega)).cast ?_⟩
   rw [prod3]
 ·intro t
  have e0:decide (((b.loads.length:Nat):Int) < ((b.loads.length:Nat):Int)) = false:=by simp
  simp only [e0,cond_false]
 ·intro t ht
  refine ⟨t,rfl,(ht.mono (by simp only [List.length_cons,List.length_nil];omega)).cast ?_⟩
  unfold sideQ lds
  rw [sumQ_map,prod4]
  rfl
theorem f_lever {b:TBeam} (hb:BeamIn b) {fr to:Int} (left:Bool) (h0:0 ≤ fr) (h1:fr < to) (h2:to ≤ b.length):∃ r,F_beam_lever b fr to left = some r ∧ Xq r (leverQ b.even (lds b.loads) fr to left) 300:=by
 unfold F_beam_lever
 have hl:=hb.l1
 have he0:=hb.e0
 have he1:=hb.e1
 have hln:=hb.ln
 have hll:IntKind.i64.wrap (to - fr) = to - fr:=wrap64 (by omega) (by omega)
 obtain ⟨p,p1,p2⟩:=f_eproduct 2000 [b.even,to - fr] (by omega) (by omega) (by omega) (by intro x hx;simp at hx;omega) (by simp)
 rw [hll,p1]
 simp only [Option.bind_some]
 refine loop_sum (w:=b.loads) (fun t q c=>Xq t q c) (fun x=>if x.at_ ≤ fr ∨ to ≤ x.at_ then 0 else (x.weight:Rat) * ((if left then to - x.at_ else x.at_ - fr:Int):Rat) / ((to - fr:Int):Rat)) 7 (by omega) p2 ?_ ?_ ?_
 ·intro k h t q ht
  have hx:=hb.ld _ (List.getElem_mem h)
  obtain ⟨x0,x1,x2,x3⟩:=hx
  have e0:decide ((k:Int) < ((b.loads.length:Nat):Int)) = true:=decide_eq_true (by omega)
  simp only [e0,cond_true]
  rw [idx_nat h]
  simp only [Option.bind_some]
  generalize b.loads[k] = x at *
  by_cases hc:x.at_ ≤ fr ∨ to ≤ x.at_
  ·have ht1:(((bif (decide (x.at_ ≤ fr)) then some (true,()) else some ((decide (x.at_ ≥ to)),())):Option (Bool × Unit))) = some (true,()):=by
    rcases Int.lt_or_le fr x.at_ with h3 | h3
    ·rw [decide_eq_false (by omega),cond_false,decide_eq_true (by omega)]
    ·rw [decide_eq_true h3];rfl
   rw [ht1,if_pos hc]
   simp only [Option.bind_some,cond_true]
   rw [wrap64 (n:=(k:Int) + 1) (by omega) (by omega)]
   exact ⟨t,rfl,ht.skip⟩
  ·have ht1:(((bif (decide (x.at_ ≤ fr)) then some (true,()) else some ((decide (x.at_ ≥ to)),())):Option (Bool × Unit))) = some (false,()):=by
    rw [decide_eq_false (by omega),cond_false,decide_eq_false (by omega)]
   rw [ht1,if_neg hc]
   simp only [Option.bind_some,cond_false]
   obtain ⟨a,ha⟩:∃ a,(if left then to - x.at_ else x.at_ - fr:Int) = a:=⟨_,rfl⟩
   have hab:0 < a ∧ a < to - fr:=by rw [← ha];split <;> omega
   have hy:(((bif (!left) then some ((IntKind.i64.wrap (x.at_ - fr)),()) else some ((IntKind.i64.wrap (to - x.at_)),())):Option (Int × Unit))) = some (a,()):=by
    rw [← ha,wrap64 (n:=to - x.at_) (by omega) (by omega),wrap64 (n:=x.at_ - fr) (by omega) (by omega)]
    cases left <;> rfl
   rw [hy,ha]
   simp only [Option.bind_some]
   obtain ⟨z,z1,z2⟩:=f_eproduct (to - fr) [x.weight,a] (by omega) (by omega) (by omega) (by intro y hy;simp at hy;omega) (by simp)
   obtain ⟨s,s1,s2⟩:=f_eplus ht z2 (by omega) (by simp only [List.length_cons,List.length_nil];omega)
   rw [z1]
   simp only [Option.bind_some]
   rw [s1]
   simp only [Option.bind_some]
   rw [wrap64 (n:=(k:Int) + 1) (by omega) (by omega)]
   refine ⟨s,rfl,(s2.mono (by simp only [List.length_cons,List.length_nil];omega)).cast ?_⟩
   rw [prod2]
 ·intro t
  have e0:decide (((b.loads.length:Nat):Int) < ((b.loads.length:Nat):Int)) = false:=by simp
  simp only [e0,cond_false]
 ·intro t ht
  refine ⟨t,rfl,(ht.mono (by simp only [List.length_cons,List.length_nil];omega)).cast ?_⟩
  unfold leverQ lds
  rw [sumQ_map,prod2]
  rfl
theorem f_beyond {b:TBeam} (hb:BeamIn b) {a:Int} (h0:0 ≤ a) (h1:a ≤ b.length):∃ r,F_beam_beyond b a = some r ∧ Xq r (beyondQ b.even (lds b.loads) a) 200:=by
 unfold F_beam_beyond
 have hl:=hb.l1
 have he0:=hb.e0
 have he1:=hb.e1
 have hln:=hb.ln
 obtain ⟨p,p1,p2⟩:=f_eproduct 1000 [b.even,a] (by omega) (by omega) (by omega) (by intro x hx;simp at hx;omega) (by simp)
 rw [p1]
 simp only [Option.bind_some]
 refine loop_sum (w:=b.loads) (fun t q c=>Xq t q c) (fun x=>if x.at_ < a then (x.weight:Rat) else 0) 3 (by omega) p2 ?_ ?_ ?_
 ·intro k h t q ht
  have hx:=hb.ld _ (List.getElem_mem h)
  obtain ⟨x0,x1,x2,x3⟩:=hx
  have e0:decide ((k:Int) < ((b.loads.length:Nat):Int)) = true:=decide_eq_true (by omega)
  simp only [e0,cond_true]
  rw [idx_nat h]
  simp only [Option.bind_some]
  generalize b.loads[k] = x at *
  by_cases hc:x.at_ < a
  ·rw [decide_eq_true hc,if_pos hc,cond_true]
   obtain ⟨z,z1,z2⟩:=f_whole x.weight (by omega) (by omega)
   obtain ⟨s,s1,s2⟩:=f_eplus ht z2 (by omega) (by simp only [List.length_cons,List.length_nil];omega)
   rw [z1]
   simp only [Option.bind_some]
   rw [s1]
   simp only [Option.bind_some]
   rw [wrap64 (n:=(k:Int) + 1) (by omega) (by omega)]
   exact ⟨s,rfl,s2.mono (by omega)⟩
  ·rw [decide_eq_false hc,if_neg hc,cond_false]
   simp only [Option.bind_some]
   rw [wrap64 (n:=(k:Int) + 1) (by omega) (by omega)]
   exact ⟨t,rfl,ht.skip⟩
 ·intro t
  have e0:decide (((b.loads.length:Nat):Int) < ((b.loads.length:Nat):Int)) = false:=by simp
  simp only [e0,cond_false]
 ·intro t ht
  refine ⟨t,rfl,(ht.mono (by simp only [List.length_cons,List.length_nil];omega)).cast ?_⟩
  unfold beyondQ lds
  rw [sumQ_map,prod2]
  rfl
end Go.Proofs.YtgbicnkpnhifgaaGreatDoor

namespace Go.Proofs.YtgbicnkpnhifgaaGreatDoor
def turnB (b:TBeam):TBeam:=⟨b.name,b.length,b.supports.reverse.map (fun s=>b.length - s),b.loads.map (fun x=>⟨b.length - x.at_,x.weight⟩),b.even⟩
theorem ordS_snd {α:Type} (l:List α):(ordS true l).map (fun x=>x.2) = l.reverse:=by
 unfold ordS
 rw [List.map_reverse,List.map_map]
 congr 1
 have:((fun x:Nat × α=>x.2) ∘ fun p:α × Nat=>(p.2,p.1)) = Prod.fst:=rfl
 rw [this]
 exact List.zipIdx_map_fst 0 l
theorem fold_turn (L:Int) (hL0:0 ≤ L) (hL:L ≤ 1048576):∀ (l:List (Nat × Int)) (s:TBeam),(∀ x ∈ l,0 ≤ x.2 ∧ x.2 ≤ L) → s.supports.length + l.length ≤ 1000000 →
  foldR (σ:=TBeam × Unit) (τ:=Nat × Int) (fun s1 x2=>(if s1.1.supports.length + ([(IntKind.i64.wrap (L - x2.2))]:List Int).length ≤ 2147483648 then some ((TBeam.mk s1.1.name s1.1.length (s1.1.supports ++ ([(IntKind.i64.wrap (L - x2.2))]:List Int)) s1.1.loads s1.1.even),()) else none)) l (s,()) = some (⟨s.name,s.length,s.supports ++ (l.map fun x=>x.2).map (fun x=>L - x),s.loads,s.even⟩,())
 | [],s,_,_=>by simp [foldR]
 | x :: l,s,h,hl=>by
  have hx:=h x List.mem_cons_self
  unfold foldR
  rw [if_pos (by simp at hl ⊢;omega),wrap64 (by omega) (by omega)]
  simp only [Option.bind_some]
  rw [fold_turn L hL0 hL l _ (fun y hy=>h y (List.mem_cons_of_mem _ hy)) (by simp at hl ⊢;omega)]
  simp
structure SupOk (b:TBeam):Prop where
 n1:1 ≤ b.supports.length
 n10:b.supports.length ≤ 10
 rg:∀ x ∈ b.supports,0 ≤ x ∧ x ≤ b.length
 inc:∀ i,i + 1 < b.supports.length → b.supports.getD i 0 < b.supports.getD (i + 1) 0
theorem f_turned {b:TBeam} (hb:BeamIn b) (hs:SupOk b):F_beam_turned b = some (turnB b):=by
 have hl0:=hb.l0
 have hl1:=hb.l1
 have hln:=hb.ln
 have hn:=hs.n10
 suffices h:∃ r,F_beam_turned b = some r ∧ r = turnB b by
  obtain ⟨r,h1,rfl⟩:=h
  exact h1
 unfold F_beam_turned
 rw [if_pos (by omega),fold_turn b.length (by omega) hl1 _ _ (by
  intro x hx
  have h1:x.2 ∈ b.supports:=by
   have h2:x.2 ∈ (ordS true b.supports).map (fun x=>x.2):=List.mem_map_of_mem hx
   rw [ordS_snd] at h2
   exact List.mem_reverse.1 h2
  exact hs.rg _ h1) (by simp [ordS];omega),ordS_snd]
 simp only [Option.bind_some,List.nil_append]
 refine iter_bind (Q:=fun s:TBeam × Unit=>s.1 = turnB b) (fun k s=>k ≤ b.loads.length ∧ s = ((k:Int),⟨b.name,b.length,b.supports.reverse.map (fun s=>b.length - s),(b.loads.take k).map (fun x=>⟨b.length - x.at_,x.weight⟩),b.even⟩,())) b.loads.length (by unfold big;omega) ?_ ⟨Nat.zero_le _,rfl⟩ ?_
 ·rintro k s hk ⟨_,rfl⟩
  rcases Nat.lt_or_ge k b.loads.length with hlt | hge
  ·have e0:decide ((k:Int) < ((b.loads.length:Nat):Int)) = true:=decide_eq_true (by omega)
   obtain ⟨x0,x1,x2,x3⟩:=hb.ld _ (List.getElem_mem hlt)
   refine .inl ⟨_,?_,hlt,hlt,rfl⟩
   simp only [e0,cond_true]
   rw [idx_nat hlt]
   simp only [Option.bind_some]
   rw [if_pos (by simp;omega),wrap64 (n:=b.length - b.loads[k].at_) (by omega) (by omega),wrap64 (n:=(k:Int) + 1) (by omega) (by omega),List.take_succ_eq_append_getElem hlt,List.map_append]
   rfl
  ·have e0:decide ((k:Int) < ((b.loads.length:Nat):Int)) = false:=decide_eq_false (by omega)
   refine .inr ⟨((⟨b.name,b.length,b.supports.reverse.map (fun s=>b.length - s),(b.loads.take k).map (fun x=>⟨b.length - x.at_,x.weight⟩),b.even⟩:TBeam),()),by simp only [e0,cond_false],?_⟩
   show (⟨b.name,b.length,b.supports.reverse.map (fun s=>b.length - s),(b.loads.take k).map (fun x=>⟨b.length - x.at_,x.weight⟩),b.even⟩:TBeam) = turnB b
   rw [List.take_of_length_le hge]
   rfl
 ·rintro ⟨t,u⟩ h
  exact ⟨t,rfl,h⟩
theorem turn_in {b:TBeam} (hb:BeamIn b):BeamIn (turnB b):=by
 refine ⟨hb.l0,hb.l1,hb.e0,hb.e1,?_,by show (b.loads.map _).length ≤ 40;rw [List.length_map];exact hb.ln⟩
 intro x hx
 obtain ⟨y,hy,rfl⟩:=List.mem_map.1 hx
 obtain ⟨x0,x1,x2,x3⟩:=hb.ld y hy
 exact ⟨by show 0 ≤ b.length - y.at_;omega,by show b.length - y.at_ ≤ b.length;omega,x2,x3⟩
theorem turn_lds (b:TBeam):lds (turnB b).loads = turnW b.length (lds b.loads):=by
 unfold lds turnW turnB
 rw [List.map_map,List.map_map]
 rfl
def sp (b:TBeam) (i:Nat):Int:=b.supports.getD i 0
def gp (b:TBeam) (i:Nat):Rat:=((sp b (i + 1) - sp b i:Int):Rat)
def Rp (b:TBeam) (i:Nat):Rat:=0 - sideQ b.even (lds b.loads) (sp b (i - 1)) (sp b i) true - sideQ b.even (lds b.loads) (sp b i) (sp b (i + 1)) false
def fstQ (b:TBeam):Rat:=0 - overQ b.even (lds b.loads) (sp b 0)
def lstQ (b:TBeam):Rat:=0 - overQ b.even (turnW b.length (lds b.loads)) (b.length - sp b (b.supports.length - 1))
def momB (b:TBeam) (i:Nat):Rat:=mom (gp b) (Rp b) (fstQ b) (lstQ b) b.supports.length i
theorem sp_get {b:TBeam} {i:Nat} (h:i < b.supports.length):b.supports[i]? = some (sp b i):=by
 unfold sp
 rw [List.getD_eq_getElem?_getD,List.getElem?_eq_getElem h];rfl
theorem idx_q {α:Type} {l:List α} {k:Nat} {x:α} (h:l[k]? = some x):idx l (k:Int) = some x:=by
 unfold idx
 rw [if_pos (by omega),Int.toNat_natCast,h]
theorem sp_idx {b:TBeam} {i:Nat} (h:i < b.supports.length):idx b.supports (i:Int) = some (sp b i):=idx_q (sp_get h)
theorem sp_rg {b:TBeam} (hs:SupOk b) {i:Nat} (h:i < b.supports.length):0 ≤ sp b i ∧ sp b i ≤ b.length:=by
 have:=sp_get h
 exact hs.rg _ (List.mem_of_getElem? this)
theorem gp_pos {b:TBeam} (hs:SupOk b):∀ i,i + 1 < b.supports.length → 0 < gp b i:=by
 intro i h
 have:=hs.inc i h
 unfold gp
 exact Rat.intCast_lt_intCast.2 (show (0:Int) < sp b (i + 1) - sp b i by unfold sp;omega)
theorem f_bfirst {b:TBeam} (hb:BeamIn b) (hs:SupOk b):∃ r,F_beam_overhang b = some r ∧ Xq r (fstQ b) 300:=by
 have h:=sp_rg hs (i:=0) (by have:=hs.n1;omega)
 refine f_over2 hb ?_ h.1 h.2
 rw [List.head?_eq_getElem?]
 exact sp_get (by have:=hs.n1;omega)
theorem f_last {b:TBeam} (hb:BeamIn b) (hs:SupOk b):∃ r,F_beam_overhang (turnB b) = some r ∧ Xq r (lstQ b) 300:=by
 have hn:=hs.n1
 have h:=sp_rg hs (i:=b.supports.length - 1) (by omega)
 have hl:(turnB b).length = b.length:=rfl
 obtain ⟨r,r1,r2⟩:=f_over2 (turn_in hb) (a:=b.length - sp b (b.supports.length - 1)) (by
  show (b.supports.reverse.map (fun s=>b.length - s)).head? = _
  rw [List.head?_map,List.head?_reverse,List.getLast?_eq_getElem?,sp_get (by omega)]
  rfl) (by omega) (by rw [hl];omega)
 exact ⟨r,r1,r2.cast (by rw [turn_lds];rfl)⟩
end Go.Proofs.YtgbicnkpnhifgaaGreatDoor

namespace Go.Proofs.YtgbicnkpnhifgaaGreatDoor
def rtB (b:TBeam) (i:Nat):Rat:=Rp b i - gp b (i - 1) * (pq (gp b) (Rp b) (fstQ b) (i - 1)).1
def mdB (b:TBeam) (i:Nat):Rat:=midQ (gp b) (Rp b) (fstQ b) (i - 1)
theorem pq_one (b:TBeam) (i:Nat):(pq (gp b) (Rp b) (fstQ b) (i + 1)).1 = rtB b (i + 1) / mdB b (i + 1) ∧ (pq (gp b) (Rp b) (fstQ b) (i + 1)).2 = gp b (i + 1) / mdB b (i + 1):=⟨rfl,rfl⟩
theorem md_pos {b:TBeam} (hs:SupOk b) {i:Nat} (h0:1 ≤ i) (h:i + 1 < b.supports.length):0 < mdB b i:=by
 unfold mdB
 exact mid_pos (n:=b.supports.length - 1) (fun j hj=>gp_pos hs j (by omega)) (by omega)
theorem get_set {α:Type} {l:List α} {i j:Nat} {v:α} (hi:i < l.length):(l.set i v)[j]? = if i = j then some v else l[j]?:=by
 rw [List.getElem?_set]
 by_cases h:i = j
 ·subst h;rw [if_pos rfl,if_pos rfl,if_pos hi]
 ·rw [if_neg h,if_neg h]
theorem f_bgap {b:TBeam} (hb:BeamIn b) (hs:SupOk b) {i:Nat} (h:i + 1 < b.supports.length):∃ r,F_beam_whole (IntKind.i64.wrap (sp b (i + 1) - sp b i)) = some r ∧ Xq r (gp b i) 2:=by
 have h1:=sp_rg hs (i:=i) (by omega)
 have h2:=sp_rg hs (i:=i + 1) (by omega)
 have hl:=hb.l1
 rw [wrap64 (by omega) (by omega)]
 exact f_whole _ (by omega) (by omega)
theorem idx_w {α:Type} {l:List α} {k:Nat} {z:Int} {x:α} (e:z = (k:Int)) (h:l[k]? = some x):idx l z = some x:=by subst e;exact idx_q h
theorem at_w {α:Type} {l:List α} {k:Nat} {z:Int} {x:α} (e:z = (k:Int)) (h:l[k]? = some x):l[Int.toNat z]? = some x:=by subst e;rw [Int.toNat_natCast];exact h
def FwB (b:TBeam) (k:Nat) (D T:List Texact):Prop:=D.length = b.supports.length ∧ T.length = b.supports.length ∧ (∀ j,1 ≤ j → j ≤ k → ∃ v,D[j]? = some v ∧ Xq v (mdB b j) (7 * j + 2)) ∧ ∀ j,1 ≤ j → j ≤ k → ∃ v,T[j]? = some v ∧ Xq v (rtB b j) (1000 * (j + 1))
theorem fw_set {b:TBeam} {k:Nat} {D T:List Texact} (h:FwB b k D T) (hk:k + 1 < b.supports.length) {d t d0 t0:Texact} (hd:Xq d (mdB b (k + 1)) (7 * (k + 1) + 2)) (ht:Xq t (rtB b (k + 1)) (1000 * (k + 1 + 1))):FwB b (k + 1) ((D.set (k + 1) d0).set (k + 1) d) ((T.set (k + 1) t0).set (k + 1) t):=by
 obtain ⟨h1,h2,h3,h4⟩:=h
 refine ⟨by simp [h1],by simp [h2],fun j a c=>?_,fun j a c=>?_⟩
 ·rw [List.set_set,get_set (by omega)]
  rcases Decidable.em (k + 1 = j) with e | e
  ·subst e;rw [if_pos rfl];exact ⟨d,rfl,hd⟩
  ·rw [if_neg e];exact h3 j a (by omega)
 ·rw [List.set_set,get_set (by omega)]
  rcases Decidable.em (k + 1 = j) with e | e
  ·subst e;rw [if_pos rfl];exact ⟨t,rfl,ht⟩
  ·rw [if_neg e];exact h4 j a (by omega)
theorem fw_set1 {b:TBeam} {k:Nat} {D T:List Texact} (h:FwB b k D T) (hk:k + 1 < b.supports.length) {d t t0:Texact} (hd:Xq d (mdB b (k + 1)) (7 * (k + 1) + 2)) (ht:Xq t (rtB b (k + 1)) (1000 * (k + 1 + 1))):FwB b (k + 1) (D.set (k + 1) d) ((T.set (k + 1) t0).set (k + 1) t):=by
 have:=fw_set h hk (d0:=d) (t0:=t0) hd ht
 rwa [List.set_set] at this
def BwB (b:TBeam) (m:Nat) (O:List Texact):Prop:=O.length = b.supports.length ∧ (∃ v,O[0]? = some v ∧ Xq v (momB b 0) 300) ∧ ∀ i,m < i → i < b.supports.length → ∃ v,O[i]? = some v ∧ Xq v (momB b i) (400 + (b.supports.length - 1 - i) * 10100)
set_option maxHeartbeats 2000000 in
theorem f_moments {b:TBeam} (hb:BeamIn b) (hs:SupOk b):Gs (F_beam_moments b) fun r=>(r.2 = true ↔ (b.supports.length = 1 → fstQ b = lstQ b)) ∧ (r.2 = true → r.1.length = b.supports.length ∧ ∀ i,i < b.supports.length → ∃ x,r.1[i]? = some x ∧ Xq x (momB b i) 82000):=by
 unfold F_beam_moments
 obtain ⟨x,x1,x2⟩:=f_bfirst hb hs
 obtain ⟨y,y1,y2⟩:=f_last hb hs
 have hl:=hb.l1
 have hn1:=hs.n1
 have hn10:=hs.n10
 refine go x1 (go (f_turned hb hs) (go y1 ?_))
 rcases Decidable.em (b.supports.length = 1) with h1 | h1
 ·obtain ⟨z,z1,z2⟩:=f_eless x2 y2 (by omega) (by omega)
  obtain ⟨s,s1,s2,s3⟩:=f_sign z2.n
  refine gt (by rw [beq_iff_eq];omega) (goo z1 (goo s1 (gs (gend ?_))))
  have hd:fstQ b - lstQ b = 0 ↔ fstQ b = lstQ b:=by constructor <;> intro h <;> grind
  have ht:(s == 0) = true ↔ fstQ b = lstQ b:=by rw [beq_iff_eq,s2,Rat.num_eq_zero,hd]
  refine ⟨?_,?_⟩
  ·show (s == 0) = true ↔ _
   rw [ht]
   exact ⟨fun h _=>h,fun h=>h h1⟩
  ·intro h
   have h:=ht.1 h
   refine ⟨by show 1 = _;omega,fun i hi=>?_⟩
   have:i = 0:=by omega
   subst this
   refine ⟨x,rfl,(x2.mono (by omega)).cast ?_⟩
   rw [h]
   unfold momB
   rw [show (0:Nat) = b.supports.length - 1 from by omega,mom_last]
 refine gf (by rw [beq_eq_false_iff_ne];omega) (gif ⟨by omega,by omega⟩ ?_)
 obtain ⟨Z,hZ⟩:∃ Z,List.replicate (Int.toNat ((b.supports.length:Nat):Int)) (⟨⟨false,[]⟩,⟨false,[]⟩⟩:Texact) = Z:=⟨_,rfl⟩
 have hZl:Z.length = b.supports.length:=by rw [← hZ,List.length_replicate,Int.toNat_natCast]
 rw [hZ]
 have hw1:IntKind.i64.wrap (((b.supports.length:Nat):Int) - 1) = ((b.supports.length - 1:Nat):Int):=by rw [wrap64 (by omega) (by omega)];omega
 have hw2:IntKind.i64.wrap (((b.supports.length:Nat):Int) - 2) = ((b.supports.length - 2:Nat):Int):=by rw [wrap64 (by omega) (by omega)];omega
 have g1:Z[0]? = some Z[0]:=List.getElem?_eq_getElem _
 obtain ⟨q,g2⟩:∃ q,(Z.set 0 x)[b.supports.length - 1]? = some q:=⟨_,List.getElem?_eq_getElem (by simp;omega)⟩
 have ht0:Int.toNat 0 = 0:=rfl
 rw [ht0]
 refine goo (idx_w (k:=0) rfl g1) (goo g1 (goo (idx_w hw1 g2) (goo (at_w hw1 g2) (gs ?_))))
 refine gbif ⟨by omega,by omega⟩ (gbif ⟨by omega,by omega⟩ (gs ?_))
 refine gloop (fun s:List Texact × List Texact × Unit=>FwB b (b.supports.length - 2) s.1 s.2.1)
  (fun k s=>∃ D T,s = (((k + 1:Nat):Int),D,T,()) ∧ k + 1 ≤ b.supports.length - 1 ∧ FwB b k D T)
  (b.supports.length - 2) (by unfold big;omega) ⟨Z,Z,rfl,by omega,hZl,hZl,fun j h2 h3=>by omega,fun j h2 h3=>by omega⟩ ?_ ?_
 ·rintro k s hk ⟨D,T,rfl,hk1,hF⟩
  rcases Nat.lt_or_ge (k + 1) (b.supports.length - 1) with hlt | hge
  ·obtain ⟨hDl,hTl,hD,hT⟩:=id hF
   have w1:IntKind.i64.wrap (((k + 1:Nat):Int) - 1) = (k:Int):=by rw [wrap64 (by omega) (by omega)];omega
   have w2:IntKind.i64.wrap (((k + 1:Nat):Int) + 1) = ((k + 2:Nat):Int):=by rw [wrap64 (by omega) (by omega)];omega
   have r0:=sp_rg hs (i:=k) (by omega)
   have r1:=sp_rg hs (i:=k + 1) (by omega)
   have r2:=sp_rg hs (i:=k + 2) (by omega)
   have c0:sp b k < sp b (k + 1):=hs.inc k (by omega)
   have c1:sp b (k + 1) < sp b (k + 2):=hs.inc (k + 1) (by omega)
   have p0:=sp_get (b:=b) (i:=k) (by omega)
   have p1:=sp_get (b:=b) (i:=k + 1) (by omega)
   have p2:=sp_get (b:=b) (i:=k + 2) (by omega)
   have w3:IntKind.i64.wrap (2 * IntKind.i64.wrap (IntKind.i64.wrap (sp b (k + 1) - sp b k) + IntKind.i64.wrap (sp b (k + 2) - sp b (k + 1)))) = 2 * ((sp b (k + 1) - sp b k) + (sp b (k + 2) - sp b (k + 1))):=by
    rw [wrap64 (n:=sp b (k + 1) - sp b k) (by omega) (by omega),wrap64 (n:=sp b (k + 2) - sp b (k + 1)) (by omega) (by omega),wrap64 (n:=(sp b (k + 1) - sp b k) + (sp b (k + 2) - sp b (k + 1))) (by omega) (by omega),wrap64 (by omega) (by omega)]
   obtain ⟨dg0,d1,d2⟩:=f_whole (IntKind.i64.wrap (2 * IntKind.i64.wrap (IntKind.i64.wrap (sp b (k + 1) - sp b k) + IntKind.i64.wrap (sp b (k + 2) - sp b (k + 1))))) (by rw [w3];omega) (by rw [w3];omega)
   have d3:Xq dg0 (2 * (gp b k + gp b (k + 1))) 2:=d2.cast (by rw [w3];unfold gp;simp only [Rat.intCast_mul,Rat.intCast_add];rfl)
   obtain ⟨z0,zz1,zz2⟩:=f_whole 0 (by omega) (by omega)
   obtain ⟨sa,sa1,sa2⟩:=f_side hb (fr:=sp b k) (to:=sp b (k + 1)) true r0.1 c0 r1.2
   obtain ⟨sb,sb1,sb2⟩:=f_side hb (fr:=sp b (k + 1)) (to:=sp b (k + 2)) false r1.1 c1 r2.2
   obtain ⟨u1,u11,u12⟩:=f_eless zz2 sa2 (by omega) (by omega)
   obtain ⟨u2,u21,u22⟩:=f_eless u12 sb2 (by omega) (by omega)
   have u3:Xq u2 (Rp b (k + 1)) 804:=u22.cast rfl
   obtain ⟨qd,qd1⟩:∃ q,D[k + 1]? = some q:=⟨_,List.getElem?_eq_getElem (by omega)⟩
   obtain ⟨qt,qt1⟩:∃ q,T[k + 1]? = some q:=⟨_,List.getElem?_eq_getElem (by omega)⟩
   refine gt (decide_eq_true (by show ((k + 1:Nat):Int) < IntKind.i64.wrap _;rw [hw1];omega)) ?_
   refine goo (idx_w rfl p1) (goo (idx_w w1 p0) (goo (idx_w w2 p2) (goo (idx_w rfl p1) (goo d1 ?_))))
   refine goo (idx_w rfl qd1) (goo (at_w rfl qd1) (goo (idx_w w1 p0) (goo (idx_w rfl p1) (goo (idx_w rfl p1) (goo (idx_w w2 p2) (goo zz1 (goo sa1 (goo u11 (goo sb1 (goo u21 (goo (idx_w rfl qt1) (goo (at_w rfl qt1) ?_))))))))))))
   obtain ⟨gk,gk1,gk2⟩:=f_bgap hb hs (i:=k) (by omega)
   have sD:∀ v,(D.set (k + 1) v)[k + 1]? = some v:=fun v=>by rw [get_set (by omega),if_pos rfl]
   have sT:∀ v,(T.set (k + 1) v)[k + 1]? = some v:=fun v=>by rw [get_set (by omega),if_pos rfl]
   rcases Nat.eq_zero_or_pos k with hk0 | hk0
   ·subst hk0
    obtain ⟨t1,t11,t12⟩:=f_etimes x2 gk2 (by omega) (by omega)
    obtain ⟨t2,t21,t22⟩:=f_eless u3 t12 (by omega) (by omega)
    refine gbt rfl (goo (idx_w rfl (sT _)) (goo (at_w rfl (sT _)) (goo gk1 (goo t11 (goo t21 (goo (idx_w rfl (sT _)) (goo (at_w rfl (sT _)) (gs (gend ?_)))))))))
    refine ⟨by omega,D.set (0 + 1) dg0,(T.set (0 + 1) u2).set (0 + 1) t2,by simp only [w2,Int.toNat_natCast],by omega,fw_set1 hF (by omega) ((d3.mono (by omega)).cast ?_) ((t22.mono (by omega)).cast ?_)⟩
    ·show _ = 2 * (gp b 0 + gp b (0 + 1)) - gp b 0 * (0:Rat)
     grind
    ·show _ = Rp b (0 + 1) - gp b 0 * fstQ b
     grind
   ·obtain ⟨dp,dp1,dp2⟩:=hD k hk0 (Nat.le_refl _)
    obtain ⟨tp,tp1,tp2⟩:=hT k hk0 (Nat.le_refl _)
    have hmp:=md_pos hs hk0 (show k + 1 < b.supports.length by omega)
    have sDk:∀ v,(D.set (k + 1) v)[k]? = some dp:=fun v=>by rw [get_set (by omega),if_neg (by omega)];exact dp1
    have sTk:∀ v,(T.set (k + 1) v)[k]? = some tp:=fun v=>by rw [get_set (by omega),if_neg (by omega)];exact tp1
    obtain ⟨f,f1,f2⟩:=f_eby gk2 dp2 (by grind) (by omega) (by omega)
    obtain ⟨fk,fk1,fk2⟩:=f_etimes f2 gk2 (by omega) (by omega)
    obtain ⟨dn,dn1,dn2⟩:=f_eless d3 fk2 (by omega) (by omega)
    obtain ⟨ft,ft1,ft2⟩:=f_etimes f2 tp2 (by omega) (by omega)
    obtain ⟨tn,tn1,tn2⟩:=f_eless u3 ft2 (by omega) (by omega)
    refine gbf (by show (((k + 1:Nat):Int) == 1) = false;rw [beq_eq_false_iff_ne];omega) (goo (idx_w w1 (sDk _)) (goo (at_w w1 (sDk _)) (goo gk1 (goo f1 (goo (idx_w rfl (sD _)) (goo (at_w rfl (sD _)) (goo gk1 (goo fk1 (goo dn1 ?_)))))))))
    refine goo (idx_w rfl (sD _)) (goo (at_w rfl (sD _)) (goo (idx_w rfl (sT _)) (goo (at_w rfl (sT _)) (goo (idx_w w1 (sTk _)) (goo (at_w w1 (sTk _)) (goo ft1 (goo tn1 (goo (idx_w rfl (sT _)) (goo (at_w rfl (sT _)) (gs (gend ?_)))))))))))
    obtain ⟨i,rfl⟩:∃ i,k = i + 1:=⟨k - 1,by omega⟩
    have hpq:=pq_one b i
    refine ⟨by omega,(D.set (i + 1 + 1) dg0).set (i + 1 + 1) dn,(T.set (i + 1 + 1) u2).set (i + 1 + 1) tn,by simp only [w2,Int.toNat_natCast],by omega,fw_set hF (by omega) ((dn2.mono (by omega)).cast ?_) ((tn2.mono (by omega)).cast ?_)⟩
    ·show _ = 2 * (gp b (i + 1) + gp b (i + 1 + 1)) - gp b (i + 1) * (pq (gp b) (Rp b) (fstQ b) (i + 1)).2
     rw [hpq.2]
     grind
    ·show _ = Rp b (i + 1 + 1) - gp b (i + 1) * (pq (gp b) (Rp b) (fstQ b) (i + 1)).1
     rw [hpq.1]
     grind
  ·refine gf (decide_eq_false (by show ¬ ((k + 1:Nat):Int) < IntKind.i64.wrap _;rw [hw1];omega)) (gend ?_)
   have:k = b.supports.length - 2:=by omega
   subst this
   exact hF
 ·rintro ⟨D,T,u⟩ hF
  obtain ⟨hDl,hTl,hD,hT⟩:=hF
  refine gloop (fun s:List Texact × Unit=>BwB b 0 s.1)
   (fun k s=>∃ (O:List Texact) (m:Nat),s = ((m:Int),O,()) ∧ m + k = b.supports.length - 2 ∧ BwB b m O)
   (b.supports.length - 2) (by unfold big;omega) ⟨_,b.supports.length - 2,by rw [hw2],by omega,by simp [hZl],⟨x,?_,x2.cast ?_⟩,?_⟩ ?_ ?_
  ·rw [hw1,Int.toNat_natCast,get_set (by simp;omega),if_neg (by omega),get_set (by omega),if_pos rfl]
  ·unfold momB
   rw [mom_first _ _ _ _ (by omega)]
  ·intro i hi hi2
   have:i = b.supports.length - 1:=by omega
   refine ⟨y,by rw [hw1,Int.toNat_natCast,get_set (by simp;omega),if_pos this.symm],(y2.mono (by omega)).cast ?_⟩
   rw [this]
   unfold momB
   rw [mom_last]
  ·rintro k s hk ⟨O,m,rfl,hm,hO⟩
   rcases Nat.eq_zero_or_pos m with hm0 | hm0
   ·subst hm0
    exact gf (decide_eq_false (by show ¬ ((0:Nat):Int) > 0;omega)) (gend hO)
   ·obtain ⟨hOl,hO0,hO⟩:=hO
    have w2:IntKind.i64.wrap ((m:Int) + 1) = ((m + 1:Nat):Int):=by rw [wrap64 (by omega) (by omega)];omega
    have w1:IntKind.i64.wrap ((m:Int) - 1) = ((m - 1:Nat):Int):=by rw [wrap64 (by omega) (by omega)];omega
    obtain ⟨t,t1,t2⟩:=hT m hm0 (by omega)
    obtain ⟨d,d1,d2⟩:=hD m hm0 (by omega)
    obtain ⟨o,o1,o2⟩:=hO (m + 1) (by omega) (by omega)
    obtain ⟨gk,gk1,gk2⟩:=f_bgap hb hs (i:=m) (by omega)
    have hmp:=md_pos hs hm0 (show m + 1 < b.supports.length by omega)
    have hm9:m ≤ 8:=by omega
    obtain ⟨c,hc⟩:∃ c,(b.supports.length - 1 - (m + 1)) * 10100 = c:=⟨_,rfl⟩
    have hc2:(b.supports.length - 1 - m) * 10100 = c + 10100:=by
     rw [← hc,show b.supports.length - 1 - m = b.supports.length - 1 - (m + 1) + 1 from by omega,Nat.add_mul]
    have hc3:c ≤ 8 * 10100:=by rw [← hc];exact Nat.mul_le_mul_right _ (by omega)
    rw [hc] at o2
    obtain ⟨og,og1,og2⟩:=f_etimes o2 gk2 (by omega) (by omega)
    obtain ⟨l1,l11,l12⟩:=f_eless t2 og2 (by omega) (by omega)
    obtain ⟨z,z1,z2⟩:=f_eby l12 d2 (by grind) (by omega) (by omega)
    have p0:=sp_get (b:=b) (i:=m) (by omega)
    have p1:=sp_get (b:=b) (i:=m + 1) (by omega)
    obtain ⟨qo,qo1⟩:∃ q,O[m]? = some q:=⟨_,List.getElem?_eq_getElem (by omega)⟩
    refine gt (decide_eq_true (by show (0:Int) < (m:Int);omega)) ?_
    refine go (idx_w w2 p1) (go (idx_w rfl p0) (go (idx_w rfl t1) (go (at_w rfl t1) (go (idx_w w2 o1) (go (at_w w2 o1) (go (idx_w rfl d1) (go (at_w rfl d1) (go gk1 (go og1 (go l11 (go z1 (go (idx_w rfl qo1) (go (at_w rfl qo1) (gend ?_))))))))))))))
    refine ⟨by omega,O.set m z,m - 1,by simp only [w1,Int.toNat_natCast],by omega,by simp [hOl],?_,?_⟩
    ·rw [get_set (by omega),if_neg (by omega)]
     exact hO0
    ·intro i hi hi2
     rw [get_set (by omega)]
     rcases Decidable.em (m = i) with h | h
     ·subst h
      rw [if_pos rfl]
      refine ⟨z,rfl,(z2.mono (by omega)).cast ?_⟩
      obtain ⟨j,rfl⟩:∃ j,m = j + 1:=⟨m - 1,by omega⟩
      have hpq:=pq_one b j
      unfold momB
      rw [mom_step _ _ _ _ (i:=j + 1) (by omega),hpq.1,hpq.2]
      grind
     ·rw [if_neg h]
      exact hO i (by omega) hi2
  ·rintro ⟨O,u⟩ ⟨h2,h3,h4⟩
   refine gend ⟨⟨fun _ h=>absurd h h1,fun _=>rfl⟩,fun _=>⟨h2,fun i hi=>?_⟩⟩
   rcases Nat.eq_zero_or_pos i with h0 | h0
   ·subst h0
    obtain ⟨v,v1,v2⟩:=h3
    exact ⟨v,v1,v2.mono (by omega)⟩
   ·obtain ⟨v,v1,v2⟩:=h4 i h0 hi
    refine ⟨v,v1,v2.mono ?_⟩
    have:(b.supports.length - 1 - i) * 10100 ≤ 8 * 10100:=Nat.mul_le_mul_right _ (by omega)
    omega
end Go.Proofs.YtgbicnkpnhifgaaGreatDoor
