/- Joined by merge.py: Pl1, Fn, PlR1, PlR2, PlR3, PlR4, PlR5, PlR6, PlR7, PlF1, PlR8, PlR9, PlR10, PlR11, PlR12, PlR13, PlR14, PlR15, PlV1, PlV2, PlV3, PlV4, Pl2, Pl3, PlGo, PlT1, Pl4, Pl5, Pl6, Pl7, Pl8, Pl9, Pl10, Pl11, Pl12, Pl13, PlQ1, PlQ2, PlN1, PlN2, PlN3, PlN4, PlN5, PlN6, PlN7, PlN8, PlN9, PlN10, PlN11, PlN12, PlN13, PlN14, PlQ3, PlQ4, PlQ5, PlQ6, PlQ7, PlG1, PlRw, PlG2, PlG3, PlG4, PlG5, PlH1, PlJ1. -/
import Derived.Test.YtgbicnkpnhifgaaGreatDoorM09
set_option linter.unusedSectionVars false
set_option linter.unusedVariables false
set_option linter.unusedSimpArgs false
namespace Go.Proofs.YtgbicnkpnhifgaaGreatDoor
theorem wrap64 {n:Int} (h1:-9223372036854775808 ≤ n) (h2:n ≤ 9223372036854775807):IntKind.i64.wrap n = n:=by
 simp only [IntKind.wrap,IntKind.bits,IntKind.signed,Bool.true_and]
 split
 ·rename_i h
  have h:=of_decide_eq_true h
  omega
 ·rename_i h
  have h:=of_decide_eq_false (by simpa using h:decide (n % 2 ^ 64 ≥ 2 ^ (64 - 1)) = false)
  omega
theorem iter_inv {σ ρ:Type} {F:σ → Option (σ ⊕ ρ)} {Q:ρ → Prop} (I:Nat → σ → Prop) (n:Nat) (hn:n < big)
  (step:∀ k s,k ≤ n → I k s → (∃ s',F s = some (.inl s') ∧ k < n ∧ I (k + 1) s') ∨ ∃ r,F s = some (.inr r) ∧ Q r) {s:σ} (h:I 0 s):∃ r,iterF F big s = some r ∧ Q r:=by
 have go:∀ (fuel k:Nat) (s:σ),k ≤ n → n - k < fuel → I k s → ∃ r,iterF F fuel s = some r ∧ Q r:=by
  intro fuel
  induction fuel with
  | zero=>intro k s _ h;omega
  | succ fuel ih =>
   intro k s hk hf hi
   unfold iterF
   rcases step k s hk hi with ⟨s',h1,h2,h3⟩ | ⟨r,h1,h2⟩
   ·rw [h1]
    exact ih (k + 1) s' h2 (by omega) h3
   ·rw [h1]
    exact ⟨r,rfl,h2⟩
 exact go big 0 s (Nat.zero_le _) (by omega) h
theorem idx_at {α:Type} {l:List α} {k:Nat} (h:k < l.length):idx l (k:Int) = some l[k]:=by
 unfold idx
 rw [if_pos (by omega),Int.toNat_natCast,List.getElem?_eq_getElem h]
theorem idxB_at {s:ByteArray} {k:Nat} (h:k < s.size):idxB s (k:Int) = some s[k]:=by
 unfold idxB
 rw [if_pos (by omega),Int.toNat_natCast]
 exact getElem?_pos s k h
theorem iter_find {α ρ:Type} {F:Int × Unit → Option ((Int × Unit) ⊕ ρ)} (l:List α) (hl:l.length < 9223372036854775807) (p:Nat → α → Option ρ) (d:ρ)
  (hin:∀ (k:Nat) (h:k < l.length),F ((k:Int),()) = match p k l[k] with | some r=>some (.inr r) | none=>some (.inl ((k:Int) + 1,()))) (hout:F ((l.length:Int),()) = some (.inr d)) :
  iterF F big (0,()) = some (((l.zipIdx.findSome? fun x=>p x.2 x.1)).getD d):=by
 have hb:l.length < big:=by unfold big;omega
 obtain ⟨r,h1,h2⟩:=iter_inv (F:=F) (Q:=fun r=>r = ((l.zipIdx.findSome? fun x=>p x.2 x.1)).getD d) (fun k s=>s = ((k:Int),()) ∧ ((l.take k).zipIdx.findSome? fun x=>p x.2 x.1) = none) l.length hb (fun k s hk hi=>by
  obtain ⟨rfl,hi⟩:=hi
  by_cases hlt:k < l.length
  ·have h:=hin k hlt
   have htk:(l.take (k + 1)).zipIdx = (l.take k).zipIdx ++ [(l[k],k)]:=by
    rw [List.take_succ_eq_append_getElem hlt,List.zipIdx_append]
    simp;omega
   cases hp:p k l[k] with
   | none =>
    rw [hp] at h
    exact .inl ⟨_,h,hlt,rfl,by rw [htk,List.findSome?_append,hi];simp [hp]⟩
   | some r =>
    rw [hp] at h
    refine .inr ⟨r,h,?_⟩
    have hall:l.zipIdx = (l.take (k + 1)).zipIdx ++ (l.drop (k + 1)).zipIdx (k + 1):=by
     have e:l.zipIdx = (l.take (k + 1) ++ l.drop (k + 1)).zipIdx:=by rw [List.take_append_drop]
     rw [e,List.zipIdx_append,Nat.zero_add,List.length_take,Nat.min_eq_left (by omega)]
    rw [hall,htk,List.findSome?_append,List.findSome?_append,hi]
    simp [hp]
  ·obtain rfl:k = l.length:=by omega
   rw [List.take_length] at hi
   exact .inr ⟨d,hout,by rw [hi];rfl⟩) (s:=(0,())) ⟨rfl,by simp⟩
 rw [h1,h2]
end Go.Proofs.YtgbicnkpnhifgaaGreatDoor

namespace Go.Proofs.YtgbicnkpnhifgaaGreatDoor
theorem wrapu (n:Int):IntKind.u64.wrap n = n % 18446744073709551616:=by
 simp only [IntKind.wrap,IntKind.bits,IntKind.signed,Bool.false_and,Bool.false_eq_true,if_false]
 rfl
theorem f_gcd (a b:Nat) (hb:b < big):F_ratio_gcd a b = some (Nat.gcd a b:Int):=by
 unfold F_ratio_gcd
 have go:∀ (fuel b a:Nat),b < fuel → iterF (σ:=Int × Int × Unit) (ρ:=Int × Unit) (fun s1=>(bif (s1.2.1 != 0) then (if s1.2.1 = 0 then none else some (.inl (s1.2.1,(s1.1.tmod s1.2.1),()))) else some (.inr (s1.1,())))) fuel (a,b,()) = some ((Nat.gcd a b:Int),()):=by
  intro fuel
  induction fuel with
  | zero=>intro b a h;omega
  | succ fuel ih =>
   intro b a h
   unfold iterF
   rcases Nat.eq_zero_or_pos b with rfl | hp
   ·simp
   ·have h1:((b:Int) != 0) = true:=by simp;omega
    rw [h1,cond_true,if_neg (by simp;omega)]
    simp only [show ((a:Int).tmod b) = ((a % b:Nat):Int) from by rw [Int.tmod_eq_emod_of_nonneg (by omega)];rfl]
    simp only [Option.bind_some]
    rw [ih (a % b) b (by have:=Nat.mod_lt a hp;omega),Nat.gcd_comm a b,Nat.gcd_rec b a,Nat.gcd_comm]
 rw [go big b a hb]
 rfl
theorem f_size {n:Int} (h:-9223372036854775808 ≤ n) (h2:n ≤ 9223372036854775807):F_ratio_size n = some (n.natAbs:Int):=by
 unfold F_ratio_size
 rw [wrapu,wrapu]
 by_cases hn:n < 0
 ·rw [decide_eq_true hn,cond_true];congr 1;omega
 ·rw [decide_eq_false hn,cond_false];congr 1;omega
theorem sh32 (x:Int):x.fdiv (2 ^ min (Int.toNat 32) IntKind.u64.bits) = x / 4294967296:=by
 rw [show (2 ^ min (Int.toNat 32) IntKind.u64.bits:Int) = 4294967296 from by decide,Int.fdiv_eq_ediv_of_nonneg _ (by omega)]
theorem lo32 {x:Int} (h:0 ≤ x):bitsOf .and .u64 x 4294967295 = x % 4294967296:=by
 obtain ⟨n,rfl⟩:=Int.eq_ofNat_of_zero_le h
 show IntKind.u64.wrap (((BitVec.ofInt 64 (n:Int) &&& BitVec.ofInt 64 4294967295).toNat:Nat):Int) = _
 rw [wrapu,BitVec.toNat_and,show (4294967295:Int) = ((2 ^ 32 - 1:Nat):Int) from rfl,BitVec.ofInt_natCast,BitVec.ofInt_natCast,BitVec.toNat_ofNat,BitVec.toNat_ofNat,Nat.mod_eq_of_lt (show 2 ^ 32 - 1 < 2 ^ 64 by decide),Nat.and_two_pow_sub_one_eq_mod]
 omega
theorem f_mul64 {x y:Int} (hx:0 ≤ x) (hx2:x < 18446744073709551616) (hy:0 ≤ y) (hy2:y < 18446744073709551616) :
  F_math_bits_Mul64 x y = some (x * y / 18446744073709551616,x * y % 18446744073709551616):=by
 unfold F_math_bits_Mul64
 simp only [sh32,lo32 hx,lo32 hy,wrapu]
 have ex:x = 4294967296 * (x / 4294967296) + x % 4294967296:=by omega
 have ey:y = 4294967296 * (y / 4294967296) + y % 4294967296:=by omega
 have a0:0 ≤ x / 4294967296:=by omega
 have a1:x / 4294967296 ≤ 4294967295:=by omega
 have b0:0 ≤ x % 4294967296:=by omega
 have b1:x % 4294967296 ≤ 4294967295:=by omega
 have c0:0 ≤ y / 4294967296:=by omega
 have c1:y / 4294967296 ≤ 4294967295:=by omega
 have d0:0 ≤ y % 4294967296:=by omega
 have d1:y % 4294967296 ≤ 4294967295:=by omega
 generalize x / 4294967296 = a at *
 generalize x % 4294967296 = b at *
 generalize y / 4294967296 = c at *
 generalize y % 4294967296 = d at *
 have exy:x * y = 18446744073709551616 * (a * c) + 4294967296 * (a * d + b * c) + b * d:=by rw [ex,ey];grind
 have bd (u v:Int) (u0:0 ≤ u) (u1:u ≤ 4294967295) (v0:0 ≤ v) (v1:v ≤ 4294967295):0 ≤ u * v ∧ u * v ≤ 18446744065119617025 :=
  ⟨Int.mul_nonneg u0 v0,Int.le_trans (Int.mul_le_mul u1 v1 v0 (by omega)) (by omega)⟩
 have p:=bd a c a0 a1 c0 c1
 have q:=bd a d a0 a1 d0 d1
 have r:=bd b c b0 b1 c0 c1
 have t:=bd b d b0 b1 d0 d1
 rw [exy]
 generalize a * c = A at *
 generalize a * d = B at *
 generalize b * c = C at *
 generalize b * d = D at *
 have e1:D % 18446744073709551616 = D:=by omega
 have e2:B % 18446744073709551616 = B:=by omega
 have e3:C % 18446744073709551616 = C:=by omega
 have e4:A % 18446744073709551616 = A:=by omega
 rw [e1,e2,e3,e4]
 have e5:(B + D / 4294967296) % 18446744073709551616 = B + D / 4294967296:=by omega
 rw [e5,lo32 (by omega)]
 congr 2
 omega
theorem f_product {x y:Int} (hx:0 ≤ x) (hx2:x < 18446744073709551616) (hy:0 ≤ y) (hy2:y < 18446744073709551616) :
  F_ratio_product x y = some ⟨x * y / 18446744073709551616,x * y % 18446744073709551616⟩:=by
 unfold F_ratio_product
 rw [f_mul64 hx hx2 hy hy2]
 rfl
def wv (w:Twide):Int:=w.hi * 18446744073709551616 + w.lo
structure WOk (w:Twide):Prop where
 h0:0 ≤ w.hi
 h1:w.hi < 18446744073709551616
 l0:0 ≤ w.lo
 l1:w.lo < 18446744073709551616
def ofV (v:Int):Twide:=⟨v / 18446744073709551616,v % 18446744073709551616⟩
theorem wok_of {v:Int} (h:0 ≤ v) (h2:v < 340282366920938463463374607431768211456):WOk (ofV v):=⟨by unfold ofV;dsimp only;omega,by unfold ofV;dsimp only;omega,by unfold ofV;dsimp only;omega,by unfold ofV;dsimp only;omega⟩
theorem wv_of (v:Int):wv (ofV v) = v:=by unfold wv ofV;dsimp only;omega
theorem f_less {a b:Twide} (ha:WOk a) (hb:WOk b):F_ratio_less a b = some (decide (wv a < wv b)):=by
 obtain ⟨h0,h1,l0,l1⟩:=ha
 obtain ⟨g0,g1,m0,m1⟩:=hb
 unfold wv F_ratio_less
 by_cases h:a.hi < b.hi
 ·rw [decide_eq_true h]
  simp only [cond_true,Option.bind_some]
  congr 1;symm;apply decide_eq_true;omega
 ·rw [decide_eq_false h]
  by_cases h2:a.hi = b.hi
  ·simp only [cond_true,cond_false,h2,beq_self_eq_true,Option.bind_some]
   congr 1;apply decide_eq_decide.mpr;omega
  ·simp only [cond_false,beq_eq_false_iff_ne.mpr h2,Option.bind_some]
   congr 1;symm;apply decide_eq_false;omega
end Go.Proofs.YtgbicnkpnhifgaaGreatDoor

namespace Go.Proofs.YtgbicnkpnhifgaaGreatDoor
structure RV (a:TFrac):Prop where
 d0:1 ≤ a.den
 d1:a.den ≤ 1152921504606846976
 n0:-1152921504606846976 ≤ a.num
 n1:a.num ≤ 1152921504606846976
 cop:Nat.gcd a.num.natAbs a.den.toNat = 1
structure RW (a:TFrac):Prop where
 d0:-9223372036854775808 ≤ a.den
 d1:a.den ≤ 9223372036854775807
 n0:-9223372036854775808 ≤ a.num
 n1:a.num ≤ 9223372036854775807
def qOf (a:TFrac):Rat:=mkRat a.num a.den.toNat
def fitQ (q:Rat):Prop:=q.num.natAbs ≤ 1152921504606846976 ∧ q.den ≤ 1152921504606846976
instance (q:Rat):Decidable (fitQ q):=inferInstanceAs (Decidable (_ ∧ _))
def outQ (q:Rat):TFrac × Int:=if fitQ q then (⟨q.num,q.den⟩,0) else (⟨0,0⟩,5)
theorem mk_num {n:Int} {d:Nat} (hd:d ≠ 0) (c:Nat.gcd n.natAbs d = 1):mkRat n d = ⟨n,d,hd,c⟩:=by
 rw [Rat.mk_eq_mkRat]
theorem q_num {a:TFrac} (h:RV a):(qOf a).num = a.num ∧ ((qOf a).den:Int) = a.den:=by
 unfold qOf
 have:=h.d0
 rw [mk_num (by omega) h.cop]
 exact ⟨rfl,by show ((a.den.toNat:Nat):Int) = _;omega⟩
theorem f_qvalid {a:TFrac} (w:RW a):∃ v:Bool,F_ratio_Valid a = some v ∧ (v = true ↔ RV a):=by
 obtain ⟨w0,w1,w2,w3⟩:=w
 unfold F_ratio_Valid
 by_cases c1:a.den ≥ 1
 ·rw [decide_eq_true c1,cond_true]
  by_cases c2:a.den ≤ 1152921504606846976
  ·rw [decide_eq_true c2,cond_true]
   by_cases c3:a.num ≥ -1152921504606846976
   ·rw [decide_eq_true c3,cond_true]
    by_cases c4:a.num ≤ 1152921504606846976
    ·rw [decide_eq_true c4,cond_true,f_size (by omega) (by omega),wrapu,show a.den % 18446744073709551616 = ((a.den.toNat:Nat):Int) from by omega]
     simp only [Option.bind_some]
     rw [f_gcd _ _ (by unfold big;omega)]
     simp only [Option.bind_some]
     refine ⟨_,rfl,?_⟩
     rw [beq_iff_eq]
     exact ⟨fun h=>⟨c1,c2,c3,c4,by omega⟩,fun h=>by have:=h.cop;omega⟩
    ·rw [decide_eq_false c4]
     exact ⟨false,rfl,by simp,fun h=>absurd h.n1 c4⟩
   ·rw [decide_eq_false c3]
    exact ⟨false,rfl,by simp,fun h=>absurd h.n0 c3⟩
  ·rw [decide_eq_false c2]
   exact ⟨false,rfl,by simp,fun h=>absurd h.d1 c2⟩
 ·rw [decide_eq_false c1]
  exact ⟨false,rfl,by simp,fun h=>absurd h.d0 c1⟩
end Go.Proofs.YtgbicnkpnhifgaaGreatDoor

namespace Go.Proofs.YtgbicnkpnhifgaaGreatDoor
def frQ (q:Rat):TFrac:=⟨q.num,(q.den:Int)⟩
theorem fr_rv {q:Rat} (h:fitQ q):RV (frQ q) ∧ qOf (frQ q) = q:=by
 obtain ⟨h1,h2⟩:=h
 have h3:=q.den_pos
 refine ⟨⟨by show (1:Int) ≤ (q.den:Int);omega,by show (q.den:Int) ≤ 1152921504606846976;omega,by show -1152921504606846976 ≤ q.num;omega,by show q.num ≤ 1152921504606846976;omega,?_⟩,?_⟩
 ·show Nat.gcd q.num.natAbs ((q.den:Int)).toNat = 1
  rw [Int.toNat_natCast]
  exact q.reduced
 ·unfold qOf frQ
  dsimp only
  rw [Int.toNat_natCast,Rat.mkRat_self]
theorem fr_fit {q:Rat} (h:fitQ q):outQ q = (frQ q,0):=by unfold outQ;rw [if_pos h];rfl
theorem fr_big {q:Rat} (h:¬ fitQ q):outQ q = (⟨0,0⟩,5):=by unfold outQ;rw [if_neg h]
theorem fr_int (n:Int):frQ (n:Rat) = ⟨n,1⟩:=by unfold frQ;rw [Rat.num_intCast,Rat.den_intCast];rfl
theorem fr_eq (a b:TFrac):((a.num == b.num) && (a.den == b.den)) = true ↔ a = b:=by
 cases a;cases b
 simp
def outL (l:List Rat):List TFrac × Int:=if l.all (fun q=>decide (fitQ q)) then (l.map frQ,0) else ([],5)
theorem outL_fit {l:List Rat} (h:∀ q ∈ l,fitQ q):outL l = (l.map frQ,0):=by
 unfold outL
 rw [if_pos (by rw [List.all_eq_true];intro q hq;exact decide_eq_true (h q hq))]
theorem outL_big {l:List Rat} (h:¬ ∀ q ∈ l,fitQ q):outL l = ([],5):=by
 unfold outL
 rw [if_neg]
 rw [List.all_eq_true]
 intro e
 exact h fun q hq=>of_decide_eq_true (e q hq)
theorem iter_told {α:Type} {T:α → Option (TFrac × Int)} {R:α → Rat → Prop} (hT:∀ a q,R a q → T a = some (outQ q)) {l:List α} {qs:List Rat} (hl:l.length ≤ 1000000) (hq:l.length = qs.length) (hR:∀ (i:Nat) (h:i < l.length) (h2:i < qs.length),R l[i] qs[i]) :
  ((iterF (σ:=Int × List TFrac × Unit) (ρ:=(List TFrac × Int × List TFrac × Unit) ⊕ (List TFrac × Unit)) (fun s5=>(bif (decide (s5.1 < ((l.length:Nat):Int))) then (idx l s5.1).bind fun x6=>(T x6).bind fun r7=>(bif (r7.2 != 0) then some (.inr (.inl (([]:List TFrac),r7.2,s5.2.1,()))) else (if s5.2.1.length + ([r7.1]:List TFrac).length ≤ 2147483648 then some (.inl ((IntKind.i64.wrap (s5.1 + 1)),(s5.2.1 ++ ([r7.1]:List TFrac)),())) else none)) else some (.inr (.inr ((s5.2.1,())))))) big (0,([]:List TFrac),())).bind fun y8=>(match y8 with | .inl y9=>some (y9.1,y9.2.1) | .inr y10=>some (y10.1,0))) = some (outL qs):=by
 obtain ⟨r,g1,g2⟩:=iter_inv (F:=(fun s5:Int × List TFrac × Unit=>(bif (decide (s5.1 < ((l.length:Nat):Int))) then (idx l s5.1).bind fun x6=>(T x6).bind fun r7=>(bif (r7.2 != 0) then some (.inr (.inl (([]:List TFrac),r7.2,s5.2.1,()))) else (if s5.2.1.length + ([r7.1]:List TFrac).length ≤ 2147483648 then some (.inl ((IntKind.i64.wrap (s5.1 + 1)),(s5.2.1 ++ ([r7.1]:List TFrac)),())) else none)) else some (.inr (.inr ((s5.2.1,()))):(Int × List TFrac × Unit) ⊕ ((List TFrac × Int × List TFrac × Unit) ⊕ (List TFrac × Unit)))) ))
  (Q:=fun r=>match r with | .inl y=>(y.1,y.2.1) = outL qs | .inr y=>(y.1,(0:Int)) = outL qs)
  (fun k s=>k ≤ l.length ∧ s = ((k:Int),(qs.take k).map frQ,()) ∧ ∀ q ∈ qs.take k,fitQ q) l.length (by unfold big;omega) (fun k s hk hi=>by
   obtain ⟨_,rfl,hf⟩:=hi
   rcases Nat.lt_or_ge k l.length with hlt | hge
   ·have h2:k < qs.length:=by omega
    have e0:decide ((k:Int) < ((l.length:Nat):Int)) = true:=decide_eq_true (by omega)
    simp only [e0,cond_true,idx_at hlt,Option.bind_some,hT _ _ (hR k hlt h2)]
    by_cases hq2:fitQ qs[k]
    ·rw [fr_fit hq2]
     refine .inl ⟨((k + 1:Nat),(qs.take (k + 1)).map frQ,()),?_,hlt,hlt,rfl,?_⟩
     ·have e1:(((frQ qs[k],(0:Int)).2) != 0) = false:=rfl
      simp only [e1,cond_false]
      rw [if_pos (by simp;omega),wrap64 (by omega) (by omega),List.take_succ_eq_append_getElem h2,List.map_append]
      rfl
     ·intro q hq3
      rw [List.take_succ_eq_append_getElem h2] at hq3
      rcases List.mem_append.1 hq3 with h | h
      ·exact hf q h
      ·simp at h;subst h;exact hq2
    ·rw [fr_big hq2]
     refine .inr ⟨_,rfl,?_⟩
     show (([]:List TFrac),(5:Int)) = outL qs
     rw [outL_big]
     intro h
     exact hq2 (h _ (List.getElem_mem _))
   ·have e0:decide ((k:Int) < ((l.length:Nat):Int)) = false:=decide_eq_false (by omega)
    refine .inr ⟨.inr ((qs.take k).map frQ,()),by simp only [e0,cond_false],?_⟩
    rw [List.take_of_length_le (by omega)] at hf
    show ((qs.take k).map frQ,(0:Int)) = outL qs
    rw [List.take_of_length_le (by omega),outL_fit hf]) (s:=(0,([]:List TFrac),())) ⟨Nat.zero_le _,rfl,fun q hq=>by simp at hq⟩
 rw [g1]
 cases r with
 | inl y=>simpa using g2
 | inr y=>simpa using g2
end Go.Proofs.YtgbicnkpnhifgaaGreatDoor

namespace Go.Proofs.YtgbicnkpnhifgaaGreatDoor
theorem RV.w {a:TFrac} (h:RV a):RW a:=⟨by have:=h.d0;omega,by have:=h.d1;omega,by have:=h.n0;omega,by have:=h.n1;omega⟩
theorem rv_true {a:TFrac} (h:RV a):F_ratio_Valid a = some true:=by
 obtain ⟨v,e,i⟩:=f_qvalid h.w
 rw [e,i.mpr h]
end Go.Proofs.YtgbicnkpnhifgaaGreatDoor

namespace Go.Proofs.YtgbicnkpnhifgaaGreatDoor
theorem q_lt {a b:TFrac} (ha:RV a) (hb:RV b):qOf a < qOf b ↔ a.num * b.den < b.num * a.den:=by
 rw [Rat.lt_iff,(q_num ha).1,(q_num ha).2,(q_num hb).1,(q_num hb).2]
theorem wok_prod {x y:Int} (hx:0 ≤ x) (hx2:x < 18446744073709551616) (hy:0 ≤ y) (hy2:y < 18446744073709551616):F_ratio_product x y = some (ofV (x * y)) ∧ WOk (ofV (x * y)):=by
 refine ⟨f_product hx hx2 hy hy2,wok_of (Int.mul_nonneg hx hy) ?_⟩
 have:x * y ≤ 18446744073709551615 * 18446744073709551615:=Int.mul_le_mul (by omega) (by omega) hy (by omega)
 omega
theorem f_rcmp {a b:TFrac} (ha:RV a) (hb:RV b):F_ratio_Cmp a b = some (if qOf a < qOf b then -1 else if qOf b < qOf a then 1 else 0,0):=by
 obtain ⟨x0,x1,x2,x3,_⟩:=id ha
 obtain ⟨y0,y1,y2,y3,_⟩:=id hb
 simp only [q_lt ha hb,q_lt hb ha]
 unfold F_ratio_Cmp
 rw [rv_true ha,rv_true hb]
 simp only [Option.bind_some,Bool.not_true,cond_false]
 rw [f_size (by omega) (by omega),f_size (by omega) (by omega)]
 simp only [Option.bind_some,wrapu]
 rw [show b.den % 18446744073709551616 = b.den from by omega,show a.den % 18446744073709551616 = a.den from by omega]
 obtain ⟨e1,k1⟩:=wok_prod (x:=(a.num.natAbs:Int)) (y:=b.den) (by omega) (by omega) (by omega) (by omega)
 obtain ⟨e2,k2⟩:=wok_prod (x:=(b.num.natAbs:Int)) (y:=a.den) (by omega) (by omega) (by omega) (by omega)
 rw [e1,e2]
 simp only [Option.bind_some]
 by_cases c1:a.num < 0 <;> by_cases c2:b.num < 0
 ·rw [decide_eq_true c1,decide_eq_true c2]
  simp only [beq_self_eq_true,Bool.not_true,cond_false,cond_true,Option.bind_some]
  rw [f_less k2 k1,f_less k1 k2,wv_of,wv_of,show (a.num.natAbs:Int) = -a.num from by omega,show (b.num.natAbs:Int) = -b.num from by omega,Int.neg_mul,Int.neg_mul]
  generalize a.num * b.den = u
  generalize b.num * a.den = v
  by_cases d1:u < v
  ·simp [d1,show -v < -u from by omega]
  ·by_cases d2:v < u <;> simp [d1,d2,show ¬ -v < -u from by omega] <;> omega
 ·have h1:a.num * b.den < 0:=Int.mul_neg_of_neg_of_pos c1 (by omega)
  have h2:0 ≤ b.num * a.den:=Int.mul_nonneg (by omega) (by omega)
  rw [decide_eq_true c1,decide_eq_false c2,if_pos (by omega)]
  rfl
 ·have h1:b.num * a.den < 0:=Int.mul_neg_of_neg_of_pos c2 (by omega)
  have h2:0 ≤ a.num * b.den:=Int.mul_nonneg (by omega) (by omega)
  rw [decide_eq_false c1,decide_eq_true c2,if_neg (by omega),if_pos (by omega)]
  rfl
 ·rw [decide_eq_false c1,decide_eq_false c2]
  simp only [beq_self_eq_true,Bool.not_true,cond_false,Option.bind_some]
  rw [f_less k1 k2,f_less k2 k1,wv_of,wv_of,show (a.num.natAbs:Int) = a.num from by omega,show (b.num.natAbs:Int) = b.num from by omega]
  generalize a.num * b.den = u
  generalize b.num * a.den = v
  by_cases d1:u < v
  ·simp [d1]
  ·by_cases d2:v < u <;> simp [d1,d2]
end Go.Proofs.YtgbicnkpnhifgaaGreatDoor

namespace Go.Proofs.YtgbicnkpnhifgaaGreatDoor
open Go.RowKit
def letterB (c:Int):Bool:=decide (97 ≤ c ∧ c ≤ 122 ∨ 65 ≤ c ∧ c ≤ 90)
def digitB (c:Int):Bool:=decide (48 ≤ c ∧ c ≤ 57)
def betweenB (n low high:Int):Bool:=decide (low ≤ n ∧ n ≤ high)
def wcB (c:UInt8):Bool:=letterB c.toNat || (digitB c.toNat || ((c.toNat:Int) == 95))
def wordN (s:ByteArray):Nat:=(s.data.toList.takeWhile wcB).length
def nameB (s:ByteArray):Bool:=match s.data.toList with | []=>false | c :: l=>decide (l.length < 20) && (letterB c.toNat && (c :: l).all wcB)
theorem between_iff (n low high:Int):betweenB n low high = true ↔ low ≤ n ∧ n ≤ high:=by simp [betweenB]
def okAt {α:Type} (one:α → Bool) (two:α → α → Bool) (l:List α) (i:Nat):Bool:=match l[i]? with | none=>true | some x=>one x && (l.take i).all fun y=>two y x
def pairsB {α:Type} (one:α → Bool) (two:α → α → Bool) (l:List α):Bool:=(List.range l.length).all (okAt one two l)
def okTo {α:Type} (one:α → Bool) (two:α → α → Bool) (l:List α) (k:Nat):Prop:=∀ i,i < k → okAt one two l i = true
section
variable {α:Type} {one one':α → Bool} {two two':α → α → Bool} {l:List α}
theorem okAt_eq {i:Nat} (h:i < l.length):okAt one two l i = (one l[i] && (l.take i).all fun y=>two y l[i]):=by unfold okAt;rw [List.getElem?_eq_getElem h]
theorem okTo_zero:okTo one two l 0:=fun _ h=>absurd h (by omega)
theorem okTo_succ {k:Nat} (h:okTo one two l k) (h1:okAt one two l k = true):okTo one two l (k + 1):=fun i hi=>by
 rcases Nat.lt_or_ge i k with h2 | h2
 ·exact h i h2
 ·obtain rfl:i = k:=by omega
  exact h1
theorem pairs_yes (h:okTo one two l l.length):pairsB one two l = true:=List.all_eq_true.2 fun i hi=>h i (List.mem_range.1 hi)
theorem pairs_no {k:Nat} (hk:k < l.length) (h:okAt one two l k = false):pairsB one two l = false:=by
 rw [Bool.eq_false_iff]
 intro e
 have:=List.all_eq_true.1 e k (List.mem_range.2 hk)
 rw [h] at this
 cases this
theorem pairs_iff:pairsB one two l = true ↔ ∀ i (h:i < l.length),one l[i] = true ∧ ∀ k (hk:k < i),two (l[k]'(Nat.lt_trans hk h)) l[i] = true:=by
 constructor
 ·intro e i h
  have:=List.all_eq_true.1 e i (List.mem_range.2 h)
  rw [okAt_eq h,Bool.and_eq_true,List.all_eq_true] at this
  refine ⟨this.1,fun k hk=>this.2 _ ?_⟩
  rw [List.mem_take_iff_getElem]
  exact ⟨k,by omega,rfl⟩
 ·intro e
  refine List.all_eq_true.2 fun i hi=>?_
  have h:=List.mem_range.1 hi
  obtain ⟨e1,e2⟩:=e i h
  rw [okAt_eq h,Bool.and_eq_true,List.all_eq_true]
  refine ⟨e1,fun y hy=>?_⟩
  rw [List.mem_take_iff_getElem] at hy
  obtain ⟨k,hk,rfl⟩:=hy
  exact e2 k (by omega)
end
theorem pairs_split {α:Type} {one:α → Bool} {two:α → α → Bool} {l:List α}:pairsB one two l = (l.all one && pairsB (fun _=>true) two l):=by
 rw [Bool.eq_iff_iff,Bool.and_eq_true,pairs_iff,pairs_iff,List.all_eq_true]
 constructor
 ·intro e
  refine ⟨fun x hx=>?_,fun i hi=>⟨rfl,(e i hi).2⟩⟩
  obtain ⟨i,hi,rfl⟩:=List.mem_iff_getElem.1 hx
  exact (e i hi).1
 ·rintro ⟨e1,e2⟩ i hi
  exact ⟨e1 _ (List.getElem_mem hi),(e2 i hi).2⟩
theorem all_take_succ {α:Type} (l:List α) (p:α → Bool) (k:Nat) (h:k < l.length) (h0:(l.take k).all p = true) (h1:p l[k] = true):(l.take (k + 1)).all p = true:=by
 rw [List.take_succ_eq_append_getElem h,List.all_append,h0];simp [h1]
theorem all_no {α:Type} (l:List α) (p:α → Bool) (k:Nat) (h:k < l.length) (h1:p l[k] = false):l.all p = false:=by
 rw [Bool.eq_false_iff];intro e;rw [List.all_eq_true.1 e _ (List.getElem_mem h)] at h1;cases h1
def aloneB (x:TItem):Bool:=nameB x.name && (betweenB x.weight 0 1048576 && (betweenB x.hang 0 1048576 && (betweenB x.front 0 1048576 && betweenB x.back 0 1048576)))
def insideB (x:TItem) (len:Int):Bool:=decide (0 ≤ x.at_) && (betweenB x.width 1 1048576 && decide (x.at_ ≤ len - x.width))
def apartB (x y:TItem):Bool:=decide (x.at_ + x.width ≤ y.at_) || decide (y.at_ + y.width ≤ x.at_)
theorem apart_comm (x y:TItem):apartB x y = apartB y x:=by unfold apartB;rw [Bool.or_comm]
def sameName (a b:ByteArray):Bool:=a.toList == b.toList
theorem sameName_iff (a b:ByteArray):sameName a b = true ↔ a = b:=by
 unfold sameName
 rw [beq_iff_eq,ByteArray.toList_eq,ByteArray.toList_eq]
 exact ⟨fun h=>ByteArray.ext (Array.toList_inj.1 h),fun h=>by rw [h]⟩
def itemsB (l:List TItem) (len:Int):Bool:=decide (l.length ≤ 40) && (pairsB (fun x=>aloneB x && insideB x len) apartB l && pairsB (fun _=>true) (fun x y=>!sameName x.name y.name) l)
def brickB (x:TBrick):Bool:=nameB x.name && (betweenB x.weight 1 1048576 && betweenB x.count 0 60)
def sumTo {α:Type} (f:α → Int) (l:List α) (k:Nat):Int:=((l.take k).map f).sum
theorem sumTo_zero {α:Type} (f:α → Int) (l:List α):sumTo f l 0 = 0:=rfl
theorem sumTo_succ {α:Type} (f:α → Int) (l:List α) (k:Nat) (h:k < l.length):sumTo f l (k + 1) = sumTo f l k + f l[k]:=by
 unfold sumTo;rw [List.take_succ_eq_append_getElem h,List.map_append,List.sum_append_int];simp
theorem sumTo_bound {α:Type} (f:α → Int) (l:List α) (M:Int) (h:∀ x,x ∈ l → 0 ≤ f x ∧ f x ≤ M):∀ k,k ≤ l.length → 0 ≤ sumTo f l k ∧ sumTo f l k ≤ k * M:=by
 intro k
 induction k with
 | zero=>intro _;rw [sumTo_zero];omega
 | succ k ih =>
  intro hk
  have h1:=ih (by omega)
  have h2:=h l[k] (List.getElem_mem (by omega))
  rw [sumTo_succ f l k (by omega)]
  have e:((k + 1:Nat):Int) * M = (k:Int) * M + M:=by rw [Int.natCast_add,Int.add_mul];simp
  omega
def bricksB (l:List TBrick):Bool:=decide (l.length ≤ 8) && (pairsB brickB (fun x y=>!sameName x.name y.name) l && decide (sumTo (·.count) l l.length ≤ 60))
def lineAt (l:List Int) (len:Int) (i:Nat):Bool:=match l[i]? with | none=>true | some x=>betweenB x 0 len && (decide (i = 0) || decide (l[i - 1]?.getD 0 < x))
def linesB (l:List Int) (len:Int):Bool:=decide (2 ≤ l.length ∧ l.length ≤ 10) && (List.range l.length).all (lineAt l len)
def headB (S:TSet):Bool:=nameB S.name && (betweenB S.depth 0 1048576 && (decide (0 ≤ S.low) && (decide (S.low ≤ S.high) && (decide (S.high ≤ 1048576) && (betweenB S.length 1000 1048576 && decide (S.length % 1000 = 0))))))
def weightsB (S:TSet):Bool:=betweenB S.pipe 0 1048576 && (betweenB S.arbor 0 1048576 && (betweenB S.purchase 1 2 && (betweenB S.most 1 67108864 && betweenB S.brake 0 67108864)))
def validB (S:TSet):Bool:=headB S && (linesB S.lines S.length && (weightsB S && (itemsB S.items S.length && bricksB S.bricks)))
structure GoodItem (len:Int) (x:TItem):Prop where
 name:nameB x.name = true
 p0:0 ≤ x.at_
 w1:1 ≤ x.width
 pw:x.at_ + x.width ≤ len
 m0:0 ≤ x.weight
 m1:x.weight ≤ 1048576
 h0:0 ≤ x.hang
 h1:x.hang ≤ 1048576
 f0:0 ≤ x.front
 f1:x.front ≤ 1048576
 b0:0 ≤ x.back
 b1:x.back ≤ 1048576
theorem GoodItem.of {len:Int} {x:TItem} (h:(aloneB x && insideB x len) = true):GoodItem len x:=by
 simp only [aloneB,insideB,betweenB,Bool.and_eq_true,decide_eq_true_iff] at h
 obtain ⟨⟨h1,h2,h3,h4,h5⟩,h6,h7,h8⟩:=h
 exact ⟨h1,h6,h7.1,by omega,h2.1,h2.2,h3.1,h3.2,h4.1,h4.2,h5.1,h5.2⟩
structure GoodBrick (x:TBrick):Prop where
 name:nameB x.name = true
 w0:1 ≤ x.weight
 w1:x.weight ≤ 1048576
 c0:0 ≤ x.count
 c1:x.count ≤ 60
theorem GoodBrick.of {x:TBrick} (h:brickB x = true):GoodBrick x:=by
 simp only [brickB,betweenB,Bool.and_eq_true,decide_eq_true_iff] at h
 obtain ⟨h1,h2,h3⟩:=h
 exact ⟨h1,h2.1,h2.2,h3.1,h3.2⟩
structure Good (S:TSet):Prop where
 name:nameB S.name = true
 d0:0 ≤ S.depth
 d1:S.depth ≤ 1048576
 l0:0 ≤ S.low
 l1:S.low ≤ S.high
 h1:S.high ≤ 1048576
 n0:1000 ≤ S.length
 n1:S.length ≤ 1048576
 nm:S.length % 1000 = 0
 p0:0 ≤ S.pipe
 p1:S.pipe ≤ 1048576
 a0:0 ≤ S.arbor
 a1:S.arbor ≤ 1048576
 u0:1 ≤ S.purchase
 u1:S.purchase ≤ 2
 m0:1 ≤ S.most
 m1:S.most ≤ 67108864
 b0:0 ≤ S.brake
 b1:S.brake ≤ 67108864
 ln0:2 ≤ S.lines.length
 ln1:S.lines.length ≤ 10
 lat:∀ i,i < S.lines.length → lineAt S.lines S.length i = true
 ni:S.items.length ≤ 40
 items:∀ x,x ∈ S.items → GoodItem S.length x
 apart:pairsB (fun _=>true) apartB S.items = true
 inames:pairsB (fun _=>true) (fun x y=>!sameName x.name y.name) S.items = true
 nb:S.bricks.length ≤ 8
 bricks:∀ x,x ∈ S.bricks → GoodBrick x
 bnames:pairsB (fun _=>true) (fun x y=>!sameName x.name y.name) S.bricks = true
 bsum:sumTo (·.count) S.bricks S.bricks.length ≤ 60
theorem pairs_two {α:Type} {one:α → Bool} {two:α → α → Bool} {l:List α} (h:pairsB one two l = true):pairsB (fun _=>true) two l = true:=by
 rw [pairs_iff] at h ⊢
 exact fun i hi=>⟨rfl,(h i hi).2⟩
theorem pairs_one {α:Type} {one:α → Bool} {two:α → α → Bool} {l:List α} (h:pairsB one two l = true) (x:α) (hx:x ∈ l):one x = true:=by
 rw [pairs_iff] at h
 obtain ⟨i,hi,rfl⟩:=List.mem_iff_getElem.1 hx
 exact (h i hi).1
theorem Good.of {S:TSet} (h:validB S = true):Good S:=by
 simp only [validB,headB,weightsB,itemsB,bricksB,linesB,Bool.and_eq_true,decide_eq_true_iff,between_iff,List.all_eq_true,List.mem_range] at h
 obtain ⟨⟨h1,h2,h3,h4,h5,h6,h7⟩,⟨h8,h9⟩,⟨h10,h11,h12,h13,h14⟩,⟨h15,h16,h17⟩,h18,h19,h20⟩:=h
 exact ⟨h1,h2.1,h2.2,h3,h4,h5,h6.1,h6.2,h7,h10.1,h10.2,h11.1,h11.2,h12.1,h12.2,h13.1,h13.2,h14.1,h14.2,h8.1,h8.2,h9,h15,
  fun x hx=>GoodItem.of (pairs_one h16 x hx),pairs_two h16,h17,h18,fun x hx=>GoodBrick.of (pairs_one h19 x hx),pairs_two h19,h20⟩
def pipeI (S:TSet):Int:=S.pipe * (S.length / 1000)
def weightI (S:TSet):Int:=pipeI S + sumTo (·.weight) S.items S.items.length
theorem pipe_bound {S:TSet} (h:Good S):0 ≤ pipeI S ∧ pipeI S ≤ 1099511627776:=by
 have h1:0 ≤ S.length / 1000:=by have:=h.n0;omega
 have h2:S.length / 1000 ≤ 1048576:=by have:=h.n1;omega
 exact ⟨Int.mul_nonneg h.p0 h1,by
  have:=Int.mul_le_mul h.p1 h2 h1 (by decide)
  exact Int.le_trans this (by decide)⟩
theorem weights_bound {S:TSet} (h:Good S) (k:Nat) (hk:k ≤ S.items.length):0 ≤ sumTo (·.weight) S.items k ∧ sumTo (·.weight) S.items k ≤ 41943040:=by
 have h1:=sumTo_bound (·.weight) S.items 1048576 (fun x hx=>⟨(h.items x hx).m0,(h.items x hx).m1⟩) k hk
 have h2:=h.ni
 omega
end Go.Proofs.YtgbicnkpnhifgaaGreatDoor

namespace Go.Proofs.YtgbicnkpnhifgaaGreatDoor
theorem cond_some {α:Type} (c:Bool) (a b:α):(cond c (some a) (some b):Option α) = some (cond c a b):=by cases c <;> rfl
theorem decide_and_cond (p q:Prop) [Decidable p] [Decidable q]:decide (p ∧ q) = (bif decide p then decide q else false):=by by_cases h:p <;> by_cases h':q <;> simp [h,h']
theorem f_between (n lo hi:Int):F_batten_between n lo hi = some (betweenB n lo hi):=by
 unfold F_batten_between betweenB
 rw [cond_some,Option.bind_some,decide_and_cond]
 cases h:decide (n ≥ lo) <;> rfl
theorem f_slices_IndexFunc_int (s:List Int) (hs:s.length < 9223372036854775807) (f:Int → Option Bool) (g:Int → Bool) (hf:∀ x ∈ s,f x = some (g x)):F_slices_IndexFunc_int s f = some (match s.findIdx? g with | some i=>(i:Int) | none=>-1):=by
 unfold F_slices_IndexFunc_int
 rw [iter_find s hs (fun k x=>bif g x then some (Sum.inl ((k:Int),())) else none) (.inr ()) ?hin ?hout]
 ·have e:∀ (l:List Int) (j:Nat),((l.zipIdx j).findSome? fun x=>bif g x.1 then some (Sum.inl ((x.2:Int),()):(Int × Unit) ⊕ Unit) else none) = (l.findIdx? g).map fun i=>.inl (((i + j:Nat):Int),()):=by
   intro l
   induction l with
   | nil=>intro j;rfl
   | cons x l ih =>
    intro j
    rw [List.zipIdx_cons,List.findSome?_cons,List.findIdx?_cons]
    cases hg:g x with
    | true=>simp
    | false =>
     simp only [cond_false]
     rw [ih (j + 1)]
     cases l.findIdx? g with
     | none=>rfl
     | some i=>simp;omega
  rw [e s 0]
  cases s.findIdx? g with
  | none=>rfl
  | some i=>rfl
 case hin =>
  intro k hk
  have hlt:decide ((k:Int) < ((s.length:Nat):Int)) = true:=decide_eq_true (by omega)
  simp only [hlt,cond_true,idx_at hk,Option.bind_some,hf _ (List.getElem_mem hk)]
  cases g s[k] with
  | true=>rfl
  | false=>simp only [cond_false];rw [wrap64 (by omega) (by omega)]
 case hout =>
  have hlt:decide (((s.length:Nat):Int) < ((s.length:Nat):Int)) = false:=decide_eq_false (by omega)
  simp only [hlt,cond_false]
theorem f_slices_IndexFunc_api_Item (s:List TItem) (hs:s.length < 9223372036854775807) (f:TItem → Option Bool) (g:TItem → Bool) (hf:∀ x ∈ s,f x = some (g x)):F_slices_IndexFunc_api_Item s f = some (match s.findIdx? g with | some i=>(i:Int) | none=>-1):=by
 unfold F_slices_IndexFunc_api_Item
 rw [iter_find s hs (fun k x=>bif g x then some (Sum.inl ((k:Int),())) else none) (.inr ()) ?hin ?hout]
 ·have e:∀ (l:List TItem) (j:Nat),((l.zipIdx j).findSome? fun x=>bif g x.1 then some (Sum.inl ((x.2:Int),()):(Int × Unit) ⊕ Unit) else none) = (l.findIdx? g).map fun i=>.inl (((i + j:Nat):Int),()):=by
   intro l
   induction l with
   | nil=>intro j;rfl
   | cons x l ih =>
    intro j
    rw [List.zipIdx_cons,List.findSome?_cons,List.findIdx?_cons]
    cases hg:g x with
    | true=>simp
    | false =>
     simp only [cond_false]
     rw [ih (j + 1)]
     cases l.findIdx? g with
     | none=>rfl
     | some i=>simp;omega
  rw [e s 0]
  cases s.findIdx? g with
  | none=>rfl
  | some i=>rfl
 case hin =>
  intro k hk
  have hlt:decide ((k:Int) < ((s.length:Nat):Int)) = true:=decide_eq_true (by omega)
  simp only [hlt,cond_true,idx_at hk,Option.bind_some,hf _ (List.getElem_mem hk)]
  cases g s[k] with
  | true=>rfl
  | false=>simp only [cond_false];rw [wrap64 (by omega) (by omega)]
 case hout =>
  have hlt:decide (((s.length:Nat):Int) < ((s.length:Nat):Int)) = false:=decide_eq_false (by omega)
  simp only [hlt,cond_false]
theorem f_slices_ContainsFunc_api_Item (s:List TItem) (hs:s.length < 9223372036854775807) (f:TItem → Option Bool) (g:TItem → Bool) (hf:∀ x ∈ s,f x = some (g x)):F_slices_ContainsFunc_api_Item s f = some (s.any g):=by
 unfold F_slices_ContainsFunc_api_Item
 rw [f_slices_IndexFunc_api_Item s hs f g hf,Option.bind_some]
 congr 1
 cases h:s.findIdx? g with
 | none =>
  rw [List.findIdx?_eq_none_iff] at h
  have:s.any g = false:=by rw [List.any_eq_false];intro x hx;rw [h x hx];simp
  rw [this];rfl
 | some i =>
  obtain ⟨hi,hg,_⟩:=List.findIdx?_eq_some_iff_getElem.1 h
  have:s.any g = true:=List.any_eq_true.2 ⟨_,List.getElem_mem hi,hg⟩
  rw [this]
  exact decide_eq_true (by show (i:Int) ≥ 0;omega)
theorem f_slices_IndexFunc_api_Set (s:List TSet) (hs:s.length < 9223372036854775807) (f:TSet → Option Bool) (g:TSet → Bool) (hf:∀ x ∈ s,f x = some (g x)):F_slices_IndexFunc_api_Set s f = some (match s.findIdx? g with | some i=>(i:Int) | none=>-1):=by
 unfold F_slices_IndexFunc_api_Set
 rw [iter_find s hs (fun k x=>bif g x then some (Sum.inl ((k:Int),())) else none) (.inr ()) ?hin ?hout]
 ·have e:∀ (l:List TSet) (j:Nat),((l.zipIdx j).findSome? fun x=>bif g x.1 then some (Sum.inl ((x.2:Int),()):(Int × Unit) ⊕ Unit) else none) = (l.findIdx? g).map fun i=>.inl (((i + j:Nat):Int),()):=by
   intro l
   induction l with
   | nil=>intro j;rfl
   | cons x l ih =>
    intro j
    rw [List.zipIdx_cons,List.findSome?_cons,List.findIdx?_cons]
    cases hg:g x with
    | true=>simp
    | false =>
     simp only [cond_false]
     rw [ih (j + 1)]
     cases l.findIdx? g with
     | none=>rfl
     | some i=>simp;omega
  rw [e s 0]
  cases s.findIdx? g with
  | none=>rfl
  | some i=>rfl
 case hin =>
  intro k hk
  have hlt:decide ((k:Int) < ((s.length:Nat):Int)) = true:=decide_eq_true (by omega)
  simp only [hlt,cond_true,idx_at hk,Option.bind_some,hf _ (List.getElem_mem hk)]
  cases g s[k] with
  | true=>rfl
  | false=>simp only [cond_false];rw [wrap64 (by omega) (by omega)]
 case hout =>
  have hlt:decide (((s.length:Nat):Int) < ((s.length:Nat):Int)) = false:=decide_eq_false (by omega)
  simp only [hlt,cond_false]
theorem f_slices_ContainsFunc_api_Set (s:List TSet) (hs:s.length < 9223372036854775807) (f:TSet → Option Bool) (g:TSet → Bool) (hf:∀ x ∈ s,f x = some (g x)):F_slices_ContainsFunc_api_Set s f = some (s.any g):=by
 unfold F_slices_ContainsFunc_api_Set
 rw [f_slices_IndexFunc_api_Set s hs f g hf,Option.bind_some]
 congr 1
 cases h:s.findIdx? g with
 | none =>
  rw [List.findIdx?_eq_none_iff] at h
  have:s.any g = false:=by rw [List.any_eq_false];intro x hx;rw [h x hx];simp
  rw [this];rfl
 | some i =>
  obtain ⟨hi,hg,_⟩:=List.findIdx?_eq_some_iff_getElem.1 h
  have:s.any g = true:=List.any_eq_true.2 ⟨_,List.getElem_mem hi,hg⟩
  rw [this]
  exact decide_eq_true (by show (i:Int) ≥ 0;omega)
theorem f_slices_IndexFunc_api_Load (s:List TLoad) (hs:s.length < 9223372036854775807) (f:TLoad → Option Bool) (g:TLoad → Bool) (hf:∀ x ∈ s,f x = some (g x)):F_slices_IndexFunc_api_Load s f = some (match s.findIdx? g with | some i=>(i:Int) | none=>-1):=by
 unfold F_slices_IndexFunc_api_Load
 rw [iter_find s hs (fun k x=>bif g x then some (Sum.inl ((k:Int),())) else none) (.inr ()) ?hin ?hout]
 ·have e:∀ (l:List TLoad) (j:Nat),((l.zipIdx j).findSome? fun x=>bif g x.1 then some (Sum.inl ((x.2:Int),()):(Int × Unit) ⊕ Unit) else none) = (l.findIdx? g).map fun i=>.inl (((i + j:Nat):Int),()):=by
   intro l
   induction l with
   | nil=>intro j;rfl
   | cons x l ih =>
    intro j
    rw [List.zipIdx_cons,List.findSome?_cons,List.findIdx?_cons]
    cases hg:g x with
    | true=>simp
    | false =>
     simp only [cond_false]
     rw [ih (j + 1)]
     cases l.findIdx? g with
     | none=>rfl
     | some i=>simp;omega
  rw [e s 0]
  cases s.findIdx? g with
  | none=>rfl
  | some i=>rfl
 case hin =>
  intro k hk
  have hlt:decide ((k:Int) < ((s.length:Nat):Int)) = true:=decide_eq_true (by omega)
  simp only [hlt,cond_true,idx_at hk,Option.bind_some,hf _ (List.getElem_mem hk)]
  cases g s[k] with
  | true=>rfl
  | false=>simp only [cond_false];rw [wrap64 (by omega) (by omega)]
 case hout =>
  have hlt:decide (((s.length:Nat):Int) < ((s.length:Nat):Int)) = false:=decide_eq_false (by omega)
  simp only [hlt,cond_false]
theorem f_slices_ContainsFunc_api_Load (s:List TLoad) (hs:s.length < 9223372036854775807) (f:TLoad → Option Bool) (g:TLoad → Bool) (hf:∀ x ∈ s,f x = some (g x)):F_slices_ContainsFunc_api_Load s f = some (s.any g):=by
 unfold F_slices_ContainsFunc_api_Load
 rw [f_slices_IndexFunc_api_Load s hs f g hf,Option.bind_some]
 congr 1
 cases h:s.findIdx? g with
 | none =>
  rw [List.findIdx?_eq_none_iff] at h
  have:s.any g = false:=by rw [List.any_eq_false];intro x hx;rw [h x hx];simp
  rw [this];rfl
 | some i =>
  obtain ⟨hi,hg,_⟩:=List.findIdx?_eq_some_iff_getElem.1 h
  have:s.any g = true:=List.any_eq_true.2 ⟨_,List.getElem_mem hi,hg⟩
  rw [this]
  exact decide_eq_true (by show (i:Int) ≥ 0;omega)
end Go.Proofs.YtgbicnkpnhifgaaGreatDoor

namespace Go.Proofs.YtgbicnkpnhifgaaGreatDoor
def Gs {γ:Type} (X:Option γ) (P:γ → Prop):Prop:=∃ y,X = some y ∧ P y
theorem go {α γ:Type} {X:Option α} {a:α} {K:α → Option γ} {P:γ → Prop} (h:X = some a) (g:Gs (K a) P):Gs (X.bind K) P:=by subst h;exact g
theorem goo {α β γ:Type} {X:Option α} {a:α} {K:α → Option β} {L:β → Option γ} {P:γ → Prop} (h:X = some a) (g:Gs ((K a).bind L) P):Gs ((X.bind K).bind L) P:=by subst h;exact g
theorem gt {γ:Type} {c:Bool} {X Y:Option γ} {P:γ → Prop} (h:c = true) (g:Gs X P):Gs (bif c then X else Y) P:=by subst h;exact g
theorem gf {γ:Type} {c:Bool} {X Y:Option γ} {P:γ → Prop} (h:c = false) (g:Gs Y P):Gs (bif c then X else Y) P:=by subst h;exact g
theorem gbt {α γ:Type} {c:Bool} {X Y:Option α} {K:α → Option γ} {P:γ → Prop} (h:c = true) (g:Gs (X.bind K) P):Gs ((bif c then X else Y).bind K) P:=by subst h;exact g
theorem gbf {α γ:Type} {c:Bool} {X Y:Option α} {K:α → Option γ} {P:γ → Prop} (h:c = false) (g:Gs (Y.bind K) P):Gs ((bif c then X else Y).bind K) P:=by subst h;exact g
theorem gif {γ:Type} {c:Prop} [Decidable c] {X Y:Option γ} {P:γ → Prop} (h:c) (g:Gs X P):Gs (if c then X else Y) P:=by rw [if_pos h];exact g
theorem gbif {α γ:Type} {c:Prop} [Decidable c] {X Y:Option α} {K:α → Option γ} {P:γ → Prop} (h:c) (g:Gs (X.bind K) P):Gs ((if c then X else Y).bind K) P:=by rw [if_pos h];exact g
theorem gs {α γ:Type} {a:α} {K:α → Option γ} {P:γ → Prop} (g:Gs (K a) P):Gs ((some a).bind K) P:=g
theorem gend {γ:Type} {a:γ} {P:γ → Prop} (g:P a):Gs (some a) P:=⟨a,rfl,g⟩
theorem gcall {α γ:Type} {X:Option α} {Q:α → Prop} {K:α → Option γ} {P:γ → Prop} (h:Gs X Q) (g:∀ a,Q a → Gs (K a) P):Gs (X.bind K) P:=by
 obtain ⟨a,h1,h2⟩:=h
 exact go h1 (g a h2)
theorem gcalll {α β γ:Type} {X:Option α} {Q:α → Prop} {K:α → Option β} {L:β → Option γ} {P:γ → Prop} (h:Gs X Q) (g:∀ a,Q a → Gs ((K a).bind L) P):Gs ((X.bind K).bind L) P:=by
 obtain ⟨a,h1,h2⟩:=h
 exact goo h1 (g a h2)
theorem gloop {σ ρ γ:Type} {F:σ → Option (σ ⊕ ρ)} {K:ρ → Option γ} {P:γ → Prop} (Q:ρ → Prop) (I:Nat → σ → Prop) (n:Nat) (hn:n < big) {s:σ}
  (h:I 0 s) (step:∀ k s,k ≤ n → I k s → Gs (F s) fun y=>match y with | .inl s'=>k < n ∧ I (k + 1) s' | .inr r=>Q r) (hK:∀ r,Q r → Gs (K r) P):Gs ((iterF F big s).bind K) P:=by
 obtain ⟨r,h1,h2⟩:=iter_inv (F:=F) (Q:=Q) I n hn (fun k s hk hi=>by
  obtain ⟨y,h1,h2⟩:=step k s hk hi
  cases y with
  | inl s'=>exact .inl ⟨s',h1,h2.1,h2.2⟩
  | inr r=>exact .inr ⟨r,h1,h2⟩) h
 exact go h1 (hK r h2)
theorem gs_eq {γ:Type} {X:Option γ} {a:γ} (h:Gs X fun r=>r = a):X = some a:=by
 obtain ⟨y,h1,rfl⟩:=h
 exact h1
end Go.Proofs.YtgbicnkpnhifgaaGreatDoor

namespace Go.Proofs.YtgbicnkpnhifgaaGreatDoor
theorem t_fitint {n:Int} (h:n.natAbs ≤ 1152921504606846976):fitQ (n:Rat):=by
 unfold fitQ
 rw [Rat.num_intCast,Rat.den_intCast]
 omega
theorem t_cmp {a b:Rat} (ha:fitQ a) (hb:fitQ b):F_ratio_Cmp (frQ a) (frQ b) = some (if a < b then -1 else if b < a then 1 else 0,0):=by
 rw [f_rcmp (fr_rv ha).1 (fr_rv hb).1,(fr_rv ha).2,(fr_rv hb).2]
end Go.Proofs.YtgbicnkpnhifgaaGreatDoor

namespace Go.Proofs.YtgbicnkpnhifgaaGreatDoor
theorem takeWhile_len {α:Type} (p:α → Bool):∀ (l:List α) (k:Nat),k ≤ l.length → (∀ i (h:i < l.length),i < k → p l[i] = true) → (∀ h:k < l.length,p l[k] = false) → (l.takeWhile p).length = k
 | [],k,hk,_,_=>by simp at hk;subst hk;rfl
 | x :: l,0,_,_,h2=>by
  have:=h2 (by simp)
  rw [List.takeWhile_cons]
  simp only [List.getElem_cons_zero] at this
  rw [this];rfl
 | x :: l,k + 1,hk,h1,h2=>by
  have hx:=h1 0 (by simp) (by omega)
  simp only [List.getElem_cons_zero] at hx
  rw [List.takeWhile_cons,hx]
  simp only [if_true,List.length_cons]
  rw [takeWhile_len p l k (by simpa using hk) (fun i h hi=>by have:=h1 (i + 1) (by simpa using h) (by omega);simpa using this) (fun h=>by have:=h2 (by simpa using h);simpa using this)]
theorem f_letter (c:Int):F_decimal_letter c = some (letterB c):=by
 unfold F_decimal_letter letterB
 by_cases h1:c ≥ 97 <;> by_cases h2:c ≤ 122 <;> by_cases h3:c ≥ 65 <;> by_cases h4:c ≤ 90 <;> simp [h1,h2,h3,h4] <;> omega
theorem f_digit (c:Int):F_decimal_digit c = some (digitB c):=by
 unfold F_decimal_digit digitB
 by_cases h1:c ≥ 48 <;> by_cases h2:c ≤ 57 <;> simp [h1,h2] <;> omega
theorem f_word (s:ByteArray) (hs:s.size ≤ 9223372036854775806):F_decimal_word s = some (wordN s:Int):=by
 unfold F_decimal_word
 have hlen:s.data.toList.length = s.size:=rfl
 obtain ⟨r,h1,h2⟩:=iter_inv (F:=fun s12:Int × Unit=>(((bif (decide (s12.1 < ((s.size:Nat):Int))) then (idxB s s12.1).bind fun b13=>(F_decimal_letter ((b13.toNat:Nat):Int)).bind fun r14=>(bif r14 then some (true,()) else (idxB s s12.1).bind fun b15=>(F_decimal_digit ((b15.toNat:Nat):Int)).bind fun r16=>(bif r16 then some (true,()) else (idxB s s12.1).bind fun b17=>some ((((b17.toNat:Nat):Int) == 95),()))) else some (false,())):Option (Bool × Unit)).bind fun y18=>(bif y18.1 then some (.inl ((IntKind.i64.wrap (s12.1 + 1)),())) else some (.inr (s12.1,()))):Option ((Int × Unit) ⊕ (Int × Unit))))
  (Q:=fun r=>r = ((wordN s:Int),())) (fun k x=>x = ((k:Int),()) ∧ ∀ i (h:i < s.data.toList.length),i < k → wcB s.data.toList[i] = true) s.size (by unfold big;omega) (fun k x hk hi=>by
   obtain ⟨rfl,hi⟩:=hi
   by_cases hlt:k < s.size
   ·have hd:decide ((k:Int) < ((s.size:Nat):Int)) = true:=decide_eq_true (by omega)
    simp only [hd,cond_true,idxB_at hlt,Option.bind_some,f_letter,f_digit]
    rw [wrap64 (by omega) (by omega)]
    have hsel:(((bif letterB ((s[k].toNat:Nat):Int) then some (true,()) else (bif digitB ((s[k].toNat:Nat):Int) then some (true,()) else some ((((s[k].toNat:Nat):Int) == 95),()))):Option (Bool × Unit))) = some (wcB s[k],()):=by
     unfold wcB
     cases letterB s[k].toNat <;> cases digitB s[k].toNat <;> rfl
    rw [hsel]
    simp only [Option.bind_some]
    cases hw:wcB s[k] with
    | true =>
     refine .inl ⟨((k:Int) + 1,()),rfl,hlt,rfl,fun i h hik=>?_⟩
     by_cases hik':i < k
     ·exact hi i h hik'
     ·obtain rfl:i = k:=by omega
      exact hw
    | false =>
     refine .inr ⟨((k:Int),()),rfl,?_⟩
     have:=takeWhile_len wcB s.data.toList k (by omega) hi (fun _=>hw)
     unfold wordN
     rw [this]
   ·obtain rfl:k = s.size:=by omega
    have hd:decide (((s.size:Nat):Int) < ((s.size:Nat):Int)) = false:=decide_eq_false (by omega)
    simp only [hd,cond_false,Option.bind_some]
    refine .inr ⟨_,rfl,?_⟩
    have:=takeWhile_len wcB s.data.toList s.size (by omega) hi (fun h=>by omega)
    unfold wordN
    rw [this]) (s:=(0,())) ⟨rfl,fun i _ h=>by omega⟩
 rw [h1,h2]
 rfl
theorem takeWhile_all {α:Type} (p:α → Bool):∀ (l:List α),((l.takeWhile p).length == l.length) = l.all p
 | []=>rfl
 | x :: l=>by
  rw [List.takeWhile_cons,List.all_cons]
  cases p x with
  | true =>
   simp only [if_true,List.length_cons,Bool.true_and]
   rw [← takeWhile_all p l]
   rw [Bool.eq_iff_iff,beq_iff_eq,beq_iff_eq]
   omega
  | false=>simp
theorem f_name (s:ByteArray) (hs:s.size ≤ 9223372036854775806):F_decimal_IsName s = some (nameB s):=by
 unfold F_decimal_IsName nameB
 have hlen:s.data.toList.length = s.size:=rfl
 have hw:∀ (c:UInt8) (l:List UInt8),s.data.toList = c :: l → ((wordN s:Int) == ((s.size:Nat):Int)) = (c :: l).all wcB:=by
  intro c l h
  rw [← h,← takeWhile_all,hlen]
  unfold wordN
  rw [Bool.eq_iff_iff,beq_iff_eq,beq_iff_eq]
  omega
 simp only [f_word s hs,ByteArray.toList_eq]
 show Option.bind (bif (!(s.data.toList == [])) then _ else _) _ = _
 cases hl:s.data.toList with
 | nil=>rfl
 | cons c l =>
  rw [hl] at hlen
  have h0:idxB s 0 = some c:=by
   have h1:0 < s.size:=by rw [← hlen];simp
   have:=idxB_at (s:=s) (k:=0) h1
   have e:s[0] = s.data.toList[0]'(by rw [hl];simp):=rfl
   rw [e] at this
   simp only [hl,List.getElem_cons_zero] at this
   exact this
  have h1:(!(c :: l == ([]:List UInt8))) = true:=rfl
  simp only [h1,cond_true,h0,Option.bind_some,f_letter]
  have h2:decide (((s.size:Nat):Int) ≤ 20) = decide (l.length < 20):=by
   rw [← hlen]
   simp only [List.length_cons]
   by_cases h:l.length < 20
   ·rw [decide_eq_true h];exact decide_eq_true (by omega)
   ·rw [decide_eq_false h];exact decide_eq_false (by omega)
  rw [h2,hw c l hl]
  cases decide (l.length < 20) <;> cases letterB ((c.toNat:Nat):Int) <;> rfl
end Go.Proofs.YtgbicnkpnhifgaaGreatDoor

namespace Go.Proofs.YtgbicnkpnhifgaaGreatDoor
theorem f_alone (x:TItem) (hx:x.name.size ≤ 9223372036854775806):F_batten_alone x = some (aloneB x):=by
 unfold F_batten_alone aloneB
 rw [f_name _ hx]
 simp only [f_between,Option.bind_some]
 cases nameB x.name <;> cases betweenB x.weight 0 1048576 <;> cases betweenB x.hang 0 1048576 <;> cases betweenB x.front 0 1048576 <;> rfl
theorem f_inside (x:TItem) (len:Int) (h1:-4611686018427387904 ≤ len) (h2:len ≤ 4611686018427387904):F_batten_inside x len = some (insideB x len):=by
 unfold F_batten_inside insideB
 simp only [f_between,Option.bind_some]
 by_cases h:0 ≤ x.at_
 ·have e:decide (x.at_ ≥ 0) = true:=decide_eq_true h
  rw [e]
  cases hb:betweenB x.width 1 1048576 with
  | false=>rfl
  | true =>
   rw [between_iff] at hb
   rw [wrap64 (by omega) (by omega)]
   rfl
 ·have e:decide (x.at_ ≥ 0) = false:=decide_eq_false h
  rw [e]
  rfl
theorem f_apart (x y:TItem) (hx:-4611686018427387904 ≤ x.at_ + x.width ∧ x.at_ + x.width ≤ 4611686018427387904) (hy:-4611686018427387904 ≤ y.at_ + y.width ∧ y.at_ + y.width ≤ 4611686018427387904):F_batten_apart x y = some (apartB x y):=by
 unfold F_batten_apart apartB
 rw [wrap64 (by omega) (by omega),wrap64 (by omega) (by omega)]
 cases decide (x.at_ + x.width ≤ y.at_) <;> rfl
end Go.Proofs.YtgbicnkpnhifgaaGreatDoor

namespace Go.Proofs.YtgbicnkpnhifgaaGreatDoor
def keysM {α:Type} (f:α → ByteArray) (l:List α):List (ByteArray × Bool):=l.foldl (fun m x=>setM (f x) true m) []
theorem keysM_snoc {α:Type} (f:α → ByteArray) (l:List α) (x:α):keysM f (l ++ [x]) = setM (f x) true (keysM f l):=by unfold keysM;rw [List.foldl_append];rfl
theorem keysM_find {α:Type} (f:α → ByteArray) (s:ByteArray) (l:List α) (k:Nat) (hk:k ≤ l.length):(findM s (keysM f (l.take k))).isSome = true ↔ ∃ x ∈ l.take k,f x = s:=by
 induction k with
 | zero=>simp [keysM,findM]
 | succ k ih =>
  have ih:=ih (by omega)
  rw [List.take_succ_eq_append_getElem (by omega),keysM_snoc]
  by_cases h:s = f l[k]
  ·subst h
   rw [find_set_same]
   exact ⟨fun _=>⟨l[k],List.mem_append_right _ (List.mem_singleton.2 rfl),rfl⟩,fun _=>rfl⟩
  ·rw [find_set_other h,ih]
   constructor
   ·rintro ⟨x,hx,e⟩
    exact ⟨x,List.mem_append_left _ hx,e⟩
   ·rintro ⟨x,hx,e⟩
    rcases List.mem_append.1 hx with hx | hx
    ·exact ⟨x,hx,e⟩
    ·rw [List.mem_singleton] at hx
     subst hx
     exact absurd e.symm h
theorem keysM_length {α:Type} (f:α → ByteArray) (l:List α) (k:Nat) (hk:k ≤ l.length):(keysM f (l.take k)).length ≤ k ∧ ((keysM f (l.take k)).length = k ↔ ∀ i (hi:i < k) j (hj:j < i),f (l[j]'(by omega)) ≠ f (l[i]'(by omega))):=by
 induction k with
 | zero=>exact ⟨by simp [keysM],by simp [keysM]⟩
 | succ k ih =>
  obtain ⟨h1,h2⟩:=ih (by omega)
  have hfind:=keysM_find f (f l[k]) l k (by omega)
  have hlen:=length_set (f l[k]) true (keysM f (l.take k))
  rw [List.take_succ_eq_append_getElem (by omega),keysM_snoc,hlen]
  by_cases hs:(findM (f l[k]) (keysM f (l.take k))).isSome = true
  ·rw [if_pos hs]
   refine ⟨by omega,⟨fun e=>by omega,fun e=>?_⟩⟩
   obtain ⟨x,hx,he⟩:=hfind.1 hs
   obtain ⟨j,hj,rfl⟩:=List.mem_take_iff_getElem.1 hx
   exact absurd he (e k (by omega) j (by omega))
  ·rw [if_neg hs]
   refine ⟨by omega,⟨fun e i hi j hj=>?_,fun e=>?_⟩⟩
   ·by_cases hik:i < k
    ·exact h2.1 (by omega) i hik j hj
    ·obtain rfl:i = k:=by omega
     intro he
     exact hs (hfind.2 ⟨l[j]'(by omega),List.mem_take_iff_getElem.2 ⟨j,by omega,rfl⟩,he⟩)
   ·have:=h2.2 (fun i hi j hj=>e i (by omega) j hj)
    omega
theorem keysM_twice {α:Type} (f:α → ByteArray) (l:List α):decide ((((keysM f l).length:Nat):Int) < ((l.length:Nat):Int)) = !pairsB (fun _=>true) (fun x y=>!sameName (f x) (f y)) l:=by
 obtain ⟨h1,h2⟩:=keysM_length f l l.length (Nat.le_refl _)
 rw [List.take_length] at h1 h2
 have h3:(keysM f l).length = l.length ↔ pairsB (fun _=>true) (fun x y=>!sameName (f x) (f y)) l = true:=by
  rw [h2,pairs_iff]
  constructor
  ·intro e i hi
   refine ⟨rfl,fun k hk=>?_⟩
   rw [Bool.not_eq_true',Bool.eq_false_iff,Ne,sameName_iff]
   exact e i hi k hk
  ·intro e i hi j hj
   have:=(e i hi).2 j hj
   rw [Bool.not_eq_true',Bool.eq_false_iff,Ne,sameName_iff] at this
   exact this
 cases hp:pairsB (fun _=>true) (fun x y=>!sameName (f x) (f y)) l with
 | true=>exact decide_eq_false (by have:=h3.2 hp;omega)
 | false=>exact decide_eq_true (by
   have:(keysM f l).length ≠ l.length:=fun e=>by rw [h3.1 e] at hp;cases hp
   omega)
theorem f_batten_twice_api_Item (l:List TItem) (hl:l.length ≤ 2147483648) (name:TItem → Option ByteArray) (f:TItem → ByteArray) (hf:∀ x ∈ l,name x = some (f x) ∧ (f x).size ≤ 2147483648) :
  F_batten_twice_api_Item l name = some (!pairsB (fun _=>true) (fun x y=>!sameName (f x) (f y)) l):=by
 unfold F_batten_twice_api_Item
 obtain ⟨r,h1,h2⟩:=iter_inv (F:=fun s5:Int × List (ByteArray × Bool) × Unit=>(bif (decide (s5.1 < ((l.length:Nat):Int))) then (idx l s5.1).bind fun x6=>(name x6).bind fun r7=>(if r7.size ≤ 2147483648 ∧ s5.2.1.length ≤ 2147483648 then some (.inl ((IntKind.i64.wrap (s5.1 + 1)),(setM r7 true s5.2.1),())) else none) else some (.inr (s5.2.1,())):Option ((Int × List (ByteArray × Bool) × Unit) ⊕ (List (ByteArray × Bool) × Unit))))
  (Q:=fun r=>r = (keysM f l,())) (fun k s=>s = ((k:Int),keysM f (l.take k),())) l.length (by unfold big;omega) (fun k s hk hs=>by
   subst hs
   by_cases hlt:k < l.length
   ·have hd:decide ((k:Int) < ((l.length:Nat):Int)) = true:=decide_eq_true (by omega)
    obtain ⟨g1,g2⟩:=hf l[k] (List.getElem_mem hlt)
    have g3:=(keysM_length f l k (by omega)).1
    simp only [hd,cond_true,idx_at hlt,Option.bind_some,g1]
    rw [if_pos ⟨g2,by omega⟩,wrap64 (by omega) (by omega)]
    exact .inl ⟨_,rfl,hlt,by rw [List.take_succ_eq_append_getElem hlt,keysM_snoc];rfl⟩
   ·obtain rfl:k = l.length:=by omega
    have hd:decide (((l.length:Nat):Int) < ((l.length:Nat):Int)) = false:=decide_eq_false (by omega)
    simp only [hd,cond_false]
    exact .inr ⟨_,rfl,by rw [List.take_length]⟩) (s:=(0,([]:List (ByteArray × Bool)),())) rfl
 rw [h1,h2,Option.bind_some,keysM_twice]
theorem f_batten_twice_api_Brick (l:List TBrick) (hl:l.length ≤ 2147483648) (name:TBrick → Option ByteArray) (f:TBrick → ByteArray) (hf:∀ x ∈ l,name x = some (f x) ∧ (f x).size ≤ 2147483648) :
  F_batten_twice_api_Brick l name = some (!pairsB (fun _=>true) (fun x y=>!sameName (f x) (f y)) l):=by
 unfold F_batten_twice_api_Brick
 obtain ⟨r,h1,h2⟩:=iter_inv (F:=fun s5:Int × List (ByteArray × Bool) × Unit=>(bif (decide (s5.1 < ((l.length:Nat):Int))) then (idx l s5.1).bind fun x6=>(name x6).bind fun r7=>(if r7.size ≤ 2147483648 ∧ s5.2.1.length ≤ 2147483648 then some (.inl ((IntKind.i64.wrap (s5.1 + 1)),(setM r7 true s5.2.1),())) else none) else some (.inr (s5.2.1,())):Option ((Int × List (ByteArray × Bool) × Unit) ⊕ (List (ByteArray × Bool) × Unit))))
  (Q:=fun r=>r = (keysM f l,())) (fun k s=>s = ((k:Int),keysM f (l.take k),())) l.length (by unfold big;omega) (fun k s hk hs=>by
   subst hs
   by_cases hlt:k < l.length
   ·have hd:decide ((k:Int) < ((l.length:Nat):Int)) = true:=decide_eq_true (by omega)
    obtain ⟨g1,g2⟩:=hf l[k] (List.getElem_mem hlt)
    have g3:=(keysM_length f l k (by omega)).1
    simp only [hd,cond_true,idx_at hlt,Option.bind_some,g1]
    rw [if_pos ⟨g2,by omega⟩,wrap64 (by omega) (by omega)]
    exact .inl ⟨_,rfl,hlt,by rw [List.take_succ_eq_append_getElem hlt,keysM_snoc];rfl⟩
   ·obtain rfl:k = l.length:=by omega
    have hd:decide (((l.length:Nat):Int) < ((l.length:Nat):Int)) = false:=decide_eq_false (by omega)
    simp only [hd,cond_false]
    exact .inr ⟨_,rfl,by rw [List.take_length]⟩) (s:=(0,([]:List (ByteArray × Bool)),())) rfl
 rw [h1,h2,Option.bind_some,keysM_twice]
end Go.Proofs.YtgbicnkpnhifgaaGreatDoor

namespace Go.Proofs.YtgbicnkpnhifgaaGreatDoor
theorem inside_sum {x:TItem} {len:Int} (h:insideB x len = true) (hl:len ≤ 4611686018427387904):-4611686018427387904 ≤ x.at_ + x.width ∧ x.at_ + x.width ≤ 4611686018427387904:=by
 simp only [insideB,betweenB,Bool.and_eq_true,decide_eq_true_iff] at h
 omega
theorem f_items (l:List TItem) (len:Int) (hl:l.length ≤ 2147483648) (hn:∀ x ∈ l,x.name.size ≤ 2147483648) (h1:-4611686018427387904 ≤ len) (h2:len ≤ 4611686018427387904):F_batten_items l len = some (itemsB l len):=by
 unfold F_batten_items itemsB
 rw [f_batten_twice_api_Item l hl (fun z3=>F_batten_items_1 z3) (fun x=>x.name) (fun x hx=>⟨rfl,hn x hx⟩)]
 by_cases h40:l.length ≤ 40
 ·have e1:decide (((l.length:Nat):Int) > 40) = false:=decide_eq_false (by omega)
  rw [e1,decide_eq_true h40]
  cases hp:pairsB (fun _=>true) (fun x y:TItem=>!sameName x.name y.name) l with
  | false=>simp only [cond_false,Option.bind_some,Bool.not_false,cond_true,Bool.and_false]
  | true =>
   simp only [cond_false,Option.bind_some,Bool.not_true,Bool.and_true,Bool.true_and]
   obtain ⟨r,g1,g2⟩:=iter_inv (F:=fun s16:Int × Unit=>(bif (decide (s16.1 < ((l.length:Nat):Int))) then (idx l s16.1).bind fun x17=>((F_batten_alone x17).bind fun r18=>(bif (!r18) then some (true,()) else (F_batten_inside x17 len).bind fun r19=>(bif (!r19) then some (true,()) else (if 0 ≤ (0:Int) ∧ (0:Int) ≤ s16.1 ∧ s16.1 ≤ ((l.length:Nat):Int) then (F_slices_ContainsFunc_api_Item ((l.take (Int.toNat s16.1)).drop (Int.toNat (0:Int))) (fun z20=>F_batten_items_2 z20 x17)).bind fun r21=>some (r21,()) else none))):Option (Bool × Unit)).bind fun y22=>(bif y22.1 then some (.inr (.inl (false,()))) else some (.inl ((IntKind.i64.wrap (s16.1 + 1)),()))) else some (.inr (.inr ((())))):Option ((Int × Unit) ⊕ ((Bool × Unit) ⊕ Unit))))
    (Q:=fun r=>r = (bif pairsB (fun x=>aloneB x && insideB x len) apartB l then .inr () else .inl (false,()))) (fun k s=>s = ((k:Int),()) ∧ okTo (fun x=>aloneB x && insideB x len) apartB l k) l.length (by unfold big;omega) (fun k s hk hs=>by
     obtain ⟨rfl,hok⟩:=hs
     by_cases hlt:k < l.length
     ·have hd:decide ((k:Int) < ((l.length:Nat):Int)) = true:=decide_eq_true (by omega)
      have hna:=hn l[k] (List.getElem_mem hlt)
      simp only [hd,cond_true,idx_at hlt,Option.bind_some,f_alone l[k] (by omega),f_inside l[k] len h1 h2]
      have hat:=okAt_eq (one:=fun x=>aloneB x && insideB x len) (two:=apartB) hlt
      have hno:∀ b,okAt (fun x=>aloneB x && insideB x len) apartB l k = false → b = (Sum.inl (false,()):(Bool × Unit) ⊕ Unit) → b = (bif pairsB (fun x=>aloneB x && insideB x len) apartB l then .inr () else .inl (false,())):=fun b h hb=>by rw [pairs_no hlt h,hb];rfl
      cases ha:aloneB l[k] with
      | false=>exact .inr ⟨_,rfl,hno _ (by rw [hat,ha];rfl) rfl⟩
      | true =>
       cases hi:insideB l[k] len with
       | false=>exact .inr ⟨_,rfl,hno _ (by rw [hat,ha,hi];rfl) rfl⟩
       | true =>
        simp only [Bool.not_true,cond_false]
        rw [if_pos ⟨by omega,by omega,by omega⟩,Int.toNat_natCast]
        have hxs:=inside_sum hi h2
        rw [f_slices_ContainsFunc_api_Item ((l.take k).drop (Int.toNat 0)) (by simp;omega) _ (fun z=>!apartB l[k] z) (fun z hz=>by
         have hz':z ∈ l.take k:=by simpa using hz
         obtain ⟨j,hj,rfl⟩:=List.mem_take_iff_getElem.1 hz'
         have hjk:j < k:=by omega
         have:=hok j hjk
         rw [okAt_eq (by omega)] at this
         simp only [Bool.and_eq_true] at this
         unfold F_batten_items_2
         rw [f_apart _ _ hxs (inside_sum this.1.2 h2)]
         rfl)]
        have hdr:(l.take k).drop (Int.toNat 0) = l.take k:=by simp
        rw [hdr]
        simp only [Option.bind_some]
        have hall:((l.take k).any fun z=>!apartB l[k] z) = !(l.take k).all fun y=>apartB y l[k]:=by
         rw [List.not_all_eq_any_not]
         congr 1
         funext z
         rw [apart_comm]
        rw [hall]
        cases hq:(l.take k).all fun y=>apartB y l[k] with
        | false=>exact .inr ⟨_,rfl,hno _ (by rw [hat,ha,hi,hq];rfl) rfl⟩
        | true =>
         refine .inl ⟨((k:Int) + 1,()),?_,hlt,rfl,okTo_succ hok (by rw [hat,ha,hi,hq];rfl)⟩
         simp only [Bool.not_true,cond_false]
         rw [wrap64 (by omega) (by omega)]
     ·obtain rfl:k = l.length:=by omega
      have hd:decide (((l.length:Nat):Int) < ((l.length:Nat):Int)) = false:=decide_eq_false (by omega)
      simp only [hd,cond_false]
      exact .inr ⟨_,rfl,by rw [pairs_yes hok];rfl⟩) (s:=(0,())) ⟨rfl,okTo_zero⟩
   rw [g1,g2]
   cases pairsB (fun x=>aloneB x && insideB x len) apartB l <;> rfl
 ·have e1:decide (((l.length:Nat):Int) > 40) = true:=decide_eq_true (by omega)
  rw [e1,decide_eq_false h40]
  rfl
end Go.Proofs.YtgbicnkpnhifgaaGreatDoor

namespace Go.Proofs.YtgbicnkpnhifgaaGreatDoor
theorem f_bricks (l:List TBrick) (hl:l.length ≤ 2147483648) (hn:∀ x ∈ l,x.name.size ≤ 2147483648):F_batten_bricks l = some (bricksB l):=by
 unfold F_batten_bricks bricksB
 rw [f_batten_twice_api_Brick l hl (fun z3=>F_batten_bricks_1 z3) (fun x=>x.name) (fun x hx=>⟨rfl,hn x hx⟩),pairs_split (one:=brickB)]
 by_cases h8:l.length ≤ 8
 ·have e1:decide (((l.length:Nat):Int) > 8) = false:=decide_eq_false (by omega)
  rw [e1,decide_eq_true h8]
  cases hp:pairsB (fun _=>true) (fun x y:TBrick=>!sameName x.name y.name) l with
  | false=>simp only [cond_false,Option.bind_some,Bool.not_false,cond_true,Bool.and_false,Bool.false_and]
  | true =>
   simp only [cond_false,Option.bind_some,Bool.not_true,Bool.and_true,Bool.true_and]
   obtain ⟨r,g1,g2⟩:=iter_inv (F:=fun s14:Int × Int × Unit=>(bif (decide (s14.2.1 < ((l.length:Nat):Int))) then (idx l s14.2.1).bind fun x15=>((F_decimal_IsName x15.name).bind fun r16=>(bif (!r16) then some (true,()) else (F_batten_between x15.weight 1 1048576).bind fun r17=>(bif (!r17) then some (true,()) else (F_batten_between x15.count 0 60).bind fun r18=>some ((!r18),()))):Option (Bool × Unit)).bind fun y19=>(bif y19.1 then some (.inr (.inl (false,()))) else some (.inl ((IntKind.i64.wrap (s14.1 + x15.count)),(IntKind.i64.wrap (s14.2.1 + 1)),()))) else some (.inr (.inr ((s14.1,())))):Option ((Int × Int × Unit) ⊕ ((Bool × Unit) ⊕ (Int × Unit)))))
    (Q:=fun r=>r = (bif l.all brickB then .inr (sumTo (·.count) l l.length,()) else .inl (false,()))) (fun k s=>s = (sumTo (·.count) l k,(k:Int),()) ∧ (l.take k).all brickB = true) l.length (by unfold big;omega) (fun k s hk hs=>by
     obtain ⟨rfl,hok⟩:=hs
     by_cases hlt:k < l.length
     ·have hd:decide ((k:Int) < ((l.length:Nat):Int)) = true:=decide_eq_true (by omega)
      have hna:=hn l[k] (List.getElem_mem hlt)
      simp only [hd,cond_true,idx_at hlt,Option.bind_some,f_name l[k].name (by omega),f_between]
      cases hb:brickB l[k] with
      | false =>
       refine .inr ⟨.inl (false,()),?_,by rw [all_no l brickB k hlt hb];rfl⟩
       unfold brickB at hb
       cases ha:nameB l[k].name <;> cases hc:betweenB l[k].weight 1 1048576 <;> cases hd':betweenB l[k].count 0 60 <;> first | rfl | (rw [ha,hc,hd'] at hb;cases hb)
      | true =>
       have hg:=GoodBrick.of hb
       have hsum:=sumTo_bound (·.count) (l.take k) 60 (fun x hx=>by
        have:=GoodBrick.of (List.all_eq_true.1 hok x hx)
        exact ⟨this.c0,this.c1⟩) k (by simp;omega)
       have hsk:sumTo (·.count) (l.take k) k = sumTo (·.count) l k:=by unfold sumTo;rw [List.take_take,Nat.min_self]
       rw [hsk] at hsum
       refine .inl ⟨(sumTo (·.count) l k + l[k].count,(k:Int) + 1,()),?_,hlt,by rw [sumTo_succ _ _ _ hlt];rfl,all_take_succ l brickB k hlt hok hb⟩
       have hc0:=hg.c0
       have hc1:=hg.c1
       unfold brickB at hb
       simp only [Bool.and_eq_true] at hb
       rw [hb.1,hb.2.1,hb.2.2,wrap64 (by omega) (by omega),wrap64 (by omega) (by omega)]
       rfl
     ·obtain rfl:k = l.length:=by omega
      have hd:decide (((l.length:Nat):Int) < ((l.length:Nat):Int)) = false:=decide_eq_false (by omega)
      simp only [hd,cond_false]
      rw [List.take_length] at hok
      exact .inr ⟨_,rfl,by rw [hok];rfl⟩) (s:=(0,0,())) ⟨rfl,by simp⟩
   rw [g1,g2]
   cases l.all brickB <;> rfl
 ·have e1:decide (((l.length:Nat):Int) > 8) = true:=decide_eq_true (by omega)
  rw [e1,decide_eq_false h8]
  rfl
end Go.Proofs.YtgbicnkpnhifgaaGreatDoor

namespace Go.Proofs.YtgbicnkpnhifgaaGreatDoor
theorem lineAt_eq (l:List Int) (len:Int) (i:Nat) (h:i < l.length):lineAt l len i = (betweenB l[i] 0 len && (decide (i = 0) || decide (l[i - 1]'(by omega) < l[i]))):=by
 unfold lineAt
 rw [List.getElem?_eq_getElem h,List.getElem?_eq_getElem (show i - 1 < l.length by omega)]
 rfl
theorem linesB_iff (l:List Int) (len:Int):linesB l len = true ↔ 2 ≤ l.length ∧ l.length ≤ 10 ∧ ∀ i (h:i < l.length),0 ≤ l[i] ∧ l[i] ≤ len ∧ (i = 0 ∨ l[i - 1]'(by omega) < l[i]):=by
 unfold linesB
 rw [Bool.and_eq_true,decide_eq_true_iff,List.all_eq_true,and_assoc]
 refine and_congr Iff.rfl (and_congr Iff.rfl ⟨fun h i hi=>?_,fun h i hi=>?_⟩)
 ·have:=h i (List.mem_range.2 hi)
  rw [lineAt_eq l len i hi,Bool.and_eq_true,between_iff,Bool.or_eq_true,decide_eq_true_iff,decide_eq_true_iff,and_assoc] at this
  exact this
 ·rw [lineAt_eq l len i (List.mem_range.1 hi),Bool.and_eq_true,between_iff,Bool.or_eq_true,decide_eq_true_iff,decide_eq_true_iff,and_assoc]
  exact h i (List.mem_range.1 hi)
theorem asc_mono (l:List Int) (h:∀ i (h:i < l.length),1 ≤ i → l[i - 1]'(by omega) < l[i]):∀ j (hj:j < l.length) i (hi:i ≤ j),l[i]'(by omega) ≤ l[j]:=by
 intro j
 induction j with
 | zero =>
  intro hj i hi
  obtain rfl:i = 0:=by omega
  exact Int.le_refl _
 | succ j ih =>
  intro hj i hi
  rcases Nat.lt_or_ge i (j + 1) with h1 | h1
  ·have h2:=ih (by omega) i (by omega)
   have h3:=h (j + 1) hj (by omega)
   simp only [Nat.add_sub_cancel] at h3
   omega
  ·obtain rfl:i = j + 1:=by omega
   exact Int.le_refl _
theorem lines_yes (l:List Int) (len:Int) (h2:2 ≤ l.length) (h10:l.length ≤ 10) (h0:0 ≤ l[0]) (hl:l[l.length - 1] ≤ len) (h:∀ i (h:i < l.length),1 ≤ i → l[i - 1]'(by omega) < l[i]):linesB l len = true:=by
 rw [linesB_iff]
 refine ⟨h2,h10,fun i hi=>?_⟩
 have m:=asc_mono l h
 have m1:=m i hi 0 (by omega)
 have m2:=m (l.length - 1) (by omega) i (by omega)
 refine ⟨by omega,by omega,?_⟩
 rcases Nat.eq_zero_or_pos i with h1 | h1
 ·exact Or.inl h1
 ·exact Or.inr (h i hi h1)
theorem lines_no_len (l:List Int) (len:Int) (h:¬ (2 ≤ l.length ∧ l.length ≤ 10)):linesB l len = false:=by
 rw [Bool.eq_false_iff];intro e;rw [linesB_iff] at e;exact h ⟨e.1,e.2.1⟩
theorem lines_no_at (l:List Int) (len:Int) (i:Nat) (hi:i < l.length) (h:l[i] < 0 ∨ len < l[i] ∨ (i ≠ 0 ∧ l[i] ≤ l[i - 1]'(by omega))):linesB l len = false:=by
 rw [Bool.eq_false_iff];intro e;rw [linesB_iff] at e
 have:=e.2.2 i hi
 omega
def AscTo (l:List Int) (k:Nat):Prop:=∀ i (h:i < l.length),1 ≤ i → i < k → l[i - 1]'(by omega) < l[i]
theorem AscTo.succ {l:List Int} {k:Nat} (h:AscTo l k) (hk:k < l.length) (h1:l[k - 1]'(by omega) < l[k]):AscTo l (k + 1):=fun i hi hi1 hik=>by
 rcases Nat.lt_or_ge i k with h2 | h2
 ·exact h i hi hi1 h2
 ·obtain rfl:i = k:=by omega
  exact h1
theorem f_lines (l:List Int) (len:Int) (hl:l.length ≤ 2147483648):F_batten_lines l len = some (linesB l len):=by
 unfold F_batten_lines
 rw [f_between,Option.bind_some]
 by_cases hb:2 ≤ l.length ∧ l.length ≤ 10
 ·have e1:betweenB ((l.length:Nat):Int) 2 10 = true:=(between_iff _ _ _).2 (by omega)
  have i0:idx l 0 = some (l[0]'(by omega)):=idx_at (k:=0) (by omega)
  have i1:idx l (IntKind.i64.wrap (((l.length:Nat):Int) - 1)) = some (l[l.length - 1]'(by omega)):=by
   rw [wrap64 (by omega) (by omega),show ((l.length:Nat):Int) - 1 = ((l.length - 1:Nat):Int) from by omega]
   exact idx_at (by omega)
  rw [e1,i0,i1]
  simp only [Bool.not_true,cond_false,Option.bind_some]
  by_cases h0:l[0]'(by omega) < 0
  ·rw [decide_eq_true h0,lines_no_at l len 0 (by omega) (.inl h0)];rfl
  rw [decide_eq_false h0]
  by_cases h1:l[l.length - 1]'(by omega) > len
  ·rw [decide_eq_true h1,lines_no_at l len (l.length - 1) (by omega) (.inr (.inl h1))];rfl
  rw [decide_eq_false h1]
  simp only [cond_false,Option.bind_some]
  obtain ⟨r,g1,g2⟩:=iter_inv (F:=fun s10:Int × Unit=>(bif (decide (s10.1 < ((l.length:Nat):Int))) then (idx l s10.1).bind fun x11=>(idx l (IntKind.i64.wrap (s10.1 - 1))).bind fun x12=>(bif (decide (x11 ≤ x12)) then some (.inr (.inl (false,()))) else some (.inl ((IntKind.i64.wrap (s10.1 + 1)),()))) else some (.inr (.inr ((())))):Option ((Int × Unit) ⊕ ((Bool × Unit) ⊕ Unit))))
   (Q:=fun r=>r = (bif linesB l len then .inr () else .inl (false,()))) (fun k s=>s = (((k + 1:Nat):Int),()) ∧ AscTo l (k + 1)) (l.length - 1) (by unfold big;omega) (fun k s hk hs=>by
    obtain ⟨rfl,ha⟩:=hs
    by_cases hlt:k + 1 < l.length
    ·have hd:decide (((k + 1:Nat):Int) < ((l.length:Nat):Int)) = true:=decide_eq_true (by omega)
     have i2:idx l (IntKind.i64.wrap (((k + 1:Nat):Int) - 1)) = some (l[k]'(by omega)):=by
      rw [wrap64 (by omega) (by omega),show ((k + 1:Nat):Int) - 1 = (k:Int) from by omega]
      exact idx_at (by omega)
     simp only [hd,cond_true,idx_at hlt,i2,Option.bind_some]
     by_cases hle:l[k + 1] ≤ l[k]'(by omega)
     ·rw [decide_eq_true hle]
      exact .inr ⟨_,rfl,by rw [lines_no_at l len (k + 1) hlt (.inr (.inr ⟨by omega,by simpa using hle⟩))];rfl⟩
     ·rw [decide_eq_false hle]
      refine .inl ⟨(((k + 1 + 1:Nat):Int),()),?_,by omega,rfl,ha.succ hlt (by simp only [Nat.add_sub_cancel];omega)⟩
      simp only [cond_false]
      rw [wrap64 (by omega) (by omega)]
      rfl
    ·have hk1:k + 1 = l.length:=by omega
     have hd:decide (((k + 1:Nat):Int) < ((l.length:Nat):Int)) = false:=decide_eq_false (by omega)
     simp only [hd,cond_false]
     exact .inr ⟨_,rfl,by rw [lines_yes l len hb.1 hb.2 (by omega) (by omega) (fun i hi h1=>ha i hi h1 (by omega))];rfl⟩) (s:=(1,())) ⟨rfl,fun i hi h1 h2=>by omega⟩
  rw [g1,g2]
  cases linesB l len <;> rfl
 ·have e1:betweenB ((l.length:Nat):Int) 2 10 = false:=by
   rw [Bool.eq_false_iff]
   intro e
   rw [between_iff] at e
   omega
  rw [e1,lines_no_len l len hb]
  rfl
end Go.Proofs.YtgbicnkpnhifgaaGreatDoor

namespace Go.Proofs.YtgbicnkpnhifgaaGreatDoor
structure Fits (s:TSet):Prop where
 name:s.name.size ≤ 2147483648
 lines:s.lines.length ≤ 2147483648
 items:s.items.length ≤ 2147483648
 bricks:s.bricks.length ≤ 2147483648
 inames:∀ x ∈ s.items,x.name.size ≤ 2147483648
 bnames:∀ x ∈ s.bricks,x.name.size ≤ 2147483648
theorem f_valid (s:TSet) (h:Fits s):F_batten_Valid s = some (validB s):=by
 unfold F_batten_Valid validB headB weightsB
 rw [f_name s.name (by have:=h.name;omega),f_lines s.lines s.length h.lines,f_bricks s.bricks h.bricks h.bnames]
 simp only [f_between,Option.bind_some]
 cases nameB s.name <;> try rfl
 cases betweenB s.depth 0 1048576 <;> try rfl
 cases decide (0 ≤ s.low) <;> try rfl
 cases decide (s.low ≤ s.high) <;> try rfl
 cases decide (s.high ≤ 1048576) <;> try rfl
 cases hl:betweenB s.length 1000 1048576 <;> try rfl
 rw [between_iff] at hl
 have hm:(s.length.tmod 1000 == 0) = decide (s.length % 1000 = 0):=by
  rw [Int.tmod_eq_emod_of_nonneg (by omega)]
  by_cases hz:s.length % 1000 = 0
  ·rw [decide_eq_true hz,beq_iff_eq.2 hz]
  ·rw [decide_eq_false hz,beq_eq_false_iff_ne.2 hz]
 rw [hm,f_items s.items s.length h.items h.inames (by omega) (by omega)]
 simp only [cond_true,Option.bind_some]
 cases decide (s.length % 1000 = 0) <;> try rfl
 cases linesB s.lines s.length <;> try rfl
 cases betweenB s.pipe 0 1048576 <;> try rfl
 cases betweenB s.arbor 0 1048576 <;> try rfl
 cases betweenB s.purchase 1 2 <;> try rfl
 cases betweenB s.most 1 67108864 <;> try rfl
 cases betweenB s.brake 0 67108864 <;> try rfl
 cases itemsB s.items s.length <;> rfl
end Go.Proofs.YtgbicnkpnhifgaaGreatDoor

namespace Go.Proofs.YtgbicnkpnhifgaaGreatDoor
theorem iter_sum {α:Type} (f:α → Int) (l:List α) (hl:l.length ≤ 2147483648) (M:Int) (hM0:0 ≤ M) (hM:M ≤ 1152921504606846976) (a:Int) (ha:0 ≤ a ∧ a ≤ 1152921504606846976) (hb:∀ k,k ≤ l.length → 0 ≤ sumTo f l k ∧ sumTo f l k ≤ M) {F:Int × Int × Unit → Option ((Int × Int × Unit) ⊕ (Int × Unit))}
  (hin:∀ (k:Nat) (hk:k < l.length) (z:Int),z = a + sumTo f l k → F (z,(k:Int),()) = some (.inl (IntKind.i64.wrap (z + f l[k]),(k:Int) + 1,()))) (hout:∀ z:Int,F (z,(l.length:Int),()) = some (.inr (z,()))) :
  iterF F big (a,0,()) = some (a + sumTo f l l.length,()):=by
 obtain ⟨r,h1,h2⟩:=iter_inv (F:=F) (Q:=fun r=>r = (a + sumTo f l l.length,())) (fun k s=>s = (a + sumTo f l k,(k:Int),())) l.length (by unfold big;omega) (fun k s hk hs=>by
  subst hs
  by_cases hlt:k < l.length
  ·have h3:=hb (k + 1) (by omega)
   have h4:=hb k hk
   have e:=hin k hlt _ rfl
   rw [sumTo_succ _ _ _ hlt] at h3
   rw [wrap64 (by omega) (by omega)] at e
   exact .inl ⟨_,e,hlt,by rw [sumTo_succ _ _ _ hlt,Int.add_assoc];rfl⟩
  ·obtain rfl:k = l.length:=by omega
   exact .inr ⟨_,hout _,rfl⟩) (s:=(a,0,())) (by rw [sumTo_zero];simp)
 rw [h1,h2]
def thereW (l:List TBrick):Int:=sumTo (fun b=>b.weight * b.count) l l.length
def thereC (l:List TBrick):Int:=sumTo (·.count) l l.length
theorem brick_mul {x:TBrick} (h:GoodBrick x):0 ≤ x.weight * x.count ∧ x.weight * x.count ≤ 62914560:=by
 have h1:=h.w0
 have h2:=h.c0
 refine ⟨Int.mul_nonneg (by omega) h2,?_⟩
 have:=Int.mul_le_mul h.w1 h.c1 h2 (by decide)
 exact Int.le_trans this (by decide)
theorem thereW_bound {l:List TBrick} (hl:l.length ≤ 8) (h:∀ x ∈ l,GoodBrick x) (k:Nat) (hk:k ≤ l.length):0 ≤ sumTo (fun b:TBrick=>b.weight * b.count) l k ∧ sumTo (fun b:TBrick=>b.weight * b.count) l k ≤ 503316480:=by
 have h1:=sumTo_bound (fun b:TBrick=>b.weight * b.count) l 62914560 (fun x hx=>brick_mul (h x hx)) k hk
 omega
theorem thereC_bound {l:List TBrick} (hl:l.length ≤ 8) (h:∀ x ∈ l,GoodBrick x) (k:Nat) (hk:k ≤ l.length):0 ≤ sumTo (·.count) l k ∧ sumTo (·.count) l k ≤ 480:=by
 have h1:=sumTo_bound (·.count) l 60 (fun x hx=>⟨(h x hx).c0,(h x hx).c1⟩) k hk
 omega
theorem f_there (s:TSet) (hl:s.bricks.length ≤ 8) (h:∀ x ∈ s.bricks,GoodBrick x):F_arbor_there s = some (thereW s.bricks,thereC s.bricks):=by
 unfold F_arbor_there thereW thereC
 obtain ⟨r,h1,h2⟩:=iter_inv (F:=fun s2:Int × Int × Int × Unit=>(bif (decide (s2.2.2.1 < ((s.bricks.length:Nat):Int))) then (idx s.bricks s2.2.2.1).bind fun x3=>some (.inl ((IntKind.i64.wrap (s2.1 + (IntKind.i64.wrap (x3.weight * x3.count)))),(IntKind.i64.wrap (s2.2.1 + x3.count)),(IntKind.i64.wrap (s2.2.2.1 + 1)),())) else some (.inr (s2.1,s2.2.1,())):Option ((Int × Int × Int × Unit) ⊕ (Int × Int × Unit))))
  (Q:=fun r=>r = (sumTo (fun b:TBrick=>b.weight * b.count) s.bricks s.bricks.length,sumTo (·.count) s.bricks s.bricks.length,())) (fun k z=>z = (sumTo (fun b:TBrick=>b.weight * b.count) s.bricks k,sumTo (·.count) s.bricks k,(k:Int),())) s.bricks.length (by unfold big;omega) (fun k z hk hz=>by
   subst hz
   by_cases hlt:k < s.bricks.length
   ·have hd:decide ((k:Int) < ((s.bricks.length:Nat):Int)) = true:=decide_eq_true (by omega)
    have b1:=thereW_bound hl h k hk
    have b2:=thereC_bound hl h k hk
    have hg:=h s.bricks[k] (List.getElem_mem hlt)
    have b3:=brick_mul hg
    have b4:=hg.c0
    have b5:=hg.c1
    simp only [hd,cond_true,idx_at hlt,Option.bind_some]
    rw [wrap64 (n:=s.bricks[k].weight * s.bricks[k].count) (by omega) (by omega),wrap64 (by omega) (by omega),wrap64 (by omega) (by omega),wrap64 (by omega) (by omega)]
    exact .inl ⟨_,rfl,hlt,by rw [sumTo_succ _ _ _ hlt,sumTo_succ _ _ _ hlt];rfl⟩
   ·obtain rfl:k = s.bricks.length:=by omega
    have hd:decide (((s.bricks.length:Nat):Int) < ((s.bricks.length:Nat):Int)) = false:=decide_eq_false (by omega)
    simp only [hd,cond_false]
    exact .inr ⟨_,rfl,rfl⟩) (s:=(0,0,0,())) rfl
 rw [h1,h2]
 rfl
theorem f_pipe (s:TSet) (h:Good s):F_batten_pipe s = some (pipeI s):=by
 unfold F_batten_pipe
 have hb:=pipe_bound h
 have h0:=h.n0
 have h1:=h.n1
 have e:s.length.tdiv 1000 = s.length / 1000:=Int.tdiv_eq_ediv_of_nonneg (by omega)
 rw [e,wrap64 (n:=s.length / 1000) (by omega) (by omega)]
 show some (IntKind.i64.wrap (pipeI s)) = _
 rw [wrap64 (by omega) (by omega)]
theorem f_weight (s:TSet) (h:Good s):F_batten_weight s = some (weightI s):=by
 unfold F_batten_weight weightI
 rw [f_pipe s h,Option.bind_some]
 have hb:=pipe_bound h
 have hni:=h.ni
 rw [iter_sum (·.weight) s.items (by omega) 41943040 (by decide) (by decide) (pipeI s) (by omega) (fun k hk=>weights_bound h k hk) ?hin ?hout]
 case hin =>
  intro k hk z hz
  have hd:decide ((k:Int) < ((s.items.length:Nat):Int)) = true:=decide_eq_true (by omega)
  simp only [hd,cond_true,idx_at hk,Option.bind_some]
  rw [wrap64 (n:=(k:Int) + 1) (by omega) (by omega)]
 case hout =>
  intro z
  have hd:decide (((s.items.length:Nat):Int) < ((s.items.length:Nat):Int)) = false:=decide_eq_false (by omega)
  simp only [hd,cond_false]
 rfl
theorem weight_bound {s:TSet} (h:Good s):0 ≤ weightI s ∧ weightI s ≤ 1099553570816:=by
 have h1:=pipe_bound h
 have h2:=weights_bound h s.items.length (Nat.le_refl _)
 unfold weightI
 omega
def neededI (s:TSet):Int:=weightI s * s.purchase - s.arbor
def balanceI (s:TSet):Int:=neededI s - thereW s.bricks
theorem needed_bound {s:TSet} (h:Good s):-1048576 ≤ neededI s ∧ neededI s ≤ 2199107141632:=by
 have h1:=weight_bound h
 have h2:0 ≤ weightI s * s.purchase:=Int.mul_nonneg h1.1 (by have:=h.u0;omega)
 have h3:weightI s * s.purchase ≤ 1099553570816 * 2:=Int.mul_le_mul h1.2 h.u1 (by have:=h.u0;omega) (by decide)
 have h4:=h.a0
 have h5:=h.a1
 unfold neededI
 omega
theorem f_needed (s:TSet) (hf:Fits s):F_arbor_Needed s = some (if validB s = true then (neededI s,0) else (0,1)):=by
 unfold F_arbor_Needed F_batten_Weight
 rw [f_valid s hf]
 cases hv:validB s with
 | false=>rfl
 | true =>
  have h:=Good.of hv
  have b1:=weight_bound h
  have b2:=needed_bound h
  have b3:0 ≤ weightI s * s.purchase:=Int.mul_nonneg b1.1 (by have:=h.u0;omega)
  have b4:weightI s * s.purchase ≤ 1099553570816 * 2:=Int.mul_le_mul b1.2 h.u1 (by have:=h.u0;omega) (by decide)
  simp only [Option.bind_some,Bool.not_true,cond_false,f_weight s h,if_true]
  show (bif ((0:Int) != 0) then some (0,0) else some (IntKind.i64.wrap (IntKind.i64.wrap (weightI s * s.purchase) - s.arbor),0)) = _
  rw [wrap64 (n:=weightI s * s.purchase) (by omega) (by omega)]
  show some (IntKind.i64.wrap (neededI s),0) = _
  rw [wrap64 (by omega) (by omega)]
theorem f_balance (s:TSet) (hf:Fits s):F_arbor_Balance s = some (if validB s = true then (balanceI s,0) else (0,1)):=by
 unfold F_arbor_Balance
 rw [f_needed s hf]
 cases hv:validB s with
 | false=>rfl
 | true =>
  have h:=Good.of hv
  have b1:=needed_bound h
  have b2:=thereW_bound h.nb h.bricks s.bricks.length (Nat.le_refl _)
  simp only [if_true,Option.bind_some,f_there s h.nb h.bricks]
  show some (IntKind.i64.wrap (neededI s - thereW s.bricks),0) = _
  have e:balanceI s = neededI s - thereW s.bricks:=rfl
  unfold thereW at e ⊢
  rw [wrap64 (by omega) (by omega)]
  rfl
end Go.Proofs.YtgbicnkpnhifgaaGreatDoor

namespace Go.Proofs.YtgbicnkpnhifgaaGreatDoor
def runL {α τ ρ:Type} (step:τ → α → τ ⊕ ρ) (fin:τ → ρ):List α → τ → ρ
 | [],t=>fin t
 | x :: l,t=>match step t x with
  | .inl t=>runL step fin l t
  | .inr r=>r
theorem iter_run {σ τ ρ α:Type} {F:σ → Option (σ ⊕ ρ)} (enc:τ → Int → σ) (l:List α) (hl:l.length < 9223372036854775807) (step:τ → α → τ ⊕ ρ) (fin:τ → ρ) (I:Nat → τ → Prop)
  (hin:∀ (k:Nat) (h:k < l.length) (t:τ),I k t → F (enc t (k:Int)) = some (match step t l[k] with | .inl t'=>.inl (enc t' ((k:Int) + 1)) | .inr r=>.inr r) ∧ ∀ t',step t l[k] = .inl t' → I (k + 1) t')
  (hout:∀ t:τ,I l.length t → F (enc t (l.length:Int)) = some (.inr (fin t))) (t0:τ) (h0:I 0 t0):iterF F big (enc t0 0) = some (runL step fin l t0):=by
 have hb:l.length < big:=by unfold big;omega
 obtain ⟨r,h1,h2⟩:=iter_inv (F:=F) (Q:=fun r=>r = runL step fin l t0) (fun k s=>∃ t,s = enc t (k:Int) ∧ I k t ∧ runL step fin l t0 = runL step fin (l.drop k) t) l.length hb (fun k s hk hi=>by
  obtain ⟨t,rfl,hI,hr⟩:=hi
  by_cases hlt:k < l.length
  ·obtain ⟨h,hn⟩:=hin k hlt t hI
   rw [List.drop_eq_getElem_cons hlt] at hr
   cases hs:step t l[k] with
   | inl t' =>
    rw [hs] at h
    refine .inl ⟨_,h,hlt,t',rfl,hn t' hs,?_⟩
    rw [hr];simp only [runL,hs]
   | inr r =>
    rw [hs] at h
    refine .inr ⟨r,h,?_⟩
    rw [hr];simp only [runL,hs]
  ·obtain rfl:k = l.length:=by omega
   refine .inr ⟨_,hout t hI,?_⟩
   rw [hr,List.drop_length];rfl) (s:=enc t0 0) ⟨t0,rfl,h0,by rw [List.drop_zero]⟩
 rw [h1,h2]
theorem iter_no {α ρ:Type} {F:Int × Unit → Option ((Int × Unit) ⊕ ρ)} (l:List α) (hl:l.length < 9223372036854775807) (p:α → Bool) (a d:ρ)
  (hin:∀ (k:Nat) (h:k < l.length),F ((k:Int),()) = some (bif p l[k] then .inl ((k:Int) + 1,()) else .inr a)) (hout:F ((l.length:Int),()) = some (.inr d)) :
  iterF F big (0,()) = some (bif l.all p then d else a):=by
 have h:=iter_run (F:=F) (fun (_:Unit) k=>(k,())) l hl (fun _ x=>bif p x then .inl () else .inr a) (fun _=>d) (fun _ _=>True) (fun k hk t _=>⟨by
  rw [hin k hk];cases p l[k] <;> rfl,fun _ _=>trivial⟩) (fun _ _=>hout) () trivial
 rw [h]
 congr 1
 clear h hin hout hl
 induction l with
 | nil=>rfl
 | cons x l ih =>
  unfold runL
  rw [List.all_cons]
  cases p x with
  | true=>simpa using ih
  | false=>rfl
theorem lt_yes {k n:Nat} (h:k < n):decide ((k:Int) < ((n:Nat):Int)) = true:=decide_eq_true (by omega)
theorem lt_no (n:Nat):decide (((n:Nat):Int) < ((n:Nat):Int)) = false:=decide_eq_false (by omega)
def smallH (s:TSet) (most:Int):Bool:=decide (s.name.size ≤ 60 ∧ s.lines.length ≤ 12 ∧ ((s.items.length:Int) ≤ most ∨ 40 < s.items.length) ∧ s.items.length ≤ 45 ∧ s.bricks.length ≤ 10)
def smallB (s:TSet) (most:Int):Bool:=smallH s most && (s.items.all (fun x=>decide (x.name.size ≤ 60)) && s.bricks.all fun x=>decide (x.name.size ≤ 60))
theorem f_small (s:TSet) (most:Int):F_ref21_Small s most = some (smallB s most):=by
 unfold F_ref21_Small smallB
 by_cases h1:s.name.size ≤ 60
 case neg =>
  have:decide (((s.name.size:Nat):Int) > 60) = true:=decide_eq_true (by omega)
  have e:smallH s most = false:=decide_eq_false (by omega)
  rw [this,e];rfl
 have e1:decide (((s.name.size:Nat):Int) > 60) = false:=decide_eq_false (by omega)
 by_cases h2:s.lines.length ≤ 12
 case neg =>
  have:decide (((s.lines.length:Nat):Int) > 12) = true:=decide_eq_true (by omega)
  have e:smallH s most = false:=decide_eq_false (by omega)
  rw [e1,this,e];rfl
 have e2:decide (((s.lines.length:Nat):Int) > 12) = false:=decide_eq_false (by omega)
 rw [e1,e2]
 have hand:∀ (a:Option (Bool × Unit)) (b:Bool),a = some (!b,()) → ∀ (K:Bool × Unit → Option Bool),a.bind K = K (!b,()):=fun a b h K=>by rw [h];rfl
 have hcase:(bif decide (((s.items.length:Nat):Int) > most) then (bif (decide (((s.items.length:Nat):Int) ≤ 40)) then some (true,()) else (bif (decide (((s.items.length:Nat):Int) > 45)) then some (true,()) else some ((decide (((s.bricks.length:Nat):Int) > 10)),()))) else (bif (decide (((s.items.length:Nat):Int) > 45)) then some (true,()) else some ((decide (((s.bricks.length:Nat):Int) > 10)),())):Option (Bool × Unit)) =
   some (!smallH s most,()):=by
  unfold smallH
  by_cases h3:((s.items.length:Nat):Int) > most <;> by_cases h4:((s.items.length:Nat):Int) ≤ 40 <;> by_cases h5:((s.items.length:Nat):Int) > 45 <;> by_cases h6:((s.bricks.length:Nat):Int) > 10 <;>
   simp only [h3,h4,h5,h6,decide_true,decide_false,cond_true,cond_false,Option.some.injEq,Prod.mk.injEq,and_true] <;> (symm;simp only [Bool.not_eq_true',Bool.not_eq_false',decide_eq_true_eq,decide_eq_false_iff_not];omega)
 simp only [cond_false]
 rw [hand _ _ hcase]
 cases hb:smallH s most with
 | false=>rfl
 | true =>
  have hb:=of_decide_eq_true hb
  simp only [Bool.not_true,cond_false,Bool.true_and]
  rw [iter_no s.items (by omega) (fun x=>decide (x.name.size ≤ 60)) (.inl (false,())) (.inr ()) ?h1 ?h2,iter_no s.bricks (by omega) (fun x=>decide (x.name.size ≤ 60)) (.inl (false,())) (.inr ()) ?h3 ?h4]
  ·cases s.items.all (fun x=>decide (x.name.size ≤ 60)) <;> cases s.bricks.all (fun x=>decide (x.name.size ≤ 60)) <;> rfl
  case h1 =>
   intro k hk
   simp only [lt_yes hk,cond_true,idx_at hk,Option.bind_some]
   rw [wrap64 (by omega) (by omega)]
   by_cases h:s.items[k].name.size ≤ 60
   ·rw [decide_eq_false (show ¬ (((s.items[k].name.size:Nat):Int) > 60) by omega),decide_eq_true h];rfl
   ·rw [decide_eq_true (show (((s.items[k].name.size:Nat):Int) > 60) by omega),decide_eq_false h];rfl
  case h2=>simp only [lt_no,cond_false]
  case h3 =>
   intro k hk
   simp only [lt_yes hk,cond_true,idx_at hk,Option.bind_some]
   rw [wrap64 (by omega) (by omega)]
   by_cases h:s.bricks[k].name.size ≤ 60
   ·rw [decide_eq_false (show ¬ (((s.bricks[k].name.size:Nat):Int) > 60) by omega),decide_eq_true h];rfl
   ·rw [decide_eq_true (show (((s.bricks[k].name.size:Nat):Int) > 60) by omega),decide_eq_false h];rfl
  case h4=>simp only [lt_no,cond_false]
theorem small_fits {s:TSet} {most:Int} (h:smallB s most = true):Fits s:=by
 simp only [smallB,smallH,Bool.and_eq_true,decide_eq_true_eq,List.all_eq_true] at h
 obtain ⟨⟨h1,h2,_,h3,h4⟩,h5,h6⟩:=h
 exact ⟨by omega,by omega,by omega,by omega,fun x hx=>by have:=h5 x hx;omega,fun x hx=>by have:=h6 x hx;omega⟩
theorem f_clone_int (l:List Int) (h:l.length ≤ 2147483648):F_slices_Clone_int l = some l:=by unfold F_slices_Clone_int;rw [if_pos (by simpa using h)];rfl
theorem f_clone_item (l:List TItem) (h:l.length ≤ 2147483648):F_slices_Clone_api_Item l = some l:=by unfold F_slices_Clone_api_Item;rw [if_pos (by simpa using h)];rfl
theorem f_clone_brick (l:List TBrick) (h:l.length ≤ 2147483648):F_slices_Clone_api_Brick l = some l:=by unfold F_slices_Clone_api_Brick;rw [if_pos (by simpa using h)];rfl
end Go.Proofs.YtgbicnkpnhifgaaGreatDoor

namespace Go.Proofs.YtgbicnkpnhifgaaGreatDoor
def pq (g R:Nat → Rat) (first:Rat):Nat → Rat × Rat
 | 0=>(first,0)
 | i + 1=>((R (i + 1) - g i * (pq g R first i).1) / (2 * (g i + g (i + 1)) - g i * (pq g R first i).2),g (i + 1) / (2 * (g i + g (i + 1)) - g i * (pq g R first i).2))
def midQ (g R:Nat → Rat) (first:Rat) (i:Nat):Rat:=2 * (g i + g (i + 1)) - g i * (pq g R first i).2
def momD (g R:Nat → Rat) (first last:Rat) (n:Nat):Nat → Rat
 | 0=>last
 | d + 1=>(pq g R first (n - 1 - (d + 1))).1 - (pq g R first (n - 1 - (d + 1))).2 * momD g R first last n d
def mom (g R:Nat → Rat) (first last:Rat) (n i:Nat):Rat:=momD g R first last n (n - 1 - i)
theorem pq_bound {g R:Nat → Rat} {first:Rat} {n:Nat} (hg:∀ i,i < n → 0 < g i):∀ i,i < n → 0 ≤ (pq g R first i).2 ∧ (pq g R first i).2 ≤ 1 / 2
 | 0,_=>by constructor <;> (simp only [pq];grind)
 | i + 1,h=>by
  obtain ⟨h1,h2⟩:=pq_bound (R:=R) (first:=first) hg i (by omega)
  have g1:=hg i (by omega)
  have g2:=hg (i + 1) h
  have hm:2 * g (i + 1) ≤ 2 * (g i + g (i + 1)) - g i * (pq g R first i).2:=by
   have:=Rat.mul_le_mul_of_nonneg_left h2 (Rat.le_of_lt g1)
   grind
  simp only [pq]
  generalize 2 * (g i + g (i + 1)) - g i * (pq g R first i).2 = m at hm ⊢
  have m0:0 < m:=by grind
  have mi:0 < m⁻¹:=Rat.inv_pos.2 m0
  rw [Rat.div_def]
  constructor
  ·exact Rat.le_of_lt (Rat.mul_pos g2 mi)
  ·have h3:=Rat.mul_le_mul_of_nonneg_right hm (Rat.le_of_lt mi)
   have h4:m * m⁻¹ = 1:=Rat.mul_inv_cancel _ (by grind)
   grind
theorem mid_pos {g R:Nat → Rat} {first:Rat} {n:Nat} (hg:∀ i,i < n → 0 < g i) {i:Nat} (h:i + 1 < n):0 < midQ g R first i:=by
 obtain ⟨h1,h2⟩:=pq_bound (R:=R) (first:=first) hg i (by omega)
 have g1:=hg i (by omega)
 have g2:=hg (i + 1) h
 unfold midQ
 have:=Rat.mul_le_mul_of_nonneg_left h2 (Rat.le_of_lt g1)
 grind
theorem mom_last (g R:Nat → Rat) (first last:Rat) {n:Nat}:mom g R first last n (n - 1) = last:=by
 unfold mom;rw [Nat.sub_self];rfl
theorem mom_step (g R:Nat → Rat) (first last:Rat) {n i:Nat} (h:i + 1 < n):mom g R first last n i = (pq g R first i).1 - (pq g R first i).2 * mom g R first last n (i + 1):=by
 unfold mom
 obtain ⟨d,hd⟩:∃ d,n - 1 - i = d + 1:=⟨n - 1 - i - 1,by omega⟩
 rw [hd,show n - 1 - (i + 1) = d from by omega]
 simp only [momD]
 rw [show n - 1 - (d + 1) = i from by omega]
theorem mom_first (g R:Nat → Rat) (first last:Rat) {n:Nat} (h:1 < n):mom g R first last n 0 = first:=by
 rw [mom_step g R first last h]
 simp only [pq];grind
end Go.Proofs.YtgbicnkpnhifgaaGreatDoor

namespace Go.Proofs.YtgbicnkpnhifgaaGreatDoor
def sumQ {α:Type} (f:α → Rat):List α → Rat
 | []=>0
 | x :: l=>f x + sumQ f l
theorem sumQ_append {α:Type} (f:α → Rat):∀ (a b:List α),sumQ f (a ++ b) = sumQ f a + sumQ f b
 | [],b=>by simp only [List.nil_append,sumQ];grind
 | x :: a,b=>by simp only [List.cons_append,sumQ,sumQ_append f a b];grind
theorem sumQ_take {α:Type} (f:α → Rat) {l:List α} {k:Nat} (h:k < l.length):sumQ f (l.take (k + 1)) = sumQ f (l.take k) + f l[k]:=by
 rw [List.take_succ_eq_append_getElem h,sumQ_append]
 simp only [sumQ];grind
theorem sumQ_map {α β:Type} (f:β → Rat) (g:α → β):∀ (l:List α),sumQ f (l.map g) = sumQ (fun x=>f (g x)) l
 | []=>rfl
 | x :: l=>by simp only [List.map_cons,sumQ,sumQ_map f g l]
abbrev Ld:=Int × Int
def turnW (L:Int) (w:List Ld):List Ld:=w.map fun x=>(L - x.1,x.2)
def overQ (E:Int) (w:List Ld) (a:Int):Rat:=(E:Rat) * a * a / 2000 + sumQ (fun x=>if x.1 < a then (x.2:Rat) * (a - x.1) else 0) w
def sideQ (E:Int) (w:List Ld) (fr to:Int) (left:Bool):Rat :=
 (E:Rat) * ((to - fr:Int):Rat) * ((to - fr:Int):Rat) * ((to - fr:Int):Rat) / 4000 + sumQ (fun x=>if x.1 ≤ fr ∨ to ≤ x.1 then 0 else
  (x.2:Rat) * ((if left then x.1 - fr else to - x.1:Int):Rat) * (((to - fr) * (to - fr) - (if left then x.1 - fr else to - x.1) * (if left then x.1 - fr else to - x.1):Int):Rat) / ((to - fr:Int):Rat)) w
def leverQ (E:Int) (w:List Ld) (fr to:Int) (left:Bool):Rat :=
 (E:Rat) * ((to - fr:Int):Rat) / 2000 + sumQ (fun x=>if x.1 ≤ fr ∨ to ≤ x.1 then 0 else (x.2:Rat) * ((if left then to - x.1 else x.1 - fr:Int):Rat) / ((to - fr:Int):Rat)) w
def beyondQ (E:Int) (w:List Ld) (a:Int):Rat:=(E:Rat) * a / 1000 + sumQ (fun x=>if x.1 < a then (x.2:Rat) else 0) w
def atQ (w:List Ld) (a:Int):Rat:=sumQ (fun x=>if x.1 = a then (x.2:Rat) else 0) w
def reactQ (E L:Int) (w:List Ld) (s:Nat → Int) (n:Nat) (M:Nat → Rat) (i:Nat):Rat :=
 atQ w (s i) + (if 0 < i then leverQ E w (s (i - 1)) (s i) false + (M (i - 1) - M i) / ((s i - s (i - 1):Int):Rat) else 0)
  + (if i + 1 < n then leverQ E w (s i) (s (i + 1)) true + (M (i + 1) - M i) / ((s (i + 1) - s i:Int):Rat) else 0)
  + (if i = 0 then beyondQ E w (s i) else 0) + (if i + 1 = n then beyondQ E (turnW L w) (L - s i) else 0)
end Go.Proofs.YtgbicnkpnhifgaaGreatDoor

namespace Go.Proofs.YtgbicnkpnhifgaaGreatDoor
def bv (B:Int):List Int → Int
 | []=>0
 | x :: l=>x + B * bv B l
def dig (B:Int) (l:List Int):Prop:=∀ x ∈ l,0 ≤ x ∧ x < B
def tight (l:List Int):Prop:=l.getLast? ≠ some 0
theorem bv_append (B:Int):∀ (a b:List Int),bv B (a ++ b) = bv B a + B ^ a.length * bv B b
 | [],b=>by simp [bv]
 | x :: a,b=>by
  simp only [List.cons_append,bv,bv_append B a b,List.length_cons,Int.pow_succ]
  grind
theorem bv_zeros (B:Int):∀ k,bv B (List.replicate k 0) = 0
 | 0=>rfl
 | k + 1=>by simp [List.replicate_succ,bv,bv_zeros B k]
theorem bv_range {B:Int} (hB:1 < B):∀ {l:List Int},dig B l → 0 ≤ bv B l ∧ bv B l < B ^ l.length
 | [],_=>by simp [bv]
 | x :: l,h=>by
  have hx:=h x List.mem_cons_self
  obtain ⟨h1,h2⟩:=bv_range hB (l:=l) fun y hy=>h y (List.mem_cons_of_mem _ hy)
  have h3:0 ≤ B * bv B l:=Int.mul_nonneg (by omega) h1
  have h4:B * bv B l + B ≤ B * B ^ l.length:=by
   have:bv B l + 1 ≤ B ^ l.length:=h2
   have:=Int.mul_le_mul_of_nonneg_left this (show 0 ≤ B by omega)
   rw [Int.mul_add,Int.mul_one] at this
   exact this
  simp only [bv,List.length_cons,Int.pow_succ]
  constructor
  ·omega
  ·rw [Int.mul_comm (B ^ l.length) B];omega
theorem bv_pos {B:Int} (hB:1 < B) {l:List Int} (h:dig B l) (ht:tight l) (hne:l ≠ []):0 < bv B l:=by
 obtain ⟨a,x,rfl⟩:∃ a x,l = a ++ [x]:=⟨l.dropLast,l.getLast hne,(List.dropLast_concat_getLast hne).symm⟩
 have hx:=h x (by simp)
 have hx0:x ≠ 0:=fun e=>ht (by simp [e])
 have ha:=(bv_range hB (l:=a) fun y hy=>h y (by simp [hy])).1
 rw [bv_append]
 have:0 < B ^ a.length:=Int.pow_pos (by omega)
 have h2:bv B [x] = x:=by simp [bv]
 rw [h2]
 have:=Int.mul_pos this (show 0 < x by omega)
 omega
theorem bv_zero {B:Int} (hB:1 < B) {l:List Int} (h:dig B l) (ht:tight l):bv B l = 0 ↔ l = []:=by
 constructor
 ·intro h0
  rcases Decidable.em (l = []) with e | e
  ·exact e
  ·have:=bv_pos hB h ht e;omega
 ·rintro rfl;rfl
theorem dig_take {B:Int} {l:List Int} (h:dig B l) (k:Nat):dig B (l.take k):=fun x hx=>h x (List.mem_of_mem_take hx)
theorem wrap32 (n:Int):IntKind.u32.wrap n = n % 4294967296:=by
 simp only [IntKind.wrap,IntKind.bits,IntKind.signed,Bool.false_and,Bool.false_eq_true,if_false]
 rfl
theorem take_snoc {l:List Int} {m:Nat} (h:m < l.length):l.take (m + 1) = l.take m ++ [l[m]]:=List.take_succ_eq_append_getElem h
theorem f_trimmed {B:Int} (l:List Int) (hd:dig B l) (hl:l.length ≤ 16777216):∃ r,F_beam_trimmed l = some r ∧ bv B r = bv B l ∧ dig B r ∧ tight r ∧ r.length ≤ l.length:=by
 unfold F_beam_trimmed
 have hb:l.length < big:=by unfold big;omega
 obtain ⟨r,h1,h2⟩:=iter_inv (Q:=fun r:List Int × Unit=>bv B r.1 = bv B l ∧ dig B r.1 ∧ tight r.1 ∧ r.1.length ≤ l.length)
  (F:=(fun s4:List Int × Unit=>((bif (decide (((s4.1.length:Nat):Int) > 0)) then (idx s4.1 (IntKind.i64.wrap (((s4.1.length:Nat):Int) - 1))).bind fun x5=>some ((x5 == 0),()) else some (false,())):Option (Bool × Unit)).bind fun y6=>(bif y6.1 then (if 0 ≤ (0:Int) ∧ (0:Int) ≤ (IntKind.i64.wrap (((s4.1.length:Nat):Int) - 1)) ∧ (IntKind.i64.wrap (((s4.1.length:Nat):Int) - 1)) ≤ ((s4.1.length:Nat):Int) then some (.inl (((s4.1.take (Int.toNat (IntKind.i64.wrap (((s4.1.length:Nat):Int) - 1)))).drop (Int.toNat (0:Int))),())) else none) else some (.inr (s4.1,())))))
  (fun k s=>∃ m,m + k = l.length ∧ s = (l.take m,()) ∧ bv B (l.take m) = bv B l) l.length hb (fun k s hk hi=>by
   obtain ⟨m,hm,rfl,hv⟩:=hi
   have hlen:(l.take m).length = m:=by rw [List.length_take];omega
   simp only [hlen]
   cases m with
   | zero=>exact .inr ⟨([],()),by simp,by simpa using hv,by intro x hx;simp at hx,by simp [tight],by simp⟩
   | succ m =>
    have hml:m < l.length:=by omega
    have hpos:(decide (((m + 1:Nat):Int) > 0)) = true:=by simp
    have hw:IntKind.i64.wrap (((m + 1:Nat):Int) - 1) = (m:Int):=by rw [wrap64 (by omega) (by omega)];omega
    have hsp:=take_snoc hml
    have hlm:(l.take m).length = m:=by rw [List.length_take];omega
    have hix:idx (l.take (m + 1)) (m:Int) = some l[m]:=by
     unfold idx
     rw [if_pos (by omega),Int.toNat_natCast,hsp,List.getElem?_append_right (by omega),hlm,Nat.sub_self];rfl
    rw [hpos,hw,cond_true,hix]
    simp only [Option.bind_some]
    cases hz:(l[m] == 0) with
    | true =>
     have hz':=eq_of_beq hz
     refine .inl ⟨(l.take m,()),?_,by omega,m,by omega,rfl,?_⟩
     ·simp only [cond_true]
      rw [if_pos ⟨Int.le_refl _,by omega,by omega⟩,Int.toNat_natCast,List.take_take,Nat.min_eq_left (Nat.le_succ m)]
      rfl
     ·rw [hsp,hz',bv_append] at hv
      rw [← hv];simp [bv]
    | false =>
     refine .inr ⟨(l.take (m + 1),()),by simp only [cond_false],hv,dig_take hd _,?_,by show (l.take (m + 1)).length ≤ _;rw [hlen];omega⟩
     intro ht
     rw [hsp,List.getLast?_concat] at ht
     rw [Option.some.inj ht] at hz
     cases hz) (s:=(l,())) ⟨l.length,by omega,by simp,by simp⟩
 rw [h1]
 exact ⟨r.1,rfl,h2⟩
end Go.Proofs.YtgbicnkpnhifgaaGreatDoor

namespace Go.Proofs.YtgbicnkpnhifgaaGreatDoor
theorem iter_bind {σ ρ γ:Type} {F:σ → Option (σ ⊕ ρ)} {K:ρ → Option γ} {Q:ρ → Prop} {P:γ → Prop} (I:Nat → σ → Prop) (n:Nat) (hn:n < big)
  (step:∀ k s,k ≤ n → I k s → (∃ s',F s = some (.inl s') ∧ k < n ∧ I (k + 1) s') ∨ ∃ r,F s = some (.inr r) ∧ Q r) {s:σ} (h:I 0 s) (hK:∀ r,Q r → ∃ y,K r = some y ∧ P y):∃ y,(iterF F big s).bind K = some y ∧ P y:=by
 obtain ⟨r,h1,h2⟩:=iter_inv I n hn step h
 rw [h1]
 exact hK r h2
theorem pow_mono {B:Int} (hB:0 < B) {m n:Nat} (h:m ≤ n):B ^ m ≤ B ^ n:=by
 obtain ⟨k,rfl⟩:=Nat.le.dest h
 have h1:0 < B ^ k:=Int.pow_pos hB
 have h2:0 < B ^ m:=Int.pow_pos hB
 rw [Int.pow_add]
 have:=Int.mul_le_mul_of_nonneg_left (show 1 ≤ B ^ k by omega) (Int.le_of_lt h2)
 rwa [Int.mul_one] at this
def dg (l:List Int) (k:Nat):Int:=l.getD k 0
theorem bv_take_succ (B:Int) (l:List Int) (k:Nat):bv B (l.take (k + 1)) = bv B (l.take k) + B ^ k * dg l k:=by
 rcases Nat.lt_or_ge k l.length with h | h
 ·rw [take_snoc h,bv_append,List.length_take,Nat.min_eq_left (by omega)]
  have:dg l k = l[k]:=by simp [dg,h]
  rw [this];simp [bv]
 ·rw [List.take_of_length_le (by omega),List.take_of_length_le h]
  have:dg l k = 0:=by simp [dg,h]
  rw [this];simp
theorem dg_range {B:Int} (hB:0 < B) {l:List Int} (h:dig B l) (k:Nat):0 ≤ dg l k ∧ dg l k < B:=by
 rcases Nat.lt_or_ge k l.length with hk | hk
 ·have:dg l k = l[k]:=by simp [dg,hk]
  rw [this];exact h _ (List.getElem_mem _)
 ·have:dg l k = 0:=by simp [dg,hk]
  rw [this];omega
theorem idx_nat {α:Type} {l:List α} {k:Nat} (h:k < l.length):idx l (k:Int) = some l[k]:=by
 unfold idx;rw [if_pos (by omega),Int.toNat_natCast,List.getElem?_eq_getElem h]
theorem set_zeros {d:List Int} {n k:Nat} (hd:d.length = k) (hk:k < n) (x:Int):(d ++ List.replicate (n - k) 0).set k x = (d ++ [x]) ++ List.replicate (n - (k + 1)) 0:=by
 obtain ⟨j,hj⟩:∃ j,n - k = j + 1:=⟨n - k - 1,by omega⟩
 have hj2:n - (k + 1) = j:=by omega
 rw [hj,hj2,List.replicate_succ,← hd,List.set_append_right _ _ (Nat.le_refl _),Nat.sub_self,List.set_cons_zero,List.append_assoc]
 rfl
theorem dig_snoc {B:Int} {l:List Int} {x:Int} (h:dig B l) (h0:0 ≤ x) (h1:x < B):dig B (l ++ [x]):=fun y hy=>by
 rcases List.mem_append.1 hy with hy | hy
 ·exact h y hy
 ·simp at hy;subst hy;exact ⟨h0,h1⟩
theorem wrap_u (n:Int):IntKind.u64.wrap n = n % 18446744073709551616:=by
 simp only [IntKind.wrap,IntKind.bits,IntKind.signed,Bool.false_and,Bool.false_eq_true,if_false]
 rfl
theorem f_added (a b:List Int) (ha:dig (4294967296:Int) a) (hb:dig (4294967296:Int) b) (hla:a.length ≤ 16000000) (hlb:b.length ≤ 16000000) :
  ∃ r,F_beam_added a b = some r ∧ (bv (4294967296:Int) r = bv (4294967296:Int) a + bv (4294967296:Int) b ∧ dig (4294967296:Int) r ∧ tight r ∧ r.length ≤ max a.length b.length + 1):=by
 unfold F_beam_added
 obtain ⟨p,hp,hle,h1,h2,hs,hm,hm2⟩:∃ p:List Int × List Int × Unit,((bif (decide (((a.length:Nat):Int) < ((b.length:Nat):Int))) then some (b,a,()) else some (a,b,())):Option ((List Int) × (List Int) × Unit)) = some p ∧
   p.2.1.length ≤ p.1.length ∧ dig (4294967296:Int) p.1 ∧ dig (4294967296:Int) p.2.1 ∧ bv (4294967296:Int) p.1 + bv (4294967296:Int) p.2.1 = bv (4294967296:Int) a + bv (4294967296:Int) b ∧ p.1.length = max a.length b.length ∧ p.1.length ≤ 16000000:=by
  rcases Nat.lt_or_ge a.length b.length with h | h
  ·have:decide (((a.length:Nat):Int) < ((b.length:Nat):Int)) = true:=by simp;omega
   rw [this]
   exact ⟨_,rfl,Nat.le_of_lt h,hb,ha,Int.add_comm _ _,(by show b.length = _;omega),hlb⟩
  ·have:decide (((a.length:Nat):Int) < ((b.length:Nat):Int)) = false:=by simp;omega
   rw [this]
   exact ⟨_,rfl,h,ha,hb,rfl,(by show a.length = _;omega),hla⟩
 rw [hp,Option.bind_some]
 obtain ⟨x,y,u⟩:=p
 simp only at hle h1 h2 hs hm hm2 ⊢
 have hw:IntKind.i64.wrap (((x.length:Nat):Int) + 1) = ((x.length + 1:Nat):Int):=by rw [wrap64 (by omega) (by omega)];omega
 rw [hw,if_pos ⟨by omega,by omega⟩]
 simp only [Int.toNat_natCast,List.length_replicate]
 have hp32:((2:Int) ^ min (Int.toNat 32) IntKind.u64.bits) = 4294967296:=by decide
 rw [hp32]
 refine iter_bind (Q:=fun r:List Int × Unit=>bv (4294967296:Int) r.1 = bv (4294967296:Int) x + bv (4294967296:Int) y ∧ dig (4294967296:Int) r.1 ∧ r.1.length = x.length + 1)
  (fun k s=>∃ c d,s = (c,(k:Int),d ++ List.replicate (x.length + 1 - k) 0,()) ∧ d.length = k ∧ k ≤ x.length + 1 ∧ dig (4294967296:Int) d ∧ 0 ≤ c ∧ c ≤ 1 ∧ bv (4294967296:Int) d + (4294967296:Int) ^ k * c = bv (4294967296:Int) (x.take k) + bv (4294967296:Int) (y.take k))
  (x.length + 1) (by unfold big;omega) ?_ ⟨0,[],by simp,rfl,Nat.zero_le _,(fun z hz=>nomatch hz),by omega,by omega,by simp [bv]⟩ ?_
 ·rintro k s hk ⟨c,d,rfl,hd,hkn,hdd,hc0,hc1,hv⟩
  rcases Nat.lt_or_ge k (x.length + 1) with hlt | hge
  ·refine .inl ⟨((c + dg x k + dg y k) / (4294967296:Int),((k + 1:Nat):Int),(d ++ [(c + dg x k + dg y k) % (4294967296:Int)]) ++ List.replicate (x.length + 1 - (k + 1)) 0,()),?_,hlt,_,_,rfl,by simp [hd],hlt,?_,?_,?_,?_⟩
   ·have hx:=dg_range (by decide) h1 k
    have hy:=dg_range (by decide) h2 k
    have e0:decide ((k:Int) < ((x.length + 1:Nat):Int)) = true:=by simp;omega
    have e1:((bif (decide ((k:Int) < ((x.length:Nat):Int))) then (idx x (k:Int)).bind fun x18=>some ((IntKind.u64.wrap (c + (IntKind.u64.wrap x18))),()) else some (c,())):Option (Int × Unit)) = some (c + dg x k,()):=by
     rcases Nat.lt_or_ge k x.length with h | h
     ·have:decide ((k:Int) < ((x.length:Nat):Int)) = true:=by simp;omega
      have hg:dg x k = x[k]:=by simp [dg,h]
      rw [this,cond_true,idx_nat h,Option.bind_some,← hg,wrap_u,wrap_u]
      congr 2
      omega
     ·have:decide ((k:Int) < ((x.length:Nat):Int)) = false:=by simp;omega
      have hg:dg x k = 0:=by simp [dg,h]
      rw [this,cond_false,hg];simp
    have e2:((bif (decide ((k:Int) < ((y.length:Nat):Int))) then (idx y (k:Int)).bind fun x20=>some ((IntKind.u64.wrap (c + dg x k + (IntKind.u64.wrap x20))),()) else some (c + dg x k,())):Option (Int × Unit)) = some (c + dg x k + dg y k,()):=by
     rcases Nat.lt_or_ge k y.length with h | h
     ·have:decide ((k:Int) < ((y.length:Nat):Int)) = true:=by simp;omega
      have hg:dg y k = y[k]:=by simp [dg,h]
      rw [this,cond_true,idx_nat h,Option.bind_some,← hg,wrap_u,wrap_u]
      congr 2
      omega
     ·have:decide ((k:Int) < ((y.length:Nat):Int)) = false:=by simp;omega
      have hg:dg y k = 0:=by simp [dg,h]
      rw [this,cond_false,hg];simp
    have hlo:k < (d ++ List.replicate (x.length + 1 - k) (0:Int)).length:=by simp [hd];omega
    simp only [e0,cond_true]
    rw [e1]
    simp only [Option.bind_some]
    rw [e2]
    simp only [Option.bind_some]
    rw [idx_nat hlo]
    simp only [Option.bind_some,Int.toNat_natCast]
    rw [List.getElem?_eq_getElem hlo]
    simp only [Option.bind_some]
    rw [set_zeros hd hlt,wrap32,wrap64 (n:=(k:Int) + 1) (by omega) (by omega),Int.fdiv_eq_ediv_of_nonneg _ (by decide)]
    congr 3
   ·have hx:=dg_range (by decide) h1 k
    have hy:=dg_range (by decide) h2 k
    exact dig_snoc hdd (by omega) (by omega)
   ·have hx:=dg_range (by decide) h1 k
    have hy:=dg_range (by decide) h2 k
    omega
   ·have hx:=dg_range (by decide) h1 k
    have hy:=dg_range (by decide) h2 k
    omega
   ·rw [bv_take_succ,bv_take_succ,bv_append,hd]
    have he:=Int.emod_add_mul_ediv (c + dg x k + dg y k) (4294967296:Int)
    simp only [bv,Int.mul_zero,Int.add_zero]
    generalize (c + dg x k + dg y k) % (4294967296:Int) = q at he ⊢
    generalize (c + dg x k + dg y k) / (4294967296:Int) = t at he ⊢
    have:(4294967296:Int) ^ (k + 1) = (4294967296:Int) ^ k * (4294967296:Int):=Int.pow_succ _ _
    rw [this]
    grind
  ·have hk':k = x.length + 1:=by omega
   subst hk'
   have e0:decide (((x.length + 1:Nat):Int) < ((x.length + 1:Nat):Int)) = false:=by simp
   refine .inr ⟨(d,()),by simp only [e0,cond_false];simp,?_,hdd,hd⟩
   rw [List.take_of_length_le (by omega),List.take_of_length_le (by omega)] at hv
   have r1:=bv_range (by decide) h1
   have r2:=bv_range (by decide) h2
   have r3:=(bv_range (by decide) hdd).1
   have hpw:(4294967296:Int) ^ y.length ≤ (4294967296:Int) ^ x.length:=pow_mono (by decide) hle
   have hps:(4294967296:Int) ^ (x.length + 1) = (4294967296:Int) ^ x.length * (4294967296:Int):=Int.pow_succ _ _
   have hc:c = 0:=by
    rcases Int.lt_or_le c 1 with h | h
    ·omega
    ·exfalso
     have hc':c = 1:=by omega
     subst hc'
     rw [Int.mul_one,hps] at hv
     omega
   subst hc
   show bv (4294967296:Int) d = _
   omega
 ·rintro ⟨r,u⟩ ⟨q1,q2,q3⟩
  obtain ⟨t,t1,t2,t3,t4,t5⟩:=f_trimmed r q2 (by simp only at q3;omega)
  refine ⟨t,by simp only;rw [t1];rfl,by rw [t2,q1,hs],t3,t4,?_⟩
  simp only at q3
  omega
end Go.Proofs.YtgbicnkpnhifgaaGreatDoor

namespace Go.Proofs.YtgbicnkpnhifgaaGreatDoor
theorem f_taken (a b:List Int) (ha:dig (4294967296:Int) a) (hb:dig (4294967296:Int) b) (hla:a.length ≤ 16000000) (hle:b.length ≤ a.length) (hv0:bv (4294967296:Int) b ≤ bv (4294967296:Int) a) :
  ∃ r,F_beam_taken a b = some r ∧ (bv (4294967296:Int) r = bv (4294967296:Int) a - bv (4294967296:Int) b ∧ dig (4294967296:Int) r ∧ tight r ∧ r.length ≤ a.length):=by
 unfold F_beam_taken
 rw [if_pos ⟨by omega,by omega⟩]
 simp only [Int.toNat_natCast]
 refine iter_bind (Q:=fun r:List Int × Unit=>bv (4294967296:Int) r.1 = bv (4294967296:Int) a - bv (4294967296:Int) b ∧ dig (4294967296:Int) r.1 ∧ r.1.length = a.length)
  (fun k s=>∃ c d,s = (c,(k:Int),d ++ List.replicate (a.length - k) 0,()) ∧ d.length = k ∧ k ≤ a.length ∧ dig (4294967296:Int) d ∧ 0 ≤ c ∧ c ≤ 1 ∧ bv (4294967296:Int) d - (4294967296:Int) ^ k * c = bv (4294967296:Int) (a.take k) - bv (4294967296:Int) (b.take k))
  a.length (by unfold big;omega) ?_ ⟨0,[],by simp,rfl,Nat.zero_le _,(fun z hz=>nomatch hz),by omega,by omega,by simp [bv]⟩ ?_
 ·rintro k s hk ⟨c,d,rfl,hd,hkn,hdd,hc0,hc1,hv⟩
  have hx:=dg_range (by decide) ha k
  have hy:=dg_range (by decide) hb k
  rcases Nat.lt_or_ge k a.length with hlt | hge
  ·have hga:dg a k = a[k]:=by simp [dg,hlt]
   obtain ⟨t,ht⟩:∃ t,dg a k - c - dg b k = t:=⟨_,rfl⟩
   obtain ⟨c',q,hcq,hq0,hq1,hc0',hc1',htq⟩:∃ c' q,((bif (decide (t < 0)) then some (1,(IntKind.i64.wrap (t + 4294967296)),()) else some (0,t,())):Option (Int × Int × Unit)) = some (c',q,()) ∧ 0 ≤ q ∧ q < (4294967296:Int) ∧ 0 ≤ c' ∧ c' ≤ 1 ∧ q = t + (4294967296:Int) * c':=by
    rcases Int.lt_or_le t 0 with h | h
    ·have:decide (t < 0) = true:=by simpa using h
     rw [this,cond_true,wrap64 (by omega) (by omega)]
     exact ⟨1,t + 4294967296,rfl,by omega,by omega,by omega,by omega,by omega⟩
    ·have:decide (t < 0) = false:=by simp;omega
     rw [this,cond_false]
     exact ⟨0,t,rfl,by omega,by omega,by omega,by omega,by omega⟩
   refine .inl ⟨(c',((k + 1:Nat):Int),(d ++ [q]) ++ List.replicate (a.length - (k + 1)) 0,()),?_,hlt,_,_,rfl,by simp [hd],hlt,dig_snoc hdd hq0 hq1,hc0',hc1',?_⟩
   ·have e0:decide ((k:Int) < ((a.length:Nat):Int)) = true:=by simp;omega
    have e1:((bif (decide ((k:Int) < ((b.length:Nat):Int))) then (idx b (k:Int)).bind fun x16=>some ((IntKind.i64.wrap ((IntKind.i64.wrap ((IntKind.i64.wrap (dg a k)) - c)) - (IntKind.i64.wrap x16))),()) else some ((IntKind.i64.wrap ((IntKind.i64.wrap (dg a k)) - c)),())):Option (Int × Unit)) = some (t,()):=by
     rw [wrap64 (n:=dg a k) (by omega) (by omega),wrap64 (n:=dg a k - c) (by omega) (by omega)]
     rcases Nat.lt_or_ge k b.length with h | h
     ·have:decide ((k:Int) < ((b.length:Nat):Int)) = true:=by simp;omega
      have hg:dg b k = b[k]:=by simp [dg,h]
      rw [this,cond_true,idx_nat h,Option.bind_some,← hg,wrap64 (n:=dg b k) (by omega) (by omega),wrap64 (by omega) (by omega),ht]
     ·have:decide ((k:Int) < ((b.length:Nat):Int)) = false:=by simp;omega
      have hg:dg b k = 0:=by simp [dg,h]
      rw [this,cond_false,← ht,hg];simp
    have hlo:k < (d ++ List.replicate (a.length - k) (0:Int)).length:=by simp [hd];omega
    simp only [e0,cond_true]
    rw [idx_nat hlt]
    simp only [Option.bind_some]
    rw [← hga,e1]
    simp only [Option.bind_some]
    rw [hcq]
    simp only [Option.bind_some]
    rw [idx_nat hlo]
    simp only [Option.bind_some,Int.toNat_natCast]
    rw [List.getElem?_eq_getElem hlo]
    simp only [Option.bind_some]
    rw [set_zeros hd hlt,wrap32,wrap64 (n:=(k:Int) + 1) (by omega) (by omega),Int.emod_eq_of_lt hq0 hq1]
    congr 3
   ·rw [bv_take_succ,bv_take_succ,bv_append,hd]
    simp only [bv,Int.mul_zero,Int.add_zero]
    have:(4294967296:Int) ^ (k + 1) = (4294967296:Int) ^ k * (4294967296:Int):=Int.pow_succ _ _
    rw [this]
    grind
  ·have hk':k = a.length:=by omega
   subst hk'
   have e0:decide (((a.length:Nat):Int) < ((a.length:Nat):Int)) = false:=by simp
   refine .inr ⟨(d,()),by simp only [e0,cond_false];simp,?_,hdd,hd⟩
   rw [List.take_of_length_le (by omega),List.take_of_length_le (by omega)] at hv
   have r3:=(bv_range (by decide) hdd).2
   rw [hd] at r3
   have hc:c = 0:=by
    rcases Int.lt_or_le c 1 with h | h
    ·omega
    ·exfalso
     have hc':c = 1:=by omega
     subst hc'
     rw [Int.mul_one] at hv
     omega
   subst hc
   show bv (4294967296:Int) d = _
   omega
 ·rintro ⟨r,u⟩ ⟨q1,q2,q3⟩
  obtain ⟨t,t1,t2,t3,t4,t5⟩:=f_trimmed r q2 (by simp only at q3;omega)
  refine ⟨t,by simp only;rw [t1];rfl,by rw [t2,q1],t3,t4,?_⟩
  simp only at q3
  omega
theorem bv_lt_of {B:Int} (hB:1 < B) {a b:List Int} (ha:dig B a) (hb:dig B b) (hl:a.length = b.length) {m:Nat} (hm:m < a.length) (hd:a.drop (m + 1) = b.drop (m + 1)) (h:dg a m < dg b m):bv B a < bv B b:=by
 have ea:a = a.take (m + 1) ++ a.drop (m + 1):=(List.take_append_drop _ _).symm
 have eb:b = b.take (m + 1) ++ b.drop (m + 1):=(List.take_append_drop _ _).symm
 rw [ea,eb,bv_append,bv_append,bv_take_succ,bv_take_succ,hd]
 have l1:(a.take (m + 1)).length = m + 1:=by rw [List.length_take];omega
 have l2:(b.take (m + 1)).length = m + 1:=by rw [List.length_take];omega
 rw [l1,l2]
 have r1:=(bv_range hB (dig_take ha m)).2
 have r2:=(bv_range hB (dig_take hb m)).1
 rw [List.length_take,Nat.min_eq_left (by omega)] at r1
 have hp:0 ≤ B ^ m:=Int.le_of_lt (Int.pow_pos (by omega))
 have:=Int.mul_le_mul_of_nonneg_left (show dg a m + 1 ≤ dg b m from h) hp
 rw [Int.mul_add,Int.mul_one] at this
 omega
theorem bv_lt_len {B:Int} (hB:1 < B) {a b:List Int} (ha:dig B a) (hb:dig B b) (ht:tight b) (hl:a.length < b.length):bv B a < bv B b:=by
 have hne:b ≠ []:=by rintro rfl;simp at hl
 obtain ⟨d,x,rfl⟩:∃ d x,b = d ++ [x]:=⟨b.dropLast,b.getLast hne,(List.dropLast_concat_getLast hne).symm⟩
 have hx:=hb x (by simp)
 have hx0:x ≠ 0:=fun e=>ht (by simp [e])
 have hd:=(bv_range hB (l:=d) fun y hy=>hb y (by simp [hy])).1
 have hr:=(bv_range hB ha).2
 rw [bv_append]
 have h2:bv B [x] = x:=by simp [bv]
 rw [h2]
 have hp:0 < B ^ d.length:=Int.pow_pos (by omega)
 have h3:B ^ a.length ≤ B ^ d.length:=pow_mono (by omega) (by simp at hl;omega)
 have:=Int.mul_le_mul_of_nonneg_left (show 1 ≤ x by omega) (Int.le_of_lt hp)
 rw [Int.mul_one] at this
 omega
end Go.Proofs.YtgbicnkpnhifgaaGreatDoor

namespace Go.Proofs.YtgbicnkpnhifgaaGreatDoor
theorem f_compared (a b:List Int) (ha:dig (4294967296:Int) a) (hb:dig (4294967296:Int) b) (hta:tight a) (htb:tight b) (hla:a.length ≤ 16000000) (hlb:b.length ≤ 16000000) :
  ∃ r,F_beam_compared a b = some r ∧ ((r < 0 ↔ bv (4294967296:Int) a < bv (4294967296:Int) b) ∧ (0 < r ↔ bv (4294967296:Int) b < bv (4294967296:Int) a)):=by
 unfold F_beam_compared
 rcases Decidable.em (a.length = b.length) with he | hne
 ·have e0:(((a.length:Nat):Int) != ((b.length:Nat):Int)) = false:=by rw [he];simp
  rw [e0,cond_false]
  refine iter_bind (Q:=fun r:(Int × Unit) ⊕ Unit=>match r with
    | .inl y=>(y.1 < 0 ↔ bv (4294967296:Int) a < bv (4294967296:Int) b) ∧ (0 < y.1 ↔ bv (4294967296:Int) b < bv (4294967296:Int) a)
    | .inr _=>((0:Int) < 0 ↔ bv (4294967296:Int) a < bv (4294967296:Int) b) ∧ ((0:Int) < 0 ↔ bv (4294967296:Int) b < bv (4294967296:Int) a))
   (fun k s=>∃ m,m + k = a.length ∧ s = ((m:Int) - 1,()) ∧ a.drop m = b.drop m) a.length (by unfold big;omega) ?_ ⟨a.length,by omega,by rw [wrap64 (by omega) (by omega)],by rw [List.drop_length,he,List.drop_length]⟩ ?_
  ·rintro k s hk ⟨m,hm,rfl,hdr⟩
   cases m with
   | zero =>
    have e1:decide ((((0:Nat):Int) - 1) ≥ 0) = false:=by decide
    refine .inr ⟨.inr (),by simp only [e1,cond_false],?_⟩
    simp only [List.drop_zero] at hdr
    subst hdr
    constructor <;> constructor <;> intro h <;> omega
   | succ m =>
    have e1:decide ((((m + 1:Nat):Int) - 1) ≥ 0) = true:=by simp
    have e2:(((m + 1:Nat):Int) - 1) = (m:Int):=by omega
    have hma:m < a.length:=by omega
    have hmb:m < b.length:=by omega
    have ga:dg a m = a[m]:=by simp [dg,hma]
    have gb:dg b m = b[m]:=by simp [dg,hmb]
    simp only [e1,cond_true]
    rw [e2,idx_nat hma,idx_nat hmb]
    simp only [Option.bind_some]
    rw [← ga,← gb]
    rcases Decidable.em (dg a m = dg b m) with h | h
    ·have e3:(dg a m != dg b m) = false:=by rw [h];simp
     rw [e3,cond_false]
     refine .inl ⟨_,rfl,by omega,m,by omega,?_,?_⟩
     ·rw [wrap64 (by omega) (by omega)]
     ·rw [List.drop_eq_getElem_cons hma,List.drop_eq_getElem_cons hmb,hdr,← ga,← gb,h]
    ·have e3:(dg a m != dg b m) = true:=by simpa using h
     rw [e3,cond_true]
     rcases Int.lt_or_le (dg a m) (dg b m) with h2 | h2
     ·have e4:decide (dg a m < dg b m) = true:=by simpa using h2
      rw [e4,cond_true]
      have:=bv_lt_of (by decide) ha hb he hma hdr h2
      exact .inr ⟨_,rfl,by constructor <;> constructor <;> intro h <;> first | omega | (simp at h;done)⟩
     ·have e4:decide (dg a m < dg b m) = false:=by simpa using h2
      rw [e4,cond_false]
      have:=bv_lt_of (by decide) hb ha he.symm hmb hdr.symm (by omega)
      exact .inr ⟨_,rfl,by constructor <;> constructor <;> intro h <;> first | omega | (simp at h;done)⟩
  ·rintro (y | y) h
   ·exact ⟨y.1,rfl,h⟩
   ·exact ⟨0,rfl,h⟩
 ·have e0:(((a.length:Nat):Int) != ((b.length:Nat):Int)) = true:=by simp;omega
  rw [e0,cond_true,wrap64 (by omega) (by omega)]
  refine ⟨_,rfl,?_⟩
  rcases Nat.lt_or_ge a.length b.length with h | h
  ·have:=bv_lt_len (by decide) ha hb htb h
   constructor <;> constructor <;> intro h <;> omega
  ·have:=bv_lt_len (by decide) hb ha hta (by omega)
   constructor <;> constructor <;> intro h <;> omega
structure Num (a:Tnumber) (v:Int):Prop where
 dig:dig (4294967296:Int) a.words
 tight:tight a.words
 len:a.words.length ≤ 8000000
 val:v = if a.neg then - bv (4294967296:Int) a.words else bv (4294967296:Int) a.words
theorem Num.zero {a:Tnumber} {v:Int} (h:Num a v):a.words = [] ↔ v = 0:=by
 rw [h.val,← bv_zero (by decide) h.dig h.tight]
 split <;> omega
theorem f_opposite {a:Tnumber} {v:Int} (h:Num a v):∃ r,F_beam_number__opposite a = some r ∧ Num r (-v) ∧ r.words = a.words:=by
 refine ⟨_,rfl,⟨h.dig,h.tight,h.len,?_⟩,rfl⟩
 rw [h.val]
 cases a.neg <;> simp
theorem f_sign {a:Tnumber} {v:Int} (h:Num a v):∃ r,F_beam_number__sign a = some r ∧ (r = 0 ↔ v = 0) ∧ (r < 0 ↔ v < 0):=by
 unfold F_beam_number__sign
 have hr:=(bv_range (by decide) h.dig).1
 have hv:=h.val
 rcases Decidable.em (a.words = []) with he | hne
 ·have e:(((a.words.length:Nat):Int) == 0) = true:=by rw [he];rfl
  rw [e,cond_true]
  have:=h.zero.1 he
  exact ⟨0,rfl,by omega,by omega⟩
 ·have e:(((a.words.length:Nat):Int) == 0) = false:=by
   have:a.words.length ≠ 0:=by simpa using hne
   simp;omega
  have hp:=bv_pos (by decide) h.dig h.tight hne
  rw [e,cond_false]
  cases hn:a.neg with
  | true=>rw [hn] at hv;simp at hv;exact ⟨-1,rfl,by omega,by omega⟩
  | false=>rw [hn] at hv;simp at hv;exact ⟨1,rfl,by omega,by omega⟩
theorem f_nplus {a b:Tnumber} {v w:Int} (ha:Num a v) (hb:Num b w) (hl:max a.words.length b.words.length + 1 ≤ 8000000):∃ r,F_beam_number__plus a b = some r ∧ Num r (v + w) ∧ r.words.length ≤ max a.words.length b.words.length + 1:=by
 unfold F_beam_number__plus
 have va:=ha.val
 have vb:=hb.val
 have la:=ha.len
 have lb:=hb.len
 cases hn:(a.neg == b.neg) with
 | true =>
  have hn':=eq_of_beq hn
  obtain ⟨r,r1,r2,r3,r4,r5⟩:=f_added a.words b.words ha.dig hb.dig (by omega) (by omega)
  rw [cond_true,r1]
  refine ⟨_,rfl,⟨r3,r4,by show r.length ≤ _;omega,?_⟩,r5⟩
  show v + w = if a.neg then - bv (4294967296:Int) r else bv (4294967296:Int) r
  rw [va,vb,r2,← hn']
  cases a.neg <;> simp <;> omega
 | false =>
  obtain ⟨c,c1,c2,c3⟩:=f_compared a.words b.words ha.dig hb.dig ha.tight hb.tight (by omega) (by omega)
  rw [cond_false,c1,Option.bind_some]
  rcases Int.lt_or_le c 0 with h | h
  ·have e:decide (c < 0) = true:=by simpa using h
   have hlt:=c2.1 h
   have hle:a.words.length ≤ b.words.length:=by
    rcases Nat.lt_or_ge b.words.length a.words.length with h | h
    ·have:=bv_lt_len (by decide) hb.dig ha.dig ha.tight h;omega
    ·exact h
   obtain ⟨r,r1,r2,r3,r4,r5⟩:=f_taken b.words a.words hb.dig ha.dig (by omega) hle (by omega)
   rw [e,cond_true,r1]
   refine ⟨_,rfl,⟨r3,r4,by show r.length ≤ _;omega,?_⟩,by show r.length ≤ _;omega⟩
   show v + w = if b.neg then - bv (4294967296:Int) r else bv (4294967296:Int) r
   rw [va,vb,r2]
   cases h1:a.neg <;> cases h2:b.neg <;> simp [h1,h2] at hn ⊢ <;> omega
  ·have e:decide (c < 0) = false:=by simpa using h
   have hge:bv (4294967296:Int) b.words ≤ bv (4294967296:Int) a.words:=by
    rcases Int.lt_or_le (bv (4294967296:Int) a.words) (bv (4294967296:Int) b.words) with h2 | h2
    ·have:=c2.2 h2;omega
    ·exact h2
   have hle:b.words.length ≤ a.words.length:=by
    rcases Nat.lt_or_ge a.words.length b.words.length with h | h
    ·have:=bv_lt_len (by decide) ha.dig hb.dig hb.tight h;omega
    ·exact h
   obtain ⟨r,r1,r2,r3,r4,r5⟩:=f_taken a.words b.words ha.dig hb.dig (by omega) hle hge
   rw [e,cond_false,r1]
   refine ⟨_,rfl,⟨r3,r4,by show r.length ≤ _;omega,?_⟩,by show r.length ≤ _;omega⟩
   show v + w = if a.neg then - bv (4294967296:Int) r else bv (4294967296:Int) r
   rw [va,vb,r2]
   cases h1:a.neg <;> cases h2:b.neg <;> simp [h1,h2] at hn ⊢ <;> omega
end Go.Proofs.YtgbicnkpnhifgaaGreatDoor

namespace Go.Proofs.YtgbicnkpnhifgaaGreatDoor
theorem f_integer (n:Int) (h1:-9223372036854775808 ≤ n) (h2:n ≤ 9223372036854775807):∃ r,F_beam_integer n = some r ∧ Num r n ∧ r.words.length ≤ 2:=by
 unfold F_beam_integer
 have hp32:((2:Int) ^ min (Int.toNat 32) IntKind.u64.bits) = 4294967296:=by decide
 obtain ⟨u,hu,hun⟩:∃ u:Int,((bif (decide (n < 0)) then some ((IntKind.u64.wrap (0 - (IntKind.u64.wrap n))),()) else some ((IntKind.u64.wrap n),())):Option (Int × Unit)) = some (u,()) ∧ (u = if n < 0 then -n else n):=by
  rw [wrap_u,wrap_u]
  rcases Int.lt_or_le n 0 with h | h
  ·have:decide (n < 0) = true:=by simpa using h
   rw [this,cond_true,if_pos h]
   exact ⟨_,rfl,by omega⟩
  ·have:decide (n < 0) = false:=by simpa using h
   rw [this,cond_false,if_neg (by omega)]
   exact ⟨_,rfl,by omega⟩
 rw [hu,Option.bind_some,hp32]
 simp only
 have hu0:0 ≤ u ∧ u ≤ 9223372036854775808:=by split at hun <;> omega
 rw [wrap32,wrap32,Int.fdiv_eq_ediv_of_nonneg _ (by decide)]
 have hd:dig (4294967296:Int) [u % 4294967296,u / 4294967296 % 4294967296]:=by
  intro x hx
  simp only [List.mem_cons,List.not_mem_nil,or_false] at hx
  rcases hx with rfl | rfl <;> omega
 obtain ⟨r,r1,r2,r3,r4,r5⟩:=f_trimmed _ hd (by simp)
 rw [r1]
 refine ⟨_,rfl,⟨r3,r4,by show r.length ≤ _;simp at r5;omega,?_⟩,by simpa using r5⟩
 show n = if decide (n < 0) then - bv (4294967296:Int) r else bv (4294967296:Int) r
 have hbv:bv (4294967296:Int) r = u:=by
  rw [r2]
  simp only [bv]
  omega
 rw [hbv]
 rcases Int.lt_or_le n 0 with h | h
 ·have:decide (n < 0) = true:=by simpa using h
  rw [if_pos h] at hun
  rw [this];simp;omega
 ·have:decide (n < 0) = false:=by simpa using h
  rw [if_neg (by omega)] at hun
  rw [this];simp;omega
theorem bv_set (B:Int):∀ (l:List Int) (k:Nat) (x:Int),k < l.length → bv B (l.set k x) = bv B l + B ^ k * (x - dg l k)
 | [],k,x,h=>by simp at h
 | y :: l,0,x,h=>by simp [bv,dg];omega
 | y :: l,k + 1,x,h=>by
  have:=bv_set B l k x (by simpa using h)
  simp only [List.set_cons_succ,bv,this,Int.pow_succ]
  have e:dg (y :: l) (k + 1) = dg l k:=by simp [dg]
  rw [e]
  grind
theorem dig_set {B:Int} {l:List Int} (h:dig B l) {k:Nat} {x:Int} (h0:0 ≤ x) (h1:x < B):dig B (l.set k x):=fun y hy=>by
 rcases List.mem_or_eq_of_mem_set hy with hy | rfl
 ·exact h y hy
 ·exact ⟨h0,h1⟩
theorem dg_set {l:List Int} {k q:Nat} {x:Int} (h:q ≠ k):dg (l.set k x) q = dg l q:=by
 unfold dg
 simp [List.getD_eq_getElem?_getD,List.getElem?_set,Ne.symm h]
end Go.Proofs.YtgbicnkpnhifgaaGreatDoor

namespace Go.Proofs.YtgbicnkpnhifgaaGreatDoor
theorem step_of {σ ρ:Type} {X:Option (σ ⊕ ρ)} {k n:Nat} {J:σ → Prop} (hk:k < n) (h:∃ y,X = some y ∧ ∃ s',y = Sum.inl s' ∧ J s'):∃ s',X = some (.inl s') ∧ k < n ∧ J s':=by
 obtain ⟨y,h1,s',rfl,h2⟩:=h
 exact ⟨s',h1,hk,h2⟩
theorem dg_get {l:List Int} {k:Nat} (h:k < l.length):dg l k = l[k]:=by simp [dg,h]
set_option maxHeartbeats 1000000 in
theorem f_times {a b:Tnumber} {v w:Int} (ha:Num a v) (hb:Num b w) (hl:a.words.length + b.words.length ≤ 8000000):∃ r,F_beam_number__times a b = some r ∧ Num r (v * w) ∧ r.words.length ≤ a.words.length + b.words.length:=by
 unfold F_beam_number__times
 have hp32:((2:Int) ^ min (Int.toNat 32) IntKind.u64.bits) = 4294967296:=by decide
 have hw:IntKind.i64.wrap (((a.words.length:Nat):Int) + ((b.words.length:Nat):Int)) = ((a.words.length + b.words.length:Nat):Int):=by rw [wrap64 (by omega) (by omega)];omega
 rw [hw,hp32,if_pos ⟨by omega,by omega⟩]
 simp only [Int.toNat_natCast]
 have hda:=ha.dig
 have hdb:=hb.dig
 obtain ⟨x,hx⟩:∃ x,a.words = x:=⟨_,rfl⟩
 obtain ⟨y,hy⟩:∃ y,b.words = y:=⟨_,rfl⟩
 rw [hx] at hda hl ⊢
 rw [hy] at hdb hl ⊢
 refine iter_bind (Q:=fun r:List Int × Unit=>bv (4294967296:Int) r.1 = bv (4294967296:Int) x * bv (4294967296:Int) y ∧ dig (4294967296:Int) r.1 ∧ r.1.length = x.length + y.length)
  (fun i s=>∃ out,s = ((i:Int),out,()) ∧ i ≤ x.length ∧ out.length = x.length + y.length ∧ dig (4294967296:Int) out ∧ bv (4294967296:Int) out = bv (4294967296:Int) (x.take i) * bv (4294967296:Int) y ∧ ∀ q,i + y.length ≤ q → dg out q = 0)
  x.length (by unfold big;omega) ?_ ⟨List.replicate (x.length + y.length) 0,rfl,Nat.zero_le _,by simp,?_,?_,?_⟩ ?_
 ·rintro i s hi ⟨out,rfl,_,hlen,hdo,hv,hz⟩
  rcases Nat.lt_or_ge i x.length with hlt | hge
  ·refine .inl (step_of hlt ?_)
   have e0:decide ((i:Int) < ((x.length:Nat):Int)) = true:=by simp;omega
   simp only [e0,cond_true]
   rw [idx_nat hlt,← dg_get hlt]
   simp only [Option.bind_some]
   have hxi:=dg_range (by decide) hda i
   obtain ⟨p,hp⟩:∃ p,dg x i = p:=⟨_,rfl⟩
   rw [hp] at hxi ⊢
   refine iter_bind (Q:=fun r:Int × List Int × Unit=>r.2.1.length = x.length + y.length ∧ dig (4294967296:Int) r.2.1 ∧ 0 ≤ r.1 ∧ r.1 < (4294967296:Int) ∧ bv (4294967296:Int) r.2.1 + (4294967296:Int) ^ (i + y.length) * r.1 = bv (4294967296:Int) out + p * bv (4294967296:Int) y * (4294967296:Int) ^ i ∧ ∀ q,i + y.length ≤ q → dg r.2.1 q = 0)
    (fun k s=>∃ c o2,s = (c,(k:Int),o2,()) ∧ k ≤ y.length ∧ o2.length = x.length + y.length ∧ dig (4294967296:Int) o2 ∧ 0 ≤ c ∧ c < (4294967296:Int) ∧ bv (4294967296:Int) o2 + (4294967296:Int) ^ (i + k) * c = bv (4294967296:Int) out + p * bv (4294967296:Int) (y.take k) * (4294967296:Int) ^ i ∧ ∀ q,i + k ≤ q → dg o2 q = dg out q)
    y.length (by unfold big;omega) ?_ ⟨0,out,rfl,Nat.zero_le _,hlen,hdo,by omega,by omega,by simp [bv],fun _ _=>rfl⟩ ?_
   ·rintro k s hk ⟨c,o2,rfl,_,hl2,hd2,hc0,hc1,hv2,hz2⟩
    rcases Nat.lt_or_ge k y.length with hkl | hkg
    ·have hyk:=dg_range (by decide) hdb k
     have hok:=dg_range (by decide) hd2 (i + k)
     have hik:i + k < o2.length:=by omega
     obtain ⟨g,hg⟩:∃ g,dg y k = g:=⟨_,rfl⟩
     obtain ⟨z,hzz⟩:∃ z,dg o2 (i + k) = z:=⟨_,rfl⟩
     rw [hg] at hyk
     rw [hzz] at hok
     have hpg0:0 ≤ p * g:=Int.mul_nonneg hxi.1 hyk.1
     have hpg1:p * g ≤ 4294967295 * 4294967295:=Int.mul_le_mul (by omega) (by omega) hyk.1 (by omega)
     obtain ⟨pg,hpg⟩:∃ pg,p * g = pg:=⟨_,rfl⟩
     rw [hpg] at hpg0 hpg1
     refine .inl ⟨((c + (pg + z)) / (4294967296:Int),((k + 1:Nat):Int),o2.set (i + k) ((c + (pg + z)) % (4294967296:Int)),()),?_,hkl,_,_,rfl,hkl,by simp [hl2],dig_set hd2 (by omega) (by omega),by omega,by omega,?_,?_⟩
     ·have e1:decide ((k:Int) < ((y.length:Nat):Int)) = true:=by simp;omega
      have e2:IntKind.i64.wrap ((i:Int) + (k:Int)) = ((i + k:Nat):Int):=by rw [wrap64 (by omega) (by omega)];omega
      simp only [e1,cond_true,e2]
      rw [idx_nat hkl,← dg_get hkl,hg]
      simp only [Option.bind_some]
      rw [idx_nat hik]
      simp only [Option.bind_some,Int.toNat_natCast]
      rw [List.getElem?_eq_getElem hik,← dg_get hik,hzz]
      simp only [Option.bind_some]
      have w1:IntKind.u64.wrap ((IntKind.u64.wrap p) * (IntKind.u64.wrap g)) = pg:=by
       rw [wrap_u p,wrap_u g,Int.emod_eq_of_lt hxi.1 (by omega),Int.emod_eq_of_lt hyk.1 (by omega),hpg,wrap_u]
       omega
      have w2:IntKind.u64.wrap (c + (IntKind.u64.wrap (pg + (IntKind.u64.wrap z)))) = c + (pg + z):=by
       rw [wrap_u z,wrap_u,wrap_u]
       omega
      rw [w1,w2,wrap32,wrap64 (n:=(k:Int) + 1) (by omega) (by omega),Int.fdiv_eq_ediv_of_nonneg _ (by decide)]
      congr 3
     ·rw [bv_set _ _ _ _ hik,bv_take_succ,hg,hzz]
      have he:=Int.emod_add_mul_ediv (c + (pg + z)) (4294967296:Int)
      generalize (c + (pg + z)) % (4294967296:Int) = q at he ⊢
      generalize (c + (pg + z)) / (4294967296:Int) = t at he ⊢
      have h1:(4294967296:Int) ^ (i + (k + 1)) = (4294967296:Int) ^ (i + k) * (4294967296:Int):=by rw [← Nat.add_assoc];exact Int.pow_succ _ _
      have h2:(4294967296:Int) ^ (i + k) = (4294967296:Int) ^ i * (4294967296:Int) ^ k:=Int.pow_add _ _ _
      rw [h1]
      have h3:p * (bv (4294967296:Int) (y.take k) + (4294967296:Int) ^ k * g) * (4294967296:Int) ^ i = p * bv (4294967296:Int) (y.take k) * (4294967296:Int) ^ i + (4294967296:Int) ^ (i + k) * pg:=by rw [h2,← hpg];grind
      rw [h3]
      grind
     ·intro q hq
      rw [dg_set (by omega)]
      exact hz2 q (by omega)
    ·have hk':k = y.length:=by omega
     subst hk'
     have e1:decide (((y.length:Nat):Int) < ((y.length:Nat):Int)) = false:=by simp
     refine .inr ⟨(c,o2,()),by simp only [e1,cond_false],hl2,hd2,hc0,hc1,?_,fun q hq=>(hz2 q hq).trans (hz q hq)⟩
     rw [List.take_length] at hv2
     exact hv2
   ·rintro ⟨c,o2,u⟩ ⟨q1,q2,q3,q4,q5,q6⟩
    simp only at q1 q2 q3 q4 q5 q6 ⊢
    have hin:i + y.length < o2.length:=by omega
    have e2:IntKind.i64.wrap ((i:Int) + ((y.length:Nat):Int)) = ((i + y.length:Nat):Int):=by rw [wrap64 (by omega) (by omega)];omega
    rw [e2,idx_nat hin]
    simp only [Option.bind_some,Int.toNat_natCast]
    rw [List.getElem?_eq_getElem hin]
    simp only [Option.bind_some]
    rw [wrap32,Int.emod_eq_of_lt q3 q4,wrap64 (n:=(i:Int) + 1) (by omega) (by omega)]
    refine ⟨_,rfl,_,rfl,_,rfl,hlt,by simp [q1],dig_set q2 q3 q4,?_,?_⟩
    ·rw [bv_set _ _ _ _ hin,q6 _ (Nat.le_refl _),bv_take_succ,hp,Int.sub_zero,q5,hv]
     grind
    ·intro q hq
     rw [dg_set (by omega)]
     exact q6 q (by omega)
  ·have hi':i = x.length:=by omega
   subst hi'
   have e0:decide (((x.length:Nat):Int) < ((x.length:Nat):Int)) = false:=by simp
   refine .inr ⟨(out,()),by simp only [e0,cond_false],?_,hdo,hlen⟩
   rw [List.take_length] at hv
   exact hv
 ·intro z hz
  have:=List.eq_of_mem_replicate hz
  omega
 ·rw [bv_zeros];simp [bv]
 ·intro q _
  unfold dg
  simp only [List.getD_eq_getElem?_getD,List.getElem?_replicate]
  split <;> rfl
 ·rintro ⟨r,u⟩ ⟨q1,q2,q3⟩
  simp only at q1 q2 q3 ⊢
  obtain ⟨t,t1,t2,t3,t4,t5⟩:=f_trimmed r q2 (by omega)
  rw [t1]
  refine ⟨_,rfl,⟨t3,t4,by show t.length ≤ _;omega,?_⟩,by show t.length ≤ _;omega⟩
  show v * w = if (!(a.neg == b.neg)) then - bv (4294967296:Int) t else bv (4294967296:Int) t
  have va:=ha.val
  have vb:=hb.val
  rw [hx] at va
  rw [hy] at vb
  rw [va,vb,t2,q1]
  cases a.neg <;> cases b.neg <;> simp [Int.neg_mul,Int.mul_neg,Int.neg_mul_neg]
end Go.Proofs.YtgbicnkpnhifgaaGreatDoor

namespace Go.Proofs.YtgbicnkpnhifgaaGreatDoor
theorem or32 (m h:Nat) (hm:m < 2147483648) (hh:h < 2):bitsOf .or .u32 (m:Int) ((h * 2147483648:Nat):Int) = ((m + h * 2147483648:Nat):Int):=by
 unfold bitsOf
 rw [wrap32]
 have h1:(BitVec.ofInt IntKind.u32.bits (m:Int) ||| BitVec.ofInt IntKind.u32.bits ((h * 2147483648:Nat):Int)).toNat = m ||| h * 2147483648:=by
  show (BitVec.ofInt 32 (m:Int) ||| BitVec.ofInt 32 ((h * 2147483648:Nat):Int)).toNat = _
  rw [BitVec.toNat_or,BitVec.toNat_ofInt,BitVec.toNat_ofInt]
  have e1:((m:Int) % ((2 ^ 32:Nat):Int)).toNat = m:=by
   rw [Int.emod_eq_of_lt (by omega) (by omega)];exact Int.toNat_natCast _
  have e2:(((h * 2147483648:Nat):Int) % ((2 ^ 32:Nat):Int)).toNat = h * 2147483648:=by
   rw [Int.emod_eq_of_lt (by omega) (by omega)];exact Int.toNat_natCast _
  rw [e1,e2]
 have h2:m ||| h * 2147483648 = m + h * 2147483648:=by
  have:=Nat.two_pow_add_eq_or_of_lt (i:=31) (b:=m) hm h
  rw [Nat.or_comm,Nat.mul_comm h,Nat.add_comm m]
  exact this.symm
 show ((BitVec.ofInt IntKind.u32.bits (m:Int) ||| BitVec.ofInt IntKind.u32.bits ((h * 2147483648:Nat):Int)).toNat:Int) % 4294967296 = _
 rw [h1,h2]
 omega
theorem orI {m h:Int} (hm0:0 ≤ m) (hm:m < 2147483648) (hh0:0 ≤ h) (hh:h < 2):bitsOf .or .u32 m (h * 2147483648) = m + h * 2147483648:=by
 obtain ⟨m',rfl⟩:=Int.eq_ofNat_of_zero_le hm0
 obtain ⟨h',rfl⟩:=Int.eq_ofNat_of_zero_le hh0
 have:=or32 m' h' (by omega) (by omega)
 have e:((h' * 2147483648:Nat):Int) = (h':Int) * 2147483648:=by omega
 rw [e] at this
 rw [this]
 omega
theorem f_halved (a:List Int) (ha:dig (4294967296:Int) a) (hla:a.length ≤ 16000000):∃ r,F_beam_halved a = some r ∧ (2 * bv (4294967296:Int) r + dg a 0 % 2 = bv (4294967296:Int) a ∧ dig (4294967296:Int) r ∧ tight r ∧ r.length ≤ a.length):=by
 unfold F_beam_halved
 rw [if_pos ⟨by omega,by omega⟩]
 have hp1:((2:Int) ^ min (Int.toNat 1) IntKind.u32.bits) = 2:=by decide
 have hp31:((2:Int) ^ min (Int.toNat 31) IntKind.u32.bits) = 2147483648:=by decide
 rw [hp1,hp31]
 simp only [Int.toNat_natCast]
 refine iter_bind (Q:=fun r:List Int × Unit=>2 * bv (4294967296:Int) r.1 + dg a 0 % 2 = bv (4294967296:Int) a ∧ dig (4294967296:Int) r.1 ∧ r.1.length = a.length)
  (fun k s=>∃ d,s = ((k:Int),d ++ List.replicate (a.length - k) 0,()) ∧ d.length = k ∧ k ≤ a.length ∧ dig (4294967296:Int) d ∧ 2 * bv (4294967296:Int) d + dg a 0 % 2 = bv (4294967296:Int) (a.take k) + (4294967296:Int) ^ k * (dg a k % 2))
  a.length (by unfold big;omega) ?_ ⟨[],by simp,rfl,Nat.zero_le _,(fun z hz=>nomatch hz),by simp [bv]⟩ ?_
 ·rintro k s hk ⟨d,rfl,hd,hkn,hdd,hv⟩
  rcases Nat.lt_or_ge k a.length with hlt | hge
  ·have hx:=dg_range (by decide) ha k
   have hy:=dg_range (by decide) ha (k + 1)
   obtain ⟨x,hxe⟩:∃ x,dg a k = x:=⟨_,rfl⟩
   obtain ⟨y,hye⟩:∃ y,dg a (k + 1) = y:=⟨_,rfl⟩
   rw [hxe] at hx hv
   rw [hye] at hy
   refine .inl ⟨(((k + 1:Nat):Int),(d ++ [x / 2 + y % 2 * 2147483648]) ++ List.replicate (a.length - (k + 1)) 0,()),?_,hlt,_,rfl,by simp [hd],hlt,dig_snoc hdd (by omega) (by omega),?_⟩
   ·have e0:decide ((k:Int) < ((a.length:Nat):Int)) = true:=by simp;omega
    have e2:IntKind.i64.wrap ((k:Int) + 1) = ((k + 1:Nat):Int):=by rw [wrap64 (by omega) (by omega)];omega
    have hlo:k < (d ++ List.replicate (a.length - k) (0:Int)).length:=by simp [hd];omega
    have s1:=set_zeros hd hlt (x / 2)
    have hl1:k < ((d ++ [x / 2]) ++ List.replicate (a.length - (k + 1)) (0:Int)).length:=by simp [hd]
    have g1:((d ++ [x / 2]) ++ List.replicate (a.length - (k + 1)) (0:Int))[k]? = some (x / 2):=by
     rw [List.getElem?_append_left (by simp [hd]),List.getElem?_append_right (by omega),hd,Nat.sub_self];rfl
    have i1:idx ((d ++ [x / 2]) ++ List.replicate (a.length - (k + 1)) (0:Int)) (k:Int) = some (x / 2):=by
     unfold idx;rw [if_pos (by omega),Int.toNat_natCast];exact g1
    have s2:((d ++ [x / 2]) ++ List.replicate (a.length - (k + 1)) (0:Int)).set k (x / 2 + y % 2 * 2147483648) = (d ++ [x / 2 + y % 2 * 2147483648]) ++ List.replicate (a.length - (k + 1)) 0:=by
     rw [← s1,List.set_set]
     exact set_zeros hd hlt _
    simp only [e0,cond_true,e2]
    rw [idx_nat hlt,← dg_get hlt,hxe]
    simp only [Option.bind_some]
    rw [idx_nat hlo]
    simp only [Option.bind_some,Int.toNat_natCast]
    rw [List.getElem?_eq_getElem hlo]
    simp only [Option.bind_some]
    rw [Int.fdiv_eq_ediv_of_nonneg _ (by decide),s1,i1,g1]
    simp only [Option.bind_some]
    rcases Nat.lt_or_ge (k + 1) a.length with h | h
    ·have e3:decide (((k + 1:Nat):Int) < ((a.length:Nat):Int)) = true:=by simp;omega
     rw [e3,cond_true,idx_nat h,← dg_get h,hye]
     simp only [Option.bind_some]
     have e4:IntKind.u32.wrap (y * 2147483648) = y % 2 * 2147483648:=by rw [wrap32];omega
     rw [e4,orI (by omega) (by omega) (by omega) (by omega),s2]
    ·have e3:decide (((k + 1:Nat):Int) < ((a.length:Nat):Int)) = false:=by simp;omega
     have hy0:y = 0:=by rw [← hye];simp [dg,h]
     rw [e3,cond_false,hy0]
     simp
   ·rw [bv_take_succ,bv_append,hd,hxe,hye]
    simp only [bv,Int.mul_zero,Int.add_zero]
    have h1:(4294967296:Int) ^ (k + 1) = (4294967296:Int) ^ k * (4294967296:Int):=Int.pow_succ _ _
    have h2:x = 2 * (x / 2) + x % 2:=by omega
    rw [h1]
    generalize x / 2 = q at h2 ⊢
    generalize x % 2 = t at h2 hv ⊢
    generalize y % 2 = z
    subst h2
    grind
  ·have hk':k = a.length:=by omega
   subst hk'
   have e0:decide (((a.length:Nat):Int) < ((a.length:Nat):Int)) = false:=by simp
   refine .inr ⟨(d,()),by simp only [e0,cond_false];simp,?_,hdd,hd⟩
   rw [List.take_length] at hv
   have:dg a a.length = 0:=by simp [dg]
   rw [this] at hv
   show 2 * bv (4294967296:Int) d + dg a 0 % 2 = _
   rw [hv];simp
 ·rintro ⟨r,u⟩ ⟨q1,q2,q3⟩
  obtain ⟨t,t1,t2,t3,t4,t5⟩:=f_trimmed r q2 (by simp only at q3;omega)
  refine ⟨t,by simp only;rw [t1];rfl,by rw [t2];exact q1,t3,t4,?_⟩
  simp only at q3
  omega
end Go.Proofs.YtgbicnkpnhifgaaGreatDoor

namespace Go.Proofs.YtgbicnkpnhifgaaGreatDoor
theorem and1 {x:Int} (h0:0 ≤ x) (h1:x < 4294967296):bitsOf .and .u32 x 1 = x % 2:=by
 obtain ⟨n,rfl⟩:=Int.eq_ofNat_of_zero_le h0
 unfold bitsOf
 rw [wrap32]
 have e:(BitVec.ofInt IntKind.u32.bits (n:Int) &&& BitVec.ofInt IntKind.u32.bits 1).toNat = n % 2:=by
  show (BitVec.ofInt 32 (n:Int) &&& BitVec.ofInt 32 1).toNat = _
  rw [BitVec.toNat_and,BitVec.toNat_ofInt]
  have e1:((n:Int) % ((2 ^ 32:Nat):Int)).toNat = n:=by
   rw [Int.emod_eq_of_lt (by omega) (by omega)];exact Int.toNat_natCast _
  have e2:(BitVec.ofInt 32 1).toNat = 1:=by decide
  rw [e1,e2,Nat.and_one_is_mod]
 show ((BitVec.ofInt IntKind.u32.bits (n:Int) &&& BitVec.ofInt IntKind.u32.bits 1).toNat:Int) % 4294967296 = _
 rw [e]
 omega
structure Wd (l:List Int) (v:Nat):Prop where
 dig:dig (4294967296:Int) l
 tight:tight l
 len:l.length ≤ 16000000
 val:bv (4294967296:Int) l = v
theorem Wd.ne {l:List Int} {v:Nat} (h:Wd l v) (hv:0 < v):l ≠ []:=by
 rintro rfl
 have:=h.val
 simp [bv] at this
 omega
theorem Wd.pos {l:List Int} {v:Nat} (h:Wd l v) (hne:l ≠ []):0 < v:=by
 have:=bv_pos (by decide) h.dig h.tight hne
 have:=h.val
 omega
theorem bv_mod2:∀ (l:List Int),bv (4294967296:Int) l % 2 = dg l 0 % 2
 | []=>by simp [bv,dg]
 | x :: l=>by
  have e:dg (x :: l) 0 = x:=by simp [dg]
  rw [e]
  simp only [bv]
  omega
theorem Wd.bit {l:List Int} {v:Nat} (h:Wd l v) (hv:0 < v):∃ x,idx l 0 = some x ∧ (bitsOf .and .u32 x 1 == 0) = decide (v % 2 = 0):=by
 have hl:0 < l.length:=by
  have:=h.ne hv
  cases l with
  | nil=>exact absurd rfl this
  | cons _ _=>simp
 have hr:=dg_range (by decide) h.dig 0
 have hm:=bv_mod2 l
 refine ⟨dg l 0,?_,?_⟩
 ·rw [dg_get hl];exact idx_nat hl
 ·rw [and1 hr.1 hr.2,← hm,h.val]
  rcases Nat.mod_two_eq_zero_or_one v with e | e
  ·rw [decide_eq_true e];have:((v:Int) % 2) = 0:=by omega
   rw [this];rfl
  ·rw [decide_eq_false (by omega)];have:((v:Int) % 2) = 1:=by omega
   rw [this];rfl
theorem Wd.half {l:List Int} {v:Nat} (h:Wd l v) (he:v % 2 = 0):∃ r,F_beam_halved l = some r ∧ Wd r (v / 2) ∧ r.length ≤ l.length:=by
 obtain ⟨r,r1,r2,r3,r4,r5⟩:=f_halved l h.dig h.len
 refine ⟨r,r1,⟨r3,r4,by have:=h.len;omega,?_⟩,r5⟩
 have hm:=bv_mod2 l
 have hv:=h.val
 omega
theorem Wd.lt {l:List Int} {v:Nat} (h:Wd l v):v < 2 ^ (32 * l.length):=by
 have h1:=(bv_range (by decide) h.dig).2
 rw [h.val] at h1
 have e:(4294967296:Int) ^ l.length = ((2 ^ (32 * l.length):Nat):Int):=by
  rw [Nat.pow_mul,Int.natCast_pow];rfl
 rw [e] at h1
 exact_mod_cast h1
theorem odd_loop {γ:Type} {F:List Int × Unit → Option ((List Int × Unit) ⊕ (List Int × Unit))} {K:List Int × Unit → Option γ} {P:γ → Prop} {l:List Int} {v:Nat} (h:Wd l v) (hv:0 < v)
  (hin:∀ (r:List Int) (u:Nat),Wd r u → 0 < u → u % 2 = 0 → ∃ t,F (r,()) = some (.inl (t,())) ∧ Wd t (u / 2) ∧ t.length ≤ r.length) (hout:∀ (r:List Int) (u:Nat),Wd r u → u % 2 = 1 → F (r,()) = some (.inr (r,())))
  (hK:∀ (r:List Int) (u j:Nat),Wd r u → u % 2 = 1 → v = 2 ^ j * u → r.length ≤ l.length → ∃ y,K (r,()) = some y ∧ P y):∃ y,(iterF F big (l,())).bind K = some y ∧ P y:=by
 refine iter_bind (Q:=fun s=>∃ u j,Wd s.1 u ∧ u % 2 = 1 ∧ v = 2 ^ j * u ∧ s.1.length ≤ l.length)
  (fun k s=>∃ r u,s = (r,()) ∧ Wd r u ∧ 0 < u ∧ v = 2 ^ k * u ∧ r.length ≤ l.length) (32 * l.length) (by have:=h.len;unfold big;omega) ?_ ⟨l,v,rfl,h,hv,by simp,Nat.le_refl _⟩ ?_
 ·rintro k s hk ⟨r,u,rfl,hw,hu,he,hl⟩
  rcases Nat.mod_two_eq_zero_or_one u with hm | hm
  ·obtain ⟨t,t1,t2,t3⟩:=hin r u hw hu hm
   refine .inl ⟨_,t1,?_,t,u / 2,rfl,t2,by omega,?_,by omega⟩
   ·have hlt:=h.lt
    rw [he] at hlt
    apply Classical.byContradiction
    intro hge
    have hkk:k = 32 * l.length:=by omega
    subst hkk
    have:2 ^ (32 * l.length) * 1 ≤ 2 ^ (32 * l.length) * u:=Nat.mul_le_mul_left _ hu
    omega
   ·rw [he,Nat.pow_succ,Nat.mul_assoc]
    congr 1
    omega
  ·exact .inr ⟨_,hout r u hw hm,u,k,hw,hm,he,hl⟩
 ·rintro ⟨r,x⟩ ⟨u,j,h1,h2,h3,h4⟩
  exact hK r u j h1 h2 h3 h4
end Go.Proofs.YtgbicnkpnhifgaaGreatDoor

namespace Go.Proofs.YtgbicnkpnhifgaaGreatDoor
theorem cop_two {g:Nat} (hg:g % 2 = 1) (i:Nat):Nat.Coprime g (2 ^ i):=by
 apply Nat.Coprime.pow_right
 show Nat.gcd g 2 = 1
 rw [Nat.gcd_comm,Nat.gcd_rec,hg]
 rfl
theorem gcd_odd {i j x y:Nat} (h:Nat.gcd (2 ^ i * x) (2 ^ j * y) % 2 = 1):Nat.gcd (2 ^ i * x) (2 ^ j * y) = Nat.gcd x y:=by
 apply Nat.dvd_antisymm
 ·refine Nat.dvd_gcd ?_ ?_
  ·exact (cop_two h i).dvd_of_dvd_mul_left (Nat.gcd_dvd_left _ _)
  ·exact (cop_two h j).dvd_of_dvd_mul_left (Nat.gcd_dvd_right _ _)
 ·refine Nat.dvd_gcd ?_ ?_
  ·exact Nat.dvd_trans (Nat.gcd_dvd_left _ _) (Nat.dvd_mul_left _ _)
  ·exact Nat.dvd_trans (Nat.gcd_dvd_right _ _) (Nat.dvd_mul_left _ _)
theorem gcd_sub {x y:Nat} (h:y ≤ x):Nat.gcd (x - y) y = Nat.gcd x y:=by
 obtain ⟨d,rfl⟩:=Nat.le.dest h
 rw [Nat.add_sub_cancel_left,Nat.add_comm y d,Nat.gcd_add_self_left]
theorem gcd_mod {x y:Nat} (h:¬(x % 2 = 0 ∧ y % 2 = 0)):Nat.gcd x y % 2 = 1:=by
 rcases Nat.mod_two_eq_zero_or_one (Nat.gcd x y) with e | e
 ·exfalso
  have h2:2 ∣ Nat.gcd x y:=Nat.dvd_of_mod_eq_zero e
  exact h ⟨Nat.mod_eq_zero_of_dvd (Nat.dvd_trans h2 (Nat.gcd_dvd_left _ _)),Nat.mod_eq_zero_of_dvd (Nat.dvd_trans h2 (Nat.gcd_dvd_right _ _))⟩
 ·exact e
theorem Wd.le {a b:List Int} {u v:Nat} (ha:Wd a u) (hb:Wd b v) (h:u ≤ v):a.length ≤ b.length:=by
 rcases Nat.lt_or_ge b.length a.length with hl | hl
 ·have:=bv_lt_len (by decide) hb.dig ha.dig ha.tight hl
  rw [ha.val,hb.val] at this
  omega
 ·exact hl
theorem Wd.add {a b:List Int} {u v:Nat} (ha:Wd a u) (hb:Wd b v) (hl:max a.length b.length + 1 ≤ 16000000):∃ r,F_beam_added a b = some r ∧ Wd r (u + v):=by
 obtain ⟨r,r1,r2,r3,r4,r5⟩:=f_added a b ha.dig hb.dig ha.len hb.len
 exact ⟨r,r1,r3,r4,by omega,by rw [r2,ha.val,hb.val];omega⟩
theorem Wd.sub {a b:List Int} {u v:Nat} (ha:Wd a u) (hb:Wd b v) (h:v ≤ u):∃ r,F_beam_taken a b = some r ∧ Wd r (u - v) ∧ r.length ≤ a.length:=by
 obtain ⟨r,r1,r2,r3,r4,r5⟩:=f_taken a b ha.dig hb.dig ha.len (hb.le ha h) (by rw [ha.val,hb.val];omega)
 exact ⟨r,r1,⟨r3,r4,by have:=ha.len;omega,by rw [r2,ha.val,hb.val];omega⟩,r5⟩
theorem Wd.cmp {a b:List Int} {u v:Nat} (ha:Wd a u) (hb:Wd b v):∃ r,F_beam_compared a b = some r ∧ (r < 0 ↔ u < v) ∧ (0 < r ↔ v < u):=by
 obtain ⟨r,r1,r2,r3⟩:=f_compared a b ha.dig hb.dig ha.tight hb.tight ha.len hb.len
 rw [ha.val,hb.val] at r2 r3
 exact ⟨r,r1,by rw [r2];omega,by rw [r3];omega⟩
end Go.Proofs.YtgbicnkpnhifgaaGreatDoor

namespace Go.Proofs.YtgbicnkpnhifgaaGreatDoor
theorem sub_bound {x y:Nat} (h:y ≤ x):(x - y) * y ≤ x * y:=Nat.mul_le_mul_right _ (Nat.sub_le _ _)
set_option maxHeartbeats 1000000 in
theorem f_common {a b:List Int} {u v:Nat} (ha:Wd a u) (hb:Wd b v) (hu:0 < u) (hv:0 < v) (hla:a.length ≤ 8000000) (hlb:b.length ≤ 8000000):∃ r,F_beam_common a b = some r ∧ Wd r (Nat.gcd u v):=by
 unfold F_beam_common
 refine iter_bind (Q:=fun s:List Int × List Int × Int × Unit=>∃ u' v' k:Nat,Wd s.1 u' ∧ Wd s.2.1 v' ∧ 0 < u' ∧ 0 < v' ∧ s.2.2.1 = (k:Int) ∧ u = 2 ^ k * u' ∧ v = 2 ^ k * v' ∧ ¬(u' % 2 = 0 ∧ v' % 2 = 0) ∧ k ≤ 32 * a.length)
  (fun k s=>∃ a' b' u' v',s = (a',b',(k:Int),()) ∧ Wd a' u' ∧ Wd b' v' ∧ 0 < u' ∧ 0 < v' ∧ u = 2 ^ k * u' ∧ v = 2 ^ k * v') (32 * a.length) (by unfold big;omega) ?_ ⟨a,b,u,v,rfl,ha,hb,hu,hv,by simp,by simp⟩ ?_
 ·rintro k s hk ⟨a',b',u',v',rfl,wa,wb,pu,pv,eu,ev⟩
  obtain ⟨x,hx,hxb⟩:=wa.bit pu
  obtain ⟨y,hy,hyb⟩:=wb.bit pv
  simp only
  rw [hx]
  simp only [Option.bind_some]
  rw [hxb,hy]
  simp only [Option.bind_some]
  rw [hyb]
  rcases Nat.mod_two_eq_zero_or_one u' with mu | mu
  ·rw [decide_eq_true mu]
   simp only [cond_true,Option.bind_some]
   rcases Nat.mod_two_eq_zero_or_one v' with mv | mv
   ·obtain ⟨p,p1,p2,p3⟩:=wa.half mu
    obtain ⟨q,q1,q2,q3⟩:=wb.half mv
    rw [decide_eq_true mv,p1,q1]
    simp only [cond_true,Option.bind_some]
    have hlt:k < 32 * a.length:=by
     have h1:=ha.lt
     rw [eu] at h1
     apply Classical.byContradiction
     intro hge
     have hkk:k = 32 * a.length:=by omega
     subst hkk
     have:2 ^ (32 * a.length) * 1 ≤ 2 ^ (32 * a.length) * u':=Nat.mul_le_mul_left _ pu
     omega
    refine .inl ⟨_,rfl,hlt,p,q,u' / 2,v' / 2,?_,p2,q2,by omega,by omega,?_,?_⟩
    ·rw [wrap64 (by omega) (by omega)];rfl
    ·rw [eu,Nat.pow_succ,Nat.mul_assoc];congr 1;omega
    ·rw [ev,Nat.pow_succ,Nat.mul_assoc];congr 1;omega
   ·rw [decide_eq_false (by omega)]
    simp only [cond_false]
    exact .inr ⟨_,rfl,u',v',k,wa,wb,pu,pv,rfl,eu,ev,by omega,hk⟩
  ·rw [decide_eq_false (by omega)]
   simp only [cond_false,Option.bind_some]
   exact .inr ⟨_,rfl,u',v',k,wa,wb,pu,pv,rfl,eu,ev,by omega,hk⟩
 rintro ⟨a',b',z,uu⟩ ⟨u',v',n,wa,wb,pu,pv,hz,eu,ev,hodd,hn⟩
 simp only at wa wb hz ⊢
 subst hz
 have hg:=gcd_mod hodd
 have la':a'.length ≤ 8000000:=Nat.le_trans (wa.le ha (by rw [eu];exact Nat.le_mul_of_pos_left _ (Nat.pow_pos (by decide)))) hla
 have lb':b'.length ≤ 8000000:=Nat.le_trans (wb.le hb (by rw [ev];exact Nat.le_mul_of_pos_left _ (Nat.pow_pos (by decide)))) hlb
 obtain ⟨M,hM⟩:∃ M,32 * a'.length + 32 * b'.length = M:=⟨_,rfl⟩
 have huv:u' * v' < 2 ^ M:=by
  have h1:=wa.lt
  have h2:=wb.lt
  have h3:u' * v' < 2 ^ (32 * a'.length) * 2 ^ (32 * b'.length):=Nat.mul_lt_mul'' h1 h2
  rw [← Nat.pow_add,hM] at h3
  exact h3
 refine iter_bind (Q:=fun s:List Int × Unit=>Wd s.1 (Nat.gcd u' v'))
  (fun k s=>∃ x y X Y,s = (x,y,()) ∧ Wd x X ∧ Wd y Y ∧ 0 < Y ∧ Nat.gcd X Y = Nat.gcd u' v' ∧ ((k = 0 ∧ X * Y ≤ u' * v') ∨ (0 < k ∧ X % 2 = 0 ∧ X * Y * 2 ^ (k - 1) ≤ u' * v'))) (M + 1) (by unfold big;omega) ?_ ⟨a',b',u',v',rfl,wa,wb,pv,rfl,.inl ⟨rfl,Nat.le_refl _⟩⟩ ?_
 ·rintro k s hk ⟨x,y,X,Y,rfl,wx,wy,pY,hgg,hb⟩
  rcases Nat.eq_zero_or_pos X with hX | hX
  ·subst hX
   have hx0:x = []:=by
    rcases Decidable.em (x = []) with e | e
    ·exact e
    ·have:=wx.pos e;omega
   subst hx0
   refine .inr ⟨(y,()),by simp,?_⟩
   rw [Nat.gcd_zero_left] at hgg
   rw [← hgg];exact wy
  ·have hxl:0 < x.length:=by
    have:=wx.ne hX
    cases x with
    | nil=>exact absurd rfl this
    | cons _ _=>simp
   have hkM:k < M + 1:=by
    rcases hb with ⟨rfl,_⟩ | ⟨h0,_,h2⟩
    ·omega
    ·apply Classical.byContradiction
     intro hge
     have h3:2 ^ M ≤ 2 ^ (k - 1):=Nat.pow_le_pow_right (by decide) (by omega)
     have h4:1 * 2 ^ (k - 1) ≤ X * Y * 2 ^ (k - 1):=Nat.mul_le_mul_right _ (Nat.mul_pos hX pY)
     omega
   refine .inl (step_of hkM ?_)
   have e0:decide (((x.length:Nat):Int) > 0) = true:=by simp;omega
   simp only [e0,cond_true]
   refine odd_loop wx hX (fun r u hw hu hm=>?_) (fun r u hw hm=>?_) fun x1 X1 i w1 o1 ex l1=>?_
   ·obtain ⟨z,hz,hzb⟩:=hw.bit hu
    obtain ⟨t,t1,t2,t3⟩:=hw.half hm
    refine ⟨t,?_,t2,t3⟩
    simp only
    rw [hz]
    simp only [Option.bind_some]
    rw [hzb,decide_eq_true hm,cond_true,t1]
    rfl
   ·obtain ⟨z,hz,hzb⟩:=hw.bit (by omega)
    simp only
    rw [hz]
    simp only [Option.bind_some]
    rw [hzb,decide_eq_false (by omega)]
    rfl
   simp only
   refine odd_loop wy pY (fun r u hw hu hm=>?_) (fun r u hw hm=>?_) fun y1 Y1 j w2 o2 ey l2=>?_
   ·obtain ⟨z,hz,hzb⟩:=hw.bit hu
    obtain ⟨t,t1,t2,t3⟩:=hw.half hm
    refine ⟨t,?_,t2,t3⟩
    simp only
    rw [hz]
    simp only [Option.bind_some]
    rw [hzb,decide_eq_true hm,cond_true,t1]
    rfl
   ·obtain ⟨z,hz,hzb⟩:=hw.bit (by omega)
    simp only
    rw [hz]
    simp only [Option.bind_some]
    rw [hzb,decide_eq_false (by omega)]
    rfl
   simp only
   obtain ⟨c,c1,c2,c3⟩:=w1.cmp w2
   rw [c1]
   simp only [Option.bind_some]
   have hg1:Nat.gcd X1 Y1 = Nat.gcd u' v':=by
    rw [← hgg,ex,ey]
    refine (gcd_odd ?_).symm
    rw [← ex,← ey,hgg];exact hg
   have hXX:X1 ≤ X:=by rw [ex];exact Nat.le_mul_of_pos_left _ (Nat.pow_pos (by decide))
   have hYY:Y1 ≤ Y:=by rw [ey];exact Nat.le_mul_of_pos_left _ (Nat.pow_pos (by decide))
   have hbound:X1 * Y1 * 2 ^ k ≤ u' * v':=by
    rcases hb with ⟨rfl,h⟩ | ⟨h0,h1,h2⟩
    ·have:=Nat.mul_le_mul hXX hYY
     simp only [Nat.pow_zero,Nat.mul_one]
     omega
    ·have h5:2 * X1 ≤ X:=by
      rcases Nat.eq_zero_or_pos i with hi | hi
      ·subst hi;simp at ex;omega
      ·rw [ex]
       have:2 ^ 1 ≤ 2 ^ i:=Nat.pow_le_pow_right (by decide) hi
       exact Nat.mul_le_mul_right _ this
     have h6:2 ^ k = 2 * 2 ^ (k - 1):=by
      obtain ⟨q,rfl⟩:∃ q,k = q + 1:=⟨k - 1,by omega⟩
      rw [Nat.add_sub_cancel,Nat.pow_succ,Nat.mul_comm]
     have h7:=Nat.mul_le_mul_right (2 ^ (k - 1)) (Nat.mul_le_mul h5 hYY)
     rw [h6]
     have h8:X1 * Y1 * (2 * 2 ^ (k - 1)) = 2 * X1 * Y1 * 2 ^ (k - 1):=by grind
     rw [h8]
     omega
   rcases Int.lt_or_le c 0 with hc | hc
   ·have hlt:=c2.1 hc
    have e4:decide (c < 0) = true:=by simpa using hc
    obtain ⟨t,t1,t2,t3⟩:=w2.sub w1 (Nat.le_of_lt hlt)
    rw [e4]
    simp only [cond_true,Option.bind_some]
    rw [t1]
    refine ⟨_,rfl,_,rfl,t,x1,Y1 - X1,X1,rfl,t2,w1,by omega,?_,.inr ⟨by omega,by omega,?_⟩⟩
    ·rw [gcd_sub (Nat.le_of_lt hlt),Nat.gcd_comm];exact hg1
    ·have:=Nat.mul_le_mul_right (2 ^ k) (sub_bound (Nat.le_of_lt hlt))
     rw [Nat.add_sub_cancel]
     rw [Nat.mul_comm Y1 X1] at this
     omega
   ·have hge:Y1 ≤ X1:=by
     rcases Nat.lt_or_ge X1 Y1 with h | h
     ·have:=c2.2 h;omega
     ·exact h
    have e4:decide (c < 0) = false:=by simpa using hc
    obtain ⟨t,t1,t2,t3⟩:=w1.sub w2 hge
    rw [e4]
    simp only [cond_false,Option.bind_some]
    rw [t1]
    refine ⟨_,rfl,_,rfl,t,y1,X1 - Y1,Y1,rfl,t2,w2,by omega,?_,.inr ⟨by omega,by omega,?_⟩⟩
    ·rw [gcd_sub hge];exact hg1
    ·have:=Nat.mul_le_mul_right (2 ^ k) (sub_bound hge)
     rw [Nat.add_sub_cancel]
     omega
 ·rintro ⟨g',gu⟩ hg'
  simp only at hg' ⊢
  have hguv:Nat.gcd u v = 2 ^ n * Nat.gcd u' v':=by rw [eu,ev,Nat.gcd_mul_left]
  have pg:0 < Nat.gcd u' v':=Nat.gcd_pos_of_pos_left _ pu
  refine iter_bind (Q:=fun s:List Int × Unit=>Wd s.1 (Nat.gcd u v)) (fun k s=>∃ r,s = (r,(k:Int),()) ∧ k ≤ n ∧ Wd r (2 ^ k * Nat.gcd u' v')) n (by unfold big;omega) ?_ ⟨g',rfl,Nat.zero_le _,by simpa using hg'⟩ ?_
  ·rintro k s hk ⟨r,rfl,hkn,hw⟩
   rcases Nat.lt_or_ge k n with hlt | hge
   ·have e0:decide ((k:Int) < (n:Int)) = true:=by simp;omega
    have hle:2 ^ k * Nat.gcd u' v' ≤ u:=by
     rw [eu]
     exact Nat.mul_le_mul (Nat.pow_le_pow_right (by decide) hkn) (Nat.gcd_le_left _ pu)
    have hrl:=hw.le ha hle
    obtain ⟨t,t1,t2⟩:=hw.add hw (by omega)
    simp only [e0,cond_true]
    rw [t1]
    refine .inl ⟨_,rfl,hlt,t,?_,hlt,?_⟩
    ·rw [wrap64 (by omega) (by omega)];rfl
    ·have:2 ^ (k + 1) * Nat.gcd u' v' = 2 ^ k * Nat.gcd u' v' + 2 ^ k * Nat.gcd u' v':=by rw [Nat.pow_succ];grind
     rw [this];exact t2
   ·have hk':k = n:=by omega
    subst hk'
    have e0:decide ((k:Int) < (k:Int)) = false:=by simp
    refine .inr ⟨(r,()),by simp only [e0,cond_false],?_⟩
    rw [hguv];exact hw
  ·rintro ⟨r,x⟩ h
   exact ⟨r,rfl,h⟩
end Go.Proofs.YtgbicnkpnhifgaaGreatDoor

namespace Go.Proofs.YtgbicnkpnhifgaaGreatDoor
theorem pow32 {j:Nat} (hj:j < 32):((2:Int) ^ min (Int.toNat (j:Int)) IntKind.u32.bits) = ((2 ^ j:Nat):Int):=by
 have:min (Int.toNat (j:Int)) IntKind.u32.bits = j:=by
  rw [Int.toNat_natCast]
  show min j 32 = j
  omega
 rw [this,Int.natCast_pow];rfl
theorem bit_get {x j:Nat} (hx:x < 4294967296) (hj:j < 32):bitsOf .and .u32 ((x:Int).fdiv (2 ^ min (Int.toNat (j:Int)) IntKind.u32.bits)) 1 = ((x / 2 ^ j % 2:Nat):Int):=by
 rw [pow32 hj]
 generalize 2 ^ j = p
 rw [Int.fdiv_eq_ediv_of_nonneg _ (by omega),← Int.natCast_ediv]
 have h:=Nat.div_le_self x p
 generalize x / p = q at h ⊢
 rw [and1 (by omega) (by omega)]
 omega
theorem bit_set {m j:Nat} (hj:j < 32) (hm:2 ^ (j + 1) * m + 2 ^ j < 4294967296):bitsOf .or .u32 ((2 ^ (j + 1) * m:Nat):Int) (IntKind.u32.wrap (1 * 2 ^ min (Int.toNat (j:Int)) IntKind.u32.bits)) = ((2 ^ (j + 1) * m + 2 ^ j:Nat):Int):=by
 have h2:2 ^ (j + 1) * m ||| 2 ^ j = 2 ^ (j + 1) * m + 2 ^ j:=by
  have:=Nat.two_pow_add_eq_or_of_lt (i:=j + 1) (b:=2 ^ j) (Nat.pow_lt_pow_right (by decide) (by omega)) m
  exact this.symm
 rw [Int.one_mul,pow32 hj]
 generalize 2 ^ (j + 1) * m = q at hm h2 ⊢
 generalize 2 ^ j = p at hm h2 ⊢
 rw [wrap32,Int.emod_eq_of_lt (by omega) (by omega)]
 unfold bitsOf
 rw [wrap32]
 have h1:(BitVec.ofInt IntKind.u32.bits (q:Int) ||| BitVec.ofInt IntKind.u32.bits (p:Int)).toNat = q ||| p:=by
  show (BitVec.ofInt 32 (q:Int) ||| BitVec.ofInt 32 (p:Int)).toNat = _
  rw [BitVec.toNat_or,BitVec.toNat_ofInt,BitVec.toNat_ofInt]
  have e0:((2 ^ 32:Nat):Int) = 4294967296:=by decide
  have e1:((q:Int) % ((2 ^ 32:Nat):Int)).toNat = q:=by
   rw [e0,Int.emod_eq_of_lt (by omega) (by omega)];exact Int.toNat_natCast _
  have e2:((p:Int) % ((2 ^ 32:Nat):Int)).toNat = p:=by
   rw [e0,Int.emod_eq_of_lt (by omega) (by omega)];exact Int.toNat_natCast _
  rw [e1,e2]
 show ((BitVec.ofInt IntKind.u32.bits (q:Int) ||| BitVec.ofInt IntKind.u32.bits (p:Int)).toNat:Int) % 4294967296 = _
 rw [h1,h2]
 omega
end Go.Proofs.YtgbicnkpnhifgaaGreatDoor

namespace Go.Proofs.YtgbicnkpnhifgaaGreatDoor
theorem dg_val:∀ {l:List Int} (_:dig (4294967296:Int) l) (k:Nat),dg l k = bv (4294967296:Int) l / (4294967296:Int) ^ k % (4294967296:Int)
 | [],_,k=>by simp [dg,bv]
 | x :: l,h,0=>by
  have hx:=h x List.mem_cons_self
  have e:dg (x :: l) 0 = x:=by simp [dg]
  rw [e]
  simp only [bv,Int.pow_zero,Int.ediv_one]
  omega
 | x :: l,h,k + 1=>by
  have hx:=h x List.mem_cons_self
  have e:dg (x :: l) (k + 1) = dg l k:=by simp [dg]
  rw [e,dg_val (fun y hy=>h y (List.mem_cons_of_mem _ hy)) k]
  have e2:bv (4294967296:Int) (x :: l) / (4294967296:Int) = bv (4294967296:Int) l:=by simp only [bv];omega
  rw [Int.pow_succ,Int.mul_comm,← Int.ediv_ediv_of_nonneg (by decide),e2]
theorem bit_of {u k j:Nat} (hj:j < 32):u / 4294967296 ^ k % 4294967296 / 2 ^ j % 2 = u / 2 ^ (32 * k + j) % 2:=by
 have e0:(4294967296:Nat) = 2 ^ 32:=by decide
 have e1:(4294967296:Nat) ^ k = 2 ^ (32 * k):=by rw [e0,← Nat.pow_mul]
 have e2:(4294967296:Nat) = 2 ^ j * (2 * 2 ^ (31 - j)):=by
  rw [e0,← Nat.pow_succ',← Nat.pow_add];congr 1;omega
 rw [e1,Nat.pow_add,← Nat.div_div_eq_div_mul]
 generalize u / 2 ^ (32 * k) = w
 rw [e2,Nat.mod_mul_right_div_self,Nat.mod_mul_right_mod]
theorem room_of {q k j:Nat} (hj:j < 32):∃ m,2 ^ (32 * k + j + 1) * q / 4294967296 ^ k % 4294967296 = 2 ^ (j + 1) * m ∧ 2 ^ (j + 1) * m + 2 ^ j < 4294967296:=by
 have e0:(4294967296:Nat) = 2 ^ 32:=by decide
 have e1:(4294967296:Nat) ^ k = 2 ^ (32 * k):=by rw [e0,← Nat.pow_mul]
 have e2:(4294967296:Nat) = 2 ^ (j + 1) * 2 ^ (31 - j):=by
  rw [e0,← Nat.pow_add];congr 1;omega
 refine ⟨q % 2 ^ (31 - j),?_,?_⟩
 ·rw [e1,Nat.add_assoc,Nat.pow_add,Nat.mul_assoc,Nat.mul_div_cancel_left _ (Nat.pow_pos (by decide)),e2,Nat.mul_mod_mul_left]
 ·have h1:=Nat.mod_lt q (show 0 < 2 ^ (31 - j) from Nat.pow_pos (by decide))
  generalize q % 2 ^ (31 - j) = m at h1 ⊢
  have h2:2 ^ (j + 1) * (m + 1) ≤ 4294967296:=by
   conv=>rhs;rw [e2]
   exact Nat.mul_le_mul_left _ h1
  have h3:2 ^ (j + 1) = 2 ^ j * 2:=Nat.pow_succ _ _
  have h4:0 < 2 ^ j:=Nat.pow_pos (by decide)
  rw [Nat.mul_add,Nat.mul_one] at h2
  omega
theorem bit_step {u i:Nat}:u / 2 ^ i = 2 * (u / 2 ^ (i + 1)) + u / 2 ^ i % 2:=by
 rw [Nat.pow_succ,← Nat.div_div_eq_div_mul]
 omega
theorem Wd.dgn {l:List Int} {u:Nat} (h:Wd l u) (k:Nat):dg l k = ((u / 4294967296 ^ k % 4294967296:Nat):Int):=by
 rw [dg_val h.dig,h.val]
 rw [Int.natCast_emod,Int.natCast_ediv,Int.natCast_pow];rfl
theorem wd_one:Wd [1] 1:=⟨by intro x hx;simp at hx;subst hx;omega,by simp [tight],by decide,by simp [bv]⟩
theorem tdiv_nat (i:Nat):IntKind.i64.wrap ((i:Int).tdiv 32) = ((i / 32:Nat):Int) ∨ 9223372036854775808 ≤ i:=by
 rcases Nat.lt_or_ge i 9223372036854775808 with h | h
 ·left
  rw [Int.tdiv_eq_ediv_of_nonneg (by omega),wrap64 (by omega) (by omega)]
  omega
 ·exact .inr h
theorem tmod_nat (i:Nat):((i:Int).tmod 32) = ((i % 32:Nat):Int):=by
 rw [Int.tmod_eq_emod_of_nonneg (by omega)];omega
set_option maxHeartbeats 1000000 in
theorem f_divided {a b:List Int} {u v:Nat} (ha:Wd a u) (hb:Wd b v) (hv:0 < v) (hla:a.length ≤ 8000000) (hlb:b.length ≤ 8000000):∃ r,F_beam_divided a b = some r ∧ Wd r (u / v) ∧ r.length ≤ a.length:=by
 unfold F_beam_divided
 rw [if_pos ⟨by omega,by omega⟩]
 simp only [Int.toNat_natCast]
 have hw0:IntKind.i64.wrap ((IntKind.i64.wrap (32 * ((a.length:Nat):Int))) - 1) = ((32 * a.length:Nat):Int) - 1 - ((0:Nat):Int):=by
  rw [wrap64 (n:=32 * ((a.length:Nat):Int)) (by omega) (by omega),wrap64 (by omega) (by omega)];omega
 rw [hw0]
 obtain ⟨T,hT⟩:∃ T,32 * a.length = T:=⟨_,rfl⟩
 rw [hT]
 refine iter_bind (Q:=fun r:List Int × Unit=>bv (4294967296:Int) r.1 = ((u / v:Nat):Int) ∧ dig (4294967296:Int) r.1 ∧ r.1.length = a.length)
  (fun k s=>∃ rest out q ρ,s = (rest,(T:Int) - 1 - (k:Int),out,()) ∧ k ≤ T ∧ Wd rest ρ ∧ ρ < v ∧ q * v + ρ = u / 2 ^ (T - k) ∧ out.length = a.length ∧ dig (4294967296:Int) out ∧ bv (4294967296:Int) out = ((2 ^ (T - k) * q:Nat):Int))
  T (by unfold big;omega) ?_ ⟨[],List.replicate a.length 0,0,0,rfl,Nat.zero_le _,⟨(fun x hx=>nomatch hx),by simp [tight],by decide,by simp [bv]⟩,hv,?_,by simp,?_,?_⟩ ?_
 ·rintro k s hk ⟨rest,out,q,ρ,rfl,_,wr,hρ,hq,hlo,hdo,hvo⟩
  rcases Nat.lt_or_ge k T with hlt | hge
  ·refine .inl (step_of hlt ?_)
   obtain ⟨i,hi⟩:∃ i,T - k = i + 1:=⟨T - k - 1,by omega⟩
   have hi2:T - (k + 1) = i:=by omega
   have hii:(T:Int) - 1 - (k:Int) = (i:Int):=by omega
   have e0:decide ((T:Int) - 1 - (k:Int) ≥ 0) = true:=by simp;omega
   have hdiv:IntKind.i64.wrap ((i:Int).tdiv 32) = ((i / 32:Nat):Int):=by
    rcases tdiv_nat i with h | h
    ·exact h
    ·omega
   have hka:i / 32 < a.length:=by omega
   have hko:i / 32 < out.length:=by omega
   have hj:i % 32 < 32:=Nat.mod_lt _ (by decide)
   have hneg:¬ (((i % 32:Nat):Int) < 0):=by omega
   have hnext:IntKind.i64.wrap ((i:Int) - 1) = (T:Int) - 1 - ((k + 1:Nat):Int):=by rw [wrap64 (by omega) (by omega)];omega
   have hrl:rest.length ≤ b.length:=wr.le hb (by omega)
   obtain ⟨r1,a1,a2⟩:=wr.add wr (by omega)
   have hr1l:r1.length ≤ b.length + 1:=by
    obtain ⟨r',p1,_,_,_,p5⟩:=f_added rest rest wr.dig wr.dig wr.len wr.len
    rw [a1] at p1
    injection p1 with p1
    subst p1
    omega
   have hbit:bitsOf .and .u32 ((a[i / 32]:Int).fdiv (2 ^ min (Int.toNat ((i % 32:Nat):Int)) IntKind.u32.bits)) 1 = ((u / 2 ^ i % 2:Nat):Int):=by
    rw [← dg_get hka,ha.dgn,bit_get (Nat.mod_lt _ (by decide)) hj,bit_of hj,Nat.div_add_mod]
   have hu:u / 2 ^ i = 2 * (u / 2 ^ (i + 1)) + u / 2 ^ i % 2:=bit_step
   rw [hi] at hq hvo
   simp only [e0,cond_true,hii]
   rw [a1]
   simp only [Option.bind_some]
   rw [hdiv,tmod_nat,idx_nat hka]
   simp only [Option.bind_some]
   rw [if_neg hneg,hbit]
   obtain ⟨c,hc⟩:∃ c,u / 2 ^ i % 2 = c:=⟨_,rfl⟩
   have hc2:c < 2:=by omega
   rw [hc] at hu ⊢
   obtain ⟨r2,b1,b2⟩:∃ r2,((bif ((c:Int) == 1) then (F_beam_added r1 ([1]:List Int)).bind fun r27=>some (r27,()) else some (r1,()):Option (List Int × Unit))) = some (r2,()) ∧ Wd r2 (2 * ρ + c):=by
    rcases Nat.lt_or_ge c 1 with h | h
    ·have h0:c = 0:=by omega
     subst h0
     refine ⟨r1,rfl,?_⟩
     rw [show 2 * ρ + 0 = ρ + ρ from by omega];exact a2
    ·have h0:c = 1:=by omega
     subst h0
     obtain ⟨t,t1,t2⟩:=a2.add wd_one (by simp;omega)
     refine ⟨t,?_,?_⟩
     ·rw [t1];rfl
     ·rw [show 2 * ρ + 1 = ρ + ρ + 1 from by omega];exact t2
   rw [b1]
   simp only [Option.bind_some]
   obtain ⟨z,z1,z2,z3⟩:=b2.cmp hb
   rw [z1]
   simp only [Option.bind_some]
   rcases Int.lt_or_le z 0 with hz | hz
   ·have hlt2:=z2.1 hz
    have e1:decide (z ≥ 0) = false:=by simp;omega
    rw [e1,cond_false,hnext]
    refine ⟨_,rfl,_,rfl,r2,out,2 * q,2 * ρ + c,rfl,hlt,b2,hlt2,?_,hlo,hdo,?_⟩
    ·rw [hi2,hu,← hq];grind
    ·rw [hvo,hi2,Nat.pow_succ];congr 1;grind
   ·have hge2:v ≤ 2 * ρ + c:=by
     rcases Nat.lt_or_ge (2 * ρ + c) v with h | h
     ·have:=z2.2 h;omega
     ·exact h
    have e1:decide (z ≥ 0) = true:=by simp;omega
    obtain ⟨t,t1,t2,_⟩:=b2.sub hb hge2
    obtain ⟨m,m1,m2⟩:=room_of (q:=q) (k:=i / 32) (j:=i % 32) hj
    have hout:dg out (i / 32) = ((2 ^ (i % 32 + 1) * m:Nat):Int):=by
     have hp:32 * (i / 32) + i % 32 + 1 = i + 1:=by omega
     rw [hp] at m1
     rw [dg_val hdo,hvo,← m1]
     rw [Int.natCast_emod,Int.natCast_ediv,Int.natCast_pow];rfl
    rw [e1,cond_true,t1]
    simp only [Option.bind_some]
    rw [idx_nat hko]
    simp only [Option.bind_some,Int.toNat_natCast]
    rw [List.getElem?_eq_getElem hko]
    simp only [Option.bind_some]
    rw [if_neg hneg,hnext,← dg_get hko,hout]
    have hbs:=bit_set hj m2
    simp only [Int.toNat_natCast] at hbs
    rw [hbs]
    refine ⟨_,rfl,_,rfl,t,_,2 * q + 1,2 * ρ + c - v,rfl,hlt,t2,by omega,?_,by simp [hlo],dig_set hdo (Int.natCast_nonneg _) (Int.ofNat_lt.2 m2),?_⟩
    ·have:(2 * q + 1) * v = 2 * (q * v) + v:=by grind
     rw [hi2,hu,← hq,this];omega
    ·have hpw:(4294967296:Int) ^ (i / 32) * ((2 ^ (i % 32):Nat):Int) = ((2 ^ i:Nat):Int):=by
      have e4:((4294967296:Int):Int) = ((4294967296:Nat):Int):=rfl
      have e5:(4294967296:Nat) ^ (i / 32) = 2 ^ (32 * (i / 32)):=by
       rw [Nat.pow_mul]
      rw [e4,← Int.natCast_pow,← Int.natCast_mul,e5,← Nat.pow_add,Nat.div_add_mod]
     rw [bv_set _ _ _ _ hko,hvo,hout,Int.natCast_add]
     have e6:(((2 ^ (i % 32 + 1) * m:Nat):Int) + ((2 ^ (i % 32):Nat):Int)) - ((2 ^ (i % 32 + 1) * m:Nat):Int) = ((2 ^ (i % 32):Nat):Int):=by omega
     first | rw [hpw] | (rw [e6,hpw])
     rw [hi2,← Int.natCast_add]
     congr 1
     rw [Nat.pow_succ];grind
  ·have hk':k = T:=by omega
   subst hk'
   have e0:decide ((k:Int) - 1 - (k:Int) ≥ 0) = false:=by simp;omega
   refine .inr ⟨(out,()),by simp only [e0,cond_false],?_,hdo,hlo⟩
   show bv (4294967296:Int) out = _
   rw [hvo]
   rw [Nat.sub_self,Nat.pow_zero,Nat.div_one] at hq
   rw [Nat.sub_self,Nat.pow_zero,Nat.one_mul]
   congr 1
   rw [← hq,Nat.mul_comm,Nat.mul_add_div hv,Nat.div_eq_of_lt hρ,Nat.add_zero]
 ·have:=ha.lt
  rw [hT] at this
  rw [Nat.sub_zero,Nat.div_eq_of_lt this];omega
 ·intro z hz
  have:=List.eq_of_mem_replicate hz
  omega
 ·rw [bv_zeros];simp
 ·rintro ⟨r,x⟩ ⟨q1,q2,q3⟩
  simp only at q1 q2 q3 ⊢
  obtain ⟨t,t1,t2,t3,t4,t5⟩:=f_trimmed r q2 (by omega)
  rw [t1]
  exact ⟨t,rfl,⟨t3,t4,by omega,by rw [t2,q1]⟩,by omega⟩
end Go.Proofs.YtgbicnkpnhifgaaGreatDoor

namespace Go.Proofs.YtgbicnkpnhifgaaGreatDoor
theorem q_mul (q:Rat):q * ((q.den:Int):Rat) = (q.num:Rat):=by
 have h:=Rat.mkRat_self q
 rw [Rat.mkRat_eq_div] at h
 have hd:((q.den:Nat):Rat) ≠ 0:=by
  intro e
  have:(q.den:Int) = 0:=by
   apply Rat.intCast_inj.1
   simpa using e
  have:=q.den_nz
  omega
 have e:(((q.den:Nat):Int):Rat) = ((q.den:Nat):Rat):=rfl
 rw [e]
 grind
theorem low_of {q:Rat} {v w:Int} (hw:w ≠ 0) (h:q * (w:Rat) = (v:Rat)):∃ t:Int,t ≠ 0 ∧ v = q.num * t ∧ w = q.den * t:=by
 have h1:=q_mul q
 have h2:q.num * w = v * q.den:=by
  apply Rat.intCast_inj.1
  rw [Rat.intCast_mul,Rat.intCast_mul]
  grind
 have hd:(q.den:Int) ∣ w:=by
  have h3:(q.den:Int) ∣ q.num * w:=⟨v,by rw [h2,Int.mul_comm]⟩
  have h4:q.den ∣ q.num.natAbs * w.natAbs:=by
   have:=Int.natAbs_dvd_natAbs.2 h3
   rwa [Int.natAbs_natCast,Int.natAbs_mul] at this
  have h5:Nat.Coprime q.den q.num.natAbs:=Nat.Coprime.symm q.reduced
  have h6:=h5.dvd_of_dvd_mul_left h4
  exact Int.ofNat_dvd_left.2 h6
 obtain ⟨t,rfl⟩:=hd
 have hd0:(q.den:Int) ≠ 0:=by have:=q.den_nz;omega
 refine ⟨t,?_,?_,rfl⟩
 ·rintro rfl;simp at hw
 ·have:v * q.den = (q.num * t) * q.den:=by rw [← h2];grind
  exact (Int.mul_eq_mul_right_iff hd0).1 this
theorem low_gcd {q:Rat} {v w:Int} (hw:w ≠ 0) (h:q * (w:Rat) = (v:Rat)):v.natAbs / Nat.gcd v.natAbs w.natAbs = q.num.natAbs ∧ w.natAbs / Nat.gcd v.natAbs w.natAbs = q.den ∧ (0 < w → (v < 0 ↔ q.num < 0)) ∧ (w < 0 → (0 < v ↔ q.num < 0)) ∧ (v = 0 ↔ q = 0):=by
 obtain ⟨t,t0,rfl,rfl⟩:=low_of hw h
 have hd0:(0:Int) < q.den:=by have:=q.den_nz;omega
 have hg:Nat.gcd (q.num * t).natAbs ((q.den:Int) * t).natAbs = t.natAbs:=by
  rw [Int.natAbs_mul,Int.natAbs_mul,Int.natAbs_natCast,Nat.gcd_mul_right,show Nat.gcd q.num.natAbs q.den = 1 from q.reduced,Nat.one_mul]
 have ht:0 < t.natAbs:=by omega
 refine ⟨?_,?_,?_,?_,?_⟩
 ·rw [hg,Int.natAbs_mul,Nat.mul_div_cancel _ ht]
 ·rw [hg,Int.natAbs_mul,Nat.mul_div_cancel _ ht,Int.natAbs_natCast]
 ·intro hp
  have:0 < t:=Int.pos_of_mul_pos_right hp hd0 |> fun x=>x
  constructor
  ·intro hv
   rcases Int.lt_or_le q.num 0 with h0 | h0
   ·exact h0
   ·have:=Int.mul_nonneg h0 (Int.le_of_lt this);omega
  ·intro hv
   exact Int.mul_neg_of_neg_of_pos hv this
 ·intro hp
  have htn:t < 0:=by
   rcases Int.lt_or_le t 0 with h0 | h0
   ·exact h0
   ·have:=Int.mul_nonneg (Int.le_of_lt hd0) h0;omega
  constructor
  ·intro hv
   rcases Int.lt_or_le q.num 0 with h0 | h0
   ·exact h0
   ·have:=Int.mul_nonneg h0 (show 0 ≤ -t by omega)
    rw [Int.mul_neg] at this;omega
  ·intro hv
   exact Int.mul_pos_of_neg_of_neg hv htn
 ·rw [← Rat.num_eq_zero]
  constructor
  ·intro hv
   rcases Int.mul_eq_zero.1 hv with e | e
   ·exact e
   ·exact absurd e t0
  ·intro e;rw [e,Int.zero_mul]
theorem Num.wd {a:Tnumber} {v:Int} (h:Num a v):Wd a.words v.natAbs:=by
 refine ⟨h.dig,h.tight,by have:=h.len;omega,?_⟩
 have h1:=(bv_range (by decide) h.dig).1
 have h2:=h.val
 split at h2 <;> omega
theorem Num.neg_iff {a:Tnumber} {v:Int} (h:Num a v) (hv:v ≠ 0):a.neg = true ↔ v < 0:=by
 have h1:=(bv_range (by decide) h.dig).1
 have h2:=h.val
 cases hn:a.neg <;> simp [hn] at h2 ⊢ <;> omega
structure Xq (x:Texact) (q:Rat) (c:Nat):Prop where
 n:Num x.n q.num
 d:Num x.d q.den
 ln:x.n.words.length ≤ c
 ld:x.d.words.length ≤ c
theorem Xq.mono {x:Texact} {q:Rat} {c e:Nat} (h:Xq x q c) (hc:c ≤ e):Xq x q e:=⟨h.n,h.d,Nat.le_trans h.ln hc,Nat.le_trans h.ld hc⟩
theorem Xq.cast {x:Texact} {q r:Rat} {c:Nat} (h:Xq x q c) (e:q = r):Xq x r c:=e ▸ h
theorem f_whole (n:Int) (h1:-9223372036854775808 ≤ n) (h2:n ≤ 9223372036854775807):∃ r,F_beam_whole n = some r ∧ Xq r (n:Rat) 2:=by
 obtain ⟨a,a1,a2,a3⟩:=f_integer n h1 h2
 obtain ⟨b,b1,b2,b3⟩:=f_integer 1 (by omega) (by omega)
 unfold F_beam_whole
 rw [a1,b1]
 exact ⟨_,rfl,a2,b2,a3,b3⟩
theorem num_of {neg:Bool} {l:List Int} {u:Nat} {z:Int} (h:Wd l u) (hl:l.length ≤ 8000000) (hz:z.natAbs = u) (hn:z ≠ 0 → (neg = true ↔ z < 0)):Num ⟨neg,l⟩ z:=by
 refine ⟨h.dig,h.tight,hl,?_⟩
 show z = if neg = true then - bv (4294967296:Int) l else bv (4294967296:Int) l
 rw [h.val]
 rcases Decidable.em (z = 0) with e | e
 ·subst e
  have:u = 0:=by omega
  subst this
  simp
 ·have:=hn e
  cases neg
  ·simp at this ⊢;omega
  ·simp at this ⊢;omega
theorem f_lowest {n d:Tnumber} {v w:Int} {q:Rat} {c:Nat} (hn:Num n v) (hd:Num d w) (hw:w ≠ 0) (hq:q * (w:Rat) = (v:Rat)) (hln:n.words.length ≤ c) (hld:d.words.length ≤ c) (hc:2 ≤ c):∃ r,F_beam_lowest n d = some r ∧ Xq r q c:=by
 unfold F_beam_lowest
 obtain ⟨s,s1,s2,s3⟩:=f_sign hn
 obtain ⟨e1,e2,e3,e4,e5⟩:=low_gcd hw hq
 rw [s1]
 simp only [Option.bind_some]
 rcases Decidable.em (v = 0) with hv | hv
 ·obtain ⟨r,r1,r2⟩:=f_whole 0 (by omega) (by omega)
  rw [s2.2 hv,r1]
  refine ⟨r,rfl,?_⟩
  have:=e5.1 hv
  subst this
  exact r2.mono hc
 ·have hs0:(s == 0) = false:=by
   rw [beq_eq_false_iff_ne];exact fun e=>hv (s2.1 e)
  rw [hs0,cond_false]
  obtain ⟨n',d',p,pn,pd,nn⟩:∃ n' d':Tnumber,((bif d.neg then (F_beam_number__opposite n).bind fun r9=>(F_beam_number__opposite d).bind fun r10=>some (r9,r10,()) else some (n,d,())):Option (Tnumber × Tnumber × Unit)) = some (n',d',()) ∧ n'.words = n.words ∧ d'.words = d.words ∧ (n'.neg = true ↔ q.num < 0):=by
   have hdn:=hd.neg_iff hw
   have hnn:=hn.neg_iff hv
   cases hdg:d.neg with
   | false =>
    refine ⟨n,d,rfl,rfl,rfl,?_⟩
    rw [hdg] at hdn
    rw [hnn]
    exact e3 (by simp at hdn;omega)
   | true =>
    rw [hdg] at hdn
    obtain ⟨x,x1,x2,x3⟩:=f_opposite hn
    obtain ⟨y,y1,y2,y3⟩:=f_opposite hd
    rw [x1,y1]
    refine ⟨x,y,rfl,x3,y3,?_⟩
    rw [x2.neg_iff (by omega),← e4 (hdn.1 rfl)]
    omega
  have hw2:=hd.wd
  have hn2:=hn.wd
  rw [p]
  simp only [Option.bind_some]
  rw [pn,pd]
  obtain ⟨g,g1,g2⟩:=f_common hn2 hw2 (by omega) (by omega) hn.len hd.len
  have hgp:0 < Nat.gcd v.natAbs w.natAbs:=Nat.gcd_pos_of_pos_left _ (by omega)
  have hgl:g.length ≤ 8000000:=Nat.le_trans (g2.le hn2 (Nat.gcd_le_left _ (by omega))) hn.len
  obtain ⟨x,x1,x2,x3⟩:=f_divided hn2 g2 hgp hn.len hgl
  obtain ⟨y,y1,y2,y3⟩:=f_divided hw2 g2 hgp hd.len hgl
  rw [g1]
  simp only [Option.bind_some]
  rw [x1,y1]
  refine ⟨_,rfl,?_,?_,?_,?_⟩
  ·rw [e1] at x2
   exact num_of x2 (Nat.le_trans x3 hn.len) rfl fun _=>nn
  ·rw [e2] at y2
   refine num_of y2 (Nat.le_trans y3 hd.len) (by omega) fun _=>?_
   simp
  ·exact Nat.le_trans x3 hln
  ·exact Nat.le_trans y3 hld
theorem f_eplus {x y:Texact} {q r:Rat} {c e:Nat} (hx:Xq x q c) (hy:Xq y r e) (hc:2 ≤ c + e) (hm:c + e + 1 ≤ 8000000):∃ z,F_beam_exact__plus x y = some z ∧ Xq z (q + r) (c + e + 1):=by
 unfold F_beam_exact__plus
 have l1:=hx.ln
 have l2:=hx.ld
 have l3:=hy.ln
 have l4:=hy.ld
 obtain ⟨a,a1,a2,a3⟩:=f_times hx.n hy.d (by omega)
 obtain ⟨b,b1,b2,b3⟩:=f_times hy.n hx.d (by omega)
 obtain ⟨s,s1,s2,s3⟩:=f_nplus a2 b2 (by omega)
 obtain ⟨d,d1,d2,d3⟩:=f_times hx.d hy.d (by omega)
 have hw:(q.den:Int) * (r.den:Int) ≠ 0:=by
  have h1:=q.den_nz
  have h2:=r.den_nz
  intro e
  rcases Int.mul_eq_zero.1 e with e | e <;> omega
 obtain ⟨z,z1,z2⟩:=f_lowest (q:=q + r) (c:=c + e + 1) s2 d2 hw (by
  have h1:=q_mul q
  have h2:=q_mul r
  simp only [Rat.intCast_mul,Rat.intCast_add]
  grind) (by omega) (by omega) (by omega)
 rw [a1,b1]
 simp only [Option.bind_some]
 rw [s1,d1]
 simp only [Option.bind_some]
 rw [z1]
 exact ⟨z,rfl,z2⟩
theorem f_eless {x y:Texact} {q r:Rat} {c e:Nat} (hx:Xq x q c) (hy:Xq y r e) (hc:2 ≤ c + e) (hm:c + e + 1 ≤ 8000000):∃ z,F_beam_exact__less x y = some z ∧ Xq z (q - r) (c + e + 1):=by
 unfold F_beam_exact__less
 obtain ⟨a,a1,a2,a3⟩:=f_opposite hy.n
 rw [a1]
 simp only [Option.bind_some]
 obtain ⟨z,z1,z2⟩:=f_eplus (y:=⟨a,y.d⟩) (r:=-r) hx ⟨a2,hy.d,by rw [a3];exact hy.ln,hy.ld⟩ hc hm
 rw [z1]
 exact ⟨z,rfl,z2.cast (by rw [Rat.sub_eq_add_neg])⟩
theorem f_etimes {x y:Texact} {q r:Rat} {c e:Nat} (hx:Xq x q c) (hy:Xq y r e) (hc:2 ≤ c + e) (hm:c + e ≤ 8000000):∃ z,F_beam_exact__times x y = some z ∧ Xq z (q * r) (c + e):=by
 unfold F_beam_exact__times
 have l1:=hx.ln
 have l2:=hx.ld
 have l3:=hy.ln
 have l4:=hy.ld
 obtain ⟨a,a1,a2,a3⟩:=f_times hx.n hy.n (by omega)
 obtain ⟨d,d1,d2,d3⟩:=f_times hx.d hy.d (by omega)
 have hw:(q.den:Int) * (r.den:Int) ≠ 0:=by
  have h1:=q.den_nz
  have h2:=r.den_nz
  intro e
  rcases Int.mul_eq_zero.1 e with e | e <;> omega
 obtain ⟨z,z1,z2⟩:=f_lowest (q:=q * r) (c:=c + e) a2 d2 hw (by
  have h1:=q_mul q
  have h2:=q_mul r
  simp only [Rat.intCast_mul]
  grind) (by omega) (by omega) (by omega)
 rw [a1,d1]
 simp only [Option.bind_some]
 rw [z1]
 exact ⟨z,rfl,z2⟩
theorem f_eby {x y:Texact} {q r:Rat} {c e:Nat} (hx:Xq x q c) (hy:Xq y r e) (hr:r ≠ 0) (hc:2 ≤ c + e) (hm:c + e ≤ 8000000):∃ z,F_beam_exact__by x y = some z ∧ Xq z (q / r) (c + e):=by
 unfold F_beam_exact__by
 have l1:=hx.ln
 have l2:=hx.ld
 have l3:=hy.ln
 have l4:=hy.ld
 obtain ⟨a,a1,a2,a3⟩:=f_times hx.n hy.d (by omega)
 obtain ⟨d,d1,d2,d3⟩:=f_times hx.d hy.n (by omega)
 have hw:(q.den:Int) * r.num ≠ 0:=by
  have h1:=q.den_nz
  intro e
  rcases Int.mul_eq_zero.1 e with e | e
  ·omega
  ·exact hr (Rat.num_eq_zero.1 e)
 obtain ⟨z,z1,z2⟩:=f_lowest (q:=q / r) (c:=c + e) a2 d2 hw (by
  have h1:=q_mul q
  have h2:=q_mul r
  simp only [Rat.intCast_mul]
  grind) (by omega) (by omega) (by omega)
 rw [a1,d1]
 simp only [Option.bind_some]
 rw [z1]
 exact ⟨z,rfl,z2⟩
theorem int_ne {n:Int} (h:n ≠ 0):(n:Rat) ≠ 0:=by
 intro e
 exact h (Rat.intCast_inj.1 (show (n:Rat) = ((0:Int):Rat) from e))
def prodZ:List Int → Int
 | []=>1
 | x :: l=>x * prodZ l
theorem prodZ_append:∀ (a b:List Int),prodZ (a ++ b) = prodZ a * prodZ b
 | [],b=>by simp [prodZ]
 | x :: a,b=>by simp only [List.cons_append,prodZ,prodZ_append a b,Int.mul_assoc]
theorem f_eproduct (d:Int) (l:List Int) (h3:-9223372036854775808 ≤ d) (h4:d ≤ 9223372036854775807) (hd:d ≠ 0) (hl:∀ x ∈ l,-9223372036854775808 ≤ x ∧ x ≤ 9223372036854775807) (hll:l.length ≤ 1000) :
  ∃ r,F_beam_product d l = some r ∧ Xq r ((prodZ l:Rat) / (d:Rat)) (2 * l.length + 2):=by
 unfold F_beam_product
 obtain ⟨o,o1,o2,o3⟩:=f_integer 1 (by omega) (by omega)
 rw [o1]
 simp only [Option.bind_some]
 refine iter_bind (Q:=fun r:Tnumber × Unit=>Num r.1 (prodZ l) ∧ r.1.words.length ≤ 2 * l.length + 2) (fun k s=>∃ t,s = ((k:Int),t,()) ∧ k ≤ l.length ∧ Num t (prodZ (l.take k)) ∧ t.words.length ≤ 2 * k + 2) l.length (by unfold big;omega) ?_ ⟨o,rfl,Nat.zero_le _,o2,by omega⟩ ?_
 ·rintro k s hk ⟨t,rfl,_,ht,htl⟩
  rcases Nat.lt_or_ge k l.length with hlt | hge
  ·have hx:=hl l[k] (List.getElem_mem _)
   obtain ⟨a,a1,a2,a3⟩:=f_integer l[k] hx.1 hx.2
   obtain ⟨p,p1,p2,p3⟩:=f_times ht a2 (by omega)
   have e0:decide ((k:Int) < ((l.length:Nat):Int)) = true:=by simp;omega
   refine .inl ⟨_,?_,hlt,p,rfl,hlt,?_,by omega⟩
   ·simp only [e0,cond_true]
    rw [idx_nat hlt]
    simp only [Option.bind_some]
    rw [a1]
    simp only [Option.bind_some]
    rw [p1,wrap64 (by omega) (by omega)]
    rfl
   ·rw [List.take_succ_eq_append_getElem hlt,prodZ_append]
    simpa [prodZ] using p2
  ·have hk':k = l.length:=by omega
   subst hk'
   have e0:decide (((l.length:Nat):Int) < ((l.length:Nat):Int)) = false:=by simp
   rw [List.take_length] at ht
   exact .inr ⟨(t,()),by simp only [e0,cond_false],ht,htl⟩
 ·rintro ⟨t,u⟩ ⟨t1,t2⟩
  simp only at t1 t2 ⊢
  obtain ⟨b,b1,b2,b3⟩:=f_integer d h3 h4
  obtain ⟨z,z1,z2⟩:=f_lowest (q:=(prodZ l:Rat) / (d:Rat)) (c:=2 * l.length + 2) t1 b2 hd (by have:=int_ne hd;grind) t2 (by omega) (by omega)
  rw [b1]
  simp only [Option.bind_some]
  rw [z1]
  exact ⟨z,rfl,z2⟩
end Go.Proofs.YtgbicnkpnhifgaaGreatDoor

namespace Go.Proofs.YtgbicnkpnhifgaaGreatDoor
theorem or64 (m h:Nat) (hm:m < 4294967296) (hh:h < 4294967296):bitsOf .or .u64 (m:Int) ((h * 4294967296:Nat):Int) = ((m + h * 4294967296:Nat):Int):=by
 unfold bitsOf
 rw [wrap_u]
 have e0:((2 ^ 64:Nat):Int) = 18446744073709551616:=by decide
 have h1:(BitVec.ofInt IntKind.u64.bits (m:Int) ||| BitVec.ofInt IntKind.u64.bits ((h * 4294967296:Nat):Int)).toNat = m ||| h * 4294967296:=by
  show (BitVec.ofInt 64 (m:Int) ||| BitVec.ofInt 64 ((h * 4294967296:Nat):Int)).toNat = _
  rw [BitVec.toNat_or,BitVec.toNat_ofInt,BitVec.toNat_ofInt]
  have e1:((m:Int) % ((2 ^ 64:Nat):Int)).toNat = m:=by
   rw [e0,Int.emod_eq_of_lt (by omega) (by omega)];exact Int.toNat_natCast _
  have e2:(((h * 4294967296:Nat):Int) % ((2 ^ 64:Nat):Int)).toNat = h * 4294967296:=by
   rw [e0,Int.emod_eq_of_lt (by omega) (by omega)];exact Int.toNat_natCast _
  rw [e1,e2]
 have h2:m ||| h * 4294967296 = m + h * 4294967296:=by
  have:=Nat.two_pow_add_eq_or_of_lt (i:=32) (b:=m) (by omega) h
  rw [Nat.or_comm,Nat.mul_comm h,Nat.add_comm m]
  exact this.symm
 show ((BitVec.ofInt IntKind.u64.bits (m:Int) ||| BitVec.ofInt IntKind.u64.bits ((h * 4294967296:Nat):Int)).toNat:Int) % 18446744073709551616 = _
 rw [h1,h2]
 omega
theorem or_word {l:List Int} {k:Nat} (hd:dig (4294967296:Int) l) (hk:k < 2):bitsOf .or .u64 (bv (4294967296:Int) (l.take k)) (IntKind.u64.wrap ((IntKind.u64.wrap (dg l k)) * 2 ^ min (Int.toNat (IntKind.i64.wrap (32 * (k:Int)))) IntKind.u64.bits)) = bv (4294967296:Int) (l.take (k + 1)):=by
 have hr:=dg_range (by decide) hd k
 have h0:=dg_range (by decide) hd 0
 rw [bv_take_succ]
 obtain ⟨x,hx⟩:∃ x,dg l k = x:=⟨_,rfl⟩
 rw [hx] at hr ⊢
 have w1:IntKind.u64.wrap x = x:=by rw [wrap_u];omega
 rw [w1]
 obtain ⟨n,rfl⟩:=Int.eq_ofNat_of_zero_le hr.1
 rcases Nat.lt_or_ge k 1 with h | h
 ·have:k = 0:=by omega
  subst this
  have e1:(2:Int) ^ min (Int.toNat (IntKind.i64.wrap (32 * ((0:Nat):Int)))) IntKind.u64.bits = 1:=by decide
  rw [e1,Int.mul_one,w1]
  have:=or64 n 0 (by omega) (by omega)
  simp only [List.take_zero,bv,Int.pow_zero,Int.one_mul,Int.zero_add]
  simp only [Nat.zero_mul,Nat.add_zero] at this
  refine Eq.trans ?_ this
  show IntKind.u64.wrap (((BitVec.ofInt IntKind.u64.bits 0) ||| (BitVec.ofInt IntKind.u64.bits (n:Int))).toNat:Int) = IntKind.u64.wrap (((BitVec.ofInt IntKind.u64.bits (n:Int)) ||| (BitVec.ofInt IntKind.u64.bits ((0:Nat):Int))).toNat:Int)
  rw [BitVec.or_comm]
  rfl
 ·have:k = 1:=by omega
  subst this
  have e1:(2:Int) ^ min (Int.toNat (IntKind.i64.wrap (32 * ((1:Nat):Int)))) IntKind.u64.bits = 4294967296:=by decide
  have e2:bv (4294967296:Int) (l.take 1) = dg l 0:=by rw [show (1:Nat) = 0 + 1 from rfl,bv_take_succ];simp [bv]
  rw [e1,e2]
  obtain ⟨m,hm⟩:=Int.eq_ofNat_of_zero_le h0.1
  rw [hm] at h0 ⊢
  have e3:IntKind.u64.wrap ((n:Int) * 4294967296) = ((n * 4294967296:Nat):Int):=by rw [wrap_u];omega
  rw [e3,or64 m n (by omega) (by omega)]
  simp only [Int.pow_one]
  omega
theorem big_words {l:List Int} {u:Nat} (h:Wd l u) (hl:2 < l.length):18446744073709551616 ≤ u:=by
 have h1:=bv_lt_len (B:=(4294967296:Int)) (a:=[4294967295,4294967295]) (by decide) (by intro x hx;simp at hx;subst hx;omega) h.dig h.tight (by simp;omega)
 rw [h.val] at h1
 simp [bv] at h1
 omega
set_option maxHeartbeats 1000000 in
theorem f_fraction {x:Texact} {q:Rat} {c:Nat} (h:Xq x q c):F_beam_exact__fraction x = some (outQ q):=by
 suffices hs:∃ r,F_beam_exact__fraction x = some r ∧ r = outQ q by
  obtain ⟨r,h1,rfl⟩:=hs
  exact h1
 have hn:=h.n.wd
 have hd:=h.d.wd
 have hnn:=h.n.neg_iff
 obtain ⟨⟨neg,wn⟩,⟨dneg,wd⟩⟩:=x
 simp only at hn hd hnn
 unfold F_beam_exact__fraction
 dsimp only
 rcases Nat.lt_or_ge 2 wn.length with hl | hl
 ·have:=big_words hn hl
  rw [decide_eq_true (by omega)]
  refine ⟨_,rfl,?_⟩
  rw [fr_big]
  unfold fitQ;omega
 ·rw [decide_eq_false (by omega),cond_false]
  refine iter_bind (Q:=fun r:TAr302 × Unit=>r.1 = ⟨(q.num.natAbs:Int),0⟩) (fun k s=>k ≤ wn.length ∧ s = ((k:Int),⟨bv (4294967296:Int) (wn.take k),0⟩,())) wn.length (by unfold big;omega) ?_ ⟨Nat.zero_le _,by simp [bv]⟩ ?_
  ·rintro k s hk ⟨_,rfl⟩
   rcases Nat.lt_or_ge k wn.length with hlt | hge
   ·have e0:decide ((k:Int) < ((wn.length:Nat):Int)) = true:=decide_eq_true (by omega)
    have e1:¬ (IntKind.i64.wrap (32 * (k:Int)) < 0):=by rw [wrap64 (by omega) (by omega)];omega
    refine .inl ⟨_,?_,hlt,hlt,rfl⟩
    simp only [e0,cond_true]
    rw [idx_nat hlt,← dg_get hlt]
    simp only [Option.bind_some]
    rw [if_neg e1,or_word hn.dig (by omega),wrap64 (n:=(k:Int) + 1) (by omega) (by omega)]
    rfl
   ·have hk':k = wn.length:=by omega
    subst hk'
    have e0:decide (((wn.length:Nat):Int) < ((wn.length:Nat):Int)) = false:=by simp
    refine .inr ⟨(⟨bv (4294967296:Int) wn,0⟩,()),by simp only [e0,cond_false,List.take_length],?_⟩
    rw [hn.val]
  ·rintro ⟨y,u⟩ hy
   simp only at hy ⊢
   subst hy
   dsimp only
   by_cases f1:(q.num.natAbs:Int) > 1152921504606846976
   ·rw [decide_eq_true f1]
    refine ⟨_,rfl,?_⟩
    rw [fr_big]
    unfold fitQ;omega
   ·rw [decide_eq_false f1,cond_false]
    rcases Nat.lt_or_ge 2 wd.length with hl2 | hl2
    ·have:=big_words hd hl2
     rw [decide_eq_true (by omega)]
     refine ⟨_,rfl,?_⟩
     rw [fr_big]
     unfold fitQ;omega
    ·rw [decide_eq_false (by omega),cond_false]
     refine iter_bind (Q:=fun r:TAr302 × Unit=>r.1 = ⟨(q.num.natAbs:Int),(q.den:Int)⟩) (fun k s=>k ≤ wd.length ∧ s = ((k:Int),⟨(q.num.natAbs:Int),bv (4294967296:Int) (wd.take k)⟩,())) wd.length (by unfold big;omega) ?_ ⟨Nat.zero_le _,by simp [bv]⟩ ?_
     ·rintro k s hk ⟨_,rfl⟩
      rcases Nat.lt_or_ge k wd.length with hlt | hge
      ·have e0:decide ((k:Int) < ((wd.length:Nat):Int)) = true:=decide_eq_true (by omega)
       have e1:¬ (IntKind.i64.wrap (32 * (k:Int)) < 0):=by rw [wrap64 (by omega) (by omega)];omega
       refine .inl ⟨_,?_,hlt,hlt,rfl⟩
       simp only [e0,cond_true]
       rw [idx_nat hlt,← dg_get hlt]
       simp only [Option.bind_some]
       rw [if_neg e1,or_word hd.dig (by omega),wrap64 (n:=(k:Int) + 1) (by omega) (by omega)]
       rfl
      ·have hk':k = wd.length:=by omega
       subst hk'
       have e0:decide (((wd.length:Nat):Int) < ((wd.length:Nat):Int)) = false:=by simp
       refine .inr ⟨(⟨(q.num.natAbs:Int),bv (4294967296:Int) wd⟩,()),by simp only [e0,cond_false,List.take_length],?_⟩
       rw [hd.val];rfl
     ·rintro ⟨y,u⟩ hy
      simp only at hy ⊢
      subst hy
      dsimp only
      by_cases f2:(q.den:Int) > 1152921504606846976
      ·rw [decide_eq_true f2]
       refine ⟨_,rfl,?_⟩
       rw [fr_big]
       unfold fitQ;omega
      ·rw [decide_eq_false f2,cond_false,fr_fit (by unfold fitQ;omega)]
       rw [wrap64 (n:=(q.num.natAbs:Int)) (by omega) (by omega),wrap64 (n:=(q.den:Int)) (by omega) (by omega),wrap64 (n:=0 - (q.num.natAbs:Int)) (by omega) (by omega)]
       unfold frQ
       cases neg with
       | true =>
        refine ⟨_,rfl,?_⟩
        rcases Decidable.em (q.num = 0) with h0 | h0
        ·rw [h0];rfl
        ·have:=(hnn h0).1 rfl
         dsimp only
         rw [show (0:Int) - (q.num.natAbs:Int) = q.num from by omega]
       | false =>
        refine ⟨_,rfl,?_⟩
        have:¬ q.num < 0:=fun hneg=>by
         have:=(hnn (by omega)).2 hneg
         cases this
        dsimp only
        rw [show ((q.num.natAbs:Nat):Int) = q.num from by omega]
theorem f_fractions {l:List Texact} {qs:List Rat} {c:Nat} (hl:l.length ≤ 1000000) (hq:l.length = qs.length) (hR:∀ (i:Nat) (h:i < l.length) (h2:i < qs.length),Xq l[i] qs[i] c):F_beam_fractions l = some (outL qs):=by
 unfold F_beam_fractions
 exact iter_told (T:=F_beam_exact__fraction) (R:=fun a q=>Xq a q c) (fun a q h=>f_fraction h) hl hq hR
end Go.Proofs.YtgbicnkpnhifgaaGreatDoor

namespace Go.Proofs.YtgbicnkpnhifgaaGreatDoor
theorem loop_sum {α τ γ:Type} {F:Int × τ × Unit → Option ((Int × τ × Unit) ⊕ (τ × Unit))} {K:τ × Unit → Option γ} {P:γ → Prop} {w:List α} (R:τ → Rat → Nat → Prop) (f:α → Rat) (e:Nat) (hw:w.length ≤ 1000000) {t0:τ} {q0:Rat} {c0:Nat} (h0:R t0 q0 c0)
  (hin:∀ (k:Nat) (h:k < w.length) (t:τ) (q:Rat),R t q (c0 + e * k) → ∃ t',F ((k:Int),t,()) = some (.inl (((k + 1:Nat):Int),t',())) ∧ R t' (q + f w[k]) (c0 + e * k + e))
  (hout:∀ t,F ((w.length:Int),t,()) = some (.inr (t,())))
  (hK:∀ t,R t (q0 + sumQ f w) (c0 + e * w.length) → ∃ y,K (t,()) = some y ∧ P y):∃ y,(iterF F big (0,t0,())).bind K = some y ∧ P y:=by
 refine iter_bind (Q:=fun s:τ × Unit=>R s.1 (q0 + sumQ f w) (c0 + e * w.length)) (fun k s=>k ≤ w.length ∧ ∃ t,s = ((k:Int),t,()) ∧ R t (q0 + sumQ f (w.take k)) (c0 + e * k)) w.length (by unfold big;omega) ?_ ⟨Nat.zero_le _,t0,rfl,?_⟩ ?_
 ·rintro k s hk ⟨_,t,rfl,ht⟩
  rcases Nat.lt_or_ge k w.length with hlt | hge
  ·obtain ⟨t',h1,h2⟩:=hin k hlt t _ ht
   refine .inl ⟨_,h1,hlt,hlt,t',rfl,?_⟩
   have e1:q0 + sumQ f (w.take (k + 1)) = q0 + sumQ f (w.take k) + f w[k]:=by rw [sumQ_take f hlt];grind
   rw [e1,Nat.mul_succ,← Nat.add_assoc]
   exact h2
  ·have hk':k = w.length:=by omega
   subst hk'
   rw [List.take_length] at ht
   exact .inr ⟨(t,()),hout t,ht⟩
 ·simp only [List.take_zero,sumQ,Nat.mul_zero,Nat.add_zero]
  have:q0 + 0 = q0:=by grind
  rw [this];exact h0
 ·rintro ⟨t,u⟩ h
  exact hK t h
def lds (w:List TLoad):List Ld:=w.map fun x=>(x.at_,x.weight)
def LoadOk (L:Int) (x:TLoad):Prop:=0 ≤ x.at_ ∧ x.at_ ≤ L ∧ 0 ≤ x.weight ∧ x.weight ≤ 67108864
structure BeamIn (b:TBeam):Prop where
 l0:1 ≤ b.length
 l1:b.length ≤ 1048576
 e0:0 ≤ b.even
 e1:b.even ≤ 1048576
 ld:∀ x ∈ b.loads,LoadOk b.length x
 ln:b.loads.length ≤ 40
theorem Xq.skip {x:Texact} {q:Rat} {c e:Nat} (h:Xq x q c):Xq x (q + 0) (c + e):=(h.mono (Nat.le_add_right _ _)).cast (by grind)
theorem prod2 (a b:Int):(prodZ [a,b]:Rat) = (a:Rat) * b:=by simp only [prodZ,Int.mul_one];rw [Rat.intCast_mul]
theorem prod3 (a b c:Int):(prodZ [a,b,c]:Rat) = (a:Rat) * b * c:=by simp only [prodZ,Int.mul_one];rw [Rat.intCast_mul,Rat.intCast_mul,Rat.mul_assoc]
theorem prod4 (a b c d:Int):(prodZ [a,b,c,d]:Rat) = (a:Rat) * b * c * d:=by simp only [prodZ,Int.mul_one];rw [Rat.intCast_mul,Rat.intCast_mul,Rat.intCast_mul];grind
theorem div_one' (q:Rat):q / ((1:Int):Rat) = q:=by
 have:((1:Int):Rat) = 1:=rfl
 rw [this];grind
theorem f_over2 {b:TBeam} (hb:BeamIn b) {a:Int} (ha:b.supports.head? = some a) (h0:0 ≤ a) (h1:a ≤ b.length):∃ r,F_beam_overhang b = some r ∧ Xq r (0 - overQ b.even (lds b.loads) a) 300:=by
 unfold F_beam_overhang
 have hl:=hb.l1
 have he0:=hb.e0
 have he1:=hb.e1
 have hln:=hb.ln
 have hx:idx b.supports 0 = some a:=by
  cases hs:b.supports with
  | nil=>rw [hs] at ha;simp at ha
  | cons x t=>rw [hs] at ha;simp at ha;subst ha;rfl
 obtain ⟨p,p1,p2⟩:=f_eproduct 2000 [b.even,a,a] (by omega) (by omega) (by omega) (by intro x hx;simp at hx;omega) (by simp)
 rw [hx]
 simp only [Option.bind_some]
 rw [p1]
 simp only [Option.bind_some]
 refine loop_sum (w:=b.loads) (fun t q c=>Xq t q c) (fun x=>if x.at_ < a then (x.weight:Rat) * (a - x.at_) else 0) 7 (by omega) p2 ?_ ?_ ?_
 ·intro k h t q ht
  have hx:=hb.ld _ (List.getElem_mem h)
  obtain ⟨x0,x1,x2,x3⟩:=hx
  have e0:decide ((k:Int) < ((b.loads.length:Nat):Int)) = true:=decide_eq_true (by omega)
  simp only [e0,cond_true]
  rw [idx_nat h]
  simp only [Option.bind_some]
  generalize b.loads[k] = x at *
  by_cases hc:x.at_ < a
  ·rw [decide_eq_true hc,if_pos hc,cond_true,wrap64 (n:=a - x.at_) (by omega) (by omega)]
   obtain ⟨z,z1,z2⟩:=f_eproduct 1 [x.weight,a - x.at_] (by omega) (by omega) (by omega) (by intro y hy;simp at hy;omega) (by simp)
   obtain ⟨s,s1,s2⟩:=f_eplus ht z2 (by omega) (by simp only [List.length_cons,List.length_nil];omega)
   rw [z1]
   simp only [Option.bind_some]
   rw [s1]
   simp only [Option.bind_some]
   rw [wrap64 (n:=(k:Int) + 1) (by omega) (by omega)]
   refine ⟨s,rfl,(s2.mono (by simp only [List.length_cons,List.length_nil];omega)).cast ?_⟩
   rw [div_one',prod2,Rat.intCast_sub]
  ·rw [decide_eq_false hc,if_neg hc,cond_false]
   simp only [Option.bind_some]
   rw [wrap64 (n:=(k:Int) + 1) (by omega) (by omega)]
   exact ⟨t,rfl,ht.skip⟩
 ·intro t
  have e0:decide (((b.loads.length:Nat):Int) < ((b.loads.length:Nat):Int)) = false:=by simp
  simp only [e0,cond_false]
 ·intro t ht
  obtain ⟨z,z1,z2⟩:=f_whole 0 (by omega) (by omega)
  obtain ⟨s,s1,s2⟩:=f_eless z2 ht (by omega) (by simp only [List.length_cons,List.length_nil];omega)
  simp only
  rw [z1]
  simp only [Option.bind_some]
  rw [s1]
  refine ⟨s,rfl,(s2.mono (by simp only [List.length_cons,List.length_nil];omega)).cast ?_⟩
  unfold overQ lds
  rw [sumQ_map,prod3]
  rfl
theorem f_side {b:TBeam} (hb:BeamIn b) {fr to:Int} (left:Bool) (h0:0 ≤ fr) (h1:fr < to) (h2:to ≤ b.length):∃ r,F_beam_side b fr to left = some r ∧ Xq r (sideQ b.even (lds b.loads) fr to left) 400:=by
 unfold F_beam_side
 have hl:=hb.l1
 have he0:=hb.e0
 have he1:=hb.e1
 have hln:=hb.ln
 have hll:IntKind.i64.wrap (to - fr) = to - fr:=wrap64 (by omega) (by omega)
 obtain ⟨p,p1,p2⟩:=f_eproduct 4000 [b.even,to - fr,to - fr,to - fr] (by omega) (by omega) (by omega) (by intro x hx;simp at hx;omega) (by simp)
 rw [hll,p1]
 simp only [Option.bind_some]
 refine loop_sum (w:=b.loads) (fun t q c=>Xq t q c) (fun x=>if x.at_ ≤ fr ∨ to ≤ x.at_ then 0 else
  (x.weight:Rat) * ((if left then x.at_ - fr else to - x.at_:Int):Rat) * (((to - fr) * (to - fr) - (if left then x.at_ - fr else to - x.at_) * (if left then x.at_ - fr else to - x.at_):Int):Rat) / ((to - fr:Int):Rat)) 9 (by omega) p2 ?_ ?_ ?_
 ·intro k h t q ht
  have hx:=hb.ld _ (List.getElem_mem h)
  obtain ⟨x0,x1,x2,x3⟩:=hx
  have e0:decide ((k:Int) < ((b.loads.length:Nat):Int)) = true:=decide_eq_true (by omega)
  simp only [e0,cond_true]
  rw [idx_nat h]
  simp only [Option.bind_some]
  generalize b.loads[k] = x at *
  by_cases hc:x.at_ ≤ fr ∨ to ≤ x.at_
  ·have ht1:(((bif (decide (x.at_ ≤ fr)) then some (true,()) else some ((decide (x.at_ ≥ to)),())):Option (Bool × Unit))) = some (true,()):=by
    rcases Int.lt_or_le fr x.at_ with h3 | h3
    ·rw [decide_eq_false (by omega),cond_false,decide_eq_true (by omega)]
    ·rw [decide_eq_true h3];rfl
   rw [ht1,if_pos hc]
   simp only [Option.bind_some,cond_true]
   rw [wrap64 (n:=(k:Int) + 1) (by omega) (by omega)]
   exact ⟨t,rfl,ht.skip⟩
  ·have ht1:(((bif (decide (x.at_ ≤ fr)) then some (true,()) else some ((decide (x.at_ ≥ to)),())):Option (Bool × Unit))) = some (false,()):=by
    rw [decide_eq_false (by omega),cond_false,decide_eq_false (by omega)]
   rw [ht1,if_neg hc]
   simp only [Option.bind_some,cond_false]
   obtain ⟨a,ha⟩:∃ a,(if left then x.at_ - fr else to - x.at_:Int) = a:=⟨_,rfl⟩
   have hab:0 < a ∧ a < to - fr:=by rw [← ha];split <;> omega
   have hy:(((bif (!left) then some ((IntKind.i64.wrap (to - x.at_)),()) else some ((IntKind.i64.wrap (x.at_ - fr)),())):Option (Int × Unit))) = some (a,()):=by
    rw [← ha,wrap64 (n:=to - x.at_) (by omega) (by omega),wrap64 (n:=x.at_ - fr) (by omega) (by omega)]
    cases left <;> rfl
   rw [hy,ha]
   simp only [Option.bind_some]
   have hsq1:(to - fr) * (to - fr) ≤ 1048576 * 1048576:=Int.mul_le_mul (by omega) (by omega) (by omega) (by omega)
   have hsq2:a * a ≤ (to - fr) * (to - fr):=Int.mul_le_mul (by omega) (by omega) (by omega) (by omega)
   have hsq0:0 ≤ a * a:=Int.mul_nonneg (by omega) (by omega)
   rw [wrap64 (n:=(to - fr) * (to - fr)) (by omega) (by omega),wrap64 (n:=a * a) (by omega) (by omega),wrap64 (n:=(to - fr) * (to - fr) - a * a) (by omega) (by omega)]
   obtain ⟨z,z1,z2⟩:=f_eproduct (to - fr) [x.weight,a,(to - fr) * (to - fr) - a * a] (by omega) (by omega) (by omega) (by intro y hy;simp at hy;omega) (by simp)
   obtain ⟨s,s1,s2⟩:=f_eplus ht z2 (by omega) (by simp only [List.length_cons,List.length_nil];omega)
   rw [z1]
   simp only [Option.bind_some]
   rw [s1]
   simp only [Option.bind_some]
   rw [wrap64 (n:=(k:Int) + 1) (by omega) (by omega)]
   refine ⟨s,rfl,(s2.mono (by simp only [List.length_cons,List.length_nil];omega)).cast ?_⟩
   rw [prod3]
 ·intro t
  have e0:decide (((b.loads.length:Nat):Int) < ((b.loads.length:Nat):Int)) = false:=by simp
  simp only [e0,cond_false]
 ·intro t ht
  refine ⟨t,rfl,(ht.mono (by simp only [List.length_cons,List.length_nil];omega)).cast ?_⟩
  unfold sideQ lds
  rw [sumQ_map,prod4]
  rfl
theorem f_lever {b:TBeam} (hb:BeamIn b) {fr to:Int} (left:Bool) (h0:0 ≤ fr) (h1:fr < to) (h2:to ≤ b.length):∃ r,F_beam_lever b fr to left = some r ∧ Xq r (leverQ b.even (lds b.loads) fr to left) 300:=by
 unfold F_beam_lever
 have hl:=hb.l1
 have he0:=hb.e0
 have he1:=hb.e1
 have hln:=hb.ln
 have hll:IntKind.i64.wrap (to - fr) = to - fr:=wrap64 (by omega) (by omega)
 obtain ⟨p,p1,p2⟩:=f_eproduct 2000 [b.even,to - fr] (by omega) (by omega) (by omega) (by intro x hx;simp at hx;omega) (by simp)
 rw [hll,p1]
 simp only [Option.bind_some]
 refine loop_sum (w:=b.loads) (fun t q c=>Xq t q c) (fun x=>if x.at_ ≤ fr ∨ to ≤ x.at_ then 0 else (x.weight:Rat) * ((if left then to - x.at_ else x.at_ - fr:Int):Rat) / ((to - fr:Int):Rat)) 7 (by omega) p2 ?_ ?_ ?_
 ·intro k h t q ht
  have hx:=hb.ld _ (List.getElem_mem h)
  obtain ⟨x0,x1,x2,x3⟩:=hx
  have e0:decide ((k:Int) < ((b.loads.length:Nat):Int)) = true:=decide_eq_true (by omega)
  simp only [e0,cond_true]
  rw [idx_nat h]
  simp only [Option.bind_some]
  generalize b.loads[k] = x at *
  by_cases hc:x.at_ ≤ fr ∨ to ≤ x.at_
  ·have ht1:(((bif (decide (x.at_ ≤ fr)) then some (true,()) else some ((decide (x.at_ ≥ to)),())):Option (Bool × Unit))) = some (true,()):=by
    rcases Int.lt_or_le fr x.at_ with h3 | h3
    ·rw [decide_eq_false (by omega),cond_false,decide_eq_true (by omega)]
    ·rw [decide_eq_true h3];rfl
   rw [ht1,if_pos hc]
   simp only [Option.bind_some,cond_true]
   rw [wrap64 (n:=(k:Int) + 1) (by omega) (by omega)]
   exact ⟨t,rfl,ht.skip⟩
  ·have ht1:(((bif (decide (x.at_ ≤ fr)) then some (true,()) else some ((decide (x.at_ ≥ to)),())):Option (Bool × Unit))) = some (false,()):=by
    rw [decide_eq_false (by omega),cond_false,decide_eq_false (by omega)]
   rw [ht1,if_neg hc]
   simp only [Option.bind_some,cond_false]
   obtain ⟨a,ha⟩:∃ a,(if left then to - x.at_ else x.at_ - fr:Int) = a:=⟨_,rfl⟩
   have hab:0 < a ∧ a < to - fr:=by rw [← ha];split <;> omega
   have hy:(((bif (!left) then some ((IntKind.i64.wrap (x.at_ - fr)),()) else some ((IntKind.i64.wrap (to - x.at_)),())):Option (Int × Unit))) = some (a,()):=by
    rw [← ha,wrap64 (n:=to - x.at_) (by omega) (by omega),wrap64 (n:=x.at_ - fr) (by omega) (by omega)]
    cases left <;> rfl
   rw [hy,ha]
   simp only [Option.bind_some]
   obtain ⟨z,z1,z2⟩:=f_eproduct (to - fr) [x.weight,a] (by omega) (by omega) (by omega) (by intro y hy;simp at hy;omega) (by simp)
   obtain ⟨s,s1,s2⟩:=f_eplus ht z2 (by omega) (by simp only [List.length_cons,List.length_nil];omega)
   rw [z1]
   simp only [Option.bind_some]
   rw [s1]
   simp only [Option.bind_some]
   rw [wrap64 (n:=(k:Int) + 1) (by omega) (by omega)]
   refine ⟨s,rfl,(s2.mono (by simp only [List.length_cons,List.length_nil];omega)).cast ?_⟩
   rw [prod2]
 ·intro t
  have e0:decide (((b.loads.length:Nat):Int) < ((b.loads.length:Nat):Int)) = false:=by simp
  simp only [e0,cond_false]
 ·intro t ht
  refine ⟨t,rfl,(ht.mono (by simp only [List.length_cons,List.length_nil];omega)).cast ?_⟩
  unfold leverQ lds
  rw [sumQ_map,prod2]
  rfl
theorem f_beyond {b:TBeam} (hb:BeamIn b) {a:Int} (h0:0 ≤ a) (h1:a ≤ b.length):∃ r,F_beam_beyond b a = some r ∧ Xq r (beyondQ b.even (lds b.loads) a) 200:=by
 unfold F_beam_beyond
 have hl:=hb.l1
 have he0:=hb.e0
 have he1:=hb.e1
 have hln:=hb.ln
 obtain ⟨p,p1,p2⟩:=f_eproduct 1000 [b.even,a] (by omega) (by omega) (by omega) (by intro x hx;simp at hx;omega) (by simp)
 rw [p1]
 simp only [Option.bind_some]
 refine loop_sum (w:=b.loads) (fun t q c=>Xq t q c) (fun x=>if x.at_ < a then (x.weight:Rat) else 0) 3 (by omega) p2 ?_ ?_ ?_
 ·intro k h t q ht
  have hx:=hb.ld _ (List.getElem_mem h)
  obtain ⟨x0,x1,x2,x3⟩:=hx
  have e0:decide ((k:Int) < ((b.loads.length:Nat):Int)) = true:=decide_eq_true (by omega)
  simp only [e0,cond_true]
  rw [idx_nat h]
  simp only [Option.bind_some]
  generalize b.loads[k] = x at *
  by_cases hc:x.at_ < a
  ·rw [decide_eq_true hc,if_pos hc,cond_true]
   obtain ⟨z,z1,z2⟩:=f_whole x.weight (by omega) (by omega)
   obtain ⟨s,s1,s2⟩:=f_eplus ht z2 (by omega) (by simp only [List.length_cons,List.length_nil];omega)
   rw [z1]
   simp only [Option.bind_some]
   rw [s1]
   simp only [Option.bind_some]
   rw [wrap64 (n:=(k:Int) + 1) (by omega) (by omega)]
   exact ⟨s,rfl,s2.mono (by omega)⟩
  ·rw [decide_eq_false hc,if_neg hc,cond_false]
   simp only [Option.bind_some]
   rw [wrap64 (n:=(k:Int) + 1) (by omega) (by omega)]
   exact ⟨t,rfl,ht.skip⟩
 ·intro t
  have e0:decide (((b.loads.length:Nat):Int) < ((b.loads.length:Nat):Int)) = false:=by simp
  simp only [e0,cond_false]
 ·intro t ht
  refine ⟨t,rfl,(ht.mono (by simp only [List.length_cons,List.length_nil];omega)).cast ?_⟩
  unfold beyondQ lds
  rw [sumQ_map,prod2]
  rfl
end Go.Proofs.YtgbicnkpnhifgaaGreatDoor

namespace Go.Proofs.YtgbicnkpnhifgaaGreatDoor
def turnB (b:TBeam):TBeam:=⟨b.name,b.length,b.supports.reverse.map (fun s=>b.length - s),b.loads.map (fun x=>⟨b.length - x.at_,x.weight⟩),b.even⟩
theorem ordS_snd {α:Type} (l:List α):(ordS true l).map (fun x=>x.2) = l.reverse:=by
 unfold ordS
 rw [List.map_reverse,List.map_map]
 congr 1
 have:((fun x:Nat × α=>x.2) ∘ fun p:α × Nat=>(p.2,p.1)) = Prod.fst:=rfl
 rw [this]
 exact List.zipIdx_map_fst 0 l
theorem fold_turn (L:Int) (hL0:0 ≤ L) (hL:L ≤ 1048576):∀ (l:List (Nat × Int)) (s:TBeam),(∀ x ∈ l,0 ≤ x.2 ∧ x.2 ≤ L) → s.supports.length + l.length ≤ 1000000 →
  foldR (σ:=TBeam × Unit) (τ:=Nat × Int) (fun s1 x2=>(if s1.1.supports.length + ([(IntKind.i64.wrap (L - x2.2))]:List Int).length ≤ 2147483648 then some ((TBeam.mk s1.1.name s1.1.length (s1.1.supports ++ ([(IntKind.i64.wrap (L - x2.2))]:List Int)) s1.1.loads s1.1.even),()) else none)) l (s,()) = some (⟨s.name,s.length,s.supports ++ (l.map fun x=>x.2).map (fun x=>L - x),s.loads,s.even⟩,())
 | [],s,_,_=>by simp [foldR]
 | x :: l,s,h,hl=>by
  have hx:=h x List.mem_cons_self
  unfold foldR
  rw [if_pos (by simp at hl ⊢;omega),wrap64 (by omega) (by omega)]
  simp only [Option.bind_some]
  rw [fold_turn L hL0 hL l _ (fun y hy=>h y (List.mem_cons_of_mem _ hy)) (by simp at hl ⊢;omega)]
  simp
structure SupOk (b:TBeam):Prop where
 n1:1 ≤ b.supports.length
 n10:b.supports.length ≤ 10
 rg:∀ x ∈ b.supports,0 ≤ x ∧ x ≤ b.length
 inc:∀ i,i + 1 < b.supports.length → b.supports.getD i 0 < b.supports.getD (i + 1) 0
theorem f_turned {b:TBeam} (hb:BeamIn b) (hs:SupOk b):F_beam_turned b = some (turnB b):=by
 have hl0:=hb.l0
 have hl1:=hb.l1
 have hln:=hb.ln
 have hn:=hs.n10
 suffices h:∃ r,F_beam_turned b = some r ∧ r = turnB b by
  obtain ⟨r,h1,rfl⟩:=h
  exact h1
 unfold F_beam_turned
 rw [if_pos (by omega),fold_turn b.length (by omega) hl1 _ _ (by
  intro x hx
  have h1:x.2 ∈ b.supports:=by
   have h2:x.2 ∈ (ordS true b.supports).map (fun x=>x.2):=List.mem_map_of_mem hx
   rw [ordS_snd] at h2
   exact List.mem_reverse.1 h2
  exact hs.rg _ h1) (by simp [ordS];omega),ordS_snd]
 simp only [Option.bind_some,List.nil_append]
 refine iter_bind (Q:=fun s:TBeam × Unit=>s.1 = turnB b) (fun k s=>k ≤ b.loads.length ∧ s = ((k:Int),⟨b.name,b.length,b.supports.reverse.map (fun s=>b.length - s),(b.loads.take k).map (fun x=>⟨b.length - x.at_,x.weight⟩),b.even⟩,())) b.loads.length (by unfold big;omega) ?_ ⟨Nat.zero_le _,rfl⟩ ?_
 ·rintro k s hk ⟨_,rfl⟩
  rcases Nat.lt_or_ge k b.loads.length with hlt | hge
  ·have e0:decide ((k:Int) < ((b.loads.length:Nat):Int)) = true:=decide_eq_true (by omega)
   obtain ⟨x0,x1,x2,x3⟩:=hb.ld _ (List.getElem_mem hlt)
   refine .inl ⟨_,?_,hlt,hlt,rfl⟩
   simp only [e0,cond_true]
   rw [idx_nat hlt]
   simp only [Option.bind_some]
   rw [if_pos (by simp;omega),wrap64 (n:=b.length - b.loads[k].at_) (by omega) (by omega),wrap64 (n:=(k:Int) + 1) (by omega) (by omega),List.take_succ_eq_append_getElem hlt,List.map_append]
   rfl
  ·have e0:decide ((k:Int) < ((b.loads.length:Nat):Int)) = false:=decide_eq_false (by omega)
   refine .inr ⟨((⟨b.name,b.length,b.supports.reverse.map (fun s=>b.length - s),(b.loads.take k).map (fun x=>⟨b.length - x.at_,x.weight⟩),b.even⟩:TBeam),()),by simp only [e0,cond_false],?_⟩
   show (⟨b.name,b.length,b.supports.reverse.map (fun s=>b.length - s),(b.loads.take k).map (fun x=>⟨b.length - x.at_,x.weight⟩),b.even⟩:TBeam) = turnB b
   rw [List.take_of_length_le hge]
   rfl
 ·rintro ⟨t,u⟩ h
  exact ⟨t,rfl,h⟩
theorem turn_in {b:TBeam} (hb:BeamIn b):BeamIn (turnB b):=by
 refine ⟨hb.l0,hb.l1,hb.e0,hb.e1,?_,by show (b.loads.map _).length ≤ 40;rw [List.length_map];exact hb.ln⟩
 intro x hx
 obtain ⟨y,hy,rfl⟩:=List.mem_map.1 hx
 obtain ⟨x0,x1,x2,x3⟩:=hb.ld y hy
 exact ⟨by show 0 ≤ b.length - y.at_;omega,by show b.length - y.at_ ≤ b.length;omega,x2,x3⟩
theorem turn_lds (b:TBeam):lds (turnB b).loads = turnW b.length (lds b.loads):=by
 unfold lds turnW turnB
 rw [List.map_map,List.map_map]
 rfl
def sp (b:TBeam) (i:Nat):Int:=b.supports.getD i 0
def gp (b:TBeam) (i:Nat):Rat:=((sp b (i + 1) - sp b i:Int):Rat)
def Rp (b:TBeam) (i:Nat):Rat:=0 - sideQ b.even (lds b.loads) (sp b (i - 1)) (sp b i) true - sideQ b.even (lds b.loads) (sp b i) (sp b (i + 1)) false
def fstQ (b:TBeam):Rat:=0 - overQ b.even (lds b.loads) (sp b 0)
def lstQ (b:TBeam):Rat:=0 - overQ b.even (turnW b.length (lds b.loads)) (b.length - sp b (b.supports.length - 1))
def momB (b:TBeam) (i:Nat):Rat:=mom (gp b) (Rp b) (fstQ b) (lstQ b) b.supports.length i
theorem sp_get {b:TBeam} {i:Nat} (h:i < b.supports.length):b.supports[i]? = some (sp b i):=by
 unfold sp
 rw [List.getD_eq_getElem?_getD,List.getElem?_eq_getElem h];rfl
theorem idx_q {α:Type} {l:List α} {k:Nat} {x:α} (h:l[k]? = some x):idx l (k:Int) = some x:=by
 unfold idx
 rw [if_pos (by omega),Int.toNat_natCast,h]
theorem sp_idx {b:TBeam} {i:Nat} (h:i < b.supports.length):idx b.supports (i:Int) = some (sp b i):=idx_q (sp_get h)
theorem sp_rg {b:TBeam} (hs:SupOk b) {i:Nat} (h:i < b.supports.length):0 ≤ sp b i ∧ sp b i ≤ b.length:=by
 have:=sp_get h
 exact hs.rg _ (List.mem_of_getElem? this)
theorem gp_pos {b:TBeam} (hs:SupOk b):∀ i,i + 1 < b.supports.length → 0 < gp b i:=by
 intro i h
 have:=hs.inc i h
 unfold gp
 exact Rat.intCast_lt_intCast.2 (show (0:Int) < sp b (i + 1) - sp b i by unfold sp;omega)
theorem f_bfirst {b:TBeam} (hb:BeamIn b) (hs:SupOk b):∃ r,F_beam_overhang b = some r ∧ Xq r (fstQ b) 300:=by
 have h:=sp_rg hs (i:=0) (by have:=hs.n1;omega)
 refine f_over2 hb ?_ h.1 h.2
 rw [List.head?_eq_getElem?]
 exact sp_get (by have:=hs.n1;omega)
theorem f_last {b:TBeam} (hb:BeamIn b) (hs:SupOk b):∃ r,F_beam_overhang (turnB b) = some r ∧ Xq r (lstQ b) 300:=by
 have hn:=hs.n1
 have h:=sp_rg hs (i:=b.supports.length - 1) (by omega)
 have hl:(turnB b).length = b.length:=rfl
 obtain ⟨r,r1,r2⟩:=f_over2 (turn_in hb) (a:=b.length - sp b (b.supports.length - 1)) (by
  show (b.supports.reverse.map (fun s=>b.length - s)).head? = _
  rw [List.head?_map,List.head?_reverse,List.getLast?_eq_getElem?,sp_get (by omega)]
  rfl) (by omega) (by rw [hl];omega)
 exact ⟨r,r1,r2.cast (by rw [turn_lds];rfl)⟩
end Go.Proofs.YtgbicnkpnhifgaaGreatDoor

namespace Go.Proofs.YtgbicnkpnhifgaaGreatDoor
def rtB (b:TBeam) (i:Nat):Rat:=Rp b i - gp b (i - 1) * (pq (gp b) (Rp b) (fstQ b) (i - 1)).1
def mdB (b:TBeam) (i:Nat):Rat:=midQ (gp b) (Rp b) (fstQ b) (i - 1)
theorem pq_one (b:TBeam) (i:Nat):(pq (gp b) (Rp b) (fstQ b) (i + 1)).1 = rtB b (i + 1) / mdB b (i + 1) ∧ (pq (gp b) (Rp b) (fstQ b) (i + 1)).2 = gp b (i + 1) / mdB b (i + 1):=⟨rfl,rfl⟩
theorem md_pos {b:TBeam} (hs:SupOk b) {i:Nat} (h0:1 ≤ i) (h:i + 1 < b.supports.length):0 < mdB b i:=by
 unfold mdB
 exact mid_pos (n:=b.supports.length - 1) (fun j hj=>gp_pos hs j (by omega)) (by omega)
theorem get_set {α:Type} {l:List α} {i j:Nat} {v:α} (hi:i < l.length):(l.set i v)[j]? = if i = j then some v else l[j]?:=by
 rw [List.getElem?_set]
 by_cases h:i = j
 ·subst h;rw [if_pos rfl,if_pos rfl,if_pos hi]
 ·rw [if_neg h,if_neg h]
theorem f_bgap {b:TBeam} (hb:BeamIn b) (hs:SupOk b) {i:Nat} (h:i + 1 < b.supports.length):∃ r,F_beam_whole (IntKind.i64.wrap (sp b (i + 1) - sp b i)) = some r ∧ Xq r (gp b i) 2:=by
 have h1:=sp_rg hs (i:=i) (by omega)
 have h2:=sp_rg hs (i:=i + 1) (by omega)
 have hl:=hb.l1
 rw [wrap64 (by omega) (by omega)]
 exact f_whole _ (by omega) (by omega)
theorem idx_w {α:Type} {l:List α} {k:Nat} {z:Int} {x:α} (e:z = (k:Int)) (h:l[k]? = some x):idx l z = some x:=by subst e;exact idx_q h
theorem at_w {α:Type} {l:List α} {k:Nat} {z:Int} {x:α} (e:z = (k:Int)) (h:l[k]? = some x):l[Int.toNat z]? = some x:=by subst e;rw [Int.toNat_natCast];exact h
def FwB (b:TBeam) (k:Nat) (D T:List Texact):Prop:=D.length = b.supports.length ∧ T.length = b.supports.length ∧ (∀ j,1 ≤ j → j ≤ k → ∃ v,D[j]? = some v ∧ Xq v (mdB b j) (7 * j + 2)) ∧ ∀ j,1 ≤ j → j ≤ k → ∃ v,T[j]? = some v ∧ Xq v (rtB b j) (1000 * (j + 1))
theorem fw_set {b:TBeam} {k:Nat} {D T:List Texact} (h:FwB b k D T) (hk:k + 1 < b.supports.length) {d t d0 t0:Texact} (hd:Xq d (mdB b (k + 1)) (7 * (k + 1) + 2)) (ht:Xq t (rtB b (k + 1)) (1000 * (k + 1 + 1))):FwB b (k + 1) ((D.set (k + 1) d0).set (k + 1) d) ((T.set (k + 1) t0).set (k + 1) t):=by
 obtain ⟨h1,h2,h3,h4⟩:=h
 refine ⟨by simp [h1],by simp [h2],fun j a c=>?_,fun j a c=>?_⟩
 ·rw [List.set_set,get_set (by omega)]
  rcases Decidable.em (k + 1 = j) with e | e
  ·subst e;rw [if_pos rfl];exact ⟨d,rfl,hd⟩
  ·rw [if_neg e];exact h3 j a (by omega)
 ·rw [List.set_set,get_set (by omega)]
  rcases Decidable.em (k + 1 = j) with e | e
  ·subst e;rw [if_pos rfl];exact ⟨t,rfl,ht⟩
  ·rw [if_neg e];exact h4 j a (by omega)
theorem fw_set1 {b:TBeam} {k:Nat} {D T:List Texact} (h:FwB b k D T) (hk:k + 1 < b.supports.length) {d t t0:Texact} (hd:Xq d (mdB b (k + 1)) (7 * (k + 1) + 2)) (ht:Xq t (rtB b (k + 1)) (1000 * (k + 1 + 1))):FwB b (k + 1) (D.set (k + 1) d) ((T.set (k + 1) t0).set (k + 1) t):=by
 have:=fw_set h hk (d0:=d) (t0:=t0) hd ht
 rwa [List.set_set] at this
def BwB (b:TBeam) (m:Nat) (O:List Texact):Prop:=O.length = b.supports.length ∧ (∃ v,O[0]? = some v ∧ Xq v (momB b 0) 300) ∧ ∀ i,m < i → i < b.supports.length → ∃ v,O[i]? = some v ∧ Xq v (momB b i) (400 + (b.supports.length - 1 - i) * 10100)
set_option maxHeartbeats 2000000 in
theorem f_moments {b:TBeam} (hb:BeamIn b) (hs:SupOk b):Gs (F_beam_moments b) fun r=>(r.2 = true ↔ (b.supports.length = 1 → fstQ b = lstQ b)) ∧ (r.2 = true → r.1.length = b.supports.length ∧ ∀ i,i < b.supports.length → ∃ x,r.1[i]? = some x ∧ Xq x (momB b i) 82000):=by
 unfold F_beam_moments
 obtain ⟨x,x1,x2⟩:=f_bfirst hb hs
 obtain ⟨y,y1,y2⟩:=f_last hb hs
 have hl:=hb.l1
 have hn1:=hs.n1
 have hn10:=hs.n10
 refine go x1 (go (f_turned hb hs) (go y1 ?_))
 rcases Decidable.em (b.supports.length = 1) with h1 | h1
 ·obtain ⟨z,z1,z2⟩:=f_eless x2 y2 (by omega) (by omega)
  obtain ⟨s,s1,s2,s3⟩:=f_sign z2.n
  refine gt (by rw [beq_iff_eq];omega) (goo z1 (goo s1 (gs (gend ?_))))
  have hd:fstQ b - lstQ b = 0 ↔ fstQ b = lstQ b:=by constructor <;> intro h <;> grind
  have ht:(s == 0) = true ↔ fstQ b = lstQ b:=by rw [beq_iff_eq,s2,Rat.num_eq_zero,hd]
  refine ⟨?_,?_⟩
  ·show (s == 0) = true ↔ _
   rw [ht]
   exact ⟨fun h _=>h,fun h=>h h1⟩
  ·intro h
   have h:=ht.1 h
   refine ⟨by show 1 = _;omega,fun i hi=>?_⟩
   have:i = 0:=by omega
   subst this
   refine ⟨x,rfl,(x2.mono (by omega)).cast ?_⟩
   rw [h]
   unfold momB
   rw [show (0:Nat) = b.supports.length - 1 from by omega,mom_last]
 refine gf (by rw [beq_eq_false_iff_ne];omega) (gif ⟨by omega,by omega⟩ ?_)
 obtain ⟨Z,hZ⟩:∃ Z,List.replicate (Int.toNat ((b.supports.length:Nat):Int)) (⟨⟨false,[]⟩,⟨false,[]⟩⟩:Texact) = Z:=⟨_,rfl⟩
 have hZl:Z.length = b.supports.length:=by rw [← hZ,List.length_replicate,Int.toNat_natCast]
 rw [hZ]
 have hw1:IntKind.i64.wrap (((b.supports.length:Nat):Int) - 1) = ((b.supports.length - 1:Nat):Int):=by rw [wrap64 (by omega) (by omega)];omega
 have hw2:IntKind.i64.wrap (((b.supports.length:Nat):Int) - 2) = ((b.supports.length - 2:Nat):Int):=by rw [wrap64 (by omega) (by omega)];omega
 have g1:Z[0]? = some Z[0]:=List.getElem?_eq_getElem _
 obtain ⟨q,g2⟩:∃ q,(Z.set 0 x)[b.supports.length - 1]? = some q:=⟨_,List.getElem?_eq_getElem (by simp;omega)⟩
 have ht0:Int.toNat 0 = 0:=rfl
 rw [ht0]
 refine goo (idx_w (k:=0) rfl g1) (goo g1 (goo (idx_w hw1 g2) (goo (at_w hw1 g2) (gs ?_))))
 refine gbif ⟨by omega,by omega⟩ (gbif ⟨by omega,by omega⟩ (gs ?_))
 refine gloop (fun s:List Texact × List Texact × Unit=>FwB b (b.supports.length - 2) s.1 s.2.1)
  (fun k s=>∃ D T,s = (((k + 1:Nat):Int),D,T,()) ∧ k + 1 ≤ b.supports.length - 1 ∧ FwB b k D T)
  (b.supports.length - 2) (by unfold big;omega) ⟨Z,Z,rfl,by omega,hZl,hZl,fun j h2 h3=>by omega,fun j h2 h3=>by omega⟩ ?_ ?_
 ·rintro k s hk ⟨D,T,rfl,hk1,hF⟩
  rcases Nat.lt_or_ge (k + 1) (b.supports.length - 1) with hlt | hge
  ·obtain ⟨hDl,hTl,hD,hT⟩:=id hF
   have w1:IntKind.i64.wrap (((k + 1:Nat):Int) - 1) = (k:Int):=by rw [wrap64 (by omega) (by omega)];omega
   have w2:IntKind.i64.wrap (((k + 1:Nat):Int) + 1) = ((k + 2:Nat):Int):=by rw [wrap64 (by omega) (by omega)];omega
   have r0:=sp_rg hs (i:=k) (by omega)
   have r1:=sp_rg hs (i:=k + 1) (by omega)
   have r2:=sp_rg hs (i:=k + 2) (by omega)
   have c0:sp b k < sp b (k + 1):=hs.inc k (by omega)
   have c1:sp b (k + 1) < sp b (k + 2):=hs.inc (k + 1) (by omega)
   have p0:=sp_get (b:=b) (i:=k) (by omega)
   have p1:=sp_get (b:=b) (i:=k + 1) (by omega)
   have p2:=sp_get (b:=b) (i:=k + 2) (by omega)
   have w3:IntKind.i64.wrap (2 * IntKind.i64.wrap (IntKind.i64.wrap (sp b (k + 1) - sp b k) + IntKind.i64.wrap (sp b (k + 2) - sp b (k + 1)))) = 2 * ((sp b (k + 1) - sp b k) + (sp b (k + 2) - sp b (k + 1))):=by
    rw [wrap64 (n:=sp b (k + 1) - sp b k) (by omega) (by omega),wrap64 (n:=sp b (k + 2) - sp b (k + 1)) (by omega) (by omega),wrap64 (n:=(sp b (k + 1) - sp b k) + (sp b (k + 2) - sp b (k + 1))) (by omega) (by omega),wrap64 (by omega) (by omega)]
   obtain ⟨dg0,d1,d2⟩:=f_whole (IntKind.i64.wrap (2 * IntKind.i64.wrap (IntKind.i64.wrap (sp b (k + 1) - sp b k) + IntKind.i64.wrap (sp b (k + 2) - sp b (k + 1))))) (by rw [w3];omega) (by rw [w3];omega)
   have d3:Xq dg0 (2 * (gp b k + gp b (k + 1))) 2:=d2.cast (by rw [w3];unfold gp;simp only [Rat.intCast_mul,Rat.intCast_add];rfl)
   obtain ⟨z0,zz1,zz2⟩:=f_whole 0 (by omega) (by omega)
   obtain ⟨sa,sa1,sa2⟩:=f_side hb (fr:=sp b k) (to:=sp b (k + 1)) true r0.1 c0 r1.2
   obtain ⟨sb,sb1,sb2⟩:=f_side hb (fr:=sp b (k + 1)) (to:=sp b (k + 2)) false r1.1 c1 r2.2
   obtain ⟨u1,u11,u12⟩:=f_eless zz2 sa2 (by omega) (by omega)
   obtain ⟨u2,u21,u22⟩:=f_eless u12 sb2 (by omega) (by omega)
   have u3:Xq u2 (Rp b (k + 1)) 804:=u22.cast rfl
   obtain ⟨qd,qd1⟩:∃ q,D[k + 1]? = some q:=⟨_,List.getElem?_eq_getElem (by omega)⟩
   obtain ⟨qt,qt1⟩:∃ q,T[k + 1]? = some q:=⟨_,List.getElem?_eq_getElem (by omega)⟩
   refine gt (decide_eq_true (by show ((k + 1:Nat):Int) < IntKind.i64.wrap _;rw [hw1];omega)) ?_
   refine goo (idx_w rfl p1) (goo (idx_w w1 p0) (goo (idx_w w2 p2) (goo (idx_w rfl p1) (goo d1 ?_))))
   refine goo (idx_w rfl qd1) (goo (at_w rfl qd1) (goo (idx_w w1 p0) (goo (idx_w rfl p1) (goo (idx_w rfl p1) (goo (idx_w w2 p2) (goo zz1 (goo sa1 (goo u11 (goo sb1 (goo u21 (goo (idx_w rfl qt1) (goo (at_w rfl qt1) ?_))))))))))))
   obtain ⟨gk,gk1,gk2⟩:=f_bgap hb hs (i:=k) (by omega)
   have sD:∀ v,(D.set (k + 1) v)[k + 1]? = some v:=fun v=>by rw [get_set (by omega),if_pos rfl]
   have sT:∀ v,(T.set (k + 1) v)[k + 1]? = some v:=fun v=>by rw [get_set (by omega),if_pos rfl]
   rcases Nat.eq_zero_or_pos k with hk0 | hk0
   ·subst hk0
    obtain ⟨t1,t11,t12⟩:=f_etimes x2 gk2 (by omega) (by omega)
    obtain ⟨t2,t21,t22⟩:=f_eless u3 t12 (by omega) (by omega)
    refine gbt rfl (goo (idx_w rfl (sT _)) (goo (at_w rfl (sT _)) (goo gk1 (goo t11 (goo t21 (goo (idx_w rfl (sT _)) (goo (at_w rfl (sT _)) (gs (gend ?_)))))))))
    refine ⟨by omega,D.set (0 + 1) dg0,(T.set (0 + 1) u2).set (0 + 1) t2,by simp only [w2,Int.toNat_natCast],by omega,fw_set1 hF (by omega) ((d3.mono (by omega)).cast ?_) ((t22.mono (by omega)).cast ?_)⟩
    ·show _ = 2 * (gp b 0 + gp b (0 + 1)) - gp b 0 * (0:Rat)
     grind
    ·show _ = Rp b (0 + 1) - gp b 0 * fstQ b
     grind
   ·obtain ⟨dp,dp1,dp2⟩:=hD k hk0 (Nat.le_refl _)
    obtain ⟨tp,tp1,tp2⟩:=hT k hk0 (Nat.le_refl _)
    have hmp:=md_pos hs hk0 (show k + 1 < b.supports.length by omega)
    have sDk:∀ v,(D.set (k + 1) v)[k]? = some dp:=fun v=>by rw [get_set (by omega),if_neg (by omega)];exact dp1
    have sTk:∀ v,(T.set (k + 1) v)[k]? = some tp:=fun v=>by rw [get_set (by omega),if_neg (by omega)];exact tp1
    obtain ⟨f,f1,f2⟩:=f_eby gk2 dp2 (by grind) (by omega) (by omega)
    obtain ⟨fk,fk1,fk2⟩:=f_etimes f2 gk2 (by omega) (by omega)
    obtain ⟨dn,dn1,dn2⟩:=f_eless d3 fk2 (by omega) (by omega)
    obtain ⟨ft,ft1,ft2⟩:=f_etimes f2 tp2 (by omega) (by omega)
    obtain ⟨tn,tn1,tn2⟩:=f_eless u3 ft2 (by omega) (by omega)
    refine gbf (by show (((k + 1:Nat):Int) == 1) = false;rw [beq_eq_false_iff_ne];omega) (goo (idx_w w1 (sDk _)) (goo (at_w w1 (sDk _)) (goo gk1 (goo f1 (goo (idx_w rfl (sD _)) (goo (at_w rfl (sD _)) (goo gk1 (goo fk1 (goo dn1 ?_)))))))))
    refine goo (idx_w rfl (sD _)) (goo (at_w rfl (sD _)) (goo (idx_w rfl (sT _)) (goo (at_w rfl (sT _)) (goo (idx_w w1 (sTk _)) (goo (at_w w1 (sTk _)) (goo ft1 (goo tn1 (goo (idx_w rfl (sT _)) (goo (at_w rfl (sT _)) (gs (gend ?_)))))))))))
    obtain ⟨i,rfl⟩:∃ i,k = i + 1:=⟨k - 1,by omega⟩
    have hpq:=pq_one b i
    refine ⟨by omega,(D.set (i + 1 + 1) dg0).set (i + 1 + 1) dn,(T.set (i + 1 + 1) u2).set (i + 1 + 1) tn,by simp only [w2,Int.toNat_natCast],by omega,fw_set hF (by omega) ((dn2.mono (by omega)).cast ?_) ((tn2.mono (by omega)).cast ?_)⟩
    ·show _ = 2 * (gp b (i + 1) + gp b (i + 1 + 1)) - gp b (i + 1) * (pq (gp b) (Rp b) (fstQ b) (i + 1)).2
     rw [hpq.2]
     grind
    ·show _ = Rp b (i + 1 + 1) - gp b (i + 1) * (pq (gp b) (Rp b) (fstQ b) (i + 1)).1
     rw [hpq.1]
     grind
  ·refine gf (decide_eq_false (by show ¬ ((k + 1:Nat):Int) < IntKind.i64.wrap _;rw [hw1];omega)) (gend ?_)
   have:k = b.supports.length - 2:=by omega
   subst this
   exact hF
 ·rintro ⟨D,T,u⟩ hF
  obtain ⟨hDl,hTl,hD,hT⟩:=hF
  refine gloop (fun s:List Texact × Unit=>BwB b 0 s.1)
   (fun k s=>∃ (O:List Texact) (m:Nat),s = ((m:Int),O,()) ∧ m + k = b.supports.length - 2 ∧ BwB b m O)
   (b.supports.length - 2) (by unfold big;omega) ⟨_,b.supports.length - 2,by rw [hw2],by omega,by simp [hZl],⟨x,?_,x2.cast ?_⟩,?_⟩ ?_ ?_
  ·rw [hw1,Int.toNat_natCast,get_set (by simp;omega),if_neg (by omega),get_set (by omega),if_pos rfl]
  ·unfold momB
   rw [mom_first _ _ _ _ (by omega)]
  ·intro i hi hi2
   have:i = b.supports.length - 1:=by omega
   refine ⟨y,by rw [hw1,Int.toNat_natCast,get_set (by simp;omega),if_pos this.symm],(y2.mono (by omega)).cast ?_⟩
   rw [this]
   unfold momB
   rw [mom_last]
  ·rintro k s hk ⟨O,m,rfl,hm,hO⟩
   rcases Nat.eq_zero_or_pos m with hm0 | hm0
   ·subst hm0
    exact gf (decide_eq_false (by show ¬ ((0:Nat):Int) > 0;omega)) (gend hO)
   ·obtain ⟨hOl,hO0,hO⟩:=hO
    have w2:IntKind.i64.wrap ((m:Int) + 1) = ((m + 1:Nat):Int):=by rw [wrap64 (by omega) (by omega)];omega
    have w1:IntKind.i64.wrap ((m:Int) - 1) = ((m - 1:Nat):Int):=by rw [wrap64 (by omega) (by omega)];omega
    obtain ⟨t,t1,t2⟩:=hT m hm0 (by omega)
    obtain ⟨d,d1,d2⟩:=hD m hm0 (by omega)
    obtain ⟨o,o1,o2⟩:=hO (m + 1) (by omega) (by omega)
    obtain ⟨gk,gk1,gk2⟩:=f_bgap hb hs (i:=m) (by omega)
    have hmp:=md_pos hs hm0 (show m + 1 < b.supports.length by omega)
    have hm9:m ≤ 8:=by omega
    obtain ⟨c,hc⟩:∃ c,(b.supports.length - 1 - (m + 1)) * 10100 = c:=⟨_,rfl⟩
    have hc2:(b.supports.length - 1 - m) * 10100 = c + 10100:=by
     rw [← hc,show b.supports.length - 1 - m = b.supports.length - 1 - (m + 1) + 1 from by omega,Nat.add_mul]
    have hc3:c ≤ 8 * 10100:=by rw [← hc];exact Nat.mul_le_mul_right _ (by omega)
    rw [hc] at o2
    obtain ⟨og,og1,og2⟩:=f_etimes o2 gk2 (by omega) (by omega)
    obtain ⟨l1,l11,l12⟩:=f_eless t2 og2 (by omega) (by omega)
    obtain ⟨z,z1,z2⟩:=f_eby l12 d2 (by grind) (by omega) (by omega)
    have p0:=sp_get (b:=b) (i:=m) (by omega)
    have p1:=sp_get (b:=b) (i:=m + 1) (by omega)
    obtain ⟨qo,qo1⟩:∃ q,O[m]? = some q:=⟨_,List.getElem?_eq_getElem (by omega)⟩
    refine gt (decide_eq_true (by show (0:Int) < (m:Int);omega)) ?_
    refine go (idx_w w2 p1) (go (idx_w rfl p0) (go (idx_w rfl t1) (go (at_w rfl t1) (go (idx_w w2 o1) (go (at_w w2 o1) (go (idx_w rfl d1) (go (at_w rfl d1) (go gk1 (go og1 (go l11 (go z1 (go (idx_w rfl qo1) (go (at_w rfl qo1) (gend ?_))))))))))))))
    refine ⟨by omega,O.set m z,m - 1,by simp only [w1,Int.toNat_natCast],by omega,by simp [hOl],?_,?_⟩
    ·rw [get_set (by omega),if_neg (by omega)]
     exact hO0
    ·intro i hi hi2
     rw [get_set (by omega)]
     rcases Decidable.em (m = i) with h | h
     ·subst h
      rw [if_pos rfl]
      refine ⟨z,rfl,(z2.mono (by omega)).cast ?_⟩
      obtain ⟨j,rfl⟩:∃ j,m = j + 1:=⟨m - 1,by omega⟩
      have hpq:=pq_one b j
      unfold momB
      rw [mom_step _ _ _ _ (i:=j + 1) (by omega),hpq.1,hpq.2]
      grind
     ·rw [if_neg h]
      exact hO i (by omega) hi2
  ·rintro ⟨O,u⟩ ⟨h2,h3,h4⟩
   refine gend ⟨⟨fun _ h=>absurd h h1,fun _=>rfl⟩,fun _=>⟨h2,fun i hi=>?_⟩⟩
   rcases Nat.eq_zero_or_pos i with h0 | h0
   ·subst h0
    obtain ⟨v,v1,v2⟩:=h3
    exact ⟨v,v1,v2.mono (by omega)⟩
   ·obtain ⟨v,v1,v2⟩:=h4 i h0 hi
    refine ⟨v,v1,v2.mono ?_⟩
    have:(b.supports.length - 1 - i) * 10100 ≤ 8 * 10100:=Nat.mul_le_mul_right _ (by omega)
    omega
end Go.Proofs.YtgbicnkpnhifgaaGreatDoor

namespace Go.Proofs.YtgbicnkpnhifgaaGreatDoor
theorem loop_sumG {α τ:Type} {F:Int × τ × Unit → Option ((Int × τ × Unit) ⊕ (τ × Unit))} {w:List α} (R:τ → Rat → Nat → Prop) (f:α → Rat) (e:Nat) (hw:w.length ≤ 1000000) {t0:τ} {q0:Rat} {c0:Nat} (h0:R t0 q0 c0)
  (hin:∀ (k:Nat) (h:k < w.length) (t:τ) (q:Rat),R t q (c0 + e * k) → Gs (F ((k:Int),t,())) fun y=>∃ t',y = .inl (((k + 1:Nat):Int),t',()) ∧ R t' (q + f w[k]) (c0 + e * k + e))
  (hout:∀ t,F ((w.length:Int),t,()) = some (.inr (t,()))):Gs (iterF F big (0,t0,())) fun r=>R r.1 (q0 + sumQ f w) (c0 + e * w.length):=by
 obtain ⟨r,h1,h2⟩:=loop_sum (F:=F) (K:=some) (P:=fun r=>R r.1 (q0 + sumQ f w) (c0 + e * w.length)) R f e hw h0 (fun k h t q ht=>by
  obtain ⟨y,h1,t',rfl,h2⟩:=hin k h t q ht
  exact ⟨t',h1,h2⟩) hout fun t ht=>⟨(t,()),rfl,ht⟩
 refine ⟨r,?_,h2⟩
 revert h1
 cases iterF F big (0,t0,()) with
 | none=>intro h1;cases h1
 | some a=>intro h1;exact h1
def reactB (b:TBeam) (i:Nat):Rat:=reactQ b.even b.length (lds b.loads) (sp b) b.supports.length (momB b) i
def Rk (n i:Nat) (O t:List Texact) (q:Rat) (c:Nat):Prop:=t.length = n ∧ (∀ j,j < i → t[j]? = O[j]?) ∧ ∃ v,t[i]? = some v ∧ Xq v q c
theorem Rk.set {n i:Nat} {O t:List Texact} {q r:Rat} {c e:Nat} {z:Texact} (h:Rk n i O t q c) (hi:i < n) (hz:Xq z r e):Rk n i O (t.set i z) r e:=by
 obtain ⟨h1,h2,h3⟩:=h
 refine ⟨by simp [h1],fun j hj=>?_,z,by rw [get_set (by omega),if_pos rfl],hz⟩
 rw [get_set (by omega),if_neg (by omega)]
 exact h2 j hj
theorem Rk.mono {n i:Nat} {O t:List Texact} {q:Rat} {c e:Nat} (h:Rk n i O t q c) (hc:c ≤ e):Rk n i O t q e:=by
 obtain ⟨h1,h2,v,h3,h4⟩:=h
 exact ⟨h1,h2,v,h3,h4.mono hc⟩
theorem Rk.cast {n i:Nat} {O t:List Texact} {q r:Rat} {c:Nat} (h:Rk n i O t q c) (e:q = r):Rk n i O t r c:=e ▸ h
set_option maxHeartbeats 2000000 in
theorem f_reactions {b:TBeam} (hb:BeamIn b) (hs:SupOk b) {m:List Texact} (hm:∀ i,i < b.supports.length → ∃ x,m[i]? = some x ∧ Xq x (momB b i) 82000) :
  Gs (F_beam_reactions b m) fun r=>r.length = b.supports.length ∧ ∀ i,i < b.supports.length → ∃ x,r[i]? = some x ∧ Xq x (reactB b i) 330000:=by
 unfold F_beam_reactions
 have hl:=hb.l1
 have hn1:=hs.n1
 have hn10:=hs.n10
 have hln:=hb.ln
 have hw1:IntKind.i64.wrap (((b.supports.length:Nat):Int) - 1) = ((b.supports.length - 1:Nat):Int):=by rw [wrap64 (by omega) (by omega)];omega
 refine gif ⟨by omega,by omega⟩ ?_
 refine gloop (fun s:List Texact × Unit=>s.1.length = b.supports.length ∧ ∀ i,i < b.supports.length → ∃ x,s.1[i]? = some x ∧ Xq x (reactB b i) 330000)
  (fun i s=>∃ O,s = ((i:Int),O,()) ∧ O.length = b.supports.length ∧ ∀ j,j < i → ∃ x,O[j]? = some x ∧ Xq x (reactB b j) 330000)
  b.supports.length (by unfold big;omega) ⟨_,rfl,by simp,fun j hj=>absurd hj (Nat.not_lt_zero j)⟩ ?_ ?_
 ·rintro i s hi ⟨O,rfl,hOl,hO⟩
  rcases Nat.lt_or_ge i b.supports.length with hlt | hge
  ·refine gt (decide_eq_true (by show (i:Int) < ((b.supports.length:Nat):Int);omega)) ?_
   have pi:=sp_get hlt
   have ri:=sp_rg hs hlt
   obtain ⟨z0,zz1,zz2⟩:=f_whole 0 (by omega) (by omega)
   obtain ⟨qo,qo1⟩:∃ q,O[i]? = some q:=⟨_,List.getElem?_eq_getElem (by omega)⟩
   obtain ⟨mi,mi1,mi2⟩:=hm i hlt
   have start:Rk b.supports.length i O (O.set i z0) (0:Rat) 2:=by
    refine ⟨by simp [hOl],fun j hj=>?_,z0,by rw [get_set (by omega),if_pos rfl],zz2⟩
    rw [get_set (by omega),if_neg (by omega)]
   have ht0:Int.toNat ((i:Nat):Int) = i:=Int.toNat_natCast i
   simp only [ht0]
   refine goo (idx_w rfl pi) (goo zz1 (goo (idx_w rfl qo1) (goo qo1 ?_)))
   refine gcalll (loop_sumG (w:=b.loads) (Rk b.supports.length i O) (fun x=>if x.at_ = sp b i then (x.weight:Rat) else 0) 3 (by omega) start ?_ ?_) ?_
   ·rintro k hk t q ⟨t1,t2,v,v1,v2⟩
    obtain ⟨x0,x1,x2,x3⟩:=hb.ld _ (List.getElem_mem hk)
    have hx:=idx_nat hk
    have w1:IntKind.i64.wrap ((k:Int) + 1) = ((k + 1:Nat):Int):=by rw [wrap64 (by omega) (by omega)];omega
    refine gt (decide_eq_true (by show (k:Int) < ((b.loads.length:Nat):Int);omega)) (goo hx ?_)
    generalize b.loads[k] = x at *
    rcases Decidable.em (x.at_ = sp b i) with h | h
    ·obtain ⟨a,a1,a2⟩:=f_whole x.weight (by omega) (by omega)
     obtain ⟨p,p1,p2⟩:=f_eplus v2 a2 (by omega) (by omega)
     refine gbt (by rw [beq_iff_eq];exact h) (goo (idx_q v1) (goo v1 (goo a1 (goo p1 (goo (idx_q v1) (goo v1 (gs (gend ⟨t.set i p,by simp only [w1],?_⟩))))))))
     rw [if_pos h]
     exact Rk.set ⟨t1,t2,v,v1,v2⟩ hlt (p2.mono (by omega))
    ·refine gbf (by rw [beq_eq_false_iff_ne];exact h) (gs (gend ⟨t,by simp only [w1],?_⟩))
     rw [if_neg h]
     exact ⟨t1,t2,v,v1,v2.skip⟩
   ·intro t
    have e0:decide (((b.loads.length:Nat):Int) < ((b.loads.length:Nat):Int)) = false:=by simp
    simp only [e0,cond_false]
   rintro ⟨t,u⟩ ht
   have ht:Rk b.supports.length i O t (atQ (lds b.loads) (sp b i)) 122:=(ht.mono (by omega)).cast (by unfold atQ lds;rw [sumQ_map];grind)
   refine gcalll (Q:=fun r:List Texact × Unit=>Rk b.supports.length i O r.1 (atQ (lds b.loads) (sp b i) + (if 0 < i then leverQ b.even (lds b.loads) (sp b (i - 1)) (sp b i) false + (momB b (i - 1) - momB b i) / ((sp b i - sp b (i - 1):Int):Rat) else 0)) 164427) ?_ ?_
   ·obtain ⟨t1,t2,v,v1,v2⟩:=id ht
    rcases Nat.eq_zero_or_pos i with h0 | h0
    ·subst h0
     refine gf (decide_eq_false (by omega)) (gend ?_)
     rw [if_neg (by omega)]
     exact (ht.mono (by omega)).cast (by grind)
    ·obtain ⟨j,rfl⟩:∃ j,i = j + 1:=⟨i - 1,by omega⟩
     have w1:IntKind.i64.wrap (((j + 1:Nat):Int) - 1) = (j:Int):=by rw [wrap64 (by omega) (by omega)];omega
     have pj:=sp_get (b:=b) (i:=j) (by omega)
     have rj:=sp_rg hs (i:=j) (by omega)
     have hc:sp b j < sp b (j + 1):=hs.inc j (by omega)
     obtain ⟨mj,mj1,mj2⟩:=hm j (by omega)
     obtain ⟨l,l1,l2⟩:=f_lever hb (fr:=sp b j) (to:=sp b (j + 1)) false rj.1 hc ri.2
     obtain ⟨a,a1,a2⟩:=f_eplus v2 l2 (by omega) (by omega)
     obtain ⟨d,d1,d2⟩:=f_eless mj2 mi2 (by omega) (by omega)
     obtain ⟨g,g1,g2⟩:=f_bgap hb hs (i:=j) (by omega)
     obtain ⟨e,e1,e2⟩:=f_eby d2 g2 (by have:=gp_pos hs j (by omega);grind) (by omega) (by omega)
     obtain ⟨f,f1,f2⟩:=f_eplus a2 e2 (by omega) (by omega)
     refine gt (decide_eq_true (by omega)) (go (idx_w w1 pj) (go (idx_q v1) (go v1 (go (idx_w w1 mj1) (go (idx_q mi1) (go l1 (go a1 (go d1 (go g1 (go e1 (go f1 (go (idx_q v1) (go v1 (gend ?_))))))))))))))
     refine Rk.set ht hlt ((f2.mono (by omega)).cast ?_)
     rw [if_pos (by omega)]
     show _ = atQ (lds b.loads) (sp b (j + 1)) + (leverQ b.even (lds b.loads) (sp b j) (sp b (j + 1)) false + (momB b j - momB b (j + 1)) / gp b j)
     grind
   rintro ⟨t',u'⟩ ht'
   clear ht
   obtain ⟨qa,hqa⟩:∃ qa,atQ (lds b.loads) (sp b i) + (if 0 < i then leverQ b.even (lds b.loads) (sp b (i - 1)) (sp b i) false + (momB b (i - 1) - momB b i) / ((sp b i - sp b (i - 1):Int):Rat) else 0) = qa:=⟨_,rfl⟩
   rw [hqa] at ht'
   have w2:IntKind.i64.wrap ((i:Int) + 1) = ((i + 1:Nat):Int):=by rw [wrap64 (by omega) (by omega)];omega
   refine gcalll (Q:=fun r:List Texact × Unit=>Rk b.supports.length i O r.1 (qa + (if i + 1 < b.supports.length then leverQ b.even (lds b.loads) (sp b i) (sp b (i + 1)) true + (momB b (i + 1) - momB b i) / ((sp b (i + 1) - sp b i:Int):Rat) else 0)) 328732) ?_ ?_
   ·obtain ⟨t1,t2,v,v1,v2⟩:=id ht'
    rcases Nat.lt_or_ge (i + 1) b.supports.length with h0 | h0
    ·have pj:=sp_get (b:=b) (i:=i + 1) (by omega)
     have rj:=sp_rg hs (i:=i + 1) (by omega)
     have hc:sp b i < sp b (i + 1):=hs.inc i (by omega)
     obtain ⟨mj,mj1,mj2⟩:=hm (i + 1) (by omega)
     obtain ⟨l,l1,l2⟩:=f_lever hb (fr:=sp b i) (to:=sp b (i + 1)) true ri.1 hc rj.2
     obtain ⟨a,a1,a2⟩:=f_eplus v2 l2 (by omega) (by omega)
     obtain ⟨d,d1,d2⟩:=f_eless mj2 mi2 (by omega) (by omega)
     obtain ⟨g,g1,g2⟩:=f_bgap hb hs (i:=i) (by omega)
     obtain ⟨e,e1,e2⟩:=f_eby d2 g2 (by have:=gp_pos hs i (by omega);grind) (by omega) (by omega)
     obtain ⟨f,f1,f2⟩:=f_eplus a2 e2 (by omega) (by omega)
     refine gt (decide_eq_true (by show IntKind.i64.wrap ((i:Int) + 1) < ((b.supports.length:Nat):Int);rw [w2];omega)) (go (idx_w w2 pj) (go (idx_q v1) (go v1 (go (idx_w w2 mj1) (go (idx_q mi1) (go l1 (go a1 (go d1 (go g1 (go e1 (go f1 (go (idx_q v1) (go v1 (gend ?_))))))))))))))
     refine Rk.set ht' hlt ((f2.mono (by omega)).cast ?_)
     rw [if_pos (by omega)]
     show _ = qa + (leverQ b.even (lds b.loads) (sp b i) (sp b (i + 1)) true + (momB b (i + 1) - momB b i) / gp b i)
     grind
    ·refine gf (decide_eq_false (by show ¬ IntKind.i64.wrap ((i:Int) + 1) < ((b.supports.length:Nat):Int);rw [w2];omega)) (gend ?_)
     rw [if_neg (by omega)]
     exact (ht'.mono (by omega)).cast (by grind)
   rintro ⟨ta,ua⟩ hta
   clear ht'
   obtain ⟨qb,hqb⟩:∃ qb,qa + (if i + 1 < b.supports.length then leverQ b.even (lds b.loads) (sp b i) (sp b (i + 1)) true + (momB b (i + 1) - momB b i) / ((sp b (i + 1) - sp b i:Int):Rat) else 0) = qb:=⟨_,rfl⟩
   rw [hqb] at hta
   refine gcalll (Q:=fun r:List Texact × Unit=>Rk b.supports.length i O r.1 (qb + (if i = 0 then beyondQ b.even (lds b.loads) (sp b i) else 0)) 328940) ?_ ?_
   ·obtain ⟨t1,t2,v,v1,v2⟩:=id hta
    rcases Decidable.em (i = 0) with h0 | h0
    ·obtain ⟨l,l1,l2⟩:=f_beyond hb (a:=sp b i) ri.1 ri.2
     obtain ⟨a,a1,a2⟩:=f_eplus v2 l2 (by omega) (by omega)
     refine gt (by rw [beq_iff_eq];omega) (go (idx_q v1) (go v1 (go l1 (go a1 (go (idx_q v1) (go v1 (gend ?_)))))))
     rw [if_pos h0]
     exact Rk.set hta hlt (a2.mono (by omega))
    ·refine gf (by rw [beq_eq_false_iff_ne];omega) (gend ?_)
     rw [if_neg h0]
     exact (hta.mono (by omega)).cast (by grind)
   rintro ⟨tb,ub⟩ htb
   clear hta
   obtain ⟨qc,hqc⟩:∃ qc,qb + (if i = 0 then beyondQ b.even (lds b.loads) (sp b i) else 0) = qc:=⟨_,rfl⟩
   rw [hqc] at htb
   refine gcall (Q:=fun r:List Texact × Unit=>Rk b.supports.length i O r.1 (qc + (if i + 1 = b.supports.length then beyondQ b.even (turnW b.length (lds b.loads)) (b.length - sp b i) else 0)) 330000) ?_ ?_
   ·obtain ⟨t1,t2,v,v1,v2⟩:=id htb
    rcases Decidable.em (i + 1 = b.supports.length) with h0 | h0
    ·have hbl:IntKind.i64.wrap (b.length - sp b i) = b.length - sp b i:=wrap64 (by omega) (by omega)
     obtain ⟨l,l1,l2⟩:=f_beyond (turn_in hb) (a:=b.length - sp b i) (by omega) (by show b.length - sp b i ≤ b.length;omega)
     rw [turn_lds] at l2
     obtain ⟨a,a1,a2⟩:=f_eplus v2 l2 (by omega) (by omega)
     refine gt (by rw [hw1,beq_iff_eq];omega) (go (idx_q v1) (go v1 (go (f_turned hb hs) (go (by rw [hbl];exact l1) (go a1 (go (idx_q v1) (go v1 (gend ?_))))))))
     rw [if_pos h0]
     exact Rk.set htb hlt (a2.mono (by omega))
    ·refine gf (by rw [hw1,beq_eq_false_iff_ne];omega) (gend ?_)
     rw [if_neg h0]
     exact (htb.mono (by omega)).cast (by grind)
   rintro ⟨tc,uc⟩ ⟨c1,c2,v,v1,v2⟩
   refine gend ⟨hlt,tc,by simp only [w2],c1,fun j hj=>?_⟩
   rcases Decidable.em (j = i) with h | h
   ·subst h
    refine ⟨v,v1,v2.cast ?_⟩
    unfold reactB reactQ
    rw [← hqc,← hqb,← hqa]
   ·rw [c2 j (by omega)]
    exact hO j (by omega)
  ·have:i = b.supports.length:=by omega
   subst this
   exact gf (decide_eq_false (by show ¬ ((b.supports.length:Nat):Int) < ((b.supports.length:Nat):Int);omega)) (gend ⟨hOl,hO⟩)
 ·rintro ⟨O,u⟩ h
  exact gend h
end Go.Proofs.YtgbicnkpnhifgaaGreatDoor

namespace Go.Proofs.YtgbicnkpnhifgaaGreatDoor
def badH1 (b:TBeam):Bool:=!nameB b.name || (decide (b.length < 1) || (decide (b.length > 1048576) || (decide (b.even < 0) || decide (b.even > 1048576))))
def badH2 (b:TBeam):Bool:=decide (((b.supports.length:Nat):Int) < 1) || (decide (((b.supports.length:Nat):Int) > 10) || decide (((b.loads.length:Nat):Int) > 40))
def badS (b:TBeam) (i:Nat):Bool:=decide (sp b i < 0) || (decide (sp b i > b.length) || (decide (0 < i) && decide (sp b i ≤ sp b (i - 1))))
def badL (b:TBeam) (x:TLoad):Bool:=decide (x.at_ < 0) || (decide (x.at_ > b.length) || (decide (x.weight < 0) || decide (x.weight > 67108864)))
def validBm (b:TBeam):Bool:=!badH1 b && (!badH2 b && ((List.range b.supports.length).all (fun i=>!badS b i) && b.loads.all (fun x=>!badL b x)))
theorem bif_or (c d:Bool):((bif c then some (true,()) else some (d,())):Option (Bool × Unit)) = some (c || d,()):=by cases c <;> rfl
theorem all_of {n:Nat} {p:Nat → Bool} (h:∀ j,j < n → p j = true):(List.range n).all p = true:=by
 rw [List.all_eq_true]
 intro j hj
 exact h j (List.mem_range.1 hj)
theorem all_not {n:Nat} {p:Nat → Bool} {k:Nat} (hk:k < n) (h:p k = false):(List.range n).all p = false:=by
 rw [List.all_eq_false]
 exact ⟨k,List.mem_range.2 hk,by rw [h];simp⟩
theorem f_badload (b:TBeam) (x:TLoad):F_beam_Valid_1 x b = some (badL b x):=by
 unfold F_beam_Valid_1 badL
 simp only [bif_or,Option.bind_some]
theorem bad_sup {b:TBeam} {k:Nat} (hk:k < b.supports.length) (hn:b.supports.length ≤ 1000000) (x:Int) (hx:x = sp b k) :
  ((bif (decide (x < 0)) then some (true,()) else (bif (decide (x > b.length)) then some (true,()) else (bif (decide ((k:Int) > 0)) then (idx b.supports (IntKind.i64.wrap ((k:Int) - 1))).bind fun x10=>some ((decide (x ≤ x10)),()) else some (false,()))):Option (Bool × Unit))) = some (badS b k,()):=by
 subst hx
 have h:((bif (decide ((k:Int) > 0)) then (idx b.supports (IntKind.i64.wrap ((k:Int) - 1))).bind fun x10=>some ((decide (sp b k ≤ x10)),()) else some (false,())):Option (Bool × Unit)) = some (decide (0 < k) && decide (sp b k ≤ sp b (k - 1)),()):=by
  rcases Nat.eq_zero_or_pos k with h | h
  ·subst h;rfl
  ·rw [decide_eq_true (show (k:Int) > 0 by omega),decide_eq_true h,wrap64 (by omega) (by omega),show (k:Int) - 1 = ((k - 1:Nat):Int) from by omega,sp_idx (by omega)]
   rfl
 rw [h,bif_or,bif_or]
 rfl
theorem f_bvalid {b:TBeam} (hname:b.name.size ≤ 1000000) (hn:b.supports.length ≤ 1000000) (hl:b.loads.length ≤ 1000000):F_beam_Valid b = some (validBm b):=by
 apply gs_eq
 unfold F_beam_Valid
 rw [f_name _ (by omega)]
 simp only [Option.bind_some,bif_or]
 have hh:(!nameB b.name || (decide (b.length < 1) || (decide (b.length > 1048576) || (decide (b.even < 0) || (decide (b.even > 1048576) || (decide (((b.supports.length:Nat):Int) < 1) || (decide (((b.supports.length:Nat):Int) > 10) || decide (((b.loads.length:Nat):Int) > 40)))))))) = (badH1 b || badH2 b):=by
  unfold badH1 badH2
  simp only [Bool.or_assoc]
 rw [hh]
 cases h1:(badH1 b || badH2 b) with
 | true =>
  refine gt rfl (gend ?_)
  unfold validBm
  rw [Bool.or_eq_true] at h1
  rcases h1 with h | h <;> simp [h]
 | false =>
  rw [Bool.or_eq_false_iff] at h1
  refine gf rfl ?_
  refine gloop (fun r:(Bool × Unit) ⊕ Unit=>match r with
    | .inl y=>y.1 = false ∧ (List.range b.supports.length).all (fun i=>!badS b i) = false
    | .inr _=>(List.range b.supports.length).all (fun i=>!badS b i) = true)
   (fun k s=>s = ((k:Int),()) ∧ ∀ j,j < k → (!badS b j) = true) b.supports.length (by unfold big;omega) ⟨rfl,fun j hj=>absurd hj (Nat.not_lt_zero j)⟩ ?_ ?_
  ·rintro k s hk ⟨rfl,hj⟩
   rcases Nat.lt_or_ge k b.supports.length with hlt | hge
   ·refine gt (decide_eq_true (by show (k:Int) < ((b.supports.length:Nat):Int);omega)) (go (sp_idx hlt) (go (bad_sup hlt hn _ rfl) ?_))
    cases hb:badS b k with
    | true=>exact gt rfl (gend ⟨rfl,all_not hlt (by rw [hb];rfl)⟩)
    | false =>
     refine gf rfl (gend ⟨hlt,by show (IntKind.i64.wrap ((k:Int) + 1),()) = (((k + 1:Nat):Int),());rw [wrap64 (by omega) (by omega)];rfl,fun j hj2=>?_⟩)
     rcases Decidable.em (j = k) with h | h
     ·subst h;rw [hb];rfl
     ·exact hj j (by omega)
   ·have:k = b.supports.length:=by omega
    subst this
    exact gf (decide_eq_false (by show ¬ ((b.supports.length:Nat):Int) < ((b.supports.length:Nat):Int);omega)) (gend (all_of hj))
  ·rintro (y | y) hr
   ·obtain ⟨h2,h3⟩:=hr
    refine gend ?_
    unfold validBm
    rw [h3,h2]
    simp
   ·simp only at hr ⊢
    refine go (f_slices_ContainsFunc_api_Load b.loads (by omega) (fun z16=>F_beam_Valid_1 z16 b) (fun x=>badL b x) (fun x _=>f_badload b x)) (gend ?_)
    unfold validBm
    rw [hr,h1.1,h1.2]
    simp only [Bool.not_false,Bool.true_and]
    rw [Bool.eq_iff_iff]
    simp
theorem valid_in {b:TBeam} (h:validBm b = true):BeamIn b ∧ SupOk b:=by
 unfold validBm at h
 rw [Bool.and_eq_true,Bool.and_eq_true,Bool.and_eq_true] at h
 obtain ⟨h1,h2,h3,h4⟩:=h
 unfold badH1 at h1
 unfold badH2 at h2
 simp only [Bool.not_eq_true',Bool.or_eq_false_iff,decide_eq_false_iff_not] at h1 h2
 obtain ⟨_,a1,a2,a3,a4⟩:=h1
 obtain ⟨b1,b2,b3⟩:=h2
 rw [List.all_eq_true] at h3 h4
 have hS:∀ i,i < b.supports.length → 0 ≤ sp b i ∧ sp b i ≤ b.length ∧ (0 < i → sp b (i - 1) < sp b i):=by
  intro i hi
  have:=h3 i (List.mem_range.2 hi)
  unfold badS at this
  simp only [Bool.not_eq_true',Bool.or_eq_false_iff,Bool.and_eq_false_iff,decide_eq_false_iff_not] at this
  omega
 refine ⟨⟨by omega,by omega,by omega,by omega,?_,by omega⟩,⟨by omega,by omega,?_,?_⟩⟩
 ·intro x hx
  have:=h4 x hx
  unfold badL at this
  simp only [Bool.not_eq_true',Bool.or_eq_false_iff,decide_eq_false_iff_not] at this
  unfold LoadOk
  omega
 ·intro x hx
  obtain ⟨i,hi,rfl⟩:=List.getElem_of_mem hx
  have:=hS i hi
  have e:sp b i = b.supports[i]:=by unfold sp;rw [List.getD_eq_getElem?_getD,List.getElem?_eq_getElem hi];rfl
  omega
 ·intro i hi
  have:=(hS (i + 1) hi).2.2 (by omega)
  simpa [sp] using this
end Go.Proofs.YtgbicnkpnhifgaaGreatDoor

namespace Go.Proofs.YtgbicnkpnhifgaaGreatDoor
structure Wg (l:List Int) (v:Nat):Prop where
 dig:dig (16777216:Int) l
 tight:tight l
 len:l.length ≤ 16000000
 val:bv (16777216:Int) l = v
theorem Wg.zero {l:List Int} {v:Nat} (h:Wg l v):l = [] ↔ v = 0:=by
 rw [← bv_zero (by decide) h.dig h.tight,h.val];omega
theorem Wg.lt {l:List Int} {v:Nat} (h:Wg l v):v < 2 ^ (24 * l.length):=by
 have h1:=(bv_range (by decide) h.dig).2
 rw [h.val] at h1
 have e:(16777216:Int) ^ l.length = ((2 ^ (24 * l.length):Nat):Int):=by
  rw [Nat.pow_mul,Int.natCast_pow];rfl
 rw [e] at h1
 exact_mod_cast h1
theorem Wg.le {a b:List Int} {u v:Nat} (ha:Wg a u) (hb:Wg b v) (h:u ≤ v):a.length ≤ b.length:=by
 rcases Nat.lt_or_ge b.length a.length with hl | hl
 ·have:=bv_lt_len (by decide) hb.dig ha.dig ha.tight hl
  rw [ha.val,hb.val] at this
  omega
 ·exact hl
end Go.Proofs.YtgbicnkpnhifgaaGreatDoor

namespace Go.Proofs.YtgbicnkpnhifgaaGreatDoor
theorem Wg.ne {l:List Int} {v:Nat} (h:Wg l v) (hv:0 < v):0 < l.length:=by
 apply List.length_pos_iff.2
 intro e
 have:=h.zero.1 e
 omega
end Go.Proofs.YtgbicnkpnhifgaaGreatDoor

namespace Go.Proofs.YtgbicnkpnhifgaaGreatDoor
def tilt (b:TBeam):Prop:=b.supports.length = 1 ∧ fstQ b ≠ lstQ b
def reaL (b:TBeam):List Rat:=(List.range b.supports.length).map (reactB b)
structure SmallB (b:TBeam):Prop where
 name:b.name.size ≤ 1000000
 sup:b.supports.length ≤ 1000000
 ld:b.loads.length ≤ 1000000
theorem list_of {α:Type} {R:α → Rat → Prop} {l:List α} {n:Nat} (f:Nat → Rat) (hl:l.length = n) (h:∀ i,i < n → ∃ x,l[i]? = some x ∧ R x (f i)):∀ (i:Nat) (h1:i < l.length) (h2:i < ((List.range n).map f).length),R l[i] ((List.range n).map f)[i]:=by
 intro i h1 h2
 obtain ⟨x,x1,x2⟩:=h i (by omega)
 rw [List.getElem?_eq_getElem h1] at x1
 injection x1 with x1
 rw [x1]
 simpa using x2
theorem f_given_ok {b:TBeam} (hw:SmallB b) (h:validBm b = true) (ht:¬ tilt b):Gs (F_beam_given b) fun r=>r.2 = 0 ∧ r.1.length = b.supports.length ∧ ∀ i,i < b.supports.length → ∃ x,r.1[i]? = some x ∧ Xq x (momB b i) 82000:=by
 obtain ⟨hb,hs⟩:=valid_in h
 unfold F_beam_given
 refine go (f_bvalid hw.name hw.sup hw.ld) (gf (by rw [h];rfl) (gcall (f_moments hb hs) fun r hr=>?_))
 have h2:r.2 = true:=hr.1.2 fun h1=>Classical.byContradiction fun h3=>ht ⟨h1,h3⟩
 refine gf (by rw [h2];rfl) (gend ⟨rfl,hr.2 h2⟩)
theorem f_Reactions {b:TBeam} (hw:SmallB b) (h:validBm b = true) (ht:¬ tilt b):F_beam_Reactions b = some (outL (reaL b)):=by
 apply gs_eq
 obtain ⟨hb,hs⟩:=valid_in h
 have hn:b.supports.length ≤ 10:=hs.n10
 unfold F_beam_Reactions
 refine gcall (f_given_ok hw h ht) fun r hr=>?_
 obtain ⟨h1,h2,h3⟩:=hr
 refine gf (by rw [h1];rfl) (gcall (f_reactions hb hs h3) fun t ht=>?_)
 refine go (f_fractions (qs:=reaL b) (c:=330000) (by omega) (by rw [ht.1];unfold reaL;simp) ?_) (gend rfl)
 exact list_of (R:=fun x q=>Xq x q 330000) (reactB b) ht.1 ht.2
end Go.Proofs.YtgbicnkpnhifgaaGreatDoor
