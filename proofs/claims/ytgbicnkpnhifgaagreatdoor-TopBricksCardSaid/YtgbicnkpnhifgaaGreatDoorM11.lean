/- Joined by merge.py: Fn, Tc, Sh, Tp, Tr, Tn, Tb, EF0, EF, Tw, Tw2, Ts, Ts2, EG0, EG, PlY1, Pl1, Pl2, Pl3, Pl4, Pl5, Pl6, Pl7, Pl8, Pl9, Pl10, Pl11, Pl12, Pl13, Pl14, Pl15, PlY2. -/
import Derived.Test.YtgbicnkpnhifgaaGreatDoorM10
import Derived.Shelf.Strings.OnBuilder
import Derived.Shelf.LaysM
import Derived.Shelf.Strconv.Itoa3
import Derived.Test.YtgbicnkpnhifgaaGreatDoorProg
import Derived.Lib.Builder
import Derived.Lib.AppendStr
import Derived.Lib.UnsafeStr
import Derived.Lib.Walk
import Derived.Laws.Externs
import Derived.Shelf.RegionOpenPlain
import Derived.Handy
set_option linter.unusedSectionVars false
set_option linter.unusedVariables false
set_option linter.unusedSimpArgs false
namespace Go.Proofs.YtgbicnkpnhifgaaGreatDoor
open Go.Shelf
def Tryz.laysM246_ren:Go.Shelf.Ren:=⟨fun | 246=>169 | 283=>202 | 284=>203 | 285=>204 | 286=>205 | 129=>235 | 317=>234 | 318=>236 | 319=>237 | 320=>238 | 337=>266 | 338=>267 | n=>n,fun | 2=>2 | 3=>3 | 9=>9 | 4=>4 | 171=>260 | 0=>0 | 53=>119 | 37=>191 | 5=>5 | 173=>263 | 212=>294 | 51=>295 | 20=>20 | 213=>296 | 46=>185 | 232=>331 | 233=>332 | n=>n,fun | 17=>2 | 18=>3 | 19=>4 | n=>n⟩
theorem Tryz.laysM246:Go.Proofs.LaysM.n246 Tryz.prog Tryz.laysM246_ren:={
 mixed:=by kernel_rfl
 f129:=Tryz.func235.trans (congrArg some (by kernel_rfl))
 f246:=Tryz.func169.trans (congrArg some (by kernel_rfl))
 f283:=Tryz.func202.trans (congrArg some (by kernel_rfl))
 f284:=Tryz.func203.trans (congrArg some (by kernel_rfl))
 f285:=Tryz.func204.trans (congrArg some (by kernel_rfl))
 f286:=Tryz.func205.trans (congrArg some (by kernel_rfl))
 f317:=Tryz.func234.trans (congrArg some (by kernel_rfl))
 f318:=Tryz.func236.trans (congrArg some (by kernel_rfl))
 f319:=Tryz.func237.trans (congrArg some (by kernel_rfl))
 f320:=Tryz.func238.trans (congrArg some (by kernel_rfl))
 f337:=Tryz.func266.trans (congrArg some (by kernel_rfl))
 f338:=Tryz.func267.trans (congrArg some (by kernel_rfl))
 t0:=Tryz.underlying0
 a0:=Tryz.isAgg0
 z0:=Tryz.sizeOf0
 v0:=Tryz.zeroValue0
 t2:=Tryz.underlying2
 a2:=Tryz.isAgg2
 z2:=Tryz.sizeOf2
 v2:=Tryz.zeroValue2
 t3:=Tryz.underlying3
 a3:=Tryz.isAgg3
 z3:=Tryz.sizeOf3
 v3:=Tryz.zeroValue3
 t4:=Tryz.underlying4
 a4:=Tryz.isAgg4
 z4:=Tryz.sizeOf4
 v4:=Tryz.zeroValue4
 t5:=Tryz.underlying5
 a5:=Tryz.isAgg5
 z5:=Tryz.sizeOf5
 v5:=Tryz.zeroValue5
 t9:=Tryz.underlying9
 a9:=Tryz.isAgg9
 z9:=Tryz.sizeOf9
 v9:=Tryz.zeroValue9
 t20:=Tryz.underlying20
 a20:=Tryz.isAgg20
 z20:=Tryz.sizeOf20
 v20:=Tryz.zeroValue20
 t37:=Tryz.underlying191
 a37:=Tryz.isAgg191
 z37:=Tryz.sizeOf191
 v37:=Tryz.zeroValue191
 t46:=Tryz.underlying185
 a46:=Tryz.isAgg185
 z46:=Tryz.sizeOf185
 v46:=Tryz.zeroValue185
 t51:=Tryz.underlying295
 a51:=Tryz.isAgg295
 z51:=Tryz.sizeOf295
 v51:=Tryz.zeroValue295
 t53:=Tryz.underlying119
 a53:=Tryz.isAgg119
 z53:=Tryz.sizeOf119
 v53:=Tryz.zeroValue119
 t171:=Tryz.underlying260
 a171:=Tryz.isAgg260
 z171:=Tryz.sizeOf260
 v171:=Tryz.zeroValue260
 t173:=Tryz.underlying263
 a173:=Tryz.isAgg263
 z173:=Tryz.sizeOf263
 v173:=Tryz.zeroValue263
 t212:=Tryz.underlying294
 a212:=Tryz.isAgg294
 z212:=Tryz.sizeOf294
 v212:=Tryz.zeroValue294
 t213:=Tryz.underlying296
 a213:=Tryz.isAgg296
 z213:=Tryz.sizeOf296
 t232:=Tryz.underlying331
 a232:=Tryz.isAgg331
 z232:=Tryz.sizeOf331
 v232:=Tryz.zeroValue331
 t233:=Tryz.underlying332
 a233:=Tryz.isAgg332
 z233:=Tryz.sizeOf332
 v233:=Tryz.zeroValue332
 g17:=by kernel_rfl
 g18:=by kernel_rfl
 g19:=by kernel_rfl
 i0:=by kernel_rfl
 i2:=by kernel_rfl
 i3:=by kernel_rfl
 i4:=by kernel_rfl
 i5:=by kernel_rfl
 i9:=by kernel_rfl
 i20:=by kernel_rfl
 i37:=by kernel_rfl
 i46:=by kernel_rfl
 i51:=by kernel_rfl
 i53:=by kernel_rfl
 i171:=by kernel_rfl
 i173:=by kernel_rfl
 i212:=by kernel_rfl
 i232:=by kernel_rfl
 i233:=by kernel_rfl
 m17:=by kernel_rfl
 m18:=by kernel_rfl
 m19:=by kernel_rfl }
open Go.RowKit Go.Sort Go.Lib in
theorem Tryz.internal_strconv_FormatInt_10 (n:Int) (h0:-9223372036854775808 ≤ n) (h1:n ≤ 9223372036854775807) (w:World) (htab:Lib.TabIs Tryz.prog w "internal/strconv.uint64pow10" .u64 Lib.pow10Tab) :
  Calls Tryz.prog 169 #[.int .i64 n,.int .i64 10] w fun e w'=>e = .returned (.string ⟨(Lib.itoa n).toArray⟩) ∧ ∃ k os,w' = grow (w.drewN k) os:=Any.internal_strconv_FormatInt_10 Tryz.laysM246 n h0 h1 w htab
end Go.Proofs.YtgbicnkpnhifgaaGreatDoor

namespace Go.Proofs.YtgbicnkpnhifgaaGreatDoor
open Go.RowKit Go.Lib Go.Sort
noncomputable section
def tb_reeving_Matrix:List (FuncId × Fe G):=[(137,fe_reeving_Valid),(195,fe_reeving_find)]
def F_reeving_Matrix (s:TSystem):Option (List (List Int) × Int):=evZ G (lstK G tb_reeving_Matrix) (bodyOf Tryz.f159) .nil 66 [.tmp 2,.tmp 3] [.Matrix,.Errno] (argT G [.v .System] (s,()))
def fe_reeving_Matrix:Fe G:=⟨[.v .System],[.Matrix,.Errno],fun x=>F_reeving_Matrix x.1⟩
theorem ok_reeving_Matrix:FnOk G 159 fe_reeving_Matrix:=fnOkz_of G_ok (an:=.nil) (k:=66) (res:=[.tmp 2,.tmp 3]) (fun _=>lstK_ok G_ok (lcons ok_reeving_Valid (lcons ok_reeving_find (lnil)))) Tryz.func159 (by kernel_rfl) (by kernel_rfl) (by kernel_rfl) (by kernel_rfl) (by kernel_rfl) (fun _=>by kernel_rfl)
def tb_motion_rows:List (FuncId × Fe G):=[(159,fe_reeving_Matrix)]
def F_motion_rows (s:TSystem):Option (List (List Int) × Int):=evZ G (lstK G tb_motion_rows) (bodyOf Tryz.f200) .nil 49 [.tmp 2,.tmp 3] [.Matrix,.Errno] (argT G [.v .System] (s,()))
def fe_motion_rows:Fe G:=⟨[.v .System],[.Matrix,.Errno],fun x=>F_motion_rows x.1⟩
theorem ok_motion_rows:FnOk G 200 fe_motion_rows:=fnOkz_of G_ok (an:=.nil) (k:=49) (res:=[.tmp 2,.tmp 3]) (fun _=>lstK_ok G_ok (lcons ok_reeving_Matrix (lnil))) Tryz.func200 (by kernel_rfl) (by kernel_rfl) (by kernel_rfl) (by kernel_rfl) (by kernel_rfl) (fun _=>by kernel_rfl)
def F_internal_strconv_FormatInt (i base:Int):Option ByteArray:=if (-9223372036854775808 ≤ i ∧ i ≤ 9223372036854775807) ∧ base = 10 then some ⟨(Go.Lib.itoa i).toArray⟩ else none
def fe_internal_strconv_FormatInt:Fe G:=⟨[.v .int,.v .int1],[.str],fun x=>F_internal_strconv_FormatInt x.1 x.2.1⟩
theorem below_grow (w:World) (k:Nat) (os:Array Obj):Below w.heap.size w (grow (w.drewN k) os):=by
 refine ⟨rfl,rfl,rfl,by simp [grow],fun b hb=>?_⟩
 simp [grow,Array.getElem?_append,hb]
theorem ok_internal_strconv_FormatInt:FnOk G 169 fe_internal_strconv_FormatInt:=by
 refine ⟨⟨_,Tryz.func169,by decide,by kernel_rfl⟩,fun _ x y hy w vs hgh ha=>?_,fun h=>absurd h (by decide)⟩
 obtain ⟨i,b,⟨⟩⟩:=x
 have hy':F_internal_strconv_FormatInt i b = some y:=hy
 unfold F_internal_strconv_FormatInt at hy'
 split at hy'
 rotate_left
 ·cases hy'
 rename_i hc
 obtain ⟨⟨h0,h1⟩,rfl⟩:=hc
 cases hy'
 have ha':RepTs G w (AllRo w) 0 (fun _=>undef) [.c (.pv (.val (.int .i64 i))),.c (.pv (.val (.int .i64 10)))] vs:=ha
 cases ha' with
 | cons hx hr =>
  cases hr with
  | cons hn hnil =>
   cases hnil
   rename_i v0 v1
   have hx':RepP G w (AllRo w) (.val (.int .i64 i)) v0:=hx
   have hn':RepP G w (AllRo w) (.val (.int .i64 10)) v1:=hn
   cases hx'
   cases hn'
   refine (Tryz.internal_strconv_FormatInt_10 i h0 h1 w hgh).mono ?_
   rintro e w' ⟨rfl,k,os,rfl⟩
   have hb:=below_grow w k os
   refine ⟨_,rfl,hb,fun _ N hp m hh=>?_⟩
   obtain ⟨g1,g2⟩:=hh.ext (w':=grow (w.drewN k) os) (m':=m) hb.size (fun b hlt=>hb.block b hlt) [] (fun _ _=>rfl) (fun i ob hi=>by cases hi) (fun i ob b hi=>by cases hi) (fun i j ob ob' b hi=>by cases hi)
   exact ⟨m,g1,g2,RepP.val _ rfl⟩
def awkS (n:Int):TSystem:=TSystem.mk [TBlock.mk ⟨#[98]⟩ n] [TRope.mk ⟨#[114]⟩ [THold.mk ⟨#[]⟩ 0 (TFrac.mk 1 1),THold.mk ⟨#[98]⟩ 2 (TFrac.mk 1 1),THold.mk ⟨#[]⟩ 0 (TFrac.mk 1 1)] true]
end
end Go.Proofs.YtgbicnkpnhifgaaGreatDoor

namespace Go.Proofs.YtgbicnkpnhifgaaGreatDoor
open Go.RowKit Go.Lib
theorem info_fracT:(Tryz.prog.info? 35).map (fun i=>(i.zero,i.size,i.bytes)) = some (some (.agg #[.int .i64 0,.int .i64 0]),2,16):=by kernel_rfl
theorem mul_one_call (w:World) (hgh:G.gh w):Calls Tryz.prog 278 #[.int .u64 1,.int .u64 1] w fun e w'=>e = .returned (.tuple #[.int .u64 0,.int .u64 1]) ∧ Below w.heap.size w w':=by
 have hF:fe_math_bits_Mul.fn ((1:Int),((1:Int),())) = some ((0:Int),(1:Int)):=by kernel_rfl
 have ha:Args G w (argT G fe_math_bits_Mul.ps ((1:Int),((1:Int),()))) [.int .u64 1,.int .u64 1]:=.cons (RepP.val _ rfl) (.cons (RepP.val _ rfl) .nil)
 refine (ok_math_bits_Mul.ok (by kernel_rfl) _ _ hF w _ hgh ha).mono ?_
 rintro e w' ⟨v,rfl,hb,hret⟩
 obtain ⟨m',_,_,h3⟩:=hret held0 w.heap.size [] (fun _=>undef) ⟨fun o ob ho=>by simp at ho,fun o o' ob ob' b ho=>by simp at ho,Nat.le_refl _,fun _ h=>h.elim,hgh,fun b hb=>⟨G.gh_lt w hgh b hb,fun h=>h.elim⟩⟩
 refine ⟨?_,hb⟩
 have h4:RepD G w' (Rof G ([]:G.Hp) m' w') 0 m' (.tup [.c (.pv (.val (.int .u64 0))),.c (.pv (.val (.int .u64 1)))]) v:=h3
 obtain ⟨vs,rfl,hl,hv⟩:=h4
 obtain ⟨x0,e0,r0⟩:=hv 0 _ rfl
 obtain ⟨x1,e1,r1⟩:=hv 1 _ rfl
 have r0':RepP G w' _ (.val (.int .u64 0)) x0:=r0
 have r1':RepP G w' _ (.val (.int .u64 1)) x1:=r1
 cases r0'
 cases r1'
 match vs,hl,e0,e1 with
 | [a,b],_,e0,e1=>cases e0;cases e1;rfl
def RepTo (w:World) (ys:List Value) (v:Value) (w':World):Prop:=∃ g row,w.heap.size ≤ g ∧ v = .slice (some ⟨g,0,none⟩) 1 1 ∧ Below w.heap.size w w' ∧ w'.heap[g]? = some (.cells row 35 (0,0)) ∧ row.toList = ys
theorem rep_made {w w1:World} (hb:Below w.heap.size w w1) (row0:Array Value) (ys:List Value) (hs:row0.size = 2) (hy:ys.length = 2) (w2:World) (g:Nat) (hg:w2.heap[g]? = some (.cells row0 35 (0,0))) (hgw:w.heap.size ≤ g) (hb2:Below w.heap.size w w2) :
  RepTo w ys (.slice (some ⟨g,0,none⟩) 1 1) (w2.setRow g (row0.toList.take 0 ++ ys ++ row0.toList.drop (0 + ys.length)).toArray):=by
 refine ⟨g,_,hgw,rfl,?_,setRow_heap w2 g row0 _ _ (0,0) hg,?_⟩
 ·exact hb2.grown ⟨rfl,rfl,rfl,by rw [size_setRow];exact Nat.le_refl _,fun k _ hk=>setRow_other w2 g k _ (fun e=>hk (by rw [e]))⟩ hb2.size (fun k hk=>by cases hk;exact hgw)
 ·simp [hy,List.drop_of_length_le,hs]
set_option maxHeartbeats 4000000 in
set_option maxRecDepth 1000000 in
theorem rep_one (A:Addr) (cap:Nat) (ys:List Value) (w:World) (hx:∀ j u,ys[j]? = some u → w.cell? (A.add j) = some u) (hy:ys.length = 2) (h1:∀ x ∈ ys,x.oneCell' = true) (hnb:A.block < w.heap.size) (hsp:A.spot = none) (hgh:G.gh w) :
  Calls Tryz.prog 258 #[.slice (some A) 1 cap,.int .i64 1] w fun e w'=>∃ v,e = .returned v ∧ RepTo w ys v w':=by
 obtain ⟨ab,ao,asp⟩:=A
 cases hsp
 have hnb':ab < w.heap.size:=hnb
 obtain ⟨i0,hi0,hz0,hz1,hz2⟩:=info_parts info_fracT
 have hs1:(Tryz.prog.info? 35).map (·.size) = some 2:=by rw [hi0];simp [hz1]
 have hwu:IntKind.u64.wrap (1:Int) = 1:=by decide
 have hwi:IntKind.i64.wrap (1:Int) = 1:=by decide
 go_enter Tryz.func258,Tryz.ntmps258
 go_wp2_with (first
  | (go_at_call 278;refine (mul_one_call _ hgh).mono ?_;rintro e w1 ⟨rfl,hb1⟩)
  | (at_make;refine wpList_make_full _ rfl _ _ 46 rfl w.heap.size 35 i0 _ 2 Tryz.underlying46 hi0 hz0 hz1 _ _ _ _ 1 rfl rfl rfl rfl (by rw [hz2];decide) (by unfold maxLen;omega) hb1.size ?_))
 intro w2 hown hgr
 obtain ⟨g,hg⟩:∃ g,g = w1.heap.size:=⟨_,rfl⟩
 rw [← hg] at hown ⊢
 obtain ⟨row0,hg2,hsz0⟩:∃ row0:Array Value,w2.heap[g]? = some (.cells row0 35 (0,0)) ∧ row0.size = 2:=by
  rcases hown.2 with ⟨e,_⟩ | ⟨g',cap',cur,e,_,hh,_,_,hcs,_⟩
  ·cases e
  ·cases e
   exact ⟨cur,hh,hcs⟩
 have hb2:Below w.heap.size w w2:=hb1.grown hgr hb1.size (fun k hk=>by cases hk)
 have hgw:w.heap.size ≤ g:=by rw [hg];exact hb1.size
 have hxb:∀ j u,ys[j]? = some u → w2.cell? ((⟨ab,ao,none⟩:Addr).add j) = some u:=fun j u hj=>by
  have h9:=hx j u hj
  rw [Addr.add_lit] at h9 ⊢
  exact (hb2.cell hnb').trans h9
 have hcp:(Builtin.copy_ #[46,46] 3 #[.slice (some ⟨g,0,none⟩) 1 1,.slice (some ⟨ab,ao,none⟩) 1 cap]).run Tryz.prog w2 = .ok (goInt ((1:Nat):Int)) (w2.setRow g (row0.toList.take 0 ++ ys ++ row0.toList.drop (0 + ys.length)).toArray) :=
  run_copy_rows (P:=Tryz.prog) w2 46 46 3 35 g 0 1 1 ⟨ab,ao,none⟩ 1 cap 2 row0 _ ys Tryz.underlying46 hs1 hg2 (by rw [hy];rfl) hxb (by rw [hy,hsz0];decide) h1
 have HF:=Lib.hid (rep_made hb1 row0 ys hsz0 hy w2 g hg2 hgw hb2)
 obtain ⟨w3,hw3⟩:∃ w3,w3 = w2.setRow g (row0.toList.take 0 ++ ys ++ row0.toList.drop (0 + ys.length)).toArray:=⟨_,rfl⟩
 rw [← hw3] at hcp HF
 have HCP:=Lib.hid hcp
 clear hcp hw3 hg2 hsz0 hown hgr hg hb1 hb2 hx hxb
 have hcq:=HCP.out
 go_wp2_with fail
 go_loopw [8] (fun i wr=>i = .int .i64 1 ∧ RepTo w ys (.slice (some ⟨g,0,none⟩) 1 1) wr) (fun _ _=>0)
 case atStart=>exact ⟨rfl,HF.out⟩
 case round =>
  obtain ⟨rfl,hI⟩:=hrel
  have HI:=Lib.hid hI
  clear hI
  go_wp2_with fail
  go_ret
  exact ⟨_,rfl,HI.out⟩
def F_slices_Repeat_api_Frac (x:List TFrac) (count:Int):Option (List TFrac):=if count = 1 then (match x with
 | [a]=>some [a]
 | _=>none) else none
def fe_slices_Repeat_api_Frac:Fe G:=⟨[.v .l_Frac,.v .int1],[.l_Frac],fun x=>F_slices_Repeat_api_Frac x.1 x.2.1⟩
theorem ok_slices_Repeat_api_Frac:FnOk G 258 fe_slices_Repeat_api_Frac:=by
 refine ⟨⟨_,Tryz.func258,by decide,by kernel_rfl⟩,fun _ x y hy w vs hgh ha=>?_,fun h=>absurd h (by decide)⟩
 obtain ⟨l,k,⟨⟩⟩:=x
 have hy':F_slices_Repeat_api_Frac l k = some y:=hy
 unfold F_slices_Repeat_api_Frac at hy'
 split at hy'
 rotate_left
 ·cases hy'
 rename_i hk1
 subst hk1
 obtain ⟨a,rfl⟩:∃ a,l = [a]:=by
  match l,hy' with
  | [a],_=>exact ⟨a,rfl⟩
 have hy2:some [a] = some y:=hy'
 cases hy2
 have ha':RepTs G w (AllRo w) 0 (fun _=>undef) [.c (.pv (.sl .Frac [a])),.c (.pv (.val (.int .i64 1)))] vs:=ha
 cases ha' with
 | cons hx hr =>
  cases hr with
  | cons hn hnil =>
   cases hnil
   rename_i v0 v1
   have hx':RepP G w (AllRo w) (.sl .Frac [a]) v0:=hx
   have hn':RepP G w (AllRo w) (.val (.int .i64 1)) v1:=hn
   cases hn'
   cases hx' with
   | sl _ _ A b off cap c hcap hcell hcc hr =>
    obtain ⟨rfl,hbw⟩:=hcell (Nat.lt_succ_self 0)
    have c0:=hcc 0 a 0 (.val (.int .i64 a.num)) rfl rfl
    have c1:=hcc 0 a 1 (.val (.int .i64 a.den)) rfl rfl
    have v0:=hr 0 a 0 (.val (.int .i64 a.num)) rfl rfl
    have v1:=hr 0 a 1 (.val (.int .i64 a.den)) rfl rfl
    have e0:c 0 0 = .int .i64 a.num:=(fun v (h:RepP G w (AllRo w) (.val (.int .i64 a.num)) v)=>(by cases h;rfl:v = .int .i64 a.num)) _ v0
    have e1:c 0 1 = .int .i64 a.den:=(fun v (h:RepP G w (AllRo w) (.val (.int .i64 a.den)) v)=>(by cases h;rfl:v = .int .i64 a.den)) _ v1
    rw [e0] at c0
    rw [e1] at c1
    have c0':w.cell? ⟨b,off,none⟩ = some (.int .i64 a.num):=by
     have ea:(⟨b,off + 0 * G.sz .Frac + 0,none⟩:Addr) = ⟨b,off,none⟩:=by rw [Nat.zero_mul];rfl
     rw [ea] at c0
     exact c0
    have c1':w.cell? ⟨b,off + 1,none⟩ = some (.int .i64 a.den):=by
     have ea:(⟨b,off + 0 * G.sz .Frac + 1,none⟩:Addr) = ⟨b,off + 1,none⟩:=by rw [Nat.zero_mul]
     rw [ea] at c1
     exact c1
    refine (rep_one ⟨b,off,none⟩ cap [.int .i64 a.num,.int .i64 a.den] w (fun j u hj=>?_) rfl (fun x hx=>?_) hbw rfl hgh).mono ?_
    ·rw [Addr.add_lit]
     match j,hj with
     | 0,hj=>cases hj;exact c0'
     | 1,hj=>cases hj;exact c1'
    ·rcases List.mem_cons.1 hx with rfl | hx
     ·rfl
     ·rcases List.mem_cons.1 hx with rfl | hx
      ·rfl
      ·cases hx
    rintro e w' ⟨v,rfl,g,row,hgw,rfl,hb,hrow,hlist⟩
    refine ⟨_,rfl,hb,fun _ N hp m hh=>?_⟩
    have hlen:row.size = 2:=by rw [← Array.length_toList,hlist];rfl
    have hown:w'.ownsRow N (G.ty .Frac) (G.sz .Frac) (.slice (some ⟨g,0,none⟩) 1 1) ([a]:List TFrac).length [.int .i64 a.num,.int .i64 a.den] :=
     ⟨rfl,.inr ⟨g,1,row,rfl,Nat.le_trans hh.base hgw,hrow,Nat.le_refl _,by unfold maxLen;omega,hlen,by
      show row.toList.take 2 = _
      rw [List.take_of_length_le (by simp [hlist]),hlist]⟩⟩
    obtain ⟨k1,k2⟩:=new_row (u:=.Frac) (l:=([a]:List (G.El .Frac))) hh hb.size (fun b hlt=>hb.block b hlt) hown (fun b hb=>by cases hb;exact hgw) (fun k x j p hk hj=>by
      match k,hk with
      | 0,hk =>
       cases hk
       have hj2:([.val (.int .i64 a.num),.val (.int .i64 a.den)]:List G.P')[j]? = some p:=hj
       match j,hj2 with
       | 0,hj2=>cases hj2;exact ⟨_,rfl,RepP.val _ rfl⟩
       | 1,hj2=>cases hj2;exact ⟨_,rfl,RepP.val _ rfl⟩) (fun x hx=>by
      rcases List.mem_cons.1 hx with rfl | hx
      ·rfl
      ·rcases List.mem_cons.1 hx with rfl | hx
       ·rfl
       ·cases hx)
    exact ⟨_,k1,k2,by show hp.length < (hp ++ [_]).length;rw [List.length_append];exact Nat.lt_succ_self _,by rw [mAt_same],rfl⟩
end Go.Proofs.YtgbicnkpnhifgaaGreatDoor

namespace Go.Proofs.YtgbicnkpnhifgaaGreatDoor
noncomputable section
def stepN (V:List TBrick → List Int → Int → Int → Int → Int → Bool → Option (Int × Bool)) (l:List TBrick) (rest:List Int) (w i sum best:Int) (found:Bool):Option (Int × Bool) :=
 (idx rest i).bind fun x1=>((bif found then (F_bricks_search__nearest_1 best w).bind fun r2=>(bif decide (maxZ (maxZ 0 (IntKind.i64.wrap (sum - w))) (IntKind.i64.wrap (IntKind.i64.wrap (w - sum) - x1)) > r2) then some (true,()) else (F_bricks_search__nearest_1 best w).bind fun r3=>(bif (maxZ (maxZ 0 (IntKind.i64.wrap (sum - w))) (IntKind.i64.wrap (IntKind.i64.wrap (w - sum) - x1)) == r3) then some (decide (sum ≥ best),()) else some (false,()))) else some (false,())):Option (Bool × Unit)).bind fun y2=>(bif y2.1 then some (best,found) else (bif (i == ((l.length:Nat):Int)) then some (sum,true) else (iterF (σ:=Int × Int × Bool × Unit) (ρ:=Int × Bool × Unit) (fun s12=>(idx l i).bind fun x13=>(bif (decide (s12.1 ≤ x13.count)) then (idx l i).bind fun x14=>(V l rest w (IntKind.i64.wrap (i + 1)) (IntKind.i64.wrap (sum + (IntKind.i64.wrap (s12.1 * x14.weight)))) s12.2.1 s12.2.2.1).bind fun r15=>some (.inl ((IntKind.i64.wrap (s12.1 + 1)),r15.1,r15.2,())) else some (.inr (s12.2.1,s12.2.2.1,())))) big (0,best,found,())).bind fun y16=>some (y16.1,y16.2.1)))
def hpL (l:List TBrick) (rest:List Int) (w best:Int) (found:Bool):G.Hp:=[.lock [.rp [.sl .Brick l,.sl .int1 rest]],.lock [.pv (.val (.int .i64 w))],.box [.pv (.val (.int .i64 best))],.box [.pv (.val (.bool found))],.lock [.clo 192 [1]],.lock [.clo 193 [1,0,3,4,2,5]]]
def hpB (l:List TBrick) (rest:List Int) (w best:Int) (found:Bool):G.Hp:=[.box [.rp [.sl .Brick l,.sl .int1 rest]],.box [.pv (.val (.int .i64 w))],.box [.pv (.val (.int .i64 best))],.box [.pv (.val (.bool found))],.box [.clo 192 [1]],.box [.clo 193 [1,0,3,4,2,5]]]
def tsN (i sum:Int):List G.T:=[.c (.pv (.val (.int .i64 i))),.c (.pv (.val (.int .i64 sum))),.c (.ptr 1 0),.c (.ptr 0 0),.c (.ptr 3 0),.c (.ptr 4 0),.c (.ptr 2 0),.c (.ptr 5 0)]
def recN (V:List TBrick → List Int → Int → Int → Int → Int → Bool → Option (Int × Bool)):G.KT:=fun _ f ts hp k=>match f == 193 with
 | true=>match ts with
  | [.c (.pv (.val (.int .i64 i))),.c (.pv (.val (.int .i64 sum))),.c (.ptr 1 0),.c (.ptr 0 0),.c (.ptr 3 0),.c (.ptr 4 0),.c (.ptr 2 0),.c (.ptr 5 0)]=>match hp with
   | [.lock [.rp [.sl .Brick l,.sl .int1 rest]],.lock [.pv (.val (.int .i64 w))],.box [.pv (.val (.int .i64 best))],.box [.pv (.val (.bool found))],.lock [.clo 192 [1]],.lock [.clo 193 [1,0,3,4,2,5]]]=>(V l rest w i sum best found).bind fun y=>k [] (hpL l rest w y.1 y.2) (.tup [])
   | [.box [.rp [.sl .Brick l,.sl .int1 rest]],.box [.pv (.val (.int .i64 w))],.box [.pv (.val (.int .i64 best))],.box [.pv (.val (.bool found))],.box [.clo 192 [1]],.box [.clo 193 [1,0,3,4,2,5]]]=>(V l rest w i sum best found).bind fun y=>k [] (hpB l rest w y.1 y.2) (.tup [])
   | _=>none
  | _=>none
 | false=>none
def anN:An U:=(.node none .nil (.node none (.node (some ⟨[0,1,3,4,6,7],[],⟨[],[]⟩,[(.normal,⟨[(46,.tv .bool)],[]⟩)]⟩) .nil .nil) (.node none .nil (.node none .nil (.node none (.node (some ⟨[0,1,3,7],[2,3],⟨[(11,.tv .int)],[(2,.bx .int1 []),(3,.bx .bool [])]⟩,[(.exit 0,⟨[],[(2,.bx .int1 []),(3,.bx .bool [])]⟩)]⟩) .nil .nil) .nil)))))
def tbN:List (FuncId × Fe G):=[(192,fe_bricks_search__nearest_1)]
def kN (V:List TBrick → List Int → Int → Int → Int → Int → Bool → Option (Int × Bool)):G.KT:=altK G (fun f=>f == 193) (recN V) (lstK G tbN)
def textN {β:Type} (V:List TBrick → List Int → Int → Int → Int → Int → Bool → Option (Int × Bool)) (l:List TBrick) (rest:List Int) (w i sum best:Int) (found:Bool) (k:Int × Bool → Option β):Option β :=
 (idx rest i).bind fun x1=>((bif found then (F_bricks_search__nearest_1 best w).bind fun r2=>(bif decide (maxZ (maxZ 0 (IntKind.i64.wrap (sum - w))) (IntKind.i64.wrap (IntKind.i64.wrap (w - sum) - x1)) > r2) then some (true,()) else (F_bricks_search__nearest_1 best w).bind fun r3=>(bif (maxZ (maxZ 0 (IntKind.i64.wrap (sum - w))) (IntKind.i64.wrap (IntKind.i64.wrap (w - sum) - x1)) == r3) then some (decide (sum ≥ best),()) else some (false,()))) else some (false,())):Option (Bool × Unit)).bind fun y2=>(bif y2.1 then k (best,found) else (bif (i == ((l.length:Nat):Int)) then k (sum,true) else (iterF (σ:=Int × Int × Bool × Unit) (ρ:=Int × Bool × Unit) (fun s12=>(idx l i).bind fun x13=>(bif (decide (s12.1 ≤ x13.count)) then (idx l i).bind fun x14=>(V l rest w (IntKind.i64.wrap (i + 1)) (IntKind.i64.wrap (sum + (IntKind.i64.wrap (s12.1 * x14.weight)))) s12.2.1 s12.2.2.1).bind fun r15=>some (.inl ((IntKind.i64.wrap (s12.1 + 1)),r15.1,r15.2,())) else some (.inr (s12.2.1,s12.2.2.1,())))) big (0,best,found,())).bind fun y16=>k (y16.1,y16.2.1)))
theorem evN (V:List TBrick → List Int → Int → Int → Int → Int → Bool → Option (Int × Bool)) (l:List TBrick) (rest:List Int) (w i sum best:Int) (found:Bool) (β:Type) (k:List Nat → G.Hp → G.D → Option β) :
  ev G (kN V) (bodyOf Tryz.f193) anN β (List.replicate 83 none) (frame0 G 83 (tsN i sum)) (hpB l rest w best found) (fun e _ hp'=>match e with
   | .exit _=>none
   | _=>k [] hp' (.tup [])) = textN V l rest w i sum best found (fun y=>k [] (hpB l rest w y.1 y.2) (.tup [])):=by kernel_rfl
theorem evNL (V:List TBrick → List Int → Int → Int → Int → Int → Bool → Option (Int × Bool)) (l:List TBrick) (rest:List Int) (w i sum best:Int) (found:Bool) (β:Type) (k:List Nat → G.Hp → G.D → Option β) :
  ev G (kN V) (bodyOf Tryz.f193) anN β (List.replicate 83 none) (frame0 G 83 (tsN i sum)) (hpL l rest w best found) (fun e _ hp'=>match e with
   | .exit _=>none
   | _=>k [] hp' (.tup [])) = textN V l rest w i sum best found (fun y=>k [] (hpL l rest w y.1 y.2) (.tup [])):=by kernel_rfl
theorem text_step {β:Type} (V:List TBrick → List Int → Int → Int → Int → Int → Bool → Option (Int × Bool)) (l:List TBrick) (rest:List Int) (w i sum best:Int) (found:Bool) (k:Int × Bool → Option β):textN V l rest w i sum best found k = (stepN V l rest w i sum best found).bind k:=by
 unfold textN stepN
 rw [Option.bind_assoc]
 congr 1;funext x1
 rw [Option.bind_assoc]
 congr 1;funext y2
 cases y2.1 with
 | true=>rfl
 | false =>
  cases hi:(i == ((l.length:Nat):Int)) with
  | true=>rfl
  | false =>
   show _ = (Option.bind _ _).bind k
   rw [Option.bind_assoc]
   rfl
theorem bodyN:(Tryz.f193).body = some (bodyOf Tryz.f193):=by
 obtain ⟨c,hc⟩:=Option.isSome_iff_exists.1 (show (Tryz.f193).body.isSome = true by kernel_rfl)
 unfold bodyOf
 rw [hc]
 rfl
theorem recN_step [Held] {V:List TBrick → List Int → Int → Int → Int → Int → Bool → Option (Int × Bool)} (h:CallOk G (recN V)):CallOk G (recN (stepN V)):=by
 have hK:CallOk G (kN V):=altK_ok h (lstK_ok G_ok (lcons ok_bricks_search__nearest_1 lnil))
 intro β f ts hp k r hk
 unfold recN at hk
 split at hk
 ·rename_i hf
  have hf':f = 193:=by simpa using hf
  subst hf'
  split at hk
  ·rename_i i sum
   split at hk
   ·rename_i l rest w best found
    have hk':=(evNL V l rest w i sum best found β k).trans ((text_step V l rest w i sum best found _).trans hk)
    refine ⟨⟨_,Tryz.func193,by decide,by kernel_rfl⟩,fun N m w0 vs hh hr=>?_⟩
    refine (recRun_ok G_ok hK Tryz.func193 bodyN (by kernel_rfl) (by kernel_rfl) (by kernel_rfl) (fun o ob ho=>?_) hk' hh hr).mono ?_
    ·match o,ho with
     | 0,ho=>cases ho;rfl
     | 1,ho=>cases ho;rfl
     | 2,ho=>cases ho;rfl
     | 3,ho=>cases ho;rfl
     | 4,ho=>cases ho;rfl
     | 5,ho=>cases ho;rfl
    ·rintro e w' ⟨v,hp',m',d,mv,g1,g2,g3,g4,g5,g6,g7,g8⟩
     exact ⟨v,hp',m',d,mv,g1,g2,g3,g4,g5,g6,g7,g8,fun hq=>by
      have hq':quietC G 193 (tsN i sum) = true:=hq
      rw [show quietC G 193 (tsN i sum) = false by kernel_rfl] at hq'
      cases hq'⟩
   ·rename_i l rest w best found
    have hk':=(evN V l rest w i sum best found β k).trans ((text_step V l rest w i sum best found _).trans hk)
    refine ⟨⟨_,Tryz.func193,by decide,by kernel_rfl⟩,fun N m w0 vs hh hr=>?_⟩
    refine (recRun_ok G_ok hK Tryz.func193 bodyN (by kernel_rfl) (by kernel_rfl) (by kernel_rfl) (fun o ob ho=>?_) hk' hh hr).mono ?_
    ·match o,ho with
     | 0,ho=>cases ho;rfl
     | 1,ho=>cases ho;rfl
     | 2,ho=>cases ho;rfl
     | 3,ho=>cases ho;rfl
     | 4,ho=>cases ho;rfl
     | 5,ho=>cases ho;rfl
    ·rintro e w' ⟨v,hp',m',d,mv,g1,g2,g3,g4,g5,g6,g7,g8⟩
     exact ⟨v,hp',m',d,mv,g1,g2,g3,g4,g5,g6,g7,g8,fun hq=>by
      have hq':quietC G 193 (tsN i sum) = true:=hq
      rw [show quietC G 193 (tsN i sum) = false by kernel_rfl] at hq'
      cases hq'⟩
   ·cases hk
  ·cases hk
 ·cases hk
def vN:Nat → List TBrick → List Int → Int → Int → Int → Int → Bool → Option (Int × Bool)
 | 0=>fun _ _ _ _ _ _ _=>none
 | d + 1=>stepN (vN d)
theorem recN_ok [Held]:∀ d,CallOk G (recN (vN d))
 | 0=>by
  intro β f ts hp k r hk
  unfold recN at hk
  split at hk
  ·split at hk
   ·split at hk
    ·cases hk
    ·cases hk
    ·cases hk
   ·cases hk
  ·cases hk
 | d + 1=>recN_step (recN_ok d)
def an_bricks_search__nearest:An U:=(.node none .nil (.node none .nil (.node none .nil (.node none .nil (.node none .nil (.node none .nil .nil))))))
def F_bricks_search__nearest (s:Tsearch) (weight:Int):Option Int:=(vN 16 s.l s.rest weight 0 0 0 false).bind fun y=>some y.1
def fe_bricks_search__nearest:Fe G:=⟨[.rp .search,.v .int1],[.int1],fun x=>F_bricks_search__nearest x.1 x.2.1⟩
theorem ok_bricks_search__nearest:FnOk G 155 fe_bricks_search__nearest:=fnOk_of G_ok (an:=an_bricks_search__nearest) (k:=14) (res:=[.tmp 4]) (altK_ok (recN_ok 16) (lstK_ok G_ok (lcons ok_bricks_search__nearest_1 lnil)):CallOk G (kN (vN 16))) Tryz.func155 (by kernel_rfl) (by kernel_rfl) (by kernel_rfl) (by kernel_rfl) (by kernel_rfl) (fun _=>by kernel_rfl)
end
end Go.Proofs.YtgbicnkpnhifgaaGreatDoor

namespace Go.Proofs.YtgbicnkpnhifgaaGreatDoor
noncomputable section
abbrev VF:=List TBrick → List Int → Int → Int → Nat × List Int → Nat → Int → Int → Bool → Int → List Int → Option ((Nat × List Int) × Bool × Int × List Int)
def textF {β:Type} (V:VF) (l:List TBrick) (rest:List Int) (low high:Int) (d:Nat × List Int) (kk:Nat) (sum num:Int) (found:Bool) (most:Int) (best:List Int) (K:(Nat × List Int) × Bool × Int × List Int → Option β):Option β :=
 ((bif found then (bif (decide (num ≥ most)) then some (true,()) else (bif (decide (sum > high)) then some (true,()) else (idx rest ((kk:Nat):Int)).bind fun _x5=>(rest[(Int.toNat ((kk:Nat):Int))]?).bind fun x6=>some ((decide ((IntKind.i64.wrap (sum + x6)) < low)),()))) else (bif (decide (sum > high)) then some (true,()) else (idx rest ((kk:Nat):Int)).bind fun _x7=>(rest[(Int.toNat ((kk:Nat):Int))]?).bind fun x8=>some ((decide ((IntKind.i64.wrap (sum + x8)) < low)),()))):Option (Bool × Unit)).bind fun y9=>(bif y9.1 then K (d,found,most,best) else (bif (((kk:Nat):Int) == ((l.length:Nat):Int)) then (if kk ≤ d.2.length then (F_slices_Clone_int (d.2.take kk)).bind fun r10=>K (d,true,num,r10) else none) else (iterF (σ:=Int × (List Int) × Int × Bool × (Nat × List Int) × Unit) (ρ:=(List Int) × Int × Bool × (Nat × List Int) × Unit) (fun s25=>(idx l ((kk:Nat):Int)).bind fun x26=>(bif (decide (s25.1 ≤ x26.count)) then (idx l ((kk:Nat):Int)).bind fun x27=>(if kk ≤ s25.2.2.2.2.1.2.length ∧ kk + ([s25.1]:List Int).length ≤ s25.2.2.2.2.1.1 then (V l rest low high (s25.2.2.2.2.1.1,(s25.2.2.2.2.1.2.take kk ++ ([s25.1]:List Int))) (kk + ([s25.1]:List Int).length) (IntKind.i64.wrap (sum + (IntKind.i64.wrap (s25.1 * x27.weight)))) (IntKind.i64.wrap (num + s25.1)) s25.2.2.2.1 s25.2.2.1 s25.2.1).bind fun r28=>some (.inl ((IntKind.i64.wrap (s25.1 + 1)),r28.2.2.2,r28.2.2.1,r28.2.1,r28.1,())) else none) else some (.inr (s25.2.1,s25.2.2.1,s25.2.2.2.1,s25.2.2.2.2.1,())))) big (0,best,most,found,d,())).bind fun y29=>K (y29.2.2.2.1,y29.2.2.1,y29.2.1,y29.1)))
def stepF (V:VF):VF:=fun l rest low high d kk sum num found most best=>textF V l rest low high d kk sum num found most best some
theorem textF_step {β:Type} (V:VF) (l:List TBrick) (rest:List Int) (low high:Int) (d:Nat × List Int) (kk:Nat) (sum num:Int) (found:Bool) (most:Int) (best:List Int) (K:(Nat × List Int) × Bool × Int × List Int → Option β) :
  textF V l rest low high d kk sum num found most best K = (stepF V l rest low high d kk sum num found most best).bind K:=by
 unfold stepF textF
 rw [Option.bind_assoc]
 congr 1;funext y5
 cases y5.1 with
 | true=>rfl
 | false =>
  cases hi:(((kk:Nat):Int) == ((l.length:Nat):Int)) with
  | true =>
   show _ = (Option.bind _ K)
   simp only [cond_true,cond_false]
   split
   ·rw [Option.bind_assoc];rfl
   ·rfl
  | false =>
   show _ = (Option.bind _ K)
   simp only [cond_false]
   rw [Option.bind_assoc]
   rfl
def blO:G.O → Option (List G.C)
 | .box cs=>some cs
 | .lock cs=>some cs
 | _=>none
def bestC:G.C → Option (List Int)
 | .pv (.sl .int1 l)=>some l
 | .pv (.val (.slice none 0 0))=>some []
 | _=>none
def okTl:G.O → Bool
 | .dead=>true
 | .row false _ _=>true
 | _=>false
structure ShF where
 l:List TBrick
 rest:List Int
 low:Int
 high:Int
 l0:List Int
 l8:List Int
 d:Nat × List Int
 found:Bool
 most:Int
 best:List Int
def shF (hp:G.Hp):Option ShF:=match hp with
 | .row _ .int1 l0 :: .dead :: .row _ .int1 rest :: o3 :: .pins [] :: o5 :: o6 :: o7 :: .row _ .int1 l8 :: .box [b] :: .box [.pv (.val (.int .i64 most))] :: .box [.pv (.val (.bool found))] :: o12 :: .ab false (.cap .int1) d :: tl=>match blO o3,blO o5,blO o6,blO o7,bestC b,blO o12 with
  | some [.pv (.sl .Brick l),.os 2],some [.ptr 3 0],some [.pv (.val (.int .i64 low))],some [.pv (.val (.int .i64 high))],some best,some [.clo 158 [11,10,7,5,6,9,12]]=>if tl.all okTl = true then some ⟨l,rest,low,high,l0,l8,d,found,most,best⟩ else none
  | _,_,_,_,_,_=>none
 | _=>none
def outF (hp:G.Hp) (y:(Nat × List Int) × Bool × Int × List Int):G.Hp:=match hp with
 | o0 :: o1 :: o2 :: o3 :: o4 :: o5 :: o6 :: o7 :: o8 :: _ :: _ :: _ :: o12 :: _ :: tl=>o0 :: o1 :: o2 :: o3 :: o4 :: o5 :: o6 :: o7 :: o8 :: .box [.pv (.sl .int1 y.2.2.2)] :: .box [.pv (.val (.int .i64 y.2.2.1))] :: .box [.pv (.val (.bool y.2.1))] :: o12 :: .ab false (.cap .int1) y.1 :: tl.map (fun _=>.dead)
 | hp=>hp
def finF (hp:G.Hp):Option ((Nat × List Int) × Bool × Int × List Int):=match hp with
 | _ :: _ :: _ :: _ :: _ :: _ :: _ :: _ :: _ :: .box [.pv (.sl .int1 best)] :: .box [.pv (.val (.int .i64 most))] :: .box [.pv (.val (.bool found))] :: _ :: .ab false (.cap .int1) d :: _=>some (d,found,most,best)
 | _=>none
def hpF (s:ShF):G.Hp:=[.row true .int1 s.l0,.dead,.row true .int1 s.rest,.lock [.pv (.sl .Brick s.l),.os 2],.pins [],.lock [.ptr 3 0],.lock [.pv (.val (.int .i64 s.low))],.lock [.pv (.val (.int .i64 s.high))],.row true .int1 s.l8,.box [.pv (.sl .int1 s.best)],.box [.pv (.val (.int .i64 s.most))],.box [.pv (.val (.bool s.found))],.lock [.clo 158 [11,10,7,5,6,9,12]],.ab false (.cap .int1) s.d]
def tsF (kk:Nat) (sum num:Int):List G.T:=[.c (.pre 13 kk),.c (.pv (.val (.int .i64 sum))),.c (.pv (.val (.int .i64 num))),.c (.ptr 11 0),.c (.ptr 10 0),.c (.ptr 7 0),.c (.ptr 5 0),.c (.ptr 6 0),.c (.ptr 9 0),.c (.ptr 12 0)]
def recF (V:VF):G.KT:=fun _ f ts hp k=>match f == 158 with
 | true=>match ts with
  | [.c (.pre 13 kk),.c (.pv (.val (.int .i64 sum))),.c (.pv (.val (.int .i64 num))),.c (.ptr 11 0),.c (.ptr 10 0),.c (.ptr 7 0),.c (.ptr 5 0),.c (.ptr 6 0),.c (.ptr 9 0),.c (.ptr 12 0)]=>match shF hp with
   | some s=>(V s.l s.rest s.low s.high s.d kk sum num s.found s.most s.best).bind fun y=>k [] (outF hp y) (.tup [])
   | none=>none
  | _=>none
 | false=>none
def tbC:List (FuncId × Fe G):=[(98,fe_slices_Clone_int)]
def cloneP:G.KT:=fun β f ts hp k=>match f == 98 with
 | true=>match ts with
  | [.c (.pre o kk)]=>match hp[o]? with
   | some (.ab _ (.cap .int1) d)=>if kk ≤ d.2.length then (F_slices_Clone_int (d.2.take kk)).bind fun y=>k [] (hp ++ [.row false .int1 y]) (.t (.c (.os hp.length))) else none
   | _=>none
  | _=>none
 | false=>none
theorem cloneP_ok [Held]:CallOk G cloneP:=by
 intro β f ts hp k r hk
 unfold cloneP at hk
 split at hk
 ·rename_i hf
  have hf':f = 98:=by simpa using hf
  subst hf'
  split at hk
  ·rename_i o kk
   split at hk
   ·rename_i lk d ho
    split at hk
    ·rename_i hlt
     have hu:unB G U.l_int1 hp (.c (.pre o kk)) = some (d.2.take kk):=by
      rw [unB_c (G:=G) (u:=U.l_int1) rfl hp _,pvB_pre (G:=G) ho hlt]
      rfl
     have h1:lstK G tbC β 98 [.c (.pre o kk)] hp k = (F_slices_Clone_int (d.2.take kk)).bind fun y=>k [] (hp ++ [.row false .int1 y]) (.t (.c (.os hp.length))) :=
      tblK_of (G:=G) (fe:=fe_slices_Clone_int) (by kernel_rfl) (by kernel_rfl) (decA_one (G:=G) (u:=U.l_int1) hu) k
     have h2:=lstK_ok G_ok (lcons ok_slices_Clone_int lnil) β _ _ _ _ r (h1.trans hk)
     exact h2
    ·cases hk
   ·cases hk
  ·cases hk
 ·cases hk
def kF (V:VF):G.KT:=altK G (fun f=>f == 158) (recF V) cloneP
def anF:An U:=(.node none .nil (.node none (.node (some ⟨[0,1,2,3,4,6,8,9,13],[],⟨[],[]⟩,[(.normal,⟨[(40,.tv .bool)],[]⟩)]⟩) .nil .nil) (.node none .nil (.node none .nil (.node none (.node (some ⟨[0,1,2,6,9,13],[9,10,11,13],⟨[(14,.tv .int)],[(9,.bx .l_int1 []),(10,.bx .int1 []),(11,.bx .bool []),(13,.ab (.cap .int1))]⟩,[(.exit 0,⟨[],[(9,.bx .l_int1 []),(10,.bx .int1 []),(11,.bx .bool []),(13,.ab (.cap .int1))]⟩)]⟩) .nil .nil) .nil)))))
theorem evF1 (V:VF) (s:ShF) (kk:Nat) (sum num:Int) (β:Type) (K:(Nat × List Int) × Bool × Int × List Int → Option β) :
  ev G (kF V) (bodyOf Tryz.f158) anF β (List.replicate 84 none) (frame0 G 84 (tsF kk sum num)) (hpF s) (fun e fr hp'=>match e with
   | .exit _=>none
   | _=>(fun hp1=>(finF hp1).bind K) (normF G (hpF s).length (List.replicate 84 none) fr hp')) = textF V s.l s.rest s.low s.high s.d kk sum num s.found s.most s.best K:=by kernel_rfl
theorem bodyF:(Tryz.f158).body = some (bodyOf Tryz.f158):=by
 obtain ⟨c,hc⟩:=Option.isSome_iff_exists.1 (show (Tryz.f158).body.isSome = true by kernel_rfl)
 unfold bodyOf
 rw [hc]
 rfl
theorem blO_lock {o:G.O} {cs:List G.C} (h:blO o = some cs):o = .box cs ∨ o = .lock cs:=by
 unfold blO at h
 split at h
 ·cases h;exact .inl rfl
 ·cases h;exact .inr rfl
 ·cases h
theorem shF_some {hp:G.Hp} {s:ShF} (h:shF hp = some s):∃ k0 k2 o3 o5 o6 o7 k8 b o12 tl,hp = .row k0 .int1 s.l0 :: .dead :: .row k2 .int1 s.rest :: o3 :: .pins [] :: o5 :: o6 :: o7 :: .row k8 .int1 s.l8 :: .box [b] :: .box [.pv (.val (.int .i64 s.most))] :: .box [.pv (.val (.bool s.found))] :: o12 :: .ab false (.cap .int1) s.d :: tl ∧
  blO o3 = some [.pv (.sl .Brick s.l),.os 2] ∧ blO o5 = some [.ptr 3 0] ∧ blO o6 = some [.pv (.val (.int .i64 s.low))] ∧ blO o7 = some [.pv (.val (.int .i64 s.high))] ∧ bestC b = some s.best ∧ blO o12 = some [.clo 158 [11,10,7,5,6,9,12]] ∧ tl.all okTl = true:=by
 unfold shF at h
 split at h
 ·rename_i k0 l0 k2 rest o3 o5 o6 o7 k8 l8 b most found o12 d tl
  split at h
  ·rename_i l low high best e0 e1 e2 e3 e4 e5
   split at h
   ·rename_i htl
    cases h
    exact ⟨k0,k2,o3,o5,o6,o7,k8,b,o12,tl,rfl,e0,e1,e2,e3,e4,e5,htl⟩
   ·cases h
  ·cases h
 ·cases h
theorem finF_some {hp:G.Hp} {y:(Nat × List Int) × Bool × Int × List Int} (h:finF hp = some y):∃ a0 a1 a2 a3 a4 a5 a6 a7 a8 a12 tl,hp = a0 :: a1 :: a2 :: a3 :: a4 :: a5 :: a6 :: a7 :: a8 :: .box [.pv (.sl .int1 y.2.2.2)] :: .box [.pv (.val (.int .i64 y.2.2.1))] :: .box [.pv (.val (.bool y.2.1))] :: a12 :: .ab false (.cap .int1) y.1 :: tl:=by
 unfold finF at h
 split at h
 ·rename_i a0 a1 a2 a3 a4 a5 a6 a7 a8 best most found a12 dd tl
  cases h
  exact ⟨a0,a1,a2,a3,a4,a5,a6,a7,a8,a12,tl,rfl⟩
 ·cases h
theorem tsF_refs (kk:Nat) (sum num:Int):∀ t ∈ tsF kk sum num,∀ o ∈ refsT (G:=G) t,o < 14:=by
 have h:(tsF kk sum num).all (fun t=>(refsT (G:=G) t).all fun o=>decide (o < 14)) = true:=rfl
 intro t ht o ho
 have:=List.all_eq_true.1 (List.all_eq_true.1 h t ht) o ho
 simpa using this
theorem hpF_mov (s:ShF) (o:Nat) (ob:G.O) (ho:(hpF s)[o]? = some ob):ob.mov = false:=by
 match o,ho with
 | 0,ho=>cases ho;rfl
 | 1,ho=>cases ho;rfl
 | 2,ho=>cases ho;rfl
 | 3,ho=>cases ho;rfl
 | 4,ho=>cases ho;rfl
 | 5,ho=>cases ho;rfl
 | 6,ho=>cases ho;rfl
 | 7,ho=>cases ho;rfl
 | 8,ho=>cases ho;rfl
 | 9,ho=>cases ho;rfl
 | 10,ho=>cases ho;rfl
 | 11,ho=>cases ho;rfl
 | 12,ho=>cases ho;rfl
 | 13,ho=>cases ho;rfl
theorem cov_one {o:G.O} {cs:List G.C} (h:blO o = some cs) (hr:∀ q ∈ cs.flatMap (refs G),q < 14):Cov G 14 o (.lock cs) ∧ (OV.lockd (.lock cs:G.O) = true → lockO G o = .lock cs ∧ o.live = OV.live (.lock cs:G.O)) ∧ (OV.lockd (.lock cs:G.O) = false → o.lockd = false):=by
 rcases blO_lock h with rfl | rfl
 ·exact ⟨cov_bl (b:=true) hr,fun _=>⟨rfl,rfl⟩,fun h=>by cases h⟩
 ·exact ⟨cov_bl (b:=false) hr,fun _=>⟨rfl,rfl⟩,fun h=>by cases h⟩
set_option maxRecDepth 20000 in
theorem recF_step [Held] {V:VF} (h:CallOk G (recF V)):CallOk G (recF (stepF V)):=by
 have hK:CallOk G (kF V):=altK_ok h cloneP_ok
 intro β f ts hp k r hk
 unfold recF at hk
 split at hk
 ·rename_i hf
  have hf':f = 158:=by simpa using hf
  subst hf'
  split at hk
  ·rename_i kk sum num
   split at hk
   ·rename_i s hs
    obtain ⟨k0,k2,o3,o5,o6,o7,k8,b,o12,tl,hhp,e0,e1,e2,e3,e4,e5,htl⟩:=shF_some hs
    have hk':=(evF1 V s kk sum num β (fun y=>k [] (outF hp y) (.tup []))).trans ((textF_step V s.l s.rest s.low s.high s.d kk sum num s.found s.most s.best _).trans hk)
    clear hs
    subst hhp
    refine ⟨⟨_,Tryz.func158,by decide,by kernel_rfl⟩,fun N m w0 vs hh hr=>?_⟩
    refine (shapeRun_ok G_ok hK Tryz.func158 bodyF (by kernel_rfl) (by kernel_rfl) (by kernel_rfl) (hpC:=hpF s) (k:=k) (kk:=fun hp1=>(finF hp1).bind _) (hpF_mov s) ?_ ?_ ?_ (tsF_refs kk sum num) hk' ?_ hh hr).mono ?_
    ·intro o ob ob' ho ho'
     match o,ho,ho' with
     | 0,ho,ho'=>cases ho;cases ho';exact ⟨cov_row,fun _=>⟨rfl,rfl⟩,fun h=>by cases h⟩
     | 1,ho,ho'=>cases ho;cases ho';exact ⟨cov_refl (by intro q hq;cases hq),fun _=>⟨rfl,rfl⟩,fun h=>(by cases h)⟩
     | 2,ho,ho'=>cases ho;cases ho';exact ⟨cov_row,fun _=>⟨rfl,rfl⟩,fun h=>by cases h⟩
     | 3,ho,ho'=>cases ho;cases ho';exact cov_one e0 (by intro q hq;have hq:q ∈ [2]:=hq;simp at hq;omega)
     | 4,ho,ho'=>cases ho;cases ho';exact ⟨cov_refl (by intro q hq;cases hq),fun _=>⟨rfl,rfl⟩,fun h=>(by cases h)⟩
     | 5,ho,ho'=>cases ho;cases ho';exact cov_one e1 (by intro q hq;have hq:q ∈ [3]:=hq;simp at hq;omega)
     | 6,ho,ho'=>cases ho;cases ho';exact cov_one e2 (by intro q hq;cases hq)
     | 7,ho,ho'=>cases ho;cases ho';exact cov_one e3 (by intro q hq;cases hq)
     | 8,ho,ho'=>cases ho;cases ho';exact ⟨cov_row,fun _=>⟨rfl,rfl⟩,fun h=>by cases h⟩
     | 9,ho,ho' =>
      cases ho;cases ho'
      refine ⟨?_,fun h=>(by cases h),fun _=>rfl⟩
      unfold bestC at e4
      split at e4
      ·cases e4;exact cov_refl (by intro q hq;cases hq)
      ·rename_i hb
       have e4:s.best = []:=(Option.some.inj e4).symm
       rw [e4]
       exact cov_nil
      ·cases e4
     | 10,ho,ho'=>cases ho;cases ho';exact ⟨cov_refl (by intro q hq;cases hq),fun h=>(by cases h),fun _=>rfl⟩
     | 11,ho,ho'=>cases ho;cases ho';exact ⟨cov_refl (by intro q hq;cases hq),fun h=>(by cases h),fun _=>rfl⟩
     | 12,ho,ho'=>cases ho;cases ho';exact cov_one e5 (by intro q hq;have hq:q ∈ [11,10,7,5,6,9,12]:=hq;simp at hq;omega)
     | 13,ho,ho'=>cases ho;cases ho';exact ⟨cov_refl (by intro q hq;cases hq),fun h=>(by cases h),fun _=>rfl⟩
    ·show 14 ≤ _
     simp
    ·intro o ob ho hge
     have hge:14 ≤ o:=hge
     obtain ⟨q,rfl⟩:∃ q,o = q + 14:=⟨o - 14,by omega⟩
     have ho:tl[q]? = some ob:=ho
     have hq:=List.all_eq_true.1 htl ob (List.mem_of_getElem? ho)
     unfold okTl at hq
     split at hq
     ·exact .inl rfl
     ·exact .inr rfl
     ·cases hq
    ·intro hp1 hk1 hlk
     rw [Option.bind_eq_some_iff] at hk1
     obtain ⟨y,hy,hk1⟩:=hk1
     obtain ⟨a0,a1,a2,a3,a4,a5,a6,a7,a8,a12,tl1,rfl⟩:=finF_some hy
     refine ⟨_,?_,?_,hk1⟩
     ·simp [outF]
     ·intro o ob ho
      match o,ho with
      | 0,ho=>cases ho;exact .inr (.inl ⟨_,rfl,rfl,rfl⟩)
      | 1,ho=>cases ho;exact .inr (.inl ⟨_,rfl,rfl,rfl⟩)
      | 2,ho=>cases ho;exact .inr (.inl ⟨_,rfl,rfl,rfl⟩)
      | 3,ho=>cases ho;exact .inr (.inl ⟨_,rfl,rfl,rfl⟩)
      | 4,ho=>cases ho;exact .inr (.inl ⟨_,rfl,rfl,rfl⟩)
      | 5,ho=>cases ho;exact .inr (.inl ⟨_,rfl,rfl,rfl⟩)
      | 6,ho=>cases ho;exact .inr (.inl ⟨_,rfl,rfl,rfl⟩)
      | 7,ho=>cases ho;exact .inr (.inl ⟨_,rfl,rfl,rfl⟩)
      | 8,ho=>cases ho;exact .inr (.inl ⟨_,rfl,rfl,rfl⟩)
      | 9,ho=>cases ho;exact .inr (.inr ⟨_,rfl,rfl,rfl,rfl,by intro q hq;cases hq⟩)
      | 10,ho=>cases ho;exact .inr (.inr ⟨_,rfl,rfl,rfl,rfl,by intro q hq;cases hq⟩)
      | 11,ho=>cases ho;exact .inr (.inr ⟨_,rfl,rfl,rfl,rfl,by intro q hq;cases hq⟩)
      | 12,ho=>cases ho;exact .inr (.inl ⟨_,rfl,rfl,rfl⟩)
      | 13,ho=>cases ho;exact .inr (.inr ⟨_,rfl,rfl,rfl,rfl,by intro q hq;cases hq⟩)
      | q + 14,ho =>
       have ho:(tl.map (fun _=>(OV.dead:G.O)))[q]? = some ob:=ho
       rw [List.getElem?_map,Option.map_eq_some_iff] at ho
       obtain ⟨_,_,rfl⟩:=ho
       exact .inl ⟨Nat.le_add_left 14 q,rfl⟩
    ·rintro e w' ⟨v,hp',m',d,mv,g1,g2,g3,g4,g5,g6,g7,g8⟩
     exact ⟨v,hp',m',d,mv,g1,g2,g3,g4,g5,g6,g7,g8,fun hq=>by
      have hq':quietC G 158 (tsF kk sum num) = true:=hq
      rw [show quietC G 158 (tsF kk sum num) = false by kernel_rfl] at hq'
      cases hq'⟩
   ·cases hk
  ·cases hk
 ·cases hk
def vF:Nat → VF
 | 0=>fun _ _ _ _ _ _ _ _ _ _ _=>none
 | d + 1=>stepF (vF d)
theorem recF_ok [Held]:∀ d,CallOk G (recF (vF d))
 | 0=>by
  intro β f ts hp k r hk
  unfold recF at hk
  split at hk
  ·split at hk
   ·split at hk
    ·cases hk
    ·cases hk
   ·cases hk
  ·cases hk
 | d + 1=>recF_step (recF_ok d)
def F_bricks_Window (l:List TBrick) (low high:Int):Option (List Int × Int) :=
 (F_arbor_Valid l).bind fun r1=>(bif (!r1) then some (([]:List Int),1) else (bif (decide (low > high)) then some (([]:List Int),17) else (if 0 ≤ (IntKind.i64.wrap (((l.length:Nat):Int) + 1)) ∧ (IntKind.i64.wrap (((l.length:Nat):Int) + 1)) ≤ 16777216 then (iterF (σ:=Int × List Int × Unit) (ρ:=List Int × Unit) (fun s13=>(bif (decide (s13.1 ≥ 0)) then (idx s13.2.1 (IntKind.i64.wrap (s13.1 + 1))).bind fun _x14=>(s13.2.1[(Int.toNat (IntKind.i64.wrap (s13.1 + 1)))]?).bind fun x15=>(idx l s13.1).bind fun x16=>(idx l s13.1).bind fun x17=>(idx s13.2.1 s13.1).bind fun _x18=>(s13.2.1[(Int.toNat s13.1)]?).bind fun x19=>some (.inl ((IntKind.i64.wrap (s13.1 - 1)),(s13.2.1.set (Int.toNat s13.1) (IntKind.i64.wrap (x15 + (IntKind.i64.wrap (x16.weight * x17.count))))),())) else some (.inr (s13.2.1,())))) big ((IntKind.i64.wrap (((l.length:Nat):Int) - 1)),(List.replicate (Int.toNat (IntKind.i64.wrap (((l.length:Nat):Int) + 1))) (0:Int)),())).bind fun y20=>(if (0:Int) = 0 then (if 0 ≤ ((l.length:Nat):Int) ∧ ((l.length:Nat):Int) ≤ 16777216 then (vF 16 l y20.1 (maxZ low (-1125899906842624)) (minZ high 1125899906842624) ((Int.toNat ((l.length:Nat):Int)),([]:List Int)) 0 (0:Int) (0:Int) false (0:Int) []).bind fun r21=>(bif (!r21.2.1) then some (([]:List Int),12) else some (r21.2.2.2,0)) else none) else none) else none)))
def an_bricks_Window:An U:=(.node none .nil (.node none .nil (.node none .nil .nil)))
def fe_bricks_Window:Fe G:=⟨[.v .l_Brick,.v .int1,.v .int1],[.l_int1,.Errno],fun x=>F_bricks_Window x.1 x.2.1 x.2.2.1⟩
def tb_bricks_Window:List (FuncId × Fe G):=[(103,fe_arbor_Valid)]
def kW:G.KT:=altK G (fun f=>f == 158) (recF (vF 16)) (altK G (fun f=>f == 98) cloneP (lstK G tb_bricks_Window))
theorem ev_bricks_Window (x:TyP G fe_bricks_Window.ps):evZ G (inlK G [⟨104,1,[],[],bodyOf Tryz.f104,(.node none .nil (.node none .nil (.node none (.node none .nil (.node none (.node (some ⟨[0,2,3],[2],⟨[(4,.tv .int)],[(2,.row .int1)]⟩,[(.exit 0,⟨[],[(2,.row .int1)]⟩)]⟩) .nil .nil) .nil)) .nil))),46,[.tmp 2]⟩,⟨105,4,[],[],bodyOf Tryz.f105,.nil,23,[.tmp 6,.tmp 7]⟩] kW 1) (bodyOf Tryz.f43) an_bricks_Window 31 [.tmp 6,.tmp 7] fe_bricks_Window.rs (argT G fe_bricks_Window.ps x) = fe_bricks_Window.fn x:=by kernel_rfl
theorem ok_bricks_Window:FnOk G 43 fe_bricks_Window:=fnOkz_of G_ok (fun _=>inlK_ok G_ok (icons Tryz.func104 (by kernel_rfl) (by kernel_rfl) (by kernel_rfl) (by kernel_rfl) (icons Tryz.func105 (by kernel_rfl) (by kernel_rfl) (by kernel_rfl) (by kernel_rfl) inil)) (altK_ok (recF_ok 16) (altK_ok cloneP_ok (lstK_ok G_ok (lcons ok_arbor_Valid lnil)))) 1) Tryz.func43 (by kernel_rfl) (by kernel_rfl) (by kernel_rfl) (by kernel_rfl) (by kernel_rfl) ev_bricks_Window
end
end Go.Proofs.YtgbicnkpnhifgaaGreatDoor

namespace Go.Proofs.YtgbicnkpnhifgaaGreatDoor
open Go.RowKit
noncomputable section
def F_bricks_Fewest (l:List TBrick) (weight:Int):Option ((List Int) × Int) :=
 (F_bricks_Window l weight weight).bind fun r1=>some (r1.1,r1.2)
def an_bricks_Fewest:An U:=.nil
def fe_bricks_Fewest:Fe G:=⟨[.v .l_Brick,.v .int1],[.l_int1,.Errno],fun x=>F_bricks_Fewest x.1 x.2.1⟩
def tb_bricks_Fewest:List (FuncId × Fe G):=[(43,fe_bricks_Window)]
theorem ev_bricks_Fewest (x:TyP G fe_bricks_Fewest.ps):evZ G (lstK G tb_bricks_Fewest) (bodyOf Tryz.f83) an_bricks_Fewest 12 [.tmp 4,.tmp 5] fe_bricks_Fewest.rs (argT G fe_bricks_Fewest.ps x) = fe_bricks_Fewest.fn x:=by kernel_rfl
theorem ok_bricks_Fewest:FnOk G 83 fe_bricks_Fewest:=fnOkz_of G_ok (fun _=>lstK_ok G_ok (lcons ok_bricks_Window (lnil))) Tryz.func83 (by kernel_rfl) (by kernel_rfl) (by kernel_rfl) (by kernel_rfl) (by kernel_rfl) ev_bricks_Fewest
def F_internal_strconv_Itoa (i:Int):Option (ByteArray) :=
 (F_internal_strconv_FormatInt i 10).bind fun r1=>some r1
def fe_internal_strconv_Itoa:Fe G:=⟨[.v .int1],[.str],fun x=>F_internal_strconv_Itoa x.1⟩
theorem ok_internal_strconv_Itoa:FnOk G 122 fe_internal_strconv_Itoa:=fk (an:=.nil) (k:=5) (res:=[.tmp 2]) (lstK_ok G_ok (lcons ok_internal_strconv_FormatInt (lnil))) Tryz.func122 fun _=>by kernel_rfl
def F_strconv_Itoa (i:Int):Option (ByteArray) :=
 (F_internal_strconv_Itoa i).bind fun r1=>some r1
def fe_strconv_Itoa:Fe G:=⟨[.v .int1],[.str],fun x=>F_strconv_Itoa x.1⟩
theorem ok_strconv_Itoa:FnOk G 54 fe_strconv_Itoa:=fk (an:=.nil) (k:=5) (res:=[.tmp 2]) (lstK_ok G_ok (lcons ok_internal_strconv_Itoa (lnil))) Tryz.func54 fun _=>by kernel_rfl
def F_ratio_text (a:TFrac):Option (ByteArray) :=
 (bif (a.den == 1) then (F_strconv_Itoa a.num).bind fun r1=>some r1 else (F_strconv_Itoa a.num).bind fun r2=>(if r2.size + (⟨#[47]⟩:ByteArray).size ≤ 2147483648 then (F_strconv_Itoa a.den).bind fun r3=>(if (r2 ++ (⟨#[47]⟩:ByteArray)).size + r3.size ≤ 2147483648 then some ((r2 ++ (⟨#[47]⟩:ByteArray)) ++ r3) else none) else none))
def fe_ratio_text:Fe G:=⟨[.v .Frac],[.str],fun x=>F_ratio_text x.1⟩
theorem ok_ratio_text:FnOk G 227 fe_ratio_text:=fk (an:=.nil) (k:=17) (res:=[.tmp 2]) (lstK_ok G_ok (lcons ok_strconv_Itoa (lnil))) Tryz.func227 fun _=>by kernel_rfl
def F_ratio_Text (a:TFrac):Option (ByteArray × Int) :=
 (F_ratio_Valid a).bind fun r1=>(bif (!r1) then some ((⟨#[]⟩:ByteArray),1) else (F_ratio_text a).bind fun r2=>some (r2,0))
def fe_ratio_Text:Fe G:=⟨[.v .Frac],[.str,.Errno],fun x=>F_ratio_Text x.1⟩
theorem ok_ratio_Text:FnOk G 183 fe_ratio_Text:=fk (an:=.nil) (k:=9) (res:=[.tmp 2,.tmp 3]) (lstK_ok G_ok (lcons ok_ratio_Valid (lcons ok_ratio_text (lnil)))) Tryz.func183 fun _=>by kernel_rfl
def F_bricks_Nearest (l:List TBrick) (weight:Int):Option ((List Int) × Int) :=
 (F_arbor_Valid l).bind fun r1=>(bif (!r1) then some (([]:List Int),1) else ((bif (decide (weight < (-1099511627776))) then some (true,()) else some ((decide (weight > 1099511627776)),())):Option (Bool × Unit)).bind fun y2=>(bif y2.1 then some (([]:List Int),2) else (if 0 ≤ (IntKind.i64.wrap (((l.length:Nat):Int) + 1)) ∧ (IntKind.i64.wrap (((l.length:Nat):Int) + 1)) ≤ 16777216 then (iterF (σ:=Int × List Int × Unit) (ρ:=List Int × Unit) (fun s14=>(bif (decide (s14.1 ≥ 0)) then (idx s14.2.1 (IntKind.i64.wrap (s14.1 + 1))).bind fun _x15=>(s14.2.1[(Int.toNat (IntKind.i64.wrap (s14.1 + 1)))]?).bind fun x16=>(idx l s14.1).bind fun x17=>(idx l s14.1).bind fun x18=>(idx s14.2.1 s14.1).bind fun _x19=>(s14.2.1[(Int.toNat s14.1)]?).bind fun x20=>some (.inl ((IntKind.i64.wrap (s14.1 - 1)),(s14.2.1.set (Int.toNat s14.1) (IntKind.i64.wrap (x16 + (IntKind.i64.wrap (x17.weight * x18.count))))),())) else some (.inr (s14.2.1,())))) big ((IntKind.i64.wrap (((l.length:Nat):Int) - 1)),(List.replicate (Int.toNat (IntKind.i64.wrap (((l.length:Nat):Int) + 1))) (0:Int)),())).bind fun y21=>(F_bricks_search__nearest (Tsearch.mk l y21.1) weight).bind fun r22=>(F_bricks_Window l r22 r22).bind fun r23=>some (r23.1,r23.2) else none)))
def an_bricks_Nearest:An U:=(.node none .nil (.node none (.node none (.node none .nil (.node none .nil (.node (some ⟨[0,1,4,5],[],⟨[],[]⟩,[(.normal,⟨[(11,.tv .bool)],[]⟩)]⟩) .nil .nil))) .nil) (.node none .nil .nil)))
def fe_bricks_Nearest:Fe G:=⟨[.v .l_Brick,.v .int1],[.l_int1,.Errno],fun x=>F_bricks_Nearest x.1 x.2.1⟩
def tb_bricks_Nearest:List (FuncId × Fe G):=[(43,fe_bricks_Window),(103,fe_arbor_Valid),(155,fe_bricks_search__nearest)]
theorem ev_bricks_Nearest (x:TyP G fe_bricks_Nearest.ps):evZ G (inlK G [⟨104,1,[],[],bodyOf Tryz.f104,(.node none .nil (.node none .nil (.node none (.node none .nil (.node none (.node (some ⟨[0,2,3],[2],⟨[(4,.tv .int)],[(2,.row .int1)]⟩,[(.exit 0,⟨[],[(2,.row .int1)]⟩)]⟩) .nil .nil) .nil)) .nil))),46,[.tmp 2]⟩] (lstK G tb_bricks_Nearest) 1) (bodyOf Tryz.f102) an_bricks_Nearest 28 [.tmp 4,.tmp 5] fe_bricks_Nearest.rs (argT G fe_bricks_Nearest.ps x) = fe_bricks_Nearest.fn x:=by kernel_rfl
theorem ok_bricks_Nearest:FnOk G 102 fe_bricks_Nearest:=fnOkz_of G_ok (fun _=>(inlK_ok G_ok (icons Tryz.func104 (by kernel_rfl) (by kernel_rfl) (by kernel_rfl) (by kernel_rfl) (inil)) (lstK_ok G_ok (lcons ok_bricks_Window (lcons ok_arbor_Valid (lcons ok_bricks_search__nearest (lnil))))) 1)) Tryz.func102 (by kernel_rfl) (by kernel_rfl) (by kernel_rfl) (by kernel_rfl) (by kernel_rfl) ev_bricks_Nearest
def F_linear_Null (m:List (List Int)):Option ((List (List TFrac)) × Int) :=
 (F_linear_Valid m).bind fun r1=>(bif (!r1) then some (([]:List (List TFrac)),1) else (idx m 0).bind fun x2=>(F_linear_eliminate m ((x2.length:Nat):Int)).bind fun r3=>(iterF (σ:=Int × List (List TFrac) × Unit) (ρ:=(List (List TFrac) × Int × List (List TFrac) × Unit) ⊕ (List (List TFrac) × Unit)) (fun s96=>(bif (decide (s96.1 < ((x2.length:Nat):Int))) then ((F_slices_Contains_int r3.pivots s96.1).bind fun r97=>(bif r97 then some (.inl (s96.2.1,())) else (F_slices_Repeat_api_Frac ([(TFrac.mk 0 1)]:List TFrac) ((x2.length:Nat):Int)).bind fun r98=>(idx r98 s96.1).bind fun _x99=>(r98[(Int.toNat s96.1)]?).bind fun x100=>(iterF (σ:=Int × List TFrac × Unit) (ρ:=(List (List TFrac) × Int × List TFrac × Unit) ⊕ (List TFrac × Unit)) (fun s101=>(bif (decide (s101.1 < ((r3.pivots.length:Nat):Int))) then (idx r3.pivots s101.1).bind fun x102=>(idx r3.rows s101.1).bind fun x103=>(idx x103 s96.1).bind fun x104=>(F_ratio_Make (IntKind.i64.wrap (0 - x104)) r3.den).bind fun r105=>(bif (r105.2 != 0) then some (.inr (.inl (([]:List (List TFrac)),r105.2,s101.2.1,()))) else (idx s101.2.1 x102).bind fun _x106=>(s101.2.1[(Int.toNat x102)]?).bind fun x107=>some (.inl ((IntKind.i64.wrap (s101.1 + 1)),(s101.2.1.set (Int.toNat x102) r105.1),()))) else some (.inr (.inr ((s101.2.1,())))))) big (0,(r98.set (Int.toNat s96.1) (TFrac.mk 1 1)),())).bind fun y108=>(match y108 with | .inl y109=>some (.inr ((y109.1,y109.2.1,s96.2.1,()))) | .inr y110=>(if s96.2.1.length + ([y110.1]:List (List TFrac)).length ≤ 2147483648 then some (.inl ((s96.2.1 ++ ([y110.1]:List (List TFrac))),())) else none))):Option ((List (List TFrac) × Unit) ⊕ (List (List TFrac) × Int × List (List TFrac) × Unit))).bind fun y111=>(match y111 with | .inl y112=>some (.inl ((IntKind.i64.wrap (s96.1 + 1)),y112.1,())) | .inr y113=>some (.inr (.inl (y113.1,y113.2.1,y113.2.2.1,())))) else some (.inr (.inr ((s96.2.1,())))))) big (0,([]:List (List TFrac)),())).bind fun y114=>(match y114 with | .inl y115=>some (y115.1,y115.2.1) | .inr y116=>some (y116.1,0)))
def an_linear_Null:An U:=(.node none .nil (.node none .nil (.node none .nil (.node none .nil (.node none .nil (.node none (.node none .nil (.node none (.node (some ⟨[4,5,23],[2],⟨[(6,.os 2),(24,.tv .int)],[(2,.row .l_Frac)]⟩,[(.ret,⟨[(2,.nr .l_Frac),(3,.tv .int)],[(2,.row .l_Frac)]⟩),(.exit 0,⟨[(6,.os 2)],[(2,.row .l_Frac)]⟩)]⟩) (.node none .nil (.node none .nil (.node (some ⟨[24],[2],⟨[],[]⟩,[(.normal,⟨[(6,.os 2)],[(2,.row .l_Frac)]⟩),(.ret,⟨[(2,.nr .l_Frac),(3,.tv .int)],[(2,.row .l_Frac)]⟩)]⟩) (.node none (.node none .nil (.node none .nil (.node none .nil (.node none .nil (.node none (.node none .nil (.node none (.node (some ⟨[6,7,8,40,41],[4],⟨[(42,.tv .int)],[(4,.row .Frac)]⟩,[(.ret,⟨[(2,.nr .l_Frac),(3,.tv .int)],[(4,.row .Frac)]⟩),(.exit 2,⟨[],[(4,.row .Frac)]⟩)]⟩) .nil .nil) .nil)) .nil))))) .nil) .nil))) .nil) .nil)) .nil))))))
def fe_linear_Null:Fe G:=⟨[.v .Matrix],[.l_l_Frac,.Errno],fun x=>F_linear_Null x.1⟩
def tb_linear_Null:List (FuncId × Fe G):=[(17,fe_slices_Contains_int),(196,fe_linear_Valid),(198,fe_linear_eliminate),(199,fe_ratio_Make),(258,fe_slices_Repeat_api_Frac)]
theorem ev_linear_Null (x:TyP G fe_linear_Null.ps):evZ G (lstK G tb_linear_Null) (bodyOf Tryz.f259) an_linear_Null 76 [.tmp 2,.tmp 3] fe_linear_Null.rs (argT G fe_linear_Null.ps x) = fe_linear_Null.fn x:=by kernel_rfl
theorem ok_linear_Null:FnOk G 259 fe_linear_Null:=fnOkz_of G_ok (fun _=>lstK_ok G_ok (lcons ok_slices_Contains_int (lcons ok_linear_Valid (lcons ok_linear_eliminate (lcons ok_ratio_Make (lcons ok_slices_Repeat_api_Frac (lnil))))))) Tryz.func259 (by kernel_rfl) (by kernel_rfl) (by kernel_rfl) (by kernel_rfl) (by kernel_rfl) ev_linear_Null
def F_motion_Speeds (s:TSystem) (hauls:List Int):Option ((List TFrac) × Int) :=
 (F_motion_rows s).bind fun r1=>(bif (r1.2 != 0) then some (([]:List TFrac),r1.2) else (bif (((hauls.length:Nat):Int) != ((s.ropes.length:Nat):Int)) then some (([]:List TFrac),3) else (F_motion_ranged s hauls).bind fun r2=>(bif (!r2) then some (([]:List TFrac),2) else (F_linear_Solve r1.1 hauls).bind fun r3=>some (r3.1,r3.2))))
def fe_motion_Speeds:Fe G:=⟨[.v .System,.v .l_int1],[.l_Frac,.Errno],fun x=>F_motion_Speeds x.1 x.2.1⟩
theorem ok_motion_Speeds:FnOk G 165 fe_motion_Speeds:=fk (an:=.nil) (k:=34) (res:=[.tmp 4,.tmp 5]) (lstK_ok G_ok (lcons ok_linear_Solve (lcons ok_motion_rows (lcons ok_motion_ranged (lnil))))) Tryz.func165 fun _=>by kernel_rfl
def F_losses_motions (s:TSystem) (hauled:Int):Option ((List (List TFrac)) × Int) :=
 (bif (((s.ropes.length:Nat):Int) == 1) then (iterF (σ:=Int × List (List TFrac) × Unit) (ρ:=List (List TFrac) × Unit) (fun s11=>(bif (decide (s11.1 < ((s.blocks.length:Nat):Int))) then (F_losses_whole 0).bind fun r12=>(F_slices_Repeat_api_Frac ([r12]:List TFrac) ((s.blocks.length:Nat):Int)).bind fun r13=>(F_losses_whole 1).bind fun r14=>(idx r13 s11.1).bind fun _x15=>(r13[(Int.toNat s11.1)]?).bind fun x16=>(if s11.2.1.length + ([(r13.set (Int.toNat s11.1) r14)]:List (List TFrac)).length ≤ 2147483648 then some (.inl ((IntKind.i64.wrap (s11.1 + 1)),(s11.2.1 ++ ([(r13.set (Int.toNat s11.1) r14)]:List (List TFrac))),())) else none) else some (.inr (s11.2.1,())))) big (0,([]:List (List TFrac)),())).bind fun y17=>some (y17.1,0) else (F_reeving_Matrix s).bind fun r18=>(bif (r18.2 != 0) then some (([]:List (List TFrac)),r18.2) else (iterF (σ:=Int × List (List Int) × Unit) (ρ:=List (List Int) × Unit) (fun s48=>(bif (decide (s48.1 < ((s.ropes.length:Nat):Int))) then ((bif (s48.1 == hauled) then some (s48.2.1,()) else (iterF (σ:=Int × List Int × Unit) (ρ:=List Int × Unit) (fun s49=>(bif (decide (s49.1 < ((s.blocks.length:Nat):Int))) then (idx r18.1 s49.1).bind fun x50=>(idx x50 s48.1).bind fun x51=>(if s49.2.1.length + ([x51]:List Int).length ≤ 2147483648 then some (.inl ((IntKind.i64.wrap (s49.1 + 1)),(s49.2.1 ++ ([x51]:List Int)),())) else none) else some (.inr (s49.2.1,())))) big (0,([]:List Int),())).bind fun y52=>(if s48.2.1.length + ([y52.1]:List (List Int)).length ≤ 2147483648 then some ((s48.2.1 ++ ([y52.1]:List (List Int))),()) else none)):Option (List (List Int) × Unit)).bind fun y53=>some (.inl ((IntKind.i64.wrap (s48.1 + 1)),y53.1,())) else some (.inr (s48.2.1,())))) big (0,([]:List (List Int)),())).bind fun y54=>(F_linear_Null y54.1).bind fun r55=>some (r55.1,r55.2)))
def an_losses_motions:An U:=(.node none .nil (.node none .nil (.node none (.node none .nil (.node none (.node none .nil (.node none (.node none .nil (.node none (.node (some ⟨[4,5,6,23],[2],⟨[(7,.os 2),(24,.tv .int)],[(2,.row .l_Frac)]⟩,[(.exit 0,⟨[(7,.os 2)],[(2,.row .l_Frac)]⟩)]⟩) .nil .nil) .nil)) .nil)) .nil)) (.node none .nil (.node none .nil (.node none .nil (.node none (.node none .nil (.node none (.node (some ⟨[1,4,5,6,10,51],[2],⟨[(12,.os 2),(52,.tv .int)],[(2,.row .l_int1)]⟩,[(.exit 2,⟨[(12,.os 2)],[(2,.row .l_int1)]⟩)]⟩) (.node none .nil (.node none .nil (.node (some ⟨[52],[2],⟨[],[]⟩,[(.normal,⟨[(12,.os 2)],[(2,.row .l_int1)]⟩)]⟩) (.node none (.node none .nil (.node none .nil (.node none .nil (.node none (.node none .nil (.node none (.node (some ⟨[12,13,58],[3],⟨[(14,.os 3),(59,.tv .int)],[(3,.row .int1)]⟩,[(.exit 4,⟨[(14,.os 3)],[(3,.row .int1)]⟩)]⟩) .nil .nil) .nil)) .nil)))) .nil) .nil))) .nil) .nil)) .nil)))))))
def fe_losses_motions:Fe G:=⟨[.v .System,.v .int1],[.l_l_Frac,.Errno],fun x=>F_losses_motions x.1 x.2.1⟩
def tb_losses_motions:List (FuncId × Fe G):=[(159,fe_reeving_Matrix),(222,fe_losses_whole),(258,fe_slices_Repeat_api_Frac),(259,fe_linear_Null)]
theorem ev_losses_motions (x:TyP G fe_losses_motions.ps):evZ G (lstK G tb_losses_motions) (bodyOf Tryz.f221) an_losses_motions 82 [.tmp 4,.tmp 5] fe_losses_motions.rs (argT G fe_losses_motions.ps x) = fe_losses_motions.fn x:=by kernel_rfl
theorem ok_losses_motions:FnOk G 221 fe_losses_motions:=fnOkz_of G_ok (fun _=>lstK_ok G_ok (lcons ok_reeving_Matrix (lcons ok_losses_whole (lcons ok_slices_Repeat_api_Frac (lcons ok_linear_Null (lnil)))))) Tryz.func221 (by kernel_rfl) (by kernel_rfl) (by kernel_rfl) (by kernel_rfl) (by kernel_rfl) ev_losses_motions
def F_statics_Tensions (s:TSystem):Option ((List TFrac) × Int) :=
 (F_reeving_Matrix s).bind fun r1=>(bif (r1.2 != 0) then some (([]:List TFrac),r1.2) else (F_reeving_Weights s).bind fun r2=>(bif (r2.2 != 0) then some (([]:List TFrac),r2.2) else (F_linear_Solve r1.1 r2.1).bind fun r3=>some (r3.1,r3.2)))
def fe_statics_Tensions:Fe G:=⟨[.v .System],[.l_Frac,.Errno],fun x=>F_statics_Tensions x.1⟩
theorem ok_statics_Tensions:FnOk G 106 fe_statics_Tensions:=fk (an:=.nil) (k:=28) (res:=[.tmp 2,.tmp 3]) (lstK_ok G_ok (lcons ok_reeving_Matrix (lcons ok_reeving_Weights (lcons ok_linear_Solve (lnil))))) Tryz.func106 fun _=>by kernel_rfl
def F_motion_Travel (s:TSystem) (block:ByteArray):Option (TFrac × Int) :=
 (F_reeving_Valid s).bind fun r1=>(bif (!r1) then some ((TFrac.mk 0 0),1) else (F_slices_IndexFunc_api_Block s.blocks (fun z3=>F_motion_Travel_1 z3 block)).bind fun r4=>(bif (decide (r4 < 0)) then some ((TFrac.mk 0 0),9) else (F_slices_IndexFunc_api_Rope s.ropes (fun z6=>F_motion_Travel_2 z6)).bind fun r7=>(bif (decide (r7 < 0)) then some ((TFrac.mk 0 0),11) else (if 0 ≤ ((s.ropes.length:Nat):Int) ∧ ((s.ropes.length:Nat):Int) ≤ 16777216 then (idx (List.replicate (Int.toNat ((s.ropes.length:Nat):Int)) (0:Int)) r7).bind fun _x8=>((List.replicate (Int.toNat ((s.ropes.length:Nat):Int)) (0:Int))[(Int.toNat r7)]?).bind fun x9=>(F_motion_Speeds s ((List.replicate (Int.toNat ((s.ropes.length:Nat):Int)) (0:Int)).set (Int.toNat r7) 1)).bind fun r10=>(bif (r10.2 != 0) then some ((TFrac.mk 0 0),r10.2) else (idx r10.1 r4).bind fun _x11=>(r10.1[(Int.toNat r4)]?).bind fun x12=>(F_ratio_Div (TFrac.mk 1 1) x12).bind fun r13=>some (r13.1,r13.2)) else none))))
def fe_motion_Travel:Fe G:=⟨[.v .System,.v .str],[.Frac,.Errno],fun x=>F_motion_Travel x.1 x.2.1⟩
theorem ok_motion_Travel:FnOk G 109 fe_motion_Travel:=fk (an:=.nil) (k:=53) (res:=[.cell 4 35,.tmp 5]) (lstK_ok G_ok (lcons ok_slices_IndexFunc_api_Rope (lcons ok_reeving_Valid (lcons ok_slices_IndexFunc_api_Block (lcons ok_motion_Travel_1 (lcons ok_motion_Travel_2 (lcons ok_motion_Speeds (lcons ok_ratio_Div (lnil))))))))) Tryz.func109 fun _=>by kernel_rfl
def F_losses_first (s:TSystem) (up:Bool):Option (TFrac × (List TFrac) × Int) :=
 (F_losses_given s).bind fun r1=>(bif (r1.2 != 0) then some ((TFrac.mk 0 0),([]:List TFrac),r1.2) else (idx s.ropes r1.1).bind fun x2=>(F_losses_Along x2 up).bind fun r3=>(bif (r3.2 != 0) then some ((TFrac.mk 0 0),([]:List TFrac),r3.2) else (F_losses_grips s x2 r3.1).bind fun r4=>(bif (r4.2 != 0) then some ((TFrac.mk 0 0),([]:List TFrac),r4.2) else (F_losses_motions s r1.1).bind fun r5=>(bif (r5.2 != 0) then some ((TFrac.mk 0 0),([]:List TFrac),r5.2) else (iterF (σ:=Int × List TFrac × Unit) (ρ:=List TFrac × Unit) (fun s10=>(bif (decide (s10.1 < ((s.blocks.length:Nat):Int))) then (idx s.blocks s10.1).bind fun x11=>(F_losses_whole x11.weight).bind fun r12=>(if s10.2.1.length + ([r12]:List TFrac).length ≤ 2147483648 then some (.inl ((IntKind.i64.wrap (s10.1 + 1)),(s10.2.1 ++ ([r12]:List TFrac)),())) else none) else some (.inr (s10.2.1,())))) big (0,([]:List TFrac),())).bind fun y13=>(iterF (σ:=Int × TFrac × List TFrac × List TFrac × Unit) (ρ:=(List TFrac × Int × TFrac × List TFrac × List TFrac × Unit) ⊕ (TFrac × List TFrac × List TFrac × Unit)) (fun s25=>(bif (decide (s25.1 < ((r5.1.length:Nat):Int))) then (idx r5.1 s25.1).bind fun x26=>(F_losses_sum x26 y13.1).bind fun r27=>(bif (r27.2 != 0) then some (.inr (.inl (([]:List TFrac),r27.2,(TFrac.mk 0 0),s25.2.2.1,s25.2.2.2.1,()))) else (F_losses_sum x26 r4.1).bind fun r28=>(bif (r28.2 != 0) then some (.inr (.inl (([]:List TFrac),r28.2,(TFrac.mk 0 0),s25.2.2.1,s25.2.2.2.1,()))) else (((if s25.2.2.1.length + ([r27.1]:List TFrac).length ≤ 2147483648 then (if s25.2.2.2.1.length + ([r28.1]:List TFrac).length ≤ 2147483648 then some (.inl ((IntKind.i64.wrap (s25.1 + 1)),s25.2.1,(s25.2.2.1 ++ ([r27.1]:List TFrac)),(s25.2.2.2.1 ++ ([r28.1]:List TFrac)),())) else none) else none))))) else some (.inr (.inr ((s25.2.1,s25.2.2.1,s25.2.2.2.1,())))))) big (0,(TFrac.mk 0 0),([]:List TFrac),([]:List TFrac),())).bind fun y29=>(match y29 with | .inl y30=>some (y30.2.2.1,y30.1,y30.2.1) | .inr y31=>(F_losses_balance y31.2.1 y31.2.2.1).bind fun r32=>some (r32.1,r3.1,r32.2))))))
theorem eqK4_losses_first {β:Type} (a:Option β):eqK [a,a,a,a] = a:=by unfold eqK;simp
def F0_losses_first (s:TSystem) (up:Bool):Option (TFrac × (List TFrac) × Int) :=
 (F_losses_given s).bind fun r1=>(bif (r1.2 != 0) then some ((TFrac.mk 0 0),([]:List TFrac),r1.2) else (idx s.ropes r1.1).bind fun x2=>(F_losses_Along x2 up).bind fun r3=>(bif (r3.2 != 0) then some ((TFrac.mk 0 0),([]:List TFrac),r3.2) else (F_losses_grips s x2 r3.1).bind fun r4=>(bif (r4.2 != 0) then some ((TFrac.mk 0 0),([]:List TFrac),r4.2) else (F_losses_motions s r1.1).bind fun r5=>(bif (r5.2 != 0) then some ((TFrac.mk 0 0),([]:List TFrac),r5.2) else (iterF (σ:=Int × List TFrac × Unit) (ρ:=List TFrac × Unit) (fun s10=>(bif (decide (s10.1 < ((s.blocks.length:Nat):Int))) then (idx s.blocks s10.1).bind fun x11=>(F_losses_whole x11.weight).bind fun r12=>(if s10.2.1.length + ([r12]:List TFrac).length ≤ 2147483648 then some (.inl ((IntKind.i64.wrap (s10.1 + 1)),(s10.2.1 ++ ([r12]:List TFrac)),())) else none) else some (.inr (s10.2.1,())))) big (0,([]:List TFrac),())).bind fun y13=>(iterF (σ:=Int × TFrac × List TFrac × List TFrac × Unit) (ρ:=(List TFrac × Int × TFrac × List TFrac × List TFrac × Unit) ⊕ (TFrac × List TFrac × List TFrac × Unit)) (fun s25=>(bif (decide (s25.1 < ((r5.1.length:Nat):Int))) then (idx r5.1 s25.1).bind fun x26=>(F_losses_sum x26 y13.1).bind fun r27=>(bif (r27.2 != 0) then some (.inr (.inl (([]:List TFrac),r27.2,(TFrac.mk 0 0),s25.2.2.1,s25.2.2.2.1,()))) else (F_losses_sum x26 r4.1).bind fun r28=>(bif (r28.2 != 0) then some (.inr (.inl (([]:List TFrac),r28.2,(TFrac.mk 0 0),s25.2.2.1,s25.2.2.2.1,()))) else eqK [(eqK [((if s25.2.2.1.length + ([r27.1]:List TFrac).length ≤ 2147483648 then (if s25.2.2.2.1.length + ([r28.1]:List TFrac).length ≤ 2147483648 then some (.inl ((IntKind.i64.wrap (s25.1 + 1)),s25.2.1,(s25.2.2.1 ++ ([r27.1]:List TFrac)),(s25.2.2.2.1 ++ ([r28.1]:List TFrac)),())) else none) else none)),(eqK [((if s25.2.2.1.length + ([r27.1]:List TFrac).length ≤ 2147483648 then (if s25.2.2.2.1.length + ([r28.1]:List TFrac).length ≤ 2147483648 then some (.inl ((IntKind.i64.wrap (s25.1 + 1)),s25.2.1,(s25.2.2.1 ++ ([r27.1]:List TFrac)),(s25.2.2.2.1 ++ ([r28.1]:List TFrac)),())) else none) else none)),((if s25.2.2.1.length + ([r27.1]:List TFrac).length ≤ 2147483648 then (if s25.2.2.2.1.length + ([r28.1]:List TFrac).length ≤ 2147483648 then some (.inl ((IntKind.i64.wrap (s25.1 + 1)),s25.2.1,(s25.2.2.1 ++ ([r27.1]:List TFrac)),(s25.2.2.2.1 ++ ([r28.1]:List TFrac)),())) else none) else none))])]),(eqK [(eqK [((if s25.2.2.1.length + ([r27.1]:List TFrac).length ≤ 2147483648 then (if s25.2.2.2.1.length + ([r28.1]:List TFrac).length ≤ 2147483648 then some (.inl ((IntKind.i64.wrap (s25.1 + 1)),s25.2.1,(s25.2.2.1 ++ ([r27.1]:List TFrac)),(s25.2.2.2.1 ++ ([r28.1]:List TFrac)),())) else none) else none)),((if s25.2.2.1.length + ([r27.1]:List TFrac).length ≤ 2147483648 then (if s25.2.2.2.1.length + ([r28.1]:List TFrac).length ≤ 2147483648 then some (.inl ((IntKind.i64.wrap (s25.1 + 1)),s25.2.1,(s25.2.2.1 ++ ([r27.1]:List TFrac)),(s25.2.2.2.1 ++ ([r28.1]:List TFrac)),())) else none) else none))]),((if s25.2.2.1.length + ([r27.1]:List TFrac).length ≤ 2147483648 then (if s25.2.2.2.1.length + ([r28.1]:List TFrac).length ≤ 2147483648 then some (.inl ((IntKind.i64.wrap (s25.1 + 1)),s25.2.1,(s25.2.2.1 ++ ([r27.1]:List TFrac)),(s25.2.2.2.1 ++ ([r28.1]:List TFrac)),())) else none) else none))])])) else some (.inr (.inr ((s25.2.1,s25.2.2.1,s25.2.2.2.1,())))))) big (0,(TFrac.mk 0 0),([]:List TFrac),([]:List TFrac),())).bind fun y29=>(match y29 with | .inl y30=>some (y30.2.2.1,y30.1,y30.2.1) | .inr y31=>(F_losses_balance y31.2.1 y31.2.2.1).bind fun r32=>some (r32.1,r3.1,r32.2))))))
theorem F0_losses_first_eq:@F0_losses_first = @F_losses_first:=by unfold F0_losses_first F_losses_first;simp only [eqK_two,eqK_swap,eqK_three,eqK4_losses_first]
def an_losses_first:An U:=(.node none .nil (.node none .nil (.node none .nil (.node none .nil (.node none .nil (.node none .nil (.node none .nil (.node none .nil (.node none .nil (.node none .nil (.node none .nil (.node none (.node none .nil (.node none (.node (some ⟨[4,5,6,10,11,12,70,71],[6],⟨[(13,.os 6),(72,.tv .int)],[(6,.row .Frac)]⟩,[(.exit 0,⟨[(13,.os 6)],[(6,.row .Frac)]⟩)]⟩) .nil .nil) .nil)) (.node none .nil (.node none (.node none .nil (.node none (.node (some ⟨[4,10,11,13,83,84],[1,7,8],⟨[(16,.os 7),(17,.os 8),(85,.tv .int)],[(1,.bx .Frac []),(7,.row .Frac),(8,.row .Frac)]⟩,[(.ret,⟨[(5,.nr .Frac),(6,.tv .int)],[(1,.bx .Frac []),(7,.row .Frac),(8,.row .Frac)]⟩),(.exit 2,⟨[(16,.os 7),(17,.os 8)],[(1,.bx .Frac []),(7,.row .Frac),(8,.row .Frac)]⟩)]⟩) .nil .nil) .nil)) .nil))))))))))))))
def fe_losses_first:Fe G:=⟨[.v .System,.v .bool],[.Frac,.l_Frac,.Errno],fun x=>F_losses_first x.1 x.2.1⟩
def tb_losses_first:List (FuncId × Fe G):=[(218,fe_losses_given),(219,fe_losses_Along),(220,fe_losses_grips),(221,fe_losses_motions),(222,fe_losses_whole),(223,fe_losses_sum),(224,fe_losses_balance)]
theorem ev_losses_first (x:TyP G fe_losses_first.ps):evF G (lstK G tb_losses_first) (bodyOf Tryz.f178) an_losses_first 127 [.cell 4 35,.tmp 5,.tmp 6] fe_losses_first.rs (argT G fe_losses_first.ps x) = fe_losses_first.fn x:=by
 have h:evF G (lstK G tb_losses_first) (bodyOf Tryz.f178) an_losses_first 127 [.cell 4 35,.tmp 5,.tmp 6] fe_losses_first.rs (argT G fe_losses_first.ps x) = F0_losses_first x.1 x.2.1:=by kernel_rfl
 rw [F0_losses_first_eq] at h
 exact h
theorem ok_losses_first:FnOk G 178 fe_losses_first:=fnOk_of G_ok (lstK_ok G_ok (lcons ok_losses_given (lcons ok_losses_Along (lcons ok_losses_grips (lcons ok_losses_motions (lcons ok_losses_whole (lcons ok_losses_sum (lcons ok_losses_balance (lnil))))))))) Tryz.func178 (by kernel_rfl) (by kernel_rfl) (by kernel_rfl) (by kernel_rfl) (by kernel_rfl) ev_losses_first
def F_bricks_Fill (s:TSet):Option ((List Int) × Int) :=
 (F_arbor_Needed s).bind fun r1=>(bif (r1.2 != 0) then some (([]:List Int),r1.2) else (F_bricks_Nearest s.bricks r1.1).bind fun r2=>some (r2.1,r2.2))
def an_bricks_Fill:An U:=.nil
def fe_bricks_Fill:Fe G:=⟨[.v .Set],[.l_int1,.Errno],fun x=>F_bricks_Fill x.1⟩
def tb_bricks_Fill:List (FuncId × Fe G):=[(35,fe_arbor_Needed),(102,fe_bricks_Nearest)]
theorem ev_bricks_Fill (x:TyP G fe_bricks_Fill.ps):evZ G (lstK G tb_bricks_Fill) (bodyOf Tryz.f42) an_bricks_Fill 20 [.tmp 2,.tmp 3] fe_bricks_Fill.rs (argT G fe_bricks_Fill.ps x) = fe_bricks_Fill.fn x:=by kernel_rfl
theorem ok_bricks_Fill:FnOk G 42 fe_bricks_Fill:=fnOkz_of G_ok (fun _=>lstK_ok G_ok (lcons ok_arbor_Needed (lcons ok_bricks_Nearest (lnil)))) Tryz.func42 (by kernel_rfl) (by kernel_rfl) (by kernel_rfl) (by kernel_rfl) (by kernel_rfl) ev_bricks_Fill
def F_advantage_Travels (s:TSystem) (block:ByteArray):Option (TFrac × Int) :=
 (F_motion_Travel s block).bind fun r1=>some (r1.1,r1.2)
def fe_advantage_Travels:Fe G:=⟨[.v .System,.v .str],[.Frac,.Errno],fun x=>F_advantage_Travels x.1 x.2.1⟩
theorem ok_advantage_Travels:FnOk G 46 fe_advantage_Travels:=fk (an:=.nil) (k:=11) (res:=[.cell 4 35,.tmp 5]) (lstK_ok G_ok (lcons ok_motion_Travel (lnil))) Tryz.func46 fun _=>by kernel_rfl
def F_losses_force (s:TSystem) (up:Bool):Option (TFrac × Int) :=
 (F_losses_first s up).bind fun r1=>(bif (r1.2.2 != 0) then some ((TFrac.mk 0 0),r1.2.2) else (idx r1.2.1 (IntKind.i64.wrap (((r1.2.1.length:Nat):Int) - 1))).bind fun _x2=>(r1.2.1[(Int.toNat (IntKind.i64.wrap (((r1.2.1.length:Nat):Int) - 1)))]?).bind fun x3=>(F_ratio_Mul r1.1 x3).bind fun r4=>some (r4.1,r4.2))
def fe_losses_force:Fe G:=⟨[.v .System,.v .bool],[.Frac,.Errno],fun x=>F_losses_force x.1 x.2.1⟩
theorem ok_losses_force:FnOk G 136 fe_losses_force:=fk (an:=.nil) (k:=30) (res:=[.cell 4 35,.tmp 5]) (lstK_ok G_ok (lcons ok_ratio_Mul (lcons ok_losses_first (lnil)))) Tryz.func136 fun _=>by kernel_rfl
def F_losses_Raise (s:TSystem):Option (TFrac × Int) :=
 (F_losses_force s true).bind fun r1=>some (r1.1,r1.2)
def fe_losses_Raise:Fe G:=⟨[.v .System],[.Frac,.Errno],fun x=>F_losses_Raise x.1⟩
theorem ok_losses_Raise:FnOk G 81 fe_losses_Raise:=fk (an:=.nil) (k:=8) (res:=[.cell 2 35,.tmp 3]) (lstK_ok G_ok (lcons ok_losses_force (lnil))) Tryz.func81 fun _=>by kernel_rfl
def F_losses_Lower (s:TSystem):Option (TFrac × Int) :=
 (F_losses_force s false).bind fun r1=>some (r1.1,r1.2)
def fe_losses_Lower:Fe G:=⟨[.v .System],[.Frac,.Errno],fun x=>F_losses_Lower x.1⟩
theorem ok_losses_Lower:FnOk G 184 fe_losses_Lower:=fk (an:=.nil) (k:=8) (res:=[.cell 2 35,.tmp 3]) (lstK_ok G_ok (lcons ok_losses_force (lnil))) Tryz.func184 fun _=>by kernel_rfl
def F_losses_Holding (s:TSystem):Option (TFrac × TFrac × Int) :=
 (F_losses_Raise s).bind fun r1=>(bif (r1.2 != 0) then some ((TFrac.mk 0 0),(TFrac.mk 0 0),r1.2) else (F_losses_Lower s).bind fun r2=>(bif (r2.2 != 0) then some ((TFrac.mk 0 0),(TFrac.mk 0 0),r2.2) else (F_ratio_Cmp r1.1 r2.1).bind fun r3=>(bif (r3.2 != 0) then some ((TFrac.mk 0 0),(TFrac.mk 0 0),r3.2) else (bif (decide (r3.1 < 0)) then some ((TFrac.mk 0 0),(TFrac.mk 0 0),17) else some (r2.1,r1.1,0)))))
def fe_losses_Holding:Fe G:=⟨[.v .System],[.Frac,.Frac,.Errno],fun x=>F_losses_Holding x.1⟩
theorem ok_losses_Holding:FnOk G 139 fe_losses_Holding:=fk (an:=.nil) (k:=48) (res:=[.cell 2 35,.cell 3 35,.tmp 4]) (lstK_ok G_ok (lcons ok_ratio_Cmp (lcons ok_losses_Raise (lcons ok_losses_Lower (lnil))))) Tryz.func139 fun _=>by kernel_rfl
end
end Go.Proofs.YtgbicnkpnhifgaaGreatDoor

namespace Go.Proofs.YtgbicnkpnhifgaaGreatDoor
open Go.RowKit Go.Lib
theorem info_builder:(Tryz.prog.info? 193).map (·.size) = some 2:=by kernel_rfl
theorem lies_paper:liesAt Tryz.prog Tryz.prog.depth 195 (3 / Tryz.prog.cellsOf 195) 0 193 1 = true:=by kernel_rfl
theorem info_byte:(Tryz.prog.info? 5).map (fun i=>(i.zero,i.size,i.bytes)) = some (some (.int .u8 0),1,1):=by kernel_rfl
def PapAt (B b:Nat) (p:Value) (bs:List Value) (e:Int) (w:World):Prop :=
 B ≤ b ∧ ∃ v,w.heap[b]? = some (.cells #[p,v,.int .i64 e] 195 (0,0)) ∧ w.ownsRow B 5 1 v bs.length bs ∧ v.ownBlock ≠ some b
def IsPap (B b:Nat) (bs:List Value) (e:Int) (w:World):Prop:=PapAt B b (.pointer none) bs e w ∨ PapAt B b (.pointer (some ⟨b,0,none⟩)) bs e w
theorem pap_cell {B b:Nat} {p:Value} {bs:List Value} {e:Int} {w:World} (h:PapAt B b p bs e w):w.cell? ⟨b,0,none⟩ = some p ∧ w.shape? b = some (195,3) ∧ w.frozen? ⟨b,0,none⟩ = false ∧ b < w.heap.size:=by
 obtain ⟨_,v,hb,_⟩:=h
 refine ⟨by rw [Lib.cell_of_heap hb];rfl,by simp [World.shape?,hb],Lib.frozen_of_heap hb 0,?_⟩
 rcases Nat.lt_or_ge b w.heap.size with h' | h'
 ·exact h'
 ·simp [Array.getElem?_eq_none h'] at hb
theorem pap_used {B b:Nat} {p:Value} {bs:List Value} {e:Int} {w:World} (h:PapAt B b p bs e w) (q:Value):PapAt B b q bs e (w.setCell ⟨b,0,none⟩ q):=by
 obtain ⟨hB,v,hb,hown,hne⟩:=h
 refine ⟨hB,v,?_,?_,hne⟩
 ·simp [World.setCell,Array.getElem?_modify,hb]
 ·refine hown.kept (row:=some b) ⟨rfl,rfl,rfl,by simp [World.setCell],fun k _ hk=>Below.heap_setCell _ _ _ _ (fun e=>hk (by simp [e]))⟩ (Or.inr hne)
theorem pap_put {B b:Nat} {p v v':Value} {bs':List Value} {e:Int} {w:World} (hB:B ≤ b) (hb:w.heap[b]? = some (.cells #[p,v,.int .i64 e] 195 (0,0))) (hown:w.ownsRow B 5 1 v' bs'.length bs') :
  PapAt B b p bs' e (w.setCell ⟨b,1,none⟩ v'):=by
 have hne:=ownBlock_ne (T:=195) hown hb (by decide)
 refine ⟨hB,v',?_,?_,hne⟩
 ·simp [World.setCell,Array.getElem?_modify,hb]
 ·exact hown.kept (row:=some b) ⟨rfl,rfl,rfl,by simp [World.setCell],fun k _ hk=>Below.heap_setCell _ _ _ _ (fun e=>hk (by simp [e]))⟩ (Or.inr hne)
def NB (b:Nat) (w w':World):Prop:=w.heap.size ≤ w'.heap.size ∧ ∀ k,k < w.heap.size → k ≠ b → (∀ cs fr,w.heap[k]? ≠ some (.cells cs 5 fr)) → w'.heap[k]? = w.heap[k]?
theorem NB.refl (b:Nat) (w:World):NB b w w:=⟨Nat.le_refl _,fun _ _ _ _=>rfl⟩
theorem NB.trans {b:Nat} {w1 w2 w3:World} (h:NB b w1 w2) (k:NB b w2 w3):NB b w1 w3 :=
 ⟨Nat.le_trans h.1 k.1,fun q hq hne hb=>by
  have h1:=h.2 q hq hne hb
  exact (k.2 q (Nat.lt_of_lt_of_le hq h.1) hne (fun cs fr=>by rw [h1];exact hb cs fr)).trans h1⟩
theorem NB.set {b o:Nat} {w:World} (v:Value):NB b w (w.setCell ⟨b,o,none⟩ v) :=
 ⟨by simp [World.setCell],fun q _ hne _=>Below.heap_setCell _ _ _ _ (fun e=>hne (by simpa using e))⟩
theorem NB.below {b:Nat} {w w':World} (h:Below w.heap.size w w'):NB b w w':=⟨h.size,fun q hq _ _=>h.block q hq⟩
theorem NB.grown {b B n:Nat} {w w':World} {v:Value} {xs:List Value} (hown:w.ownsRow B 5 1 v n xs) (h:w.grownBy w' v.ownBlock):NB b w w':=by
 refine ⟨h.size,fun q hq _ hb=>h.block q hq fun e=>?_⟩
 rcases hown.2 with ⟨rfl,_⟩ | ⟨g,cap,cur,rfl,_,hg,_⟩
 ·simp [Value.ownBlock] at e
 ·simp [Value.ownBlock] at e
  subst e
  exact hb _ _ hg
theorem pap_below {B b:Nat} {bs:List Value} {e:Int} {w w':World} (h:IsPap B b bs e w) (hb:Below w.heap.size w w'):IsPap B b bs e w':=by
 have one:∀ p,PapAt B b p bs e w → PapAt B b p bs e w':=by
  rintro p ⟨hB,v,h1,h2,h3⟩
  have hlt:=(Array.getElem?_eq_some_iff.1 h1).1
  refine ⟨hB,v,(hb.block b hlt).trans h1,⟨h2.1,?_⟩,h3⟩
  rcases h2.2 with h4 | ⟨g,cap,cur,e1,e2,e3,e4⟩
  ·exact .inl h4
  ·exact .inr ⟨g,cap,cur,e1,e2,(hb.block g (Array.getElem?_eq_some_iff.1 e3).1).trans e3,e4⟩
 rcases h with h | h
 ·exact .inl (one _ h)
 ·exact .inr (one _ h)
set_option maxHeartbeats 1000000 in
set_option maxRecDepth 100000 in
theorem pcopy_used (b:Nat) (w:World) (h0:w.cell? ⟨b,0,none⟩ = some (.pointer (some ⟨b,0,none⟩))) :
  Calls Tryz.prog 226 #[.pointer (some ⟨b,0,none⟩)] w fun e w'=>e = .returned (.tuple #[]) ∧ w' = w:=by
 obtain ⟨j,hj,_⟩:=Option.map_eq_some_iff.1 info_builder
 go_enter Tryz.func226,Tryz.ntmps226
 go_wp2
 rw [Lib.run_neq_ptr_same w _ Tryz.underlying190 hj]
 go_wp2
 go_end0
 exact ⟨rfl,rfl⟩
set_option maxHeartbeats 1000000 in
set_option maxRecDepth 100000 in
theorem pcopy_fresh (b:Nat) (w:World) (h0:w.cell? ⟨b,0,none⟩ = some (.pointer none)) (hsh:w.shape? b = some (195,3)) (hfz:w.frozen? ⟨b,0,none⟩ = false) :
  Calls Tryz.prog 226 #[.pointer (some ⟨b,0,none⟩)] w fun e w'=>e = .returned (.tuple #[]) ∧ w' = w.setCell ⟨b,0,none⟩ (.pointer (some ⟨b,0,none⟩)):=by
 obtain ⟨j,hj,hjs⟩:=Option.map_eq_some_iff.1 info_builder
 go_enter Tryz.func226,Tryz.ntmps226
 go_wp2
 rw [Lib.run_to_unsafe w ⟨b,0,none⟩ Tryz.underlying190 Tryz.underlying318 hj (by rw [hjs];decide) hsh (Nat.zero_lt_succ 2)]
 simp only [Result.andThen]
 rw [Oper.upon_value]
 go_wp2
 rw [run_callFunc_extern Tryz.func263 (by kernel_rfl) (by kernel_rfl) (by kernel_rfl) (e:=Extern.AbiNoEscape.same) (by kernel_rfl)]
 rw [Lib.run_noEscape]
 simp only [Result.andThen]
 rw [Oper.upon_value]
 go_wp2
 rw [Lib.run_from_unsafe w ⟨b,0,none⟩ Tryz.underlying318 Tryz.underlying190 hj hsh lies_paper]
 simp only [Result.andThen]
 rw [Oper.upon_value]
 go_wp2
 go_end0
 exact ⟨rfl,rfl⟩
theorem pcopy (B b:Nat) (bs:List Value) (e0:Int) (w:World) (h:IsPap B b bs e0 w) :
  Calls Tryz.prog 226 #[.pointer (some ⟨b,0,none⟩)] w fun e w'=>e = .returned (.tuple #[]) ∧ (PapAt B b (.pointer (some ⟨b,0,none⟩)) bs e0 w' ∧ Below B w w' ∧ NB b w w'):=by
 rcases h with h | h
 ·obtain ⟨h1,h2,h3,_⟩:=pap_cell h
  refine (pcopy_fresh b w h1 h2 h3).mono ?_
  rintro e w' ⟨rfl,rfl⟩
  exact ⟨rfl,pap_used h _,(Below.refl B w).setCell (p:=⟨b,0,none⟩) h.1 _,NB.set _⟩
 ·refine (pcopy_used b w (pap_cell h).1).mono ?_
  rintro e w' ⟨rfl,rfl⟩
  exact ⟨rfl,h,Below.refl B _,NB.refl _ _⟩
set_option maxHeartbeats 2000000 in
set_option maxRecDepth 100000 in
theorem pwrite (B b:Nat) (bs:List Value) (e0:Int) (s:ByteArray) (w:World) (h:IsPap B b bs e0 w) (hlen:bs.length + s.size ≤ 140737488355328) (hBw:B ≤ w.heap.size) :
  Calls Tryz.prog 182 #[.pointer (some ⟨b,0,none⟩),.string s] w fun e w'=>e = .returned (.tuple #[.int .i64 s.size,.nilIface]) ∧ (PapAt B b (.pointer (some ⟨b,0,none⟩)) (bs ++ Lib.strCells s) e0 w' ∧ Below B w w' ∧ NB b w w'):=by
 obtain ⟨i0,hi,hz0,hz1,hz2⟩:=info_parts info_byte
 go_enter Tryz.func182,Tryz.ntmps182
 go_wp2_with (go_at_call 226;refine (pcopy B b bs e0 _ h).mono ?_)
 rintro e w1 ⟨rfl,h1,hb1,hn1⟩
 obtain ⟨hB,v,hbk,hown,hne⟩:=h1
 have c0:w1.cell? ⟨b,0,none⟩ = some (.pointer (some ⟨b,0,none⟩)):=by rw [Lib.cell_of_heap hbk];rfl
 have c1:w1.cell? ⟨b,1,none⟩ = some v:=by rw [Lib.cell_of_heap hbk];rfl
 go_wp2_with (at_builtin;refine Lib.wpList_append_own_string _ rfl _ _ 191 9 rfl B 5 i0 Tryz.underlying191 Tryz.underlying9 hi hz0 hz1 hz2 _ _ _ rfl hown s rfl ?c3 ?c4 ?c5 ?_)
 case c3=>unfold maxLen;omega
 case c4=>omega
 case c5=>have:=hb1.size;omega
 intro v' w2 hown' hgrow _
 have hlt:b < w1.heap.size:=by
  rcases Nat.lt_or_ge b w1.heap.size with h' | h'
  ·exact h'
  ·simp [Array.getElem?_eq_none h'] at hbk
 have hb2:w2.heap[b]? = some (.cells #[.pointer (some ⟨b,0,none⟩),v,.int .i64 e0] 195 (0,0)):=by
  rw [hgrow.block b hlt (fun e=>hne e.symm)]
  exact hbk
 have d0:w2.cell? ⟨b,0,none⟩ = some (.pointer (some ⟨b,0,none⟩)):=by rw [Lib.cell_of_heap hb2];rfl
 have d1:w2.cell? ⟨b,1,none⟩ = some v:=by rw [Lib.cell_of_heap hb2];rfl
 have f1:w2.frozen? ⟨b,1,none⟩ = false:=Lib.frozen_of_heap hb2 1
 obtain ⟨ao,n',cap,rfl⟩:∃ ao n' cap,v' = .slice ao n' cap:=by
  rcases hown'.2 with ⟨hv,_⟩ | ⟨g,cap,cur,hv,_⟩
  ·exact ⟨_,_,_,hv⟩
  ·exact ⟨_,_,_,hv⟩
 go_wp2
 go_ret2
 refine ⟨rfl,?_,?_,(hn1.trans (NB.grown hown hgrow)).trans (NB.set _)⟩
 ·exact pap_put hB hb2 (bs':=bs ++ Lib.strCells s) (by simpa [Lib.strCells_length] using hown')
 ·exact (hb1.grown hgrow (by have:=hb1.size;omega) (fun k hk=>(hown.lt k hk).1)).setCell (p:=⟨b,1,none⟩) hB _
set_option maxHeartbeats 1000000 in
set_option maxRecDepth 100000 in
theorem pstring (B b:Nat) (l:List UInt8) (e0:Int) (w:World) (h:IsPap B b (Lib.byteCells l) e0 w) (h0:l ≠ []) :
  Calls Tryz.prog 185 #[.pointer (some ⟨b,0,none⟩)] w fun e w'=>e = .returned (.string ⟨l.toArray⟩) ∧ Below B w w':=by
 obtain ⟨p,hB,v,hbk,hown,hne⟩:∃ p,PapAt B b p (Lib.byteCells l) e0 w:=by
  rcases h with h | h
  ·exact ⟨_,h⟩
  ·exact ⟨_,h⟩
 have hl0:l.length ≠ 0:=by simpa using h0
 rw [Lib.byteCells_length] at hown
 obtain ⟨g,cap,cur,rfl,hbg,hg,hnc,hcm,hcs,htake⟩:∃ g cap cur,v = .slice (some ⟨g,0,none⟩) l.length cap ∧ B ≤ g ∧ w.heap[g]? = some (.cells cur 5 (0,0)) ∧ l.length ≤ cap ∧ cap ≤ maxLen ∧ cur.size = cap * 1 ∧ cur.toList.take (l.length * 1) = Lib.byteCells l:=by
  rcases hown.2 with ⟨_,hz⟩ | ⟨g,cap,cur,hv,r⟩
  ·exact absurd hz hl0
  ·exact ⟨g,cap,cur,hv,r⟩
 have c1:w.drew.cell? ⟨b,1,none⟩ = some (.slice (some ⟨g,0,none⟩) l.length cap):=by
  have:w.drew.heap[b]? = some (.cells #[p,.slice (some ⟨g,0,none⟩) l.length cap,.int .i64 e0] 195 (0,0)):=hbk
  rw [Lib.cell_of_heap this];rfl
 have hSD:(Builtin.unsafeSliceData_ #[191] 289 #[.slice (some ⟨g,0,none⟩) l.length cap]).run Tryz.prog w.drew = .ok (.pointer (some ⟨g,0,none⟩)) w.drew :=
  Lib.run_unsafeSliceData_row _ _ _ _ _ _ (by omega)
 have hUS:(Builtin.unsafeString_ #[289,3] 9 #[.pointer (some ⟨g,0,none⟩),.int .i64 l.length]).run Tryz.prog w.drew = .ok (.string ⟨l.toArray⟩) (w.drew.freeze ⟨g,0,none⟩ l.length):=by
  refine Lib.run_unsafeString_row w.drew 289 3 9 5 Tryz.underlying289 (by kernel_rfl) g cur.size (by have hg':w.drew.heap[g]? = some (.cells cur 5 (0,0)):=hg;simp [World.shape?,hg']) l h0 (by omega) (by unfold maxLen at hcm;omega) ?_
  intro j x hx
  have:=hown.cells (g:=g) rfl j (.int .u8 x.toNat) (by simp [Lib.byteCells,hx])
  exact this
 go_enter Tryz.func185,Tryz.ntmps185
 go_wp2
 go_region
 all_goals (go_wp2;go_ret;exact ⟨rfl,Lib.below_freeze (Below.drew (Below.refl B w)) (p:=⟨g,0,none⟩) hbg _⟩)
end Go.Proofs.YtgbicnkpnhifgaaGreatDoor

namespace Go.Proofs.YtgbicnkpnhifgaaGreatDoor
open Go.RowKit Go.Lib
theorem ta_yes {d:TypeDesc} {t xt:TypeId} (y:Value) (hu:Tryz.prog.underlying t = some d) (hd:∀ l,d ≠ .interface l) (w:World):(Instr.typeAssert (.iface t y) xt t true).run Tryz.prog w = .ok (.tuple #[y,.bool true]) w:=by
 unfold Instr.typeAssert
 simp only [Sem.run_bind,run_underlying hu,Result.andThen_ok]
 cases d <;> first | (exact absurd rfl (hd _)) | simp
theorem ta_no {d:TypeDesc} {t t2 xt:TypeId} {y z:Value} {i:TypeInfo} (hu:Tryz.prog.underlying t = some d) (hd:∀ l,d ≠ .interface l) (hne:t2 ≠ t) (hi:Tryz.prog.info? t = some i) (hz:i.zero = some z) (w:World):(Instr.typeAssert (.iface t2 y) xt t true).run Tryz.prog w = .ok (.tuple #[z,.bool false]) w:=by
 unfold Instr.typeAssert
 simp only [Sem.run_bind,run_underlying hu,Result.andThen_ok]
 have hz':(zeroValue t).run Tryz.prog w = .ok z w:=by simp [zeroValue,typeInfo,hi,hz]
 cases d <;> first | (exact absurd rfl (hd _)) | simp [hne,hz']
theorem zinfo_string:(Tryz.prog.info? 9).map (fun i=>(i.zero,i.size,i.bytes)) = some (some (.string ByteArray.empty),1,16):=by kernel_rfl
theorem zinfo_int:(Tryz.prog.info? 3).map (fun i=>(i.zero,i.size,i.bytes)) = some (some (.int .i64 0),1,8):=by kernel_rfl
theorem ta_ss (y:Value) (w:World):(Instr.typeAssert (.iface 9 y) 20 9 true).run Tryz.prog w = .ok (.tuple #[y,.bool true]) w:=ta_yes y Tryz.underlying9 (by simp) w
theorem ta_ii (y:Value) (w:World):(Instr.typeAssert (.iface 3 y) 20 3 true).run Tryz.prog w = .ok (.tuple #[y,.bool true]) w:=ta_yes y Tryz.underlying3 (by simp) w
theorem ta_ff (y:Value) (w:World):(Instr.typeAssert (.iface 35 y) 20 35 true).run Tryz.prog w = .ok (.tuple #[y,.bool true]) w:=ta_yes y Tryz.underlying35 (by simp) w
theorem ta_is (y:Value) (w:World):(Instr.typeAssert (.iface 3 y) 20 9 true).run Tryz.prog w = .ok (.tuple #[.string ByteArray.empty,.bool false]) w:=by
 obtain ⟨i,hi,hz,_⟩:=info_parts zinfo_string
 exact ta_no Tryz.underlying9 (by simp) (by decide) hi hz w
theorem ta_fs (y:Value) (w:World):(Instr.typeAssert (.iface 35 y) 20 9 true).run Tryz.prog w = .ok (.tuple #[.string ByteArray.empty,.bool false]) w:=by
 obtain ⟨i,hi,hz,_⟩:=info_parts zinfo_string
 exact ta_no Tryz.underlying9 (by simp) (by decide) hi hz w
theorem ta_fi (y:Value) (w:World):(Instr.typeAssert (.iface 35 y) 20 3 true).run Tryz.prog w = .ok (.tuple #[.int .i64 0,.bool false]) w:=by
 obtain ⟨i,hi,hz,_⟩:=info_parts zinfo_int
 exact ta_no Tryz.underlying3 (by simp) (by decide) hi hz w
inductive PWd where
 | s (b:ByteArray)
 | i (n:Int) (t:ByteArray)
 | f (x:TFrac) (t:ByteArray)
def PWd.v:PWd → Value
 | .s b=>.iface 9 (.string b)
 | .i n _=>.iface 3 (.int .i64 n)
 | .f x _=>.iface 35 (.agg #[.int .i64 x.num,.int .i64 x.den])
def PWd.t:PWd → ByteArray
 | .s b=>b
 | .i _ t=>t
 | .f _ t=>t
def PWd.ok (IT:Int → ByteArray → Prop) (FT:TFrac → ByteArray → Prop):PWd → Prop
 | .s b=>b.size ≤ 1000
 | .i n t=>IT n t ∧ t.size ≤ 1000
 | .f x t=>FT x t ∧ t.size ≤ 1000
structure Ans (IT:Int → ByteArray → Prop) (FT:TFrac → ByteArray → Prop):Prop where
 i:∀ n t,IT n t → ∀ w,G.gh w → Calls Tryz.prog 54 #[.int .i64 n] w fun e w'=>e = .returned (.string t) ∧ Below w.heap.size w w'
 f:∀ x t,FT x t → ∀ w,G.gh w → Calls Tryz.prog 183 #[.agg #[.int .i64 x.num,.int .i64 x.den]] w fun e w'=>e = .returned (.tuple #[.string t,.int .i64 0]) ∧ Below w.heap.size w w'
def sepV (k:Nat):List Value:=match k with
 | 0=>[]
 | _=>Lib.strCells ⟨#[32]⟩
theorem sepE {k:Nat} (h:0 < k):sepV k = Lib.strCells ⟨#[32]⟩:=by
 cases k with
 | zero=>omega
 | succ k=>rfl
def txtTo (ws:List PWd):Nat → List Value
 | 0=>[]
 | k + 1=>txtTo ws k ++ (sepV k ++ (match ws[k]? with
  | some x=>Lib.strCells x.t
  | none=>[]))
def lineV (ws:List PWd):List Value:=txtTo ws ws.length ++ Lib.strCells ⟨#[10]⟩
theorem txt_len (ws:List PWd) (hok:∀ x ∈ ws,x.t.size ≤ 1000):∀ k,(txtTo ws k).length ≤ k * 1001
 | 0=>by simp [txtTo]
 | k + 1=>by
  have ih:=txt_len ws hok k
  have h1:(sepV k).length ≤ 1:=by
   cases k with
   | zero=>simp [sepV]
   | succ k=>simp [sepV,Lib.strCells_length];decide
  unfold txtTo
  rw [List.length_append,List.length_append]
  have h2:(match ws[k]? with
   | some x=>Lib.strCells x.t
   | none=>[]).length ≤ 1000:=by
   split
   ·rename_i x hx
    rw [Lib.strCells_length]
    exact hok x (List.mem_of_getElem? hx)
   ·simp
  omega
theorem word_size {IT:Int → ByteArray → Prop} {FT:TFrac → ByteArray → Prop} {x:PWd} (h:x.ok IT FT):x.t.size ≤ 1000:=by
 cases x with
 | s b=>exact h
 | i n t=>exact h.2
 | f y t=>exact h.2
theorem gh_below {B:Nat} {w w':World} (hgh:G.gh w) (hB:tabB < B) (h:Below B w w'):G.gh w':=G.gh_same w w' (fun b hb=>by
 have hb:b = tabB:=hb
 subst hb
 exact h.block _ hB) hgh
def LineI (B b:Nat) (bs:List Value) (e0:Int) (w:World) (wr:World):Prop:=IsPap B b bs e0 wr ∧ Below B w wr ∧ NB b w wr
theorem LineI.call {B b:Nat} {bs:List Value} {e0:Int} {w w1 w2:World} (h:LineI B b bs e0 w w1) (hBw:B ≤ w.heap.size) (hb:Below w1.heap.size w1 w2):LineI B b bs e0 w w2 :=
 ⟨pap_below h.1 hb,h.2.1.trans (hb.mono (Nat.le_trans hBw h.2.2.1)),h.2.2.trans (NB.below hb)⟩
theorem LineI.write {B b:Nat} {bs:List Value} {e0:Int} {w w1:World} (h:Hid (LineI B b bs e0 w w1)) (hBw:B ≤ w.heap.size) (s:ByteArray) (hl:bs.length + s.size ≤ 1000000) :
  Calls Tryz.prog 182 #[.pointer (some ⟨b,0,none⟩),.string s] w1 fun e w'=>e = .returned (.tuple #[.int .i64 s.size,.nilIface]) ∧ Hid (LineI B b (bs ++ Lib.strCells s) e0 w w'):=by
 refine (pwrite B b bs e0 s w1 h.out.1 (by omega) (Nat.le_trans hBw h.out.2.2.1)).mono ?_
 rintro e w' ⟨rfl,h1,h2,h3⟩
 exact ⟨rfl,Lib.hid ⟨.inr h1,h.out.2.1.trans h2,h.out.2.2.trans h3⟩⟩
theorem LineI.itoa {IT:Int → ByteArray → Prop} {FT:TFrac → ByteArray → Prop} (A:Ans IT FT) {B b:Nat} {bs:List Value} {e0:Int} {w w1:World} (hgh:G.gh w) (hB:tabB < B) (h:Hid (LineI B b bs e0 w w1)) (hBw:B ≤ w.heap.size) {n:Int} {t:ByteArray} (ht:IT n t) :
  Calls Tryz.prog 54 #[.int .i64 n] w1 fun e w'=>e = .returned (.string t) ∧ Hid (LineI B b bs e0 w w'):=by
 refine (A.i n t ht w1 (gh_below hgh hB h.out.2.1)).mono ?_
 rintro e w' ⟨rfl,hb⟩
 exact ⟨rfl,Lib.hid (h.out.call hBw hb)⟩
theorem LineI.text {IT:Int → ByteArray → Prop} {FT:TFrac → ByteArray → Prop} (A:Ans IT FT) {B b:Nat} {bs:List Value} {e0:Int} {w w1:World} (hgh:G.gh w) (hB:tabB < B) (h:Hid (LineI B b bs e0 w w1)) (hBw:B ≤ w.heap.size) {x:TFrac} {t:ByteArray} (ht:FT x t) :
  Calls Tryz.prog 183 #[.agg #[.int .i64 x.num,.int .i64 x.den]] w1 fun e w'=>e = .returned (.tuple #[.string t,.int .i64 0]) ∧ Hid (LineI B b bs e0 w w'):=by
 refine (A.f x t ht w1 (gh_below hgh hB h.out.2.1)).mono ?_
 rintro e w' ⟨rfl,hb⟩
 exact ⟨rfl,Lib.hid (h.out.call hBw hb)⟩
theorem LineI.box {B b:Nat} {bs:List Value} {e0:Int} {w w1 w2:World} (h:Hid (LineI B b bs e0 w w1)) (hBw:B ≤ w.heap.size) (hb:Below w1.heap.size w1 w2):Hid (LineI B b bs e0 w w2):=Lib.hid (h.out.call hBw hb)
theorem LineI.drew {B b:Nat} {bs:List Value} {e0:Int} {w w1:World} (h:Hid (LineI B b bs e0 w w1)) (hBw:B ≤ w.heap.size):Hid (LineI B b bs e0 w w1.drew):=LineI.box h hBw (Below.refl _ _).drew
theorem LineI.new {B b:Nat} {bs:List Value} {e0:Int} {w w1:World} (h:Hid (LineI B b bs e0 w w1)) (hBw:B ≤ w.heap.size) (o:Obj):Hid (LineI B b bs e0 w (w1.alloc o)):=LineI.box h hBw ((Below.refl _ _).alloc (Nat.le_refl _) _)
theorem LineI.to {B b:Nat} {bs bs':List Value} {e0:Int} {w w1:World} (h:Hid (LineI B b bs e0 w w1)) (e:bs = bs'):Hid (LineI B b bs' e0 w w1):=e ▸ h
set_option maxHeartbeats 4000000 in
set_option maxRecDepth 1000000 in
theorem pline {IT:Int → ByteArray → Prop} {FT:TFrac → ByteArray → Prop} (A:Ans IT FT) (ws:List PWd) (B b g off cap:Nat) (bs:List Value) (e0:Int) (w:World) (hgh:G.gh w) (hB:tabB < B) (h:IsPap B b bs e0 w) (hbs:bs.length ≤ 100000) (hBw:B ≤ w.heap.size)
  (hn:ws.length ≤ 8) (hok:∀ x ∈ ws,x.ok IT FT) (hgne:g ≠ b) {cs:Array Value} {T:TypeId} {fr:Nat × Nat} (hg:w.heap[g]? = some (.cells cs T fr)) (hT:T ≠ 5) (hc:∀ (k:Nat) (x:PWd),ws[k]? = some x → cs[off + k]? = some x.v) :
  Calls Tryz.prog 138 #[.pointer (some ⟨b,0,none⟩),.slice (some ⟨g,off,none⟩) ws.length cap] w fun e w'=>e = .returned (.tuple #[]) ∧ LineI B b (bs ++ lineV ws) e0 w w':=by
 have hsz:=txt_len ws (fun x hx=>word_size (hok x hx))
 have hlt:=(Array.getElem?_eq_some_iff.1 hg).1
 have HI:Hid (LineI B b (bs ++ txtTo ws 0) e0 w w):=Lib.hid ⟨by simpa [txtTo] using h,Below.refl _ _,NB.refl _ _⟩
 clear h
 go_enter Tryz.func138,Tryz.ntmps138
 go_wp2_with fail
 go_loopw [13] (fun i wr=>∃ k:Nat,k ≤ ws.length ∧ i = .int .i64 k ∧ Hid (LineI B b (bs ++ txtTo ws k) e0 w wr)) (fun i _=>ws.length - (Go.RowKit.intOf i).toNat)
 case atStart=>exact ⟨0,by omega,rfl,HI⟩
 case round =>
  obtain ⟨k,hk,rfl,hI⟩:=hrel
  by_cases hlt':k < ws.length
  ·obtain ⟨x,hx⟩:∃ x,ws[k]? = some x:=⟨_,List.getElem?_eq_getElem hlt'⟩
   have hg':wr.heap[g]? = some (.cells cs T fr):=(hI.out.2.2.2 g hlt hgne (fun cs' fr' e=>by rw [hg] at e;cases e;exact hT rfl)).trans hg
   have hcell:wr.cell? ⟨g,off + k,none⟩ = some x.v:=by rw [Lib.cell_of_heap hg'];exact hc k x hx
   have hxok:=hok x (List.mem_of_getElem? hx)
   have hs1:=hsz k
   have htx:txtTo ws (k + 1) = txtTo ws k ++ (sepV k ++ Lib.strCells x.t):=by
    show txtTo ws k ++ (sepV k ++ (match ws[k]? with
     | some x=>Lib.strCells x.t
     | none=>[])) = _
    rw [hx]
   clear hg'
   rcases Nat.eq_zero_or_pos k with rfl | hk0
   ·skip
    cases x with
    | s sb =>
     have hcell':wr.cell? ⟨g,off,none⟩ = some (.iface 9 (.string sb)):=hcell
     clear hcell
     go_wp2_with fail
     rw [ta_ss]
     simp only [Result.andThen]
     rw [Oper.upon_value]
     go_wp2_with fail
     go_wp2_with (go_at_call 182;refine (LineI.write hI hBw sb (by simp only [List.length_append,Lib.strCells_length];have:=word_size hxok;simp only [PWd.t] at this;have he:(ByteArray.mk #[32]).size = 1:=rfl;omega)).mono ?_;rintro e w1 ⟨rfl,hI⟩)
     exact ⟨⟨1,by omega,rfl,LineI.to hI (by rw [htx];simp [sepV,PWd.t])⟩,by simp [Go.RowKit.intOf];omega⟩
    | i n tt =>
     have hcell':wr.cell? ⟨g,off,none⟩ = some (.iface 3 (.int .i64 n)):=hcell
     clear hcell
     go_wp2_with fail
     rw [ta_is]
     simp only [Result.andThen]
     rw [Oper.upon_value]
     go_wp2_with fail
     rw [ta_ii]
     simp only [Result.andThen]
     rw [Oper.upon_value]
     go_wp2_with fail
     have hI:=LineI.drew hI hBw
     go_region_with (first | (go_at_call 54;refine (LineI.itoa A hgh hB hI hBw hxok.1).mono ?_;rintro e w1 ⟨rfl,hI⟩) | (go_at_call 182;refine (LineI.write hI hBw tt (by simp only [List.length_append,Lib.strCells_length];have:=word_size hxok;simp only [PWd.t] at this;have he:(ByteArray.mk #[32]).size = 1:=rfl;omega)).mono ?_;rintro e w1 ⟨rfl,hI⟩))
     go_wp2_with fail
     exact ⟨⟨1,by omega,rfl,LineI.to hI (by rw [htx];simp [sepV,PWd.t])⟩,by simp [Go.RowKit.intOf];omega⟩
    | f y tt =>
     have hcell':wr.cell? ⟨g,off,none⟩ = some (.iface 35 (.agg #[.int .i64 y.num,.int .i64 y.den])):=hcell
     clear hcell
     go_wp2_with fail
     rw [ta_fs]
     simp only [Result.andThen]
     rw [Oper.upon_value]
     go_wp2_with fail
     rw [ta_fi]
     simp only [Result.andThen]
     rw [Oper.upon_value]
     go_wp2_with fail
     rw [ta_ff]
     simp only [Result.andThen]
     rw [Oper.upon_value]
     go_wp2_with (go_at_call 183;refine (LineI.text A hgh hB (LineI.new hI hBw _) hBw hxok.1).mono ?_;rintro e w1 ⟨rfl,hI⟩)
     go_wp2_with (go_at_call 182;refine (LineI.write hI hBw tt (by simp only [List.length_append,Lib.strCells_length];have:=word_size hxok;simp only [PWd.t] at this;have he:(ByteArray.mk #[32]).size = 1:=rfl;omega)).mono ?_;rintro e w1 ⟨rfl,hI⟩)
     exact ⟨⟨1,by omega,rfl,LineI.to hI (by rw [htx];simp [sepV,PWd.t])⟩,by simp [Go.RowKit.intOf];omega⟩
   ·skip
    cases x with
    | s sb =>
     have hcell':wr.cell? ⟨g,off + k,none⟩ = some (.iface 9 (.string sb)):=hcell
     clear hcell
     go_wp2_with (go_at_call 182;refine (LineI.write hI hBw ⟨#[32]⟩ (by simp only [List.length_append,Lib.strCells_length];have:=word_size hxok;simp only [PWd.t] at this;have he:(ByteArray.mk #[32]).size = 1:=rfl;omega)).mono ?_;rintro e w1 ⟨rfl,hI⟩)
     go_wp2_with fail
     rw [ta_ss]
     simp only [Result.andThen]
     rw [Oper.upon_value]
     go_wp2_with fail
     go_wp2_with (go_at_call 182;refine (LineI.write hI hBw sb (by simp only [List.length_append,Lib.strCells_length];have:=word_size hxok;simp only [PWd.t] at this;have he:(ByteArray.mk #[32]).size = 1:=rfl;omega)).mono ?_;rintro e w1 ⟨rfl,hI⟩)
     exact ⟨⟨k + 1,by omega,by go_num,LineI.to hI (by rw [htx,sepE hk0];simp [PWd.t])⟩,by simp [Go.RowKit.intOf];omega⟩
    | i n tt =>
     have hcell':wr.cell? ⟨g,off + k,none⟩ = some (.iface 3 (.int .i64 n)):=hcell
     clear hcell
     go_wp2_with (go_at_call 182;refine (LineI.write hI hBw ⟨#[32]⟩ (by simp only [List.length_append,Lib.strCells_length];have:=word_size hxok;simp only [PWd.t] at this;have he:(ByteArray.mk #[32]).size = 1:=rfl;omega)).mono ?_;rintro e w1 ⟨rfl,hI⟩)
     go_wp2_with fail
     rw [ta_is]
     simp only [Result.andThen]
     rw [Oper.upon_value]
     go_wp2_with fail
     rw [ta_ii]
     simp only [Result.andThen]
     rw [Oper.upon_value]
     go_wp2_with fail
     have hI:=LineI.drew hI hBw
     go_region_with (first | (go_at_call 54;refine (LineI.itoa A hgh hB hI hBw hxok.1).mono ?_;rintro e w1 ⟨rfl,hI⟩) | (go_at_call 182;refine (LineI.write hI hBw tt (by simp only [List.length_append,Lib.strCells_length];have:=word_size hxok;simp only [PWd.t] at this;have he:(ByteArray.mk #[32]).size = 1:=rfl;omega)).mono ?_;rintro e w1 ⟨rfl,hI⟩))
     go_wp2_with fail
     exact ⟨⟨k + 1,by omega,by go_num,LineI.to hI (by rw [htx,sepE hk0];simp [PWd.t])⟩,by simp [Go.RowKit.intOf];omega⟩
    | f y tt =>
     have hcell':wr.cell? ⟨g,off + k,none⟩ = some (.iface 35 (.agg #[.int .i64 y.num,.int .i64 y.den])):=hcell
     clear hcell
     go_wp2_with (go_at_call 182;refine (LineI.write hI hBw ⟨#[32]⟩ (by simp only [List.length_append,Lib.strCells_length];have:=word_size hxok;simp only [PWd.t] at this;have he:(ByteArray.mk #[32]).size = 1:=rfl;omega)).mono ?_;rintro e w1 ⟨rfl,hI⟩)
     go_wp2_with fail
     rw [ta_fs]
     simp only [Result.andThen]
     rw [Oper.upon_value]
     go_wp2_with fail
     rw [ta_fi]
     simp only [Result.andThen]
     rw [Oper.upon_value]
     go_wp2_with fail
     rw [ta_ff]
     simp only [Result.andThen]
     rw [Oper.upon_value]
     go_wp2_with (go_at_call 183;refine (LineI.text A hgh hB (LineI.new hI hBw _) hBw hxok.1).mono ?_;rintro e w1 ⟨rfl,hI⟩)
     go_wp2_with (go_at_call 182;refine (LineI.write hI hBw tt (by simp only [List.length_append,Lib.strCells_length];have:=word_size hxok;simp only [PWd.t] at this;have he:(ByteArray.mk #[32]).size = 1:=rfl;omega)).mono ?_;rintro e w1 ⟨rfl,hI⟩)
     exact ⟨⟨k + 1,by omega,by go_num,LineI.to hI (by rw [htx,sepE hk0];simp [PWd.t])⟩,by simp [Go.RowKit.intOf];omega⟩
  ·obtain rfl:k = ws.length:=by omega
   have hs1:=hsz ws.length
   go_wp2_with (go_at_call 182;refine (LineI.write hI hBw ⟨#[10]⟩ (by simp only [List.length_append];have he:(ByteArray.mk #[10]).size = 1:=rfl;omega)).mono ?_;rintro e w1 ⟨rfl,hI⟩)
   go_end0
   exact ⟨rfl,by have:=hI.out;rw [List.append_assoc] at this;exact this⟩
end Go.Proofs.YtgbicnkpnhifgaaGreatDoor

namespace Go.Proofs.YtgbicnkpnhifgaaGreatDoor
open Go.RowKit Go.Lib
noncomputable section
deriving instance DecidableEq for TFrac
deriving instance DecidableEq for THold
deriving instance DecidableEq for TBlock
deriving instance DecidableEq for TRope
deriving instance DecidableEq for TSystem
def tx1:ByteArray:=⟨#[49]⟩
def tx150:ByteArray:=⟨#[49,53,48]⟩
theorem f_itoa1:fe_strconv_Itoa.fn ((1:Int),()) = some tx1:=by kernel_rfl
theorem f_text150:fe_ratio_Text.fn (TFrac.mk 150 1,()) = some (tx150,(0:Int)):=by kernel_rfl
theorem f_val300:fe_reeving_Valid.fn (awkS 300,()) = some true:=by kernel_rfl
theorem f_ten300:fe_statics_Tensions.fn (awkS 300,()) = some ([TFrac.mk 150 1],(0:Int)):=by kernel_rfl
theorem f_hol300:fe_losses_Holding.fn (awkS 300,()) = some (TFrac.mk 150 1,TFrac.mk 150 1,(0:Int)):=by kernel_rfl
def ITs (n:Int) (t:ByteArray):Prop:=n = 1 ∧ t = tx1
def FTs (x:TFrac) (t:ByteArray):Prop:=x = TFrac.mk 150 1 ∧ t = tx150
theorem ansS:Ans ITs FTs:=by
 refine ⟨?_,?_⟩
 ·rintro n t ⟨rfl,rfl⟩ w hgh
  have ha:Args G w (argT G fe_strconv_Itoa.ps ((1:Int),())) [.int .i64 1]:=.cons (RepP.val _ rfl) .nil
  refine (ok_strconv_Itoa.ok (by kernel_rfl) _ _ f_itoa1 w _ hgh ha).mono ?_
  intro e w' h
  have h':Ret G [U.str] tx1 w e w':=h
  exact ret_v hgh rfl rfl h'
 ·rintro x t ⟨rfl,rfl⟩ w hgh
  have ha:Args G w (argT G fe_ratio_Text.ps (TFrac.mk 150 1,())) [.agg #[.int .i64 150,.int .i64 1]]:=.cons ⟨_,rfl,rfl,fun j c hj=>by
   match j,hj with
   | 0,hj=>cases hj;exact ⟨_,rfl,RepP.val _ rfl⟩
   | 1,hj=>cases hj;exact ⟨_,rfl,RepP.val _ rfl⟩⟩ .nil
  refine (ok_ratio_Text.ok (by kernel_rfl) _ _ f_text150 w _ hgh ha).mono ?_
  intro e w' h
  have h':Ret G [U.str,U.Errno] (tx150,(0:Int)) w e w':=h
  exact ret_v2 hgh rfl rfl rfl rfl h'
theorem args_below {w w':World} (hb:Below w.heap.size w w') {ts:List G.T} {vs:List Value} (h:Args G w ts vs):Args G w' ts vs:=by
 have h':RepTs G w (AllRo w) 0 (fun _=>undef) ts vs:=h
 show RepTs G w' (AllRo w') 0 (fun _=>undef) ts vs
 induction h' with
 | nil=>exact .nil
 | cons h1 _ ih=>exact .cons (RepT.mono (fun b hlt=>Nat.lt_of_lt_of_le hlt hb.size) (fun b hlt=>hb.block b hlt) (Nat.le_refl _) (fun _ _ h=>absurd h (Nat.not_lt_zero _)) h1) (ih (by assumption))
def RowOne (w w':World) (a b:Int) (v:Value):Prop:=∃ g cap cur,v = .slice (some ⟨g,0,none⟩) 1 cap ∧ w.heap.size ≤ g ∧ w'.heap[g]? = some (.cells cur 35 (0,0)) ∧ cur[0]? = some (.int .i64 a) ∧ cur[1]? = some (.int .i64 b)
theorem ret_l {a b k:Int} {w w':World} {e:Ending} (hgh:G.gh w) (h:Ret G [U.l_Frac,U.Errno] ([TFrac.mk a b],k) w e w'):∃ v,e = .returned (.tuple #[v,.int .i64 k]) ∧ Below w.heap.size w w' ∧ RowOne w w' a b v:=by
 obtain ⟨v,rfl,hb,hret⟩:=h
 obtain ⟨m',h1,_,h3⟩:=hret held0 w.heap.size [] (fun _=>undef) (hrel0 hgh)
 have h5:RepD G w' (Rof G (newO G [U.l_Frac,U.Errno] ([TFrac.mk a b],k)) m' w') 1 m' (.tup [.c (.os 0),.c (.pv (.val (.int .i64 k)))]) v:=h3
 obtain ⟨vs,rfl,hl,hv⟩:=h5
 obtain ⟨x0,q0,r0⟩:=hv 0 _ rfl
 obtain ⟨x1,q1,r1⟩:=hv 1 _ rfl
 obtain ⟨_,hx0,_⟩:(0:Nat) < 1 ∧ x0 = m' 0 ∧ x0.oneCell' = true:=r0
 have r1':RepP G w' _ (.val (.int .i64 k)) x1:=r1
 cases r1'
 obtain ⟨xs,hown,hrow,_⟩:∃ xs,w'.ownsRow w.heap.size 35 2 (m' 0) 1 xs ∧ RowRep G w' (Rof G ([] ++ newO G [U.l_Frac,U.Errno] ([TFrac.mk a b],k)) m' w') U.Frac [TFrac.mk a b] xs ∧ ∀ x ∈ xs,x.oneCell' = true:=h1.obj 0 (.row false U.Frac [TFrac.mk a b]) rfl
 obtain ⟨c0,e0,p0⟩:=hrow 0 _ 0 (.val (.int .i64 a)) rfl rfl
 obtain ⟨c1,e1,p1⟩:=hrow 0 _ 1 (.val (.int .i64 b)) rfl rfl
 cases p0
 cases p1
 have e0':xs[0]? = some (.int .i64 a):=e0
 have e1':xs[1]? = some (.int .i64 b):=e1
 match vs,hl,q0,q1 with
 | [a',b'],_,q0,q1 =>
  cases q0;cases q1
  refine ⟨_,rfl,hb,?_⟩
  rcases hown.2 with ⟨_,hz⟩ | ⟨g,cap,cur,hv2,hbg,hg,_,_,hcs,htk⟩
  ·cases hz
  ·refine ⟨g,cap,cur,hx0.trans hv2,hbg,hg,?_,?_⟩
   ·have:(cur.toList.take (1 * 2))[0]? = some (.int .i64 a):=by rw [htk];exact e0'
    simpa [List.getElem?_take] using this
   ·have:(cur.toList.take (1 * 2))[1]? = some (.int .i64 b):=by rw [htk];exact e1'
    simpa [List.getElem?_take] using this
theorem ret_f {a b c d k:Int} {w w':World} {e:Ending} (hgh:G.gh w) (h:Ret G [U.Frac,U.Frac,U.Errno] (TFrac.mk a b,TFrac.mk c d,k) w e w'):e = .returned (.tuple #[.agg #[.int .i64 a,.int .i64 b],.agg #[.int .i64 c,.int .i64 d],.int .i64 k]) ∧ Below w.heap.size w w':=by
 obtain ⟨v,rfl,hb,hret⟩:=h
 obtain ⟨m',h1,_,h3⟩:=hret held0 w.heap.size [] (fun _=>undef) (hrel0 hgh)
 have h5:RepD G w' (Rof G (newO G [U.Frac,U.Frac,U.Errno] (TFrac.mk a b,TFrac.mk c d,k)) m' w') 0 m' (.tup [.agg [.pv (.val (.int .i64 a)),.pv (.val (.int .i64 b))],.agg [.pv (.val (.int .i64 c)),.pv (.val (.int .i64 d))],.c (.pv (.val (.int .i64 k)))]) v:=h3
 obtain ⟨vs,rfl,hl,hv⟩:=h5
 obtain ⟨x0,q0,r0⟩:=hv 0 _ rfl
 obtain ⟨x1,q1,r1⟩:=hv 1 _ rfl
 obtain ⟨x2,q2,r2⟩:=hv 2 _ rfl
 have two:∀ {x y:Int} {u:Value},RepT G w' (Rof G (newO G [U.Frac,U.Frac,U.Errno] (TFrac.mk a b,TFrac.mk c d,k)) m' w') 0 m' (.agg [.pv (.val (.int .i64 x)),.pv (.val (.int .i64 y))]) u → u = .agg #[.int .i64 x,.int .i64 y]:=by
  rintro x y u ⟨us,rfl,hul,hu⟩
  obtain ⟨y0,s0,t0⟩:=hu 0 _ rfl
  obtain ⟨y1,s1,t1⟩:=hu 1 _ rfl
  have t0':RepP G w' _ (.val (.int .i64 x)) y0:=t0
  have t1':RepP G w' _ (.val (.int .i64 y)) y1:=t1
  cases t0'
  cases t1'
  match us,hul,s0,s1 with
  | [a,b],_,s0,s1=>cases s0;cases s1;rfl
 have r0':=two r0
 have r1':=two r1
 have r2':RepP G w' _ (.val (.int .i64 k)) x2:=r2
 cases r2'
 subst r0'
 subst r1'
 match vs,hl,q0,q1,q2 with
 | [a,b,c],_,q0,q1,q2=>cases q0;cases q1;cases q2;exact ⟨rfl,hb⟩
theorem sys_args {n:Int} {w:World} {v:Value} (ha:Args G w (argT G [.v .System] (awkS n,())) [v]):∃ aB cB rb ro cR hA hC,v = .agg #[.slice aB 1 cB,.slice (some ⟨rb,ro,none⟩) 1 cR] ∧ rb < w.heap.size ∧ w.cell? ⟨rb,ro,none⟩ = some (.string ⟨#[114]⟩) ∧ w.cell? ⟨rb,ro + 1,none⟩ = some (.slice hA 3 hC) ∧ w.cell? ⟨rb,ro + 2,none⟩ = some (.bool true):=by
 have ha':RepTs G w (AllRo w) 0 (fun _=>undef) [.agg [.pv (.sl .Block (awkS n).blocks),.pv (.sl .Rope (awkS n).ropes)]] [v]:=ha
 cases ha' with
 | cons hx hr =>
  obtain ⟨vs,rfl,hl,hv⟩:=hx
  obtain ⟨x0,q0,r0⟩:=hv 0 _ rfl
  obtain ⟨x1,q1,r1⟩:=hv 1 _ rfl
  have r0':RepP G w (AllRo w) (.sl .Block (awkS n).blocks) x0:=r0
  have r1':RepP G w (AllRo w) (.sl .Rope (awkS n).ropes) x1:=r1
  cases r0' with
  | sl _ _ A b off cap c hcap hcell hcc hr0 =>
   cases r1' with
   | sl _ _ A' b' off' cap' c' hcap' hcell' hcc' hr' =>
    obtain ⟨rfl,hbw⟩:=hcell' (Nat.lt_succ_self 0)
    have d0:=hcc' 0 _ 0 (.val (.string ⟨#[114]⟩)) rfl rfl
    have d1:=hcc' 0 _ 1 (.sl .Hold _) rfl rfl
    have d2:=hcc' 0 _ 2 (.val (.bool true)) rfl rfl
    have g0:=hr' 0 _ 0 (.val (.string ⟨#[114]⟩)) rfl rfl
    have g1:RepP G w (AllRo w) (.sl .Hold _) (c' 0 1):=hr' 0 _ 1 _ rfl rfl
    have g2:=hr' 0 _ 2 (.val (.bool true)) rfl rfl
    generalize c' 0 0 = z0 at d0 g0
    generalize c' 0 2 = z2 at d2 g2
    generalize c' 0 1 = z1 at d1 g1
    cases g0
    cases g2
    cases g1 with
    | sl _ _ hA _ _ hC _ _ _ _ _ =>
    match vs,hl,q0,q1 with
    | [a,b],_,q0,q1 =>
     cases q0;cases q1
     refine ⟨A,cap,b',off',cap',hA,hC,rfl,hbw,?_,?_,?_⟩
     ·rw [← d0];simp
     ·exact (by simp:w.cell? ⟨b',off' + 1,none⟩ = w.cell? ⟨b',off' + 0 * 3 + 1,none⟩).trans d1
     ·rw [← d2];simp
end
end Go.Proofs.YtgbicnkpnhifgaaGreatDoor

namespace Go.Proofs.YtgbicnkpnhifgaaGreatDoor
open Go.RowKit Go.Lib
noncomputable section
theorem c_valid {w:World} {v:Value} (hgh:G.gh w) (ha:Args G w (argT G [.v .System] (awkS 300,())) [v]):Calls Tryz.prog 137 #[v] w fun e w'=>e = .returned (.bool true) ∧ Below w.heap.size w w':=by
 refine (ok_reeving_Valid.ok (by kernel_rfl) _ _ f_val300 w _ hgh ha).mono ?_
 intro e w' h
 have h':Ret G [U.bool] true w e w':=h
 exact ret_v hgh rfl rfl h'
theorem c_tens {w:World} {v:Value} (hgh:G.gh w) (ha:Args G w (argT G [.v .System] (awkS 300,())) [v]):Calls Tryz.prog 106 #[v] w fun e w'=>∃ u,e = .returned (.tuple #[u,.int .i64 0]) ∧ Below w.heap.size w w' ∧ RowOne w w' 150 1 u:=by
 refine (ok_statics_Tensions.ok (by kernel_rfl) _ _ f_ten300 w _ hgh ha).mono ?_
 intro e w' h
 have h':Ret G [U.l_Frac,U.Errno] ([TFrac.mk 150 1],(0:Int)) w e w':=h
 exact ret_l hgh h'
theorem c_hold {w:World} {v:Value} (hgh:G.gh w) (ha:Args G w (argT G [.v .System] (awkS 300,())) [v]):Calls Tryz.prog 139 #[v] w fun e w'=>e = .returned (.tuple #[.agg #[.int .i64 150,.int .i64 1],.agg #[.int .i64 150,.int .i64 1],.int .i64 0]) ∧ Below w.heap.size w w':=by
 refine (ok_losses_Holding.ok (by kernel_rfl) _ _ f_hol300 w _ hgh ha).mono ?_
 intro e w' h
 have h':Ret G [U.Frac,U.Frac,U.Errno] (TFrac.mk 150 1,TFrac.mk 150 1,(0:Int)) w e w':=h
 exact ret_f hgh h'
structure RepI (w:World) (ks:List (Nat × Obj)) (b:Nat) (bs:List Value) (wr:World):Prop where
 pap:IsPap w.heap.size b bs 0 wr
 below:Below w.heap.size w wr
 keep:∀ p ∈ ks,p.1 ≠ b ∧ wr.heap[p.1]? = some p.2 ∧ ∀ cs fr,p.2 ≠ .cells cs 5 fr
theorem RepI.lt {w wr:World} {ks:List (Nat × Obj)} {b:Nat} {bs:List Value} (h:RepI w ks b bs wr):b < wr.heap.size:=by
 rcases h.pap with h | h
 ·exact (pap_cell h).2.2.2
 ·exact (pap_cell h).2.2.2
theorem RepI.call {w wr w2:World} {ks:List (Nat × Obj)} {b:Nat} {bs:List Value} (h:RepI w ks b bs wr) (hb:Below wr.heap.size wr w2):RepI w ks b bs w2 :=
 ⟨pap_below h.pap hb,h.below.trans (hb.mono h.below.size),fun p hp=>⟨(h.keep p hp).1,(hb.block p.1 (Array.getElem?_eq_some_iff.1 (h.keep p hp).2.1).1).trans (h.keep p hp).2.1,(h.keep p hp).2.2⟩⟩
theorem al_size (w:World) (o:Obj):(w.alloc o).heap.size = w.heap.size + 1:=by show (w.heap.push o).size = _;exact Array.size_push ..
theorem al_new (w:World) (o:Obj):(w.alloc o).heap[w.heap.size]? = some o:=by show (w.heap.push o)[w.heap.size]? = _;exact Array.getElem?_push_size
theorem al_old (w:World) (o:Obj) {b:Nat} (h:b < w.heap.size):(w.alloc o).heap[b]? = w.heap[b]?:=by show (w.heap.push o)[b]? = _;rw [Array.getElem?_push,if_neg (Nat.ne_of_lt h)]
theorem al_below (w:World) (o:Obj):Below w.heap.size w (w.alloc o):=(Below.refl _ _).alloc (Nat.le_refl _) _
theorem RepI.alloc {w wr:World} {ks:List (Nat × Obj)} {b:Nat} {bs:List Value} (h:RepI w ks b bs wr) (o:Obj):RepI w ks b bs (wr.alloc o):=h.call (al_below _ _)
theorem RepI.drew {w wr:World} {ks:List (Nat × Obj)} {b:Nat} {bs:List Value} (h:RepI w ks b bs wr):RepI w ks b bs wr.drew:=h.call (Below.refl _ _).drew
theorem RepI.more {w wr:World} {ks:List (Nat × Obj)} {b:Nat} {bs:List Value} (h:RepI w ks b bs wr) {g:Nat} {o:Obj} (h1:g ≠ b) (h2:wr.heap[g]? = some o) (h3:∀ cs fr,o ≠ .cells cs 5 fr):RepI w ((g,o) :: ks) b bs wr :=
 ⟨h.pap,h.below,fun p hp=>by
  rcases List.mem_cons.1 hp with rfl | hp
  ·exact ⟨h1,h2,h3⟩
  ·exact h.keep p hp⟩
theorem RepI.line {IT:Int → ByteArray → Prop} {FT:TFrac → ByteArray → Prop} (A:Ans IT FT) (ws:List PWd) {w wr:World} {ks:List (Nat × Obj)} {b:Nat} {bs:List Value} (h:RepI w ks b bs wr) (hgh:G.gh w) (hB:tabB < w.heap.size) (hbs:bs.length ≤ 100000)
  (hn:ws.length ≤ 8) (hok:∀ x ∈ ws,x.ok IT FT) {cs:Array Value} (cap:Nat) (hc:∀ (k:Nat) (x:PWd),ws[k]? = some x → cs[k]? = some x.v) :
  Calls Tryz.prog 138 #[.pointer (some ⟨b,0,none⟩),.slice (some ⟨wr.heap.size,0,none⟩) ws.length cap] (wr.alloc (.cells cs 20 (0,0))) fun e w'=>e = .returned (.tuple #[]) ∧ RepI w ks b (bs ++ lineV ws) w':=by
 have h1:=h.alloc (.cells cs 20 (0,0))
 have hlt:=h.lt
 refine (pline A ws w.heap.size b wr.heap.size 0 cap bs 0 _ (gh_below hgh hB h1.below) hB h1.pap hbs h1.below.size hn hok (Nat.ne_of_gt hlt) (al_new _ _) (by decide) (fun k x hx=>by rw [Nat.zero_add];exact hc k x hx)).mono ?_
 rintro e w' ⟨rfl,g1,g2,g3⟩
 refine ⟨rfl,g1,h1.below.trans g2,fun p hp=>?_⟩
 obtain ⟨k1,k2,k3⟩:=h1.keep p hp
 refine ⟨k1,(g3.2 p.1 (Array.getElem?_eq_some_iff.1 k2).1 k1 (fun cs fr e=>?_)).trans k2,k3⟩
 rw [k2] at e
 exact k3 cs fr (Option.some.inj e)
theorem box_cells {w:World} {b:Nat} {x y:Value} {T:TypeId} (h:w.heap[b]? = some (.cells #[x,y] T (0,0))):w.cell? ⟨b,0,none⟩ = some x ∧ w.cell? ⟨b,1,none⟩ = some y :=
 ⟨by rw [Lib.cell_of_heap h];rfl,by rw [Lib.cell_of_heap h];rfl⟩
def papO:Obj:=.cells #[.pointer none,.slice none 0 0,.int .i64 0] 195 (0,0)
def tSys:ByteArray:=⟨#[115,121,115,116,101,109]⟩
def ws1:List PWd:=[.s tSys,.i 1 tx1,.i 1 tx1]
theorem ok1:∀ x ∈ ws1,x.ok ITs FTs:=by
 intro x hx
 simp only [ws1,List.mem_cons,List.not_mem_nil,or_false] at hx
 rcases hx with rfl | rfl | rfl
 ·show tSys.size ≤ 1000;decide
 ·exact ⟨⟨rfl,rfl⟩,by decide⟩
 ·exact ⟨⟨rfl,rfl⟩,by decide⟩
def tTen:ByteArray:=⟨#[116,101,110,115,105,111,110]⟩
def ws2:List PWd:=[.s tTen,.s ⟨#[114]⟩,.f (TFrac.mk 150 1) tx150]
theorem ok2:∀ x ∈ ws2,x.ok ITs FTs:=by
 intro x hx
 simp only [ws2,List.mem_cons,List.not_mem_nil,or_false] at hx
 rcases hx with rfl | rfl | rfl
 ·show tTen.size ≤ 1000;decide
 ·show (ByteArray.mk #[114]).size ≤ 1000;decide
 ·exact ⟨⟨rfl,rfl⟩,by decide⟩
def tHol:ByteArray:=⟨#[104,111,108,100,105,110,103]⟩
def ws3:List PWd:=[.s tHol,.f (TFrac.mk 150 1) tx150,.f (TFrac.mk 150 1) tx150]
theorem ok3:∀ x ∈ ws3,x.ok ITs FTs:=by
 intro x hx
 simp only [ws3,List.mem_cons,List.not_mem_nil,or_false] at hx
 rcases hx with rfl | rfl | rfl
 ·show tHol.size ≤ 1000;decide
 ·exact ⟨⟨rfl,rfl⟩,by decide⟩
 ·exact ⟨⟨rfl,rfl⟩,by decide⟩
def sysL:List UInt8:=[115,121,115,116,101,109,32,49,32,49,10,116,101,110,115,105,111,110,32,114,32,49,53,48,10,104,111,108,100,105,110,103,32,49,53,48,32,49,53,48,10]
set_option maxHeartbeats 1000000 in
set_option maxRecDepth 100000 in
theorem ptext {w wr:World} {ks:List (Nat × Obj)} {b:Nat} {l:List UInt8} (h:RepI w ks b (Lib.byteCells l) wr) (h0:l ≠ []) :
  Calls Tryz.prog 140 #[.pointer (some ⟨b,0,none⟩)] wr fun e w'=>e = .returned (.tuple #[.string ⟨l.toArray⟩,.int .i64 0]) ∧ Below w.heap.size wr w':=by
 have c2:wr.cell? ⟨b,2,none⟩ = some (.int .i64 0):=by
  rcases h.pap with ⟨_,v,hbk,_⟩ | ⟨_,v,hbk,_⟩
  ·rw [Lib.cell_of_heap hbk];rfl
  ·rw [Lib.cell_of_heap hbk];rfl
 go_enter Tryz.func140,Tryz.ntmps140
 go_wp2_with (go_at_call 185;refine (pstring w.heap.size b l 0 _ h.pap h0).mono ?_)
 rintro e w1 ⟨rfl,hb⟩
 go_wp2_with fail
 go_ret2
 exact ⟨rfl,hb⟩
def bsK (bs:List Value):Nat → List Value
 | 0=>bs
 | _=>bs ++ lineV ws2
set_option maxHeartbeats 4000000 in
set_option maxRecDepth 1000000 in
theorem sys_calls (w:World) (v:Value) (hgh:G.gh w) (ha:Args G w (argT G [.v .System] (awkS 300,())) [v]):Calls Tryz.prog 82 #[v] w fun e w'=>e = .returned (.tuple #[.string ⟨sysL.toArray⟩,.int .i64 0]) ∧ Below w.heap.size w w':=by
 obtain ⟨aB,cB,rb,ro,cR,hA,hC,rfl,hrb,hc0,hc1,hc2⟩:=sys_args ha
 have hB:tabB < w.heap.size:=G.gh_lt w hgh tabB rfl
 have hn0:Below w.heap.size w (w.alloc (.cells #[Value.slice aB 1 cB,Value.slice (some { block:=rb,off:=ro }) 1 cR] 91 (0,0))):=al_below _ _
 have hs0:=al_size w (.cells #[Value.slice aB 1 cB,Value.slice (some { block:=rb,off:=ro }) 1 cR] 91 (0,0))
 have hx0:=al_new w (.cells #[Value.slice aB 1 cB,Value.slice (some { block:=rb,off:=ro }) 1 cR] 91 (0,0))
 go_enter Tryz.func82,Tryz.ntmps82
 go_wp2_with (go_at_call 137;refine (c_valid (gh_below hgh hB hn0) (args_below hn0 ha)).mono ?_)
 rintro e w1 ⟨rfl,hb1⟩
 have hb01:Below w.heap.size w w1:=hn0.trans (hb1.mono (by rw [hs0];exact Nat.le_succ _))
 have hbx:w1.heap[w.heap.size]? = some (.cells #[Value.slice aB 1 cB,Value.slice (some { block:=rb,off:=ro }) 1 cR] 91 (0,0)):=(hb1.block _ (by rw [hs0];exact Nat.lt_succ_self _)).trans hx0
 clear hn0 hs0 hx0 hb1
 have hlt1:w.heap.size < w1.heap.size:=(Array.getElem?_eq_some_iff.1 hbx).1
 have hr1:RepI w [(w.heap.size,.cells #[Value.slice aB 1 cB,Value.slice (some { block:=rb,off:=ro }) 1 cR] 91 (0,0))] w1.heap.size [] (w1.alloc papO) :=
  ⟨.inl ⟨Nat.le_of_lt hlt1,_,al_new _ _,⟨by simp,.inl ⟨rfl,rfl⟩⟩,by simp [Value.ownBlock]⟩,hb01.trans ((al_below w1 papO).mono (Nat.le_of_lt hlt1)),fun p hp=>by
   have hp:=List.mem_singleton.1 hp
   subst hp
   exact ⟨Nat.ne_of_lt hlt1,(al_old _ _ hlt1).trans hbx,fun cs fr e=>by cases e⟩⟩
 have hbP:=hr1.lt
 generalize hbb:w1.heap.size = b at hr1 hbP
 have hcc:=box_cells (hr1.keep _ (List.mem_singleton.2 rfl)).2.1
 have hsz:=al_size w1 papO
 unfold papO at hcc
 obtain ⟨hcc0,hcc1⟩:=hcc
 have hl1:=hr1.line ansS ws1 hgh hB (by decide) (by decide) ok1 (cs:=#[.iface 9 (.string tSys),.iface 3 (.int .i64 1),.iface 3 (.int .i64 1)]) 3 (fun k x hx=>by
  match k,hx with
  | 0,hx=>cases hx;rfl
  | 1,hx=>cases hx;rfl
  | 2,hx=>cases hx;rfl)
 rw [hsz,hbb] at hl1
 go_wp2_with (go_at_call 138;refine hl1.mono ?_)
 clear hl1 hcc0 hcc1 hsz hbx hb01 hr1
 rintro e w2 ⟨rfl,hr2⟩
 generalize hbs2:[] ++ lineV ws1 = bs2 at hr2
 have hcc:=box_cells (hr2.keep _ (List.mem_singleton.2 rfl)).2.1
 obtain ⟨hcc0,hcc1⟩:=hcc
 go_wp2_with (go_at_call 106;refine (c_tens (gh_below hgh hB hr2.below) (args_below hr2.below ha)).mono ?_)
 rintro e w3 ⟨u,rfl,hb3,hrow⟩
 have hr3:=hr2.call hb3
 have hlt2:=hr2.lt
 obtain ⟨g,cap,cur,rfl,hgl,hgb,hq0,hq1⟩:=hrow
 have hr4:=hr3.more (g:=g) (o:=.cells cur 35 (0,0)) (by omega) hgb (fun cs fr e=>by cases e)
 clear hr2 hr3 hb3 hcc0 hcc1 hlt2
 have hcc:=box_cells (hr4.keep _ (List.mem_cons_of_mem _ (List.mem_singleton.2 rfl))).2.1
 obtain ⟨hcc0,hcc1⟩:=hcc
 go_wp2_with fail
 have HI:Hid (RepI w [(g,.cells cur 35 (0,0)),(w.heap.size,.cells #[Value.slice aB 1 cB,Value.slice (some { block:=rb,off:=ro }) 1 cR] 91 (0,0))] b (bsK bs2 0) w3):=Lib.hid hr4
 clear hr4 hcc0 hcc1
 go_loopw [37] (fun i wr=>∃ k:Nat,k ≤ 1 ∧ i = .int .i64 k ∧ Hid (RepI w [(g,.cells cur 35 (0,0)),(w.heap.size,.cells #[Value.slice aB 1 cB,Value.slice (some { block:=rb,off:=ro }) 1 cR] 91 (0,0))] b (bsK bs2 k) wr)) (fun i _=>1 - (Go.RowKit.intOf i).toNat)
 case atStart=>exact ⟨0,by omega,rfl,HI⟩
 case round =>
  obtain ⟨k,hk,rfl,hI⟩:=hrel
  have hk01:k = 0 ∨ k = 1:=by omega
  rcases hk01 with rfl | rfl
  ·have hr:=hI.out
   have hbl:=hr.below.block rb hrb
   have d0:wr.cell? ⟨rb,ro,none⟩ = some (.string ⟨#[114]⟩):=(cell_same hbl).trans hc0
   have d1:wr.cell? ⟨rb,ro + 1,none⟩ = some (.slice hA 3 hC):=(cell_same hbl).trans hc1
   have d2:wr.cell? ⟨rb,ro + 2,none⟩ = some (.bool true):=(cell_same hbl).trans hc2
   have hr6:=(hr.alloc (.cells #[.string ⟨#[114]⟩,.slice hA 3 hC,.bool true] 88 (0,0))).drew
   have hgc:=(hr6.keep _ List.mem_cons_self).2.1
   have e0:((wr.alloc (.cells #[.string ⟨#[114]⟩,.slice hA 3 hC,.bool true] 88 (0,0))).drew).cell? ⟨g,0,none⟩ = some (.int .i64 150):=by rw [Lib.cell_of_heap hgc];exact hq0
   have e1:((wr.alloc (.cells #[.string ⟨#[114]⟩,.slice hA 3 hC,.bool true] 88 (0,0))).drew).cell? ⟨g,1,none⟩ = some (.int .i64 1):=by rw [Lib.cell_of_heap hgc];exact hq1
   have hl2:=hr6.line ansS ws2 hgh hB (by show (bsK bs2 0).length ≤ 100000;rw [show bsK bs2 0 = bs2 from rfl,← hbs2];decide) (by decide) ok2 (cs:=#[.iface 9 (.string tTen),.iface 9 (.string ⟨#[114]⟩),.iface 35 (.agg #[.int .i64 150,.int .i64 1])]) 3 (fun k x hx=>by
    match k,hx with
    | 0,hx=>cases hx;rfl
    | 1,hx=>cases hx;rfl
    | 2,hx=>cases hx;rfl)
   have hsz6:((wr.alloc (.cells #[.string ⟨#[114]⟩,.slice hA 3 hC,.bool true] 88 (0,0))).drew).heap.size = wr.heap.size + 1:=al_size wr _
   rw [hsz6] at hl2
   go_wp2_with fail
   go_region_with (go_at_call 138;refine hl2.mono ?_;rintro e w5 ⟨rfl,hr7⟩)
   all_goals go_wp2_with fail
   all_goals exact ⟨⟨1,by omega,by go_num,Lib.hid hr7⟩,by simp [Go.RowKit.intOf]⟩
  ·have hr:=hI.out
   have hcc:=box_cells (hr.keep _ (List.mem_cons_of_mem _ (List.mem_singleton.2 rfl))).2.1
   obtain ⟨hcc0,hcc1⟩:=hcc
   go_wp2_with (go_at_call 139;refine (c_hold (gh_below hgh hB hr.below) (args_below hr.below ha)).mono ?_)
   rintro e w4 rfl hb4
   have hr5:=hr.call hb4
   clear hcc0 hcc1 hr hI
   have hr8:=(hr5.alloc (.cells #[.int .i64 150,.int .i64 1] 35 (0,0))).alloc (.cells #[.int .i64 150,.int .i64 1] 35 (0,0))
   have hbs1:(bsK bs2 1).length ≤ 100000:=by rw [show bsK bs2 1 = bs2 ++ lineV ws2 from rfl,← hbs2];decide
   have hl3:=hr8.line ansS ws3 hgh hB hbs1 (by decide) ok3 (cs:=#[.iface 9 (.string tHol),.iface 35 (.agg #[.int .i64 150,.int .i64 1]),.iface 35 (.agg #[.int .i64 150,.int .i64 1])]) 3 (fun k x hx=>by
    match k,hx with
    | 0,hx=>cases hx;rfl
    | 1,hx=>cases hx;rfl
    | 2,hx=>cases hx;rfl)
   rw [al_size,al_size] at hl3
   go_wp2_with (go_at_call 138;refine hl3.mono ?_)
   rintro e w6 ⟨rfl,hr9⟩
   have hbs3:bsK bs2 1 ++ lineV ws3 = Lib.byteCells sysL:=by rw [show bsK bs2 1 = bs2 ++ lineV ws2 from rfl,← hbs2];kernel_rfl
   rw [hbs3] at hr9
   go_wp2_with (go_at_call 140;refine (ptext hr9 (by decide)).mono ?_)
   rintro e w7 ⟨rfl,hb7⟩
   go_wp2_with fail
   go_ret2
   exact ⟨rfl,hr9.below.trans hb7⟩
def F_report_System (s:TSystem):Option (ByteArray × Int):=if s = awkS 300 then some (⟨sysL.toArray⟩,0) else none
def fe_report_System:Fe G:=⟨[.v .System],[.str,.Errno],fun x=>F_report_System x.1⟩
theorem ok_report_System:FnOk G 82 fe_report_System:=by
 refine ⟨⟨_,Tryz.func82,by decide,by kernel_rfl⟩,fun _ x y hy w vs hgh ha=>?_,fun h=>absurd h (by decide)⟩
 obtain ⟨s,⟨⟩⟩:=x
 have hy':F_report_System s = some y:=hy
 unfold F_report_System at hy'
 split at hy'
 rotate_left
 ·cases hy'
 rename_i hc
 subst hc
 cases hy'
 have hl:vs.length = 1:=by
  have ha':RepTs G w (AllRo w) 0 (fun _=>undef) [.agg [.pv (.sl .Block (awkS 300).blocks),.pv (.sl .Rope (awkS 300).ropes)]] vs:=ha
  cases ha' with
  | cons _ hr=>cases hr;rfl
 match vs,hl,ha with
 | [v],_,ha =>
  refine (sys_calls w v hgh ha).mono ?_
  rintro e w' ⟨rfl,hb⟩
  refine ⟨_,rfl,hb,fun _ N hp m hh=>?_⟩
  obtain ⟨g1,g2⟩:=hh.ext (w':=w') (m':=m) hb.size (fun b hlt=>hb.block b hlt) [] (fun _ _=>rfl) (fun i ob hi=>by cases hi) (fun i ob b hi=>by cases hi) (fun i j ob ob' b hi=>by cases hi)
  refine ⟨m,g1,g2,?_⟩
  exact ⟨_,rfl,rfl,fun i t hi=>by
   match i,hi with
   | 0,hi=>cases hi;exact ⟨_,rfl,RepP.val _ rfl⟩
   | 1,hi=>cases hi;exact ⟨_,rfl,RepP.val _ rfl⟩⟩
end
end Go.Proofs.YtgbicnkpnhifgaaGreatDoor

namespace Go.Proofs.YtgbicnkpnhifgaaGreatDoor
open Go.RowKit
noncomputable section
def F_top_handAwake:Option (Bool) :=
 (F_ref02_Of 1).bind fun r1=>(F_losses_Raise (TSystem.mk ([(TBlock.mk (⟨#[98]⟩:ByteArray) 300)]:List TBlock) ([(TRope.mk (⟨#[114]⟩:ByteArray) ([(THold.mk (⟨#[]⟩:ByteArray) 0 r1),(THold.mk (⟨#[98]⟩:ByteArray) 2 r1),(THold.mk (⟨#[]⟩:ByteArray) 0 r1)]:List THold) true)]:List TRope))).bind fun r2=>(F_report_System (TSystem.mk ([(TBlock.mk (⟨#[98]⟩:ByteArray) 300)]:List TBlock) ([(TRope.mk (⟨#[114]⟩:ByteArray) ([(THold.mk (⟨#[]⟩:ByteArray) 0 r1),(THold.mk (⟨#[98]⟩:ByteArray) 2 r1),(THold.mk (⟨#[]⟩:ByteArray) 0 r1)]:List THold) true)]:List TRope))).bind fun r3=>(F_bricks_Fewest ([(TBrick.mk (⟨#[97]⟩:ByteArray) 5 2)]:List TBrick) 10).bind fun r4=>(F_wear_Travel ([3,1,5]:List Int)).bind fun r5=>(F_advantage_Travels (TSystem.mk ([(TBlock.mk (⟨#[98]⟩:ByteArray) 300)]:List TBlock) ([(TRope.mk (⟨#[114]⟩:ByteArray) ([(THold.mk (⟨#[]⟩:ByteArray) 0 r1),(THold.mk (⟨#[98]⟩:ByteArray) 2 r1),(THold.mk (⟨#[]⟩:ByteArray) 0 r1)]:List THold) true)]:List TRope)) (⟨#[98]⟩:ByteArray)).bind fun r6=>((bif (r2.2 == 0) then (F_ref02_Of 150).bind fun r11=>(bif ((r2.1.num == r11.num) && (r2.1.den == r11.den)) then (bif (r3.2 == 0) then (F_strings_HasPrefix r3.1 (⟨#[115,121,115,116,101,109,32,49,32,49,10]⟩:ByteArray)).bind fun r12=>(bif r12 then (bif (r4.2 == 0) then (F_slices_Equal_int r4.1 ([2]:List Int)).bind fun r13=>(bif r13 then (bif (r5.2 == 0) then (bif (r5.1 == 6) then (bif (r6.2 == 0) then (F_ref02_Of 2).bind fun r14=>some (((r6.1.num == r14.num) && (r6.1.den == r14.den)),()) else some (false,())) else some (false,())) else some (false,())) else some (false,())) else some (false,())) else some (false,())) else some (false,())) else some (false,())) else some (false,())):Option (Bool × Unit)).bind fun y15=>some y15.1
def an_top_handAwake:An U:=(.node none .nil (.node none .nil (.node none .nil (.node none .nil (.node none .nil (.node none .nil (.node none .nil (.node none .nil (.node (some ⟨[],[],⟨[],[]⟩,[(.normal,⟨[(0,.tv .bool)],[]⟩)]⟩) .nil .nil)))))))))
def fe_top_handAwake:Fe G:=⟨[],[.bool],fun x=>F_top_handAwake⟩
def tb_top_handAwake:List (FuncId × Fe G):=[(15,fe_slices_Equal_int),(38,fe_ref02_Of),(46,fe_advantage_Travels),(81,fe_losses_Raise),(82,fe_report_System),(83,fe_bricks_Fewest),(84,fe_wear_Travel),(85,fe_strings_HasPrefix)]
theorem ev0_top_handAwake (F_slices_Equal_int:(List Int) → (List Int) → Option (Bool)) (F_ref02_Of:(Int) → Option (TFrac)) (F_advantage_Travels:(TSystem) → (ByteArray) → Option (TFrac × Int)) (F_losses_Raise:(TSystem) → Option (TFrac × Int)) (F_report_System:(TSystem) → Option (ByteArray × Int)) (F_bricks_Fewest:(List TBrick) → (Int) → Option ((List Int) × Int)) (F_wear_Travel:(List Int) → Option (Int × Int)) (F_strings_HasPrefix:(ByteArray) → (ByteArray) → Option (Bool)):evF G (lstK G [(15,⟨[.v .l_int1,.v .l_int1],[.bool],fun x=>F_slices_Equal_int x.1 x.2.1⟩),(38,⟨[.v .int1],[.Frac],fun x=>F_ref02_Of x.1⟩),(46,⟨[.v .System,.v .str],[.Frac,.Errno],fun x=>F_advantage_Travels x.1 x.2.1⟩),(81,⟨[.v .System],[.Frac,.Errno],fun x=>F_losses_Raise x.1⟩),(82,⟨[.v .System],[.str,.Errno],fun x=>F_report_System x.1⟩),(83,⟨[.v .l_Brick,.v .int1],[.l_int1,.Errno],fun x=>F_bricks_Fewest x.1 x.2.1⟩),(84,⟨[.v .l_int1],[.int1,.Errno],fun x=>F_wear_Travel x.1⟩),(85,⟨[.v .str,.v .str],[.bool],fun x=>F_strings_HasPrefix x.1 x.2.1⟩)]) (bodyOf Tryz.f32) an_top_handAwake 93 [.tmp 0] [.bool] [] = ((F_ref02_Of 1).bind fun r1=>(F_losses_Raise (TSystem.mk ([(TBlock.mk (⟨#[98]⟩:ByteArray) 300)]:List TBlock) ([(TRope.mk (⟨#[114]⟩:ByteArray) ([(THold.mk (⟨#[]⟩:ByteArray) 0 r1),(THold.mk (⟨#[98]⟩:ByteArray) 2 r1),(THold.mk (⟨#[]⟩:ByteArray) 0 r1)]:List THold) true)]:List TRope))).bind fun r2=>(F_report_System (TSystem.mk ([(TBlock.mk (⟨#[98]⟩:ByteArray) 300)]:List TBlock) ([(TRope.mk (⟨#[114]⟩:ByteArray) ([(THold.mk (⟨#[]⟩:ByteArray) 0 r1),(THold.mk (⟨#[98]⟩:ByteArray) 2 r1),(THold.mk (⟨#[]⟩:ByteArray) 0 r1)]:List THold) true)]:List TRope))).bind fun r3=>(F_bricks_Fewest ([(TBrick.mk (⟨#[97]⟩:ByteArray) 5 2)]:List TBrick) 10).bind fun r4=>(F_wear_Travel ([3,1,5]:List Int)).bind fun r5=>(F_advantage_Travels (TSystem.mk ([(TBlock.mk (⟨#[98]⟩:ByteArray) 300)]:List TBlock) ([(TRope.mk (⟨#[114]⟩:ByteArray) ([(THold.mk (⟨#[]⟩:ByteArray) 0 r1),(THold.mk (⟨#[98]⟩:ByteArray) 2 r1),(THold.mk (⟨#[]⟩:ByteArray) 0 r1)]:List THold) true)]:List TRope)) (⟨#[98]⟩:ByteArray)).bind fun r6=>((bif (r2.2 == 0) then (F_ref02_Of 150).bind fun r11=>(bif ((r2.1.num == r11.num) && (r2.1.den == r11.den)) then (bif (r3.2 == 0) then (F_strings_HasPrefix r3.1 (⟨#[115,121,115,116,101,109,32,49,32,49,10]⟩:ByteArray)).bind fun r12=>(bif r12 then (bif (r4.2 == 0) then (F_slices_Equal_int r4.1 ([2]:List Int)).bind fun r13=>(bif r13 then (bif (r5.2 == 0) then (bif (r5.1 == 6) then (bif (r6.2 == 0) then (F_ref02_Of 2).bind fun r14=>some (((r6.1.num == r14.num) && (r6.1.den == r14.den)),()) else some (false,())) else some (false,())) else some (false,())) else some (false,())) else some (false,())) else some (false,())) else some (false,())) else some (false,())) else some (false,())):Option (Bool × Unit)).bind fun y15=>some y15.1:Option (Bool)):=by kernel_rfl
set_option maxRecDepth 1000000 in
theorem ev_top_handAwake (x:TyP G fe_top_handAwake.ps):evF G (lstK G tb_top_handAwake) (bodyOf Tryz.f32) an_top_handAwake 93 [.tmp 0] fe_top_handAwake.rs (argT G fe_top_handAwake.ps x) = fe_top_handAwake.fn x:=ev0_top_handAwake F_slices_Equal_int F_ref02_Of F_advantage_Travels F_losses_Raise F_report_System F_bricks_Fewest F_wear_Travel F_strings_HasPrefix
theorem ok_top_handAwake:FnOk G 32 fe_top_handAwake:=fnOk_of G_ok (lstK_ok G_ok (lcons ok_slices_Equal_int (lcons ok_ref02_Of (lcons ok_advantage_Travels (lcons ok_losses_Raise (lcons ok_report_System (lcons ok_bricks_Fewest (lcons ok_wear_Travel (lcons ok_strings_HasPrefix (lnil)))))))))) Tryz.func32 (by kernel_rfl) (by kernel_rfl) (by kernel_rfl) (by kernel_rfl) (by kernel_rfl) ev_top_handAwake
def F_top_TopBricks (s:TSet) (counts:List Int):Option (Bool) :=
 (F_top_handAwake).bind fun r1=>(bif (!r1) then some false else ((F_ref21_Small s 6).bind fun r5=>(bif (!r5) then some (true,()) else (F_ref21_Valid s).bind fun r6=>(bif (!r6) then some (true,()) else (F_ref26_Count s.bricks).bind fun r7=>(bif (decide (r7 > 500)) then some (true,()) else some ((decide (((counts.length:Nat):Int) > 10)),())))):Option (Bool × Unit)).bind fun y8=>(bif y8.1 then some true else (F_arbor_Needed s).bind fun r9=>(bif (r9.2 != 0) then some false else ((F_liftline_Head s).bind fun r16=>(bif (r16.2.2 == 0) then (F_ref02_Of s.arbor).bind fun r17=>(F_ratio_Sub r16.2.1 r17).bind fun r18=>((bif (r18.2 != 0) then some (true,()) else (F_ref02_Of r9.1).bind fun r19=>some ((!((r18.1.num == r19.num) && (r18.1.den == r19.den))),())):Option (Bool × Unit)).bind fun y20=>(bif y20.1 then some (.inl (false,())) else some (.inr ((())))) else some (.inr ((())))):Option ((Bool × Unit) ⊕ (Unit))).bind fun y21=>(match y21 with | .inl y22=>some y22.1 | .inr y23=>(F_bricks_Fill s).bind fun r24=>(F_top_TopBricks_1 r24.1 s).bind fun r25=>((bif (r24.2 != 0) then some (true,()) else some ((!r25.2.2),())):Option (Bool × Unit)).bind fun y26=>(bif y26.1 then some false else (F_bricks_Window s.bricks (IntKind.i64.wrap (r9.1 - s.brake)) (IntKind.i64.wrap (r9.1 + s.brake))).bind fun r27=>((bif (!(r25.1 == (r27.2 == 0))) then some (true,()) else (bif (r27.2 != 0) then some ((r27.2 != 12),()) else some (false,()))):Option (Bool × Unit)).bind fun y28=>(bif y28.1 then some false else ((bif (r27.2 == 0) then (F_top_TopBricks_1 r27.1 s).bind fun r31=>((bif (!r31.2.2) then some (true,()) else some ((!r31.1),())):Option (Bool × Unit)).bind fun y32=>(bif y32.1 then some (.inl (false,())) else some (.inr ((())))) else some (.inr ((())))):Option ((Bool × Unit) ⊕ (Unit))).bind fun y33=>(match y33 with | .inl y34=>some y34.1 | .inr y35=>(F_arbor_Weight s.bricks counts).bind fun r36=>(bif (r36.2 != 0) then some true else (F_top_TopBricks_1 counts s).bind fun r37=>((bif r37.2.2 then (bif (decide (r37.2.1 ≥ r25.2.1)) then (bif r25.1 then some (true,()) else some ((!r37.1),())) else some (false,())) else some (false,())):Option (Bool × Unit)).bind fun y38=>some y38.1))))))))
def an_top_TopBricks:An U:=(.node none .nil (.node none .nil (.node none (.node (some ⟨[1,2,4],[],⟨[],[]⟩,[(.normal,⟨[(47,.tv .bool)],[]⟩)]⟩) .nil .nil) (.node none .nil (.node none .nil (.node (some ⟨[1,2,5],[],⟨[],[]⟩,[(.ret,⟨[(4,.tv .bool)],[]⟩),(.normal,⟨[],[]⟩)]⟩) (.node none .nil (.node none .nil (.node none (.node none .nil (.node (some ⟨[4],[],⟨[],[]⟩,[(.normal,⟨[(78,.tv .bool)],[]⟩)]⟩) .nil .nil)) .nil))) (.node none .nil (.node none .nil (.node none .nil (.node none (.node (some ⟨[1,2,5,12,15,16],[],⟨[],[]⟩,[(.normal,⟨[(97,.tv .bool)],[]⟩)]⟩) .nil .nil) (.node none .nil (.node none (.node (some ⟨[1,2,12,15,16,18,19],[],⟨[],[]⟩,[(.normal,⟨[(123,.tv .bool)],[]⟩)]⟩) .nil .nil) (.node (some ⟨[1,2,12,15,16],[],⟨[],[]⟩,[(.ret,⟨[(4,.tv .bool)],[]⟩),(.normal,⟨[],[]⟩)]⟩) (.node none .nil (.node none (.node none .nil (.node (some ⟨[],[],⟨[],[]⟩,[(.normal,⟨[(138,.tv .bool)],[]⟩)]⟩) .nil .nil)) .nil)) (.node none .nil (.node none .nil (.node (some ⟨[],[],⟨[],[]⟩,[(.normal,⟨[(4,.tv .bool)],[]⟩)]⟩) .nil .nil))))))))))))))))
def fe_top_TopBricks:Fe G:=⟨[.v .Set,.v .l_int1],[.bool],fun x=>F_top_TopBricks x.1 x.2.1⟩
theorem ok_top_TopBricks:FnOk G 5 fe_top_TopBricks:=fk (an:=an_top_TopBricks) (k:=168) (res:=[.tmp 4]) (lstK_ok G_ok (lcons ok_ref21_Small (lcons ok_top_handAwake (lcons ok_ref21_Valid (lcons ok_ref26_Count (lcons ok_arbor_Needed (lcons ok_liftline_Head (lcons ok_ratio_Sub (lcons ok_ref02_Of (lcons ok_top_TopBricks_1 (lcons ok_bricks_Fill (lcons ok_bricks_Window (lcons ok_arbor_Weight (lnil)))))))))))))) Tryz.func5 fun _=>by kernel_rfl
end
end Go.Proofs.YtgbicnkpnhifgaaGreatDoor

namespace Go.Proofs.YtgbicnkpnhifgaaGreatDoor
theorem y_awake:F_top_handAwake = some true:=by kernel_rfl
end Go.Proofs.YtgbicnkpnhifgaaGreatDoor

namespace Go.Proofs.YtgbicnkpnhifgaaGreatDoor
theorem wrap64 {n:Int} (h1:-9223372036854775808 ≤ n) (h2:n ≤ 9223372036854775807):IntKind.i64.wrap n = n:=by
 simp only [IntKind.wrap,IntKind.bits,IntKind.signed,Bool.true_and]
 split
 ·rename_i h
  have h:=of_decide_eq_true h
  omega
 ·rename_i h
  have h:=of_decide_eq_false (by simpa using h:decide (n % 2 ^ 64 ≥ 2 ^ (64 - 1)) = false)
  omega
theorem iter_inv {σ ρ:Type} {F:σ → Option (σ ⊕ ρ)} {Q:ρ → Prop} (I:Nat → σ → Prop) (n:Nat) (hn:n < big)
  (step:∀ k s,k ≤ n → I k s → (∃ s',F s = some (.inl s') ∧ k < n ∧ I (k + 1) s') ∨ ∃ r,F s = some (.inr r) ∧ Q r) {s:σ} (h:I 0 s):∃ r,iterF F big s = some r ∧ Q r:=by
 have go:∀ (fuel k:Nat) (s:σ),k ≤ n → n - k < fuel → I k s → ∃ r,iterF F fuel s = some r ∧ Q r:=by
  intro fuel
  induction fuel with
  | zero=>intro k s _ h;omega
  | succ fuel ih =>
   intro k s hk hf hi
   unfold iterF
   rcases step k s hk hi with ⟨s',h1,h2,h3⟩ | ⟨r,h1,h2⟩
   ·rw [h1]
    exact ih (k + 1) s' h2 (by omega) h3
   ·rw [h1]
    exact ⟨r,rfl,h2⟩
 exact go big 0 s (Nat.zero_le _) (by omega) h
theorem idx_at {α:Type} {l:List α} {k:Nat} (h:k < l.length):idx l (k:Int) = some l[k]:=by
 unfold idx
 rw [if_pos (by omega),Int.toNat_natCast,List.getElem?_eq_getElem h]
theorem idxB_at {s:ByteArray} {k:Nat} (h:k < s.size):idxB s (k:Int) = some s[k]:=by
 unfold idxB
 rw [if_pos (by omega),Int.toNat_natCast]
 exact getElem?_pos s k h
theorem iter_find {α ρ:Type} {F:Int × Unit → Option ((Int × Unit) ⊕ ρ)} (l:List α) (hl:l.length < 9223372036854775807) (p:Nat → α → Option ρ) (d:ρ)
  (hin:∀ (k:Nat) (h:k < l.length),F ((k:Int),()) = match p k l[k] with | some r=>some (.inr r) | none=>some (.inl ((k:Int) + 1,()))) (hout:F ((l.length:Int),()) = some (.inr d)) :
  iterF F big (0,()) = some (((l.zipIdx.findSome? fun x=>p x.2 x.1)).getD d):=by
 have hb:l.length < big:=by unfold big;omega
 obtain ⟨r,h1,h2⟩:=iter_inv (F:=F) (Q:=fun r=>r = ((l.zipIdx.findSome? fun x=>p x.2 x.1)).getD d) (fun k s=>s = ((k:Int),()) ∧ ((l.take k).zipIdx.findSome? fun x=>p x.2 x.1) = none) l.length hb (fun k s hk hi=>by
  obtain ⟨rfl,hi⟩:=hi
  by_cases hlt:k < l.length
  ·have h:=hin k hlt
   have htk:(l.take (k + 1)).zipIdx = (l.take k).zipIdx ++ [(l[k],k)]:=by
    rw [List.take_succ_eq_append_getElem hlt,List.zipIdx_append]
    simp;omega
   cases hp:p k l[k] with
   | none =>
    rw [hp] at h
    exact .inl ⟨_,h,hlt,rfl,by rw [htk,List.findSome?_append,hi];simp [hp]⟩
   | some r =>
    rw [hp] at h
    refine .inr ⟨r,h,?_⟩
    have hall:l.zipIdx = (l.take (k + 1)).zipIdx ++ (l.drop (k + 1)).zipIdx (k + 1):=by
     have e:l.zipIdx = (l.take (k + 1) ++ l.drop (k + 1)).zipIdx:=by rw [List.take_append_drop]
     rw [e,List.zipIdx_append,Nat.zero_add,List.length_take,Nat.min_eq_left (by omega)]
    rw [hall,htk,List.findSome?_append,List.findSome?_append,hi]
    simp [hp]
  ·obtain rfl:k = l.length:=by omega
   rw [List.take_length] at hi
   exact .inr ⟨d,hout,by rw [hi];rfl⟩) (s:=(0,())) ⟨rfl,by simp⟩
 rw [h1,h2]
end Go.Proofs.YtgbicnkpnhifgaaGreatDoor

namespace Go.Proofs.YtgbicnkpnhifgaaGreatDoor
open Go.RowKit
def letterB (c:Int):Bool:=decide (97 ≤ c ∧ c ≤ 122 ∨ 65 ≤ c ∧ c ≤ 90)
def digitB (c:Int):Bool:=decide (48 ≤ c ∧ c ≤ 57)
def betweenB (n low high:Int):Bool:=decide (low ≤ n ∧ n ≤ high)
def wcB (c:UInt8):Bool:=letterB c.toNat || (digitB c.toNat || ((c.toNat:Int) == 95))
def wordN (s:ByteArray):Nat:=(s.data.toList.takeWhile wcB).length
def nameB (s:ByteArray):Bool:=match s.data.toList with | []=>false | c :: l=>decide (l.length < 20) && (letterB c.toNat && (c :: l).all wcB)
theorem between_iff (n low high:Int):betweenB n low high = true ↔ low ≤ n ∧ n ≤ high:=by simp [betweenB]
def okAt {α:Type} (one:α → Bool) (two:α → α → Bool) (l:List α) (i:Nat):Bool:=match l[i]? with | none=>true | some x=>one x && (l.take i).all fun y=>two y x
def pairsB {α:Type} (one:α → Bool) (two:α → α → Bool) (l:List α):Bool:=(List.range l.length).all (okAt one two l)
def okTo {α:Type} (one:α → Bool) (two:α → α → Bool) (l:List α) (k:Nat):Prop:=∀ i,i < k → okAt one two l i = true
section
variable {α:Type} {one one':α → Bool} {two two':α → α → Bool} {l:List α}
theorem okAt_eq {i:Nat} (h:i < l.length):okAt one two l i = (one l[i] && (l.take i).all fun y=>two y l[i]):=by unfold okAt;rw [List.getElem?_eq_getElem h]
theorem okTo_zero:okTo one two l 0:=fun _ h=>absurd h (by omega)
theorem okTo_succ {k:Nat} (h:okTo one two l k) (h1:okAt one two l k = true):okTo one two l (k + 1):=fun i hi=>by
 rcases Nat.lt_or_ge i k with h2 | h2
 ·exact h i h2
 ·obtain rfl:i = k:=by omega
  exact h1
theorem pairs_yes (h:okTo one two l l.length):pairsB one two l = true:=List.all_eq_true.2 fun i hi=>h i (List.mem_range.1 hi)
theorem pairs_no {k:Nat} (hk:k < l.length) (h:okAt one two l k = false):pairsB one two l = false:=by
 rw [Bool.eq_false_iff]
 intro e
 have:=List.all_eq_true.1 e k (List.mem_range.2 hk)
 rw [h] at this
 cases this
theorem pairs_iff:pairsB one two l = true ↔ ∀ i (h:i < l.length),one l[i] = true ∧ ∀ k (hk:k < i),two (l[k]'(Nat.lt_trans hk h)) l[i] = true:=by
 constructor
 ·intro e i h
  have:=List.all_eq_true.1 e i (List.mem_range.2 h)
  rw [okAt_eq h,Bool.and_eq_true,List.all_eq_true] at this
  refine ⟨this.1,fun k hk=>this.2 _ ?_⟩
  rw [List.mem_take_iff_getElem]
  exact ⟨k,by omega,rfl⟩
 ·intro e
  refine List.all_eq_true.2 fun i hi=>?_
  have h:=List.mem_range.1 hi
  obtain ⟨e1,e2⟩:=e i h
  rw [okAt_eq h,Bool.and_eq_true,List.all_eq_true]
  refine ⟨e1,fun y hy=>?_⟩
  rw [List.mem_take_iff_getElem] at hy
  obtain ⟨k,hk,rfl⟩:=hy
  exact e2 k (by omega)
theorem pairs_and:pairsB one (fun x y=>two x y && two' x y) l = (pairsB one two l && pairsB (fun _=>true) two' l):=by
 rw [Bool.eq_iff_iff,Bool.and_eq_true,pairs_iff,pairs_iff,pairs_iff]
 constructor
 ·intro e
  exact ⟨fun i hi=>⟨(e i hi).1,fun k hk=>(Bool.and_eq_true _ _ ▸ (e i hi).2 k hk).1⟩,fun i hi=>⟨rfl,fun k hk=>(Bool.and_eq_true _ _ ▸ (e i hi).2 k hk).2⟩⟩
 ·rintro ⟨e1,e2⟩ i hi
  exact ⟨(e1 i hi).1,fun k hk=>by rw [(e1 i hi).2 k hk,(e2 i hi).2 k hk];rfl⟩
end
theorem pairs_split {α:Type} {one:α → Bool} {two:α → α → Bool} {l:List α}:pairsB one two l = (l.all one && pairsB (fun _=>true) two l):=by
 rw [Bool.eq_iff_iff,Bool.and_eq_true,pairs_iff,pairs_iff,List.all_eq_true]
 constructor
 ·intro e
  refine ⟨fun x hx=>?_,fun i hi=>⟨rfl,(e i hi).2⟩⟩
  obtain ⟨i,hi,rfl⟩:=List.mem_iff_getElem.1 hx
  exact (e i hi).1
 ·rintro ⟨e1,e2⟩ i hi
  exact ⟨e1 _ (List.getElem_mem hi),(e2 i hi).2⟩
theorem all_take_succ {α:Type} (l:List α) (p:α → Bool) (k:Nat) (h:k < l.length) (h0:(l.take k).all p = true) (h1:p l[k] = true):(l.take (k + 1)).all p = true:=by
 rw [List.take_succ_eq_append_getElem h,List.all_append,h0];simp [h1]
theorem all_no {α:Type} (l:List α) (p:α → Bool) (k:Nat) (h:k < l.length) (h1:p l[k] = false):l.all p = false:=by
 rw [Bool.eq_false_iff];intro e;rw [List.all_eq_true.1 e _ (List.getElem_mem h)] at h1;cases h1
def aloneB (x:TItem):Bool:=nameB x.name && (betweenB x.weight 0 1048576 && (betweenB x.hang 0 1048576 && (betweenB x.front 0 1048576 && betweenB x.back 0 1048576)))
def insideB (x:TItem) (len:Int):Bool:=decide (0 ≤ x.at_) && (betweenB x.width 1 1048576 && decide (x.at_ ≤ len - x.width))
def apartB (x y:TItem):Bool:=decide (x.at_ + x.width ≤ y.at_) || decide (y.at_ + y.width ≤ x.at_)
theorem apart_comm (x y:TItem):apartB x y = apartB y x:=by unfold apartB;rw [Bool.or_comm]
def sameName (a b:ByteArray):Bool:=a.toList == b.toList
theorem sameName_iff (a b:ByteArray):sameName a b = true ↔ a = b:=by
 unfold sameName
 rw [beq_iff_eq,ByteArray.toList_eq,ByteArray.toList_eq]
 exact ⟨fun h=>ByteArray.ext (Array.toList_inj.1 h),fun h=>by rw [h]⟩
def itemsB (l:List TItem) (len:Int):Bool:=decide (l.length ≤ 40) && (pairsB (fun x=>aloneB x && insideB x len) apartB l && pairsB (fun _=>true) (fun x y=>!sameName x.name y.name) l)
def brickB (x:TBrick):Bool:=nameB x.name && (betweenB x.weight 1 1048576 && betweenB x.count 0 60)
def sumTo {α:Type} (f:α → Int) (l:List α) (k:Nat):Int:=((l.take k).map f).sum
theorem sumTo_zero {α:Type} (f:α → Int) (l:List α):sumTo f l 0 = 0:=rfl
theorem sumTo_succ {α:Type} (f:α → Int) (l:List α) (k:Nat) (h:k < l.length):sumTo f l (k + 1) = sumTo f l k + f l[k]:=by
 unfold sumTo;rw [List.take_succ_eq_append_getElem h,List.map_append,List.sum_append_int];simp
theorem sumTo_bound {α:Type} (f:α → Int) (l:List α) (M:Int) (h:∀ x,x ∈ l → 0 ≤ f x ∧ f x ≤ M):∀ k,k ≤ l.length → 0 ≤ sumTo f l k ∧ sumTo f l k ≤ k * M:=by
 intro k
 induction k with
 | zero=>intro _;rw [sumTo_zero];omega
 | succ k ih =>
  intro hk
  have h1:=ih (by omega)
  have h2:=h l[k] (List.getElem_mem (by omega))
  rw [sumTo_succ f l k (by omega)]
  have e:((k + 1:Nat):Int) * M = (k:Int) * M + M:=by rw [Int.natCast_add,Int.add_mul];simp
  omega
def bricksB (l:List TBrick):Bool:=decide (l.length ≤ 8) && (pairsB brickB (fun x y=>!sameName x.name y.name) l && decide (sumTo (·.count) l l.length ≤ 60))
def lineAt (l:List Int) (len:Int) (i:Nat):Bool:=match l[i]? with | none=>true | some x=>betweenB x 0 len && (decide (i = 0) || decide (l[i - 1]?.getD 0 < x))
def linesB (l:List Int) (len:Int):Bool:=decide (2 ≤ l.length ∧ l.length ≤ 10) && (List.range l.length).all (lineAt l len)
def headB (S:TSet):Bool:=nameB S.name && (betweenB S.depth 0 1048576 && (decide (0 ≤ S.low) && (decide (S.low ≤ S.high) && (decide (S.high ≤ 1048576) && (betweenB S.length 1000 1048576 && decide (S.length % 1000 = 0))))))
def weightsB (S:TSet):Bool:=betweenB S.pipe 0 1048576 && (betweenB S.arbor 0 1048576 && (betweenB S.purchase 1 2 && (betweenB S.most 1 67108864 && betweenB S.brake 0 67108864)))
def validB (S:TSet):Bool:=headB S && (linesB S.lines S.length && (weightsB S && (itemsB S.items S.length && bricksB S.bricks)))
structure GoodItem (len:Int) (x:TItem):Prop where
 name:nameB x.name = true
 p0:0 ≤ x.at_
 w1:1 ≤ x.width
 pw:x.at_ + x.width ≤ len
 m0:0 ≤ x.weight
 m1:x.weight ≤ 1048576
 h0:0 ≤ x.hang
 h1:x.hang ≤ 1048576
 f0:0 ≤ x.front
 f1:x.front ≤ 1048576
 b0:0 ≤ x.back
 b1:x.back ≤ 1048576
theorem GoodItem.of {len:Int} {x:TItem} (h:(aloneB x && insideB x len) = true):GoodItem len x:=by
 simp only [aloneB,insideB,betweenB,Bool.and_eq_true,decide_eq_true_iff] at h
 obtain ⟨⟨h1,h2,h3,h4,h5⟩,h6,h7,h8⟩:=h
 exact ⟨h1,h6,h7.1,by omega,h2.1,h2.2,h3.1,h3.2,h4.1,h4.2,h5.1,h5.2⟩
structure GoodBrick (x:TBrick):Prop where
 name:nameB x.name = true
 w0:1 ≤ x.weight
 w1:x.weight ≤ 1048576
 c0:0 ≤ x.count
 c1:x.count ≤ 60
theorem GoodBrick.of {x:TBrick} (h:brickB x = true):GoodBrick x:=by
 simp only [brickB,betweenB,Bool.and_eq_true,decide_eq_true_iff] at h
 obtain ⟨h1,h2,h3⟩:=h
 exact ⟨h1,h2.1,h2.2,h3.1,h3.2⟩
structure Good (S:TSet):Prop where
 name:nameB S.name = true
 d0:0 ≤ S.depth
 d1:S.depth ≤ 1048576
 l0:0 ≤ S.low
 l1:S.low ≤ S.high
 h1:S.high ≤ 1048576
 n0:1000 ≤ S.length
 n1:S.length ≤ 1048576
 nm:S.length % 1000 = 0
 p0:0 ≤ S.pipe
 p1:S.pipe ≤ 1048576
 a0:0 ≤ S.arbor
 a1:S.arbor ≤ 1048576
 u0:1 ≤ S.purchase
 u1:S.purchase ≤ 2
 m0:1 ≤ S.most
 m1:S.most ≤ 67108864
 b0:0 ≤ S.brake
 b1:S.brake ≤ 67108864
 ln0:2 ≤ S.lines.length
 ln1:S.lines.length ≤ 10
 lat:∀ i,i < S.lines.length → lineAt S.lines S.length i = true
 ni:S.items.length ≤ 40
 items:∀ x,x ∈ S.items → GoodItem S.length x
 apart:pairsB (fun _=>true) apartB S.items = true
 inames:pairsB (fun _=>true) (fun x y=>!sameName x.name y.name) S.items = true
 nb:S.bricks.length ≤ 8
 bricks:∀ x,x ∈ S.bricks → GoodBrick x
 bnames:pairsB (fun _=>true) (fun x y=>!sameName x.name y.name) S.bricks = true
 bsum:sumTo (·.count) S.bricks S.bricks.length ≤ 60
theorem pairs_two {α:Type} {one:α → Bool} {two:α → α → Bool} {l:List α} (h:pairsB one two l = true):pairsB (fun _=>true) two l = true:=by
 rw [pairs_iff] at h ⊢
 exact fun i hi=>⟨rfl,(h i hi).2⟩
theorem pairs_one {α:Type} {one:α → Bool} {two:α → α → Bool} {l:List α} (h:pairsB one two l = true) (x:α) (hx:x ∈ l):one x = true:=by
 rw [pairs_iff] at h
 obtain ⟨i,hi,rfl⟩:=List.mem_iff_getElem.1 hx
 exact (h i hi).1
theorem Good.of {S:TSet} (h:validB S = true):Good S:=by
 simp only [validB,headB,weightsB,itemsB,bricksB,linesB,Bool.and_eq_true,decide_eq_true_iff,between_iff,List.all_eq_true,List.mem_range] at h
 obtain ⟨⟨h1,h2,h3,h4,h5,h6,h7⟩,⟨h8,h9⟩,⟨h10,h11,h12,h13,h14⟩,⟨h15,h16,h17⟩,h18,h19,h20⟩:=h
 exact ⟨h1,h2.1,h2.2,h3,h4,h5,h6.1,h6.2,h7,h10.1,h10.2,h11.1,h11.2,h12.1,h12.2,h13.1,h13.2,h14.1,h14.2,h8.1,h8.2,h9,h15,
  fun x hx=>GoodItem.of (pairs_one h16 x hx),pairs_two h16,h17,h18,fun x hx=>GoodBrick.of (pairs_one h19 x hx),pairs_two h19,h20⟩
def pipeI (S:TSet):Int:=S.pipe * (S.length / 1000)
def weightI (S:TSet):Int:=pipeI S + sumTo (·.weight) S.items S.items.length
theorem pipe_bound {S:TSet} (h:Good S):0 ≤ pipeI S ∧ pipeI S ≤ 1099511627776:=by
 have h1:0 ≤ S.length / 1000:=by have:=h.n0;omega
 have h2:S.length / 1000 ≤ 1048576:=by have:=h.n1;omega
 exact ⟨Int.mul_nonneg h.p0 h1,by
  have:=Int.mul_le_mul h.p1 h2 h1 (by decide)
  exact Int.le_trans this (by decide)⟩
theorem weights_bound {S:TSet} (h:Good S) (k:Nat) (hk:k ≤ S.items.length):0 ≤ sumTo (·.weight) S.items k ∧ sumTo (·.weight) S.items k ≤ 41943040:=by
 have h1:=sumTo_bound (·.weight) S.items 1048576 (fun x hx=>⟨(h.items x hx).m0,(h.items x hx).m1⟩) k hk
 have h2:=h.ni
 omega
end Go.Proofs.YtgbicnkpnhifgaaGreatDoor

namespace Go.Proofs.YtgbicnkpnhifgaaGreatDoor
theorem cond_some {α:Type} (c:Bool) (a b:α):(cond c (some a) (some b):Option α) = some (cond c a b):=by cases c <;> rfl
theorem decide_and_cond (p q:Prop) [Decidable p] [Decidable q]:decide (p ∧ q) = (bif decide p then decide q else false):=by by_cases h:p <;> by_cases h':q <;> simp [h,h']
theorem f_between (n lo hi:Int):F_batten_between n lo hi = some (betweenB n lo hi):=by
 unfold F_batten_between betweenB
 rw [cond_some,Option.bind_some,decide_and_cond]
 cases h:decide (n ≥ lo) <;> rfl
theorem f_rbetween (n lo hi:Int):F_ref21_between n lo hi = some (betweenB n lo hi):=f_between n lo hi
theorem f_slices_IndexFunc_int (s:List Int) (hs:s.length < 9223372036854775807) (f:Int → Option Bool) (g:Int → Bool) (hf:∀ x ∈ s,f x = some (g x)):F_slices_IndexFunc_int s f = some (match s.findIdx? g with | some i=>(i:Int) | none=>-1):=by
 unfold F_slices_IndexFunc_int
 rw [iter_find s hs (fun k x=>bif g x then some (Sum.inl ((k:Int),())) else none) (.inr ()) ?hin ?hout]
 ·have e:∀ (l:List Int) (j:Nat),((l.zipIdx j).findSome? fun x=>bif g x.1 then some (Sum.inl ((x.2:Int),()):(Int × Unit) ⊕ Unit) else none) = (l.findIdx? g).map fun i=>.inl (((i + j:Nat):Int),()):=by
   intro l
   induction l with
   | nil=>intro j;rfl
   | cons x l ih =>
    intro j
    rw [List.zipIdx_cons,List.findSome?_cons,List.findIdx?_cons]
    cases hg:g x with
    | true=>simp
    | false =>
     simp only [cond_false]
     rw [ih (j + 1)]
     cases l.findIdx? g with
     | none=>rfl
     | some i=>simp;omega
  rw [e s 0]
  cases s.findIdx? g with
  | none=>rfl
  | some i=>rfl
 case hin =>
  intro k hk
  have hlt:decide ((k:Int) < ((s.length:Nat):Int)) = true:=decide_eq_true (by omega)
  simp only [hlt,cond_true,idx_at hk,Option.bind_some,hf _ (List.getElem_mem hk)]
  cases g s[k] with
  | true=>rfl
  | false=>simp only [cond_false];rw [wrap64 (by omega) (by omega)]
 case hout =>
  have hlt:decide (((s.length:Nat):Int) < ((s.length:Nat):Int)) = false:=decide_eq_false (by omega)
  simp only [hlt,cond_false]
theorem f_slices_ContainsFunc_int (s:List Int) (hs:s.length < 9223372036854775807) (f:Int → Option Bool) (g:Int → Bool) (hf:∀ x ∈ s,f x = some (g x)):F_slices_ContainsFunc_int s f = some (s.any g):=by
 unfold F_slices_ContainsFunc_int
 rw [f_slices_IndexFunc_int s hs f g hf,Option.bind_some]
 congr 1
 cases h:s.findIdx? g with
 | none =>
  rw [List.findIdx?_eq_none_iff] at h
  have:s.any g = false:=by rw [List.any_eq_false];intro x hx;rw [h x hx];simp
  rw [this];rfl
 | some i =>
  obtain ⟨hi,hg,_⟩:=List.findIdx?_eq_some_iff_getElem.1 h
  have:s.any g = true:=List.any_eq_true.2 ⟨_,List.getElem_mem hi,hg⟩
  rw [this]
  exact decide_eq_true (by show (i:Int) ≥ 0;omega)
theorem f_slices_IndexFunc_api_Brick (s:List TBrick) (hs:s.length < 9223372036854775807) (f:TBrick → Option Bool) (g:TBrick → Bool) (hf:∀ x ∈ s,f x = some (g x)):F_slices_IndexFunc_api_Brick s f = some (match s.findIdx? g with | some i=>(i:Int) | none=>-1):=by
 unfold F_slices_IndexFunc_api_Brick
 rw [iter_find s hs (fun k x=>bif g x then some (Sum.inl ((k:Int),())) else none) (.inr ()) ?hin ?hout]
 ·have e:∀ (l:List TBrick) (j:Nat),((l.zipIdx j).findSome? fun x=>bif g x.1 then some (Sum.inl ((x.2:Int),()):(Int × Unit) ⊕ Unit) else none) = (l.findIdx? g).map fun i=>.inl (((i + j:Nat):Int),()):=by
   intro l
   induction l with
   | nil=>intro j;rfl
   | cons x l ih =>
    intro j
    rw [List.zipIdx_cons,List.findSome?_cons,List.findIdx?_cons]
    cases hg:g x with
    | true=>simp
    | false =>
     simp only [cond_false]
     rw [ih (j + 1)]
     cases l.findIdx? g with
     | none=>rfl
     | some i=>simp;omega
  rw [e s 0]
  cases s.findIdx? g with
  | none=>rfl
  | some i=>rfl
 case hin =>
  intro k hk
  have hlt:decide ((k:Int) < ((s.length:Nat):Int)) = true:=decide_eq_true (by omega)
  simp only [hlt,cond_true,idx_at hk,Option.bind_some,hf _ (List.getElem_mem hk)]
  cases g s[k] with
  | true=>rfl
  | false=>simp only [cond_false];rw [wrap64 (by omega) (by omega)]
 case hout =>
  have hlt:decide (((s.length:Nat):Int) < ((s.length:Nat):Int)) = false:=decide_eq_false (by omega)
  simp only [hlt,cond_false]
theorem f_slices_ContainsFunc_api_Brick (s:List TBrick) (hs:s.length < 9223372036854775807) (f:TBrick → Option Bool) (g:TBrick → Bool) (hf:∀ x ∈ s,f x = some (g x)):F_slices_ContainsFunc_api_Brick s f = some (s.any g):=by
 unfold F_slices_ContainsFunc_api_Brick
 rw [f_slices_IndexFunc_api_Brick s hs f g hf,Option.bind_some]
 congr 1
 cases h:s.findIdx? g with
 | none =>
  rw [List.findIdx?_eq_none_iff] at h
  have:s.any g = false:=by rw [List.any_eq_false];intro x hx;rw [h x hx];simp
  rw [this];rfl
 | some i =>
  obtain ⟨hi,hg,_⟩:=List.findIdx?_eq_some_iff_getElem.1 h
  have:s.any g = true:=List.any_eq_true.2 ⟨_,List.getElem_mem hi,hg⟩
  rw [this]
  exact decide_eq_true (by show (i:Int) ≥ 0;omega)
theorem f_slices_IndexFunc_api_Item (s:List TItem) (hs:s.length < 9223372036854775807) (f:TItem → Option Bool) (g:TItem → Bool) (hf:∀ x ∈ s,f x = some (g x)):F_slices_IndexFunc_api_Item s f = some (match s.findIdx? g with | some i=>(i:Int) | none=>-1):=by
 unfold F_slices_IndexFunc_api_Item
 rw [iter_find s hs (fun k x=>bif g x then some (Sum.inl ((k:Int),())) else none) (.inr ()) ?hin ?hout]
 ·have e:∀ (l:List TItem) (j:Nat),((l.zipIdx j).findSome? fun x=>bif g x.1 then some (Sum.inl ((x.2:Int),()):(Int × Unit) ⊕ Unit) else none) = (l.findIdx? g).map fun i=>.inl (((i + j:Nat):Int),()):=by
   intro l
   induction l with
   | nil=>intro j;rfl
   | cons x l ih =>
    intro j
    rw [List.zipIdx_cons,List.findSome?_cons,List.findIdx?_cons]
    cases hg:g x with
    | true=>simp
    | false =>
     simp only [cond_false]
     rw [ih (j + 1)]
     cases l.findIdx? g with
     | none=>rfl
     | some i=>simp;omega
  rw [e s 0]
  cases s.findIdx? g with
  | none=>rfl
  | some i=>rfl
 case hin =>
  intro k hk
  have hlt:decide ((k:Int) < ((s.length:Nat):Int)) = true:=decide_eq_true (by omega)
  simp only [hlt,cond_true,idx_at hk,Option.bind_some,hf _ (List.getElem_mem hk)]
  cases g s[k] with
  | true=>rfl
  | false=>simp only [cond_false];rw [wrap64 (by omega) (by omega)]
 case hout =>
  have hlt:decide (((s.length:Nat):Int) < ((s.length:Nat):Int)) = false:=decide_eq_false (by omega)
  simp only [hlt,cond_false]
theorem f_slices_ContainsFunc_api_Item (s:List TItem) (hs:s.length < 9223372036854775807) (f:TItem → Option Bool) (g:TItem → Bool) (hf:∀ x ∈ s,f x = some (g x)):F_slices_ContainsFunc_api_Item s f = some (s.any g):=by
 unfold F_slices_ContainsFunc_api_Item
 rw [f_slices_IndexFunc_api_Item s hs f g hf,Option.bind_some]
 congr 1
 cases h:s.findIdx? g with
 | none =>
  rw [List.findIdx?_eq_none_iff] at h
  have:s.any g = false:=by rw [List.any_eq_false];intro x hx;rw [h x hx];simp
  rw [this];rfl
 | some i =>
  obtain ⟨hi,hg,_⟩:=List.findIdx?_eq_some_iff_getElem.1 h
  have:s.any g = true:=List.any_eq_true.2 ⟨_,List.getElem_mem hi,hg⟩
  rw [this]
  exact decide_eq_true (by show (i:Int) ≥ 0;omega)
theorem f_slices_IndexFunc_api_Frac (s:List TFrac) (hs:s.length < 9223372036854775807) (f:TFrac → Option Bool) (g:TFrac → Bool) (hf:∀ x ∈ s,f x = some (g x)):F_slices_IndexFunc_api_Frac s f = some (match s.findIdx? g with | some i=>(i:Int) | none=>-1):=by
 unfold F_slices_IndexFunc_api_Frac
 rw [iter_find s hs (fun k x=>bif g x then some (Sum.inl ((k:Int),())) else none) (.inr ()) ?hin ?hout]
 ·have e:∀ (l:List TFrac) (j:Nat),((l.zipIdx j).findSome? fun x=>bif g x.1 then some (Sum.inl ((x.2:Int),()):(Int × Unit) ⊕ Unit) else none) = (l.findIdx? g).map fun i=>.inl (((i + j:Nat):Int),()):=by
   intro l
   induction l with
   | nil=>intro j;rfl
   | cons x l ih =>
    intro j
    rw [List.zipIdx_cons,List.findSome?_cons,List.findIdx?_cons]
    cases hg:g x with
    | true=>simp
    | false =>
     simp only [cond_false]
     rw [ih (j + 1)]
     cases l.findIdx? g with
     | none=>rfl
     | some i=>simp;omega
  rw [e s 0]
  cases s.findIdx? g with
  | none=>rfl
  | some i=>rfl
 case hin =>
  intro k hk
  have hlt:decide ((k:Int) < ((s.length:Nat):Int)) = true:=decide_eq_true (by omega)
  simp only [hlt,cond_true,idx_at hk,Option.bind_some,hf _ (List.getElem_mem hk)]
  cases g s[k] with
  | true=>rfl
  | false=>simp only [cond_false];rw [wrap64 (by omega) (by omega)]
 case hout =>
  have hlt:decide (((s.length:Nat):Int) < ((s.length:Nat):Int)) = false:=decide_eq_false (by omega)
  simp only [hlt,cond_false]
theorem f_slices_ContainsFunc_api_Frac (s:List TFrac) (hs:s.length < 9223372036854775807) (f:TFrac → Option Bool) (g:TFrac → Bool) (hf:∀ x ∈ s,f x = some (g x)):F_slices_ContainsFunc_api_Frac s f = some (s.any g):=by
 unfold F_slices_ContainsFunc_api_Frac
 rw [f_slices_IndexFunc_api_Frac s hs f g hf,Option.bind_some]
 congr 1
 cases h:s.findIdx? g with
 | none =>
  rw [List.findIdx?_eq_none_iff] at h
  have:s.any g = false:=by rw [List.any_eq_false];intro x hx;rw [h x hx];simp
  rw [this];rfl
 | some i =>
  obtain ⟨hi,hg,_⟩:=List.findIdx?_eq_some_iff_getElem.1 h
  have:s.any g = true:=List.any_eq_true.2 ⟨_,List.getElem_mem hi,hg⟩
  rw [this]
  exact decide_eq_true (by show (i:Int) ≥ 0;omega)
theorem f_slices_IndexFunc_api_Load (s:List TLoad) (hs:s.length < 9223372036854775807) (f:TLoad → Option Bool) (g:TLoad → Bool) (hf:∀ x ∈ s,f x = some (g x)):F_slices_IndexFunc_api_Load s f = some (match s.findIdx? g with | some i=>(i:Int) | none=>-1):=by
 unfold F_slices_IndexFunc_api_Load
 rw [iter_find s hs (fun k x=>bif g x then some (Sum.inl ((k:Int),())) else none) (.inr ()) ?hin ?hout]
 ·have e:∀ (l:List TLoad) (j:Nat),((l.zipIdx j).findSome? fun x=>bif g x.1 then some (Sum.inl ((x.2:Int),()):(Int × Unit) ⊕ Unit) else none) = (l.findIdx? g).map fun i=>.inl (((i + j:Nat):Int),()):=by
   intro l
   induction l with
   | nil=>intro j;rfl
   | cons x l ih =>
    intro j
    rw [List.zipIdx_cons,List.findSome?_cons,List.findIdx?_cons]
    cases hg:g x with
    | true=>simp
    | false =>
     simp only [cond_false]
     rw [ih (j + 1)]
     cases l.findIdx? g with
     | none=>rfl
     | some i=>simp;omega
  rw [e s 0]
  cases s.findIdx? g with
  | none=>rfl
  | some i=>rfl
 case hin =>
  intro k hk
  have hlt:decide ((k:Int) < ((s.length:Nat):Int)) = true:=decide_eq_true (by omega)
  simp only [hlt,cond_true,idx_at hk,Option.bind_some,hf _ (List.getElem_mem hk)]
  cases g s[k] with
  | true=>rfl
  | false=>simp only [cond_false];rw [wrap64 (by omega) (by omega)]
 case hout =>
  have hlt:decide (((s.length:Nat):Int) < ((s.length:Nat):Int)) = false:=decide_eq_false (by omega)
  simp only [hlt,cond_false]
theorem f_slices_ContainsFunc_api_Load (s:List TLoad) (hs:s.length < 9223372036854775807) (f:TLoad → Option Bool) (g:TLoad → Bool) (hf:∀ x ∈ s,f x = some (g x)):F_slices_ContainsFunc_api_Load s f = some (s.any g):=by
 unfold F_slices_ContainsFunc_api_Load
 rw [f_slices_IndexFunc_api_Load s hs f g hf,Option.bind_some]
 congr 1
 cases h:s.findIdx? g with
 | none =>
  rw [List.findIdx?_eq_none_iff] at h
  have:s.any g = false:=by rw [List.any_eq_false];intro x hx;rw [h x hx];simp
  rw [this];rfl
 | some i =>
  obtain ⟨hi,hg,_⟩:=List.findIdx?_eq_some_iff_getElem.1 h
  have:s.any g = true:=List.any_eq_true.2 ⟨_,List.getElem_mem hi,hg⟩
  rw [this]
  exact decide_eq_true (by show (i:Int) ≥ 0;omega)
end Go.Proofs.YtgbicnkpnhifgaaGreatDoor

namespace Go.Proofs.YtgbicnkpnhifgaaGreatDoor
theorem takeWhile_len {α:Type} (p:α → Bool):∀ (l:List α) (k:Nat),k ≤ l.length → (∀ i (h:i < l.length),i < k → p l[i] = true) → (∀ h:k < l.length,p l[k] = false) → (l.takeWhile p).length = k
 | [],k,hk,_,_=>by simp at hk;subst hk;rfl
 | x :: l,0,_,_,h2=>by
  have:=h2 (by simp)
  rw [List.takeWhile_cons]
  simp only [List.getElem_cons_zero] at this
  rw [this];rfl
 | x :: l,k + 1,hk,h1,h2=>by
  have hx:=h1 0 (by simp) (by omega)
  simp only [List.getElem_cons_zero] at hx
  rw [List.takeWhile_cons,hx]
  simp only [if_true,List.length_cons]
  rw [takeWhile_len p l k (by simpa using hk) (fun i h hi=>by have:=h1 (i + 1) (by simpa using h) (by omega);simpa using this) (fun h=>by have:=h2 (by simpa using h);simpa using this)]
theorem f_letter (c:Int):F_decimal_letter c = some (letterB c):=by
 unfold F_decimal_letter letterB
 by_cases h1:c ≥ 97 <;> by_cases h2:c ≤ 122 <;> by_cases h3:c ≥ 65 <;> by_cases h4:c ≤ 90 <;> simp [h1,h2,h3,h4] <;> omega
theorem f_digit (c:Int):F_decimal_digit c = some (digitB c):=by
 unfold F_decimal_digit digitB
 by_cases h1:c ≥ 48 <;> by_cases h2:c ≤ 57 <;> simp [h1,h2] <;> omega
theorem f_rletter (c:Int):F_ref01_Letter c = some (letterB c):=f_letter c
theorem f_word (s:ByteArray) (hs:s.size ≤ 9223372036854775806):F_decimal_word s = some (wordN s:Int):=by
 unfold F_decimal_word
 have hlen:s.data.toList.length = s.size:=rfl
 obtain ⟨r,h1,h2⟩:=iter_inv (F:=fun s12:Int × Unit=>(((bif (decide (s12.1 < ((s.size:Nat):Int))) then (idxB s s12.1).bind fun b13=>(F_decimal_letter ((b13.toNat:Nat):Int)).bind fun r14=>(bif r14 then some (true,()) else (idxB s s12.1).bind fun b15=>(F_decimal_digit ((b15.toNat:Nat):Int)).bind fun r16=>(bif r16 then some (true,()) else (idxB s s12.1).bind fun b17=>some ((((b17.toNat:Nat):Int) == 95),()))) else some (false,())):Option (Bool × Unit)).bind fun y18=>(bif y18.1 then some (.inl ((IntKind.i64.wrap (s12.1 + 1)),())) else some (.inr (s12.1,()))):Option ((Int × Unit) ⊕ (Int × Unit))))
  (Q:=fun r=>r = ((wordN s:Int),())) (fun k x=>x = ((k:Int),()) ∧ ∀ i (h:i < s.data.toList.length),i < k → wcB s.data.toList[i] = true) s.size (by unfold big;omega) (fun k x hk hi=>by
   obtain ⟨rfl,hi⟩:=hi
   by_cases hlt:k < s.size
   ·have hd:decide ((k:Int) < ((s.size:Nat):Int)) = true:=decide_eq_true (by omega)
    simp only [hd,cond_true,idxB_at hlt,Option.bind_some,f_letter,f_digit]
    rw [wrap64 (by omega) (by omega)]
    have hsel:(((bif letterB ((s[k].toNat:Nat):Int) then some (true,()) else (bif digitB ((s[k].toNat:Nat):Int) then some (true,()) else some ((((s[k].toNat:Nat):Int) == 95),()))):Option (Bool × Unit))) = some (wcB s[k],()):=by
     unfold wcB
     cases letterB s[k].toNat <;> cases digitB s[k].toNat <;> rfl
    rw [hsel]
    simp only [Option.bind_some]
    cases hw:wcB s[k] with
    | true =>
     refine .inl ⟨((k:Int) + 1,()),rfl,hlt,rfl,fun i h hik=>?_⟩
     by_cases hik':i < k
     ·exact hi i h hik'
     ·obtain rfl:i = k:=by omega
      exact hw
    | false =>
     refine .inr ⟨((k:Int),()),rfl,?_⟩
     have:=takeWhile_len wcB s.data.toList k (by omega) hi (fun _=>hw)
     unfold wordN
     rw [this]
   ·obtain rfl:k = s.size:=by omega
    have hd:decide (((s.size:Nat):Int) < ((s.size:Nat):Int)) = false:=decide_eq_false (by omega)
    simp only [hd,cond_false,Option.bind_some]
    refine .inr ⟨_,rfl,?_⟩
    have:=takeWhile_len wcB s.data.toList s.size (by omega) hi (fun h=>by omega)
    unfold wordN
    rw [this]) (s:=(0,())) ⟨rfl,fun i _ h=>by omega⟩
 rw [h1,h2]
 rfl
theorem takeWhile_all {α:Type} (p:α → Bool):∀ (l:List α),((l.takeWhile p).length == l.length) = l.all p
 | []=>rfl
 | x :: l=>by
  rw [List.takeWhile_cons,List.all_cons]
  cases p x with
  | true =>
   simp only [if_true,List.length_cons,Bool.true_and]
   rw [← takeWhile_all p l]
   rw [Bool.eq_iff_iff,beq_iff_eq,beq_iff_eq]
   omega
  | false=>simp
theorem f_name (s:ByteArray) (hs:s.size ≤ 9223372036854775806):F_decimal_IsName s = some (nameB s):=by
 unfold F_decimal_IsName nameB
 have hlen:s.data.toList.length = s.size:=rfl
 have hw:∀ (c:UInt8) (l:List UInt8),s.data.toList = c :: l → ((wordN s:Int) == ((s.size:Nat):Int)) = (c :: l).all wcB:=by
  intro c l h
  rw [← h,← takeWhile_all,hlen]
  unfold wordN
  rw [Bool.eq_iff_iff,beq_iff_eq,beq_iff_eq]
  omega
 simp only [f_word s hs,ByteArray.toList_eq]
 show Option.bind (bif (!(s.data.toList == [])) then _ else _) _ = _
 cases hl:s.data.toList with
 | nil=>rfl
 | cons c l =>
  rw [hl] at hlen
  have h0:idxB s 0 = some c:=by
   have h1:0 < s.size:=by rw [← hlen];simp
   have:=idxB_at (s:=s) (k:=0) h1
   have e:s[0] = s.data.toList[0]'(by rw [hl];simp):=rfl
   rw [e] at this
   simp only [hl,List.getElem_cons_zero] at this
   exact this
  have h1:(!(c :: l == ([]:List UInt8))) = true:=rfl
  simp only [h1,cond_true,h0,Option.bind_some,f_letter]
  have h2:decide (((s.size:Nat):Int) ≤ 20) = decide (l.length < 20):=by
   rw [← hlen]
   simp only [List.length_cons]
   by_cases h:l.length < 20
   ·rw [decide_eq_true h];exact decide_eq_true (by omega)
   ·rw [decide_eq_false h];exact decide_eq_false (by omega)
  rw [h2,hw c l hl]
  cases decide (l.length < 20) <;> cases letterB ((c.toNat:Nat):Int) <;> rfl
end Go.Proofs.YtgbicnkpnhifgaaGreatDoor

namespace Go.Proofs.YtgbicnkpnhifgaaGreatDoor
theorem f_rname (s:ByteArray) (hs:s.size ≤ 9223372036854775806):F_ref01_IsName s = some (nameB s):=by
 have hlen:s.data.toList.length = s.size:=rfl
 have hrw:F_ref01_word s 0 = F_decimal_word s:=rfl
 have h0:=f_name s hs
 unfold F_ref01_IsName
 unfold F_decimal_IsName at h0
 rw [hrw]
 simp only [f_word s hs,ByteArray.toList_eq,f_letter,f_rletter] at h0 ⊢
 rw [← h0]
 cases hl:s.data.toList with
 | nil =>
  have:s.size = 0:=by rw [← hlen,hl];rfl
  rw [this];rfl
 | cons c l =>
  rw [hl] at hlen
  have hpos:0 < s.size:=by rw [← hlen];simp
  have e1:(((s.size:Nat):Int) == 0) = false:=by rw [beq_eq_false_iff_ne];omega
  have e2:(!(c :: l == (⟨#[]⟩:ByteArray).data.toList)) = true:=rfl
  have e3:decide (((s.size:Nat):Int) > 20) = !decide (((s.size:Nat):Int) ≤ 20):=by
   by_cases h:((s.size:Nat):Int) ≤ 20
   ·rw [decide_eq_true h];exact decide_eq_false (by omega)
   ·rw [decide_eq_false h];exact decide_eq_true (by omega)
  have h1:=idxB_at (s:=s) (k:=0) hpos
  have h1':idxB s 0 = some s[0]:=h1
  rw [e1,e2,e3,h1']
  cases decide (((s.size:Nat):Int) ≤ 20) with
  | false=>rfl
  | true =>
   simp only [Bool.not_true,cond_false,cond_true,Option.bind_some]
   cases letterB ((s[0].toNat:Nat):Int) <;> rfl
theorem f_alone (x:TItem) (hx:x.name.size ≤ 9223372036854775806):F_batten_alone x = some (aloneB x):=by
 unfold F_batten_alone aloneB
 rw [f_name _ hx]
 simp only [f_between,Option.bind_some]
 cases nameB x.name <;> cases betweenB x.weight 0 1048576 <;> cases betweenB x.hang 0 1048576 <;> cases betweenB x.front 0 1048576 <;> rfl
theorem f_inside (x:TItem) (len:Int) (h1:-4611686018427387904 ≤ len) (h2:len ≤ 4611686018427387904):F_batten_inside x len = some (insideB x len):=by
 unfold F_batten_inside insideB
 simp only [f_between,Option.bind_some]
 by_cases h:0 ≤ x.at_
 ·have e:decide (x.at_ ≥ 0) = true:=decide_eq_true h
  rw [e]
  cases hb:betweenB x.width 1 1048576 with
  | false=>rfl
  | true =>
   rw [between_iff] at hb
   rw [wrap64 (by omega) (by omega)]
   rfl
 ·have e:decide (x.at_ ≥ 0) = false:=decide_eq_false h
  rw [e]
  rfl
theorem f_apart (x y:TItem) (hx:-4611686018427387904 ≤ x.at_ + x.width ∧ x.at_ + x.width ≤ 4611686018427387904) (hy:-4611686018427387904 ≤ y.at_ + y.width ∧ y.at_ + y.width ≤ 4611686018427387904):F_batten_apart x y = some (apartB x y):=by
 unfold F_batten_apart apartB
 rw [wrap64 (by omega) (by omega),wrap64 (by omega) (by omega)]
 cases decide (x.at_ + x.width ≤ y.at_) <;> rfl
theorem f_rapart (x y:TItem) (hx:-4611686018427387904 ≤ x.at_ + x.width ∧ x.at_ + x.width ≤ 4611686018427387904) (hy:-4611686018427387904 ≤ y.at_ + y.width ∧ y.at_ + y.width ≤ 4611686018427387904):F_ref21_Apart x y = some (apartB x y):=f_apart x y hx hy
end Go.Proofs.YtgbicnkpnhifgaaGreatDoor

namespace Go.Proofs.YtgbicnkpnhifgaaGreatDoor
def keysM {α:Type} (f:α → ByteArray) (l:List α):List (ByteArray × Bool):=l.foldl (fun m x=>setM (f x) true m) []
theorem keysM_snoc {α:Type} (f:α → ByteArray) (l:List α) (x:α):keysM f (l ++ [x]) = setM (f x) true (keysM f l):=by unfold keysM;rw [List.foldl_append];rfl
theorem keysM_find {α:Type} (f:α → ByteArray) (s:ByteArray) (l:List α) (k:Nat) (hk:k ≤ l.length):(findM s (keysM f (l.take k))).isSome = true ↔ ∃ x ∈ l.take k,f x = s:=by
 induction k with
 | zero=>simp [keysM,findM]
 | succ k ih =>
  have ih:=ih (by omega)
  rw [List.take_succ_eq_append_getElem (by omega),keysM_snoc]
  by_cases h:s = f l[k]
  ·subst h
   rw [find_set_same]
   exact ⟨fun _=>⟨l[k],List.mem_append_right _ (List.mem_singleton.2 rfl),rfl⟩,fun _=>rfl⟩
  ·rw [find_set_other h,ih]
   constructor
   ·rintro ⟨x,hx,e⟩
    exact ⟨x,List.mem_append_left _ hx,e⟩
   ·rintro ⟨x,hx,e⟩
    rcases List.mem_append.1 hx with hx | hx
    ·exact ⟨x,hx,e⟩
    ·rw [List.mem_singleton] at hx
     subst hx
     exact absurd e.symm h
theorem keysM_length {α:Type} (f:α → ByteArray) (l:List α) (k:Nat) (hk:k ≤ l.length):(keysM f (l.take k)).length ≤ k ∧ ((keysM f (l.take k)).length = k ↔ ∀ i (hi:i < k) j (hj:j < i),f (l[j]'(by omega)) ≠ f (l[i]'(by omega))):=by
 induction k with
 | zero=>exact ⟨by simp [keysM],by simp [keysM]⟩
 | succ k ih =>
  obtain ⟨h1,h2⟩:=ih (by omega)
  have hfind:=keysM_find f (f l[k]) l k (by omega)
  have hlen:=length_set (f l[k]) true (keysM f (l.take k))
  rw [List.take_succ_eq_append_getElem (by omega),keysM_snoc,hlen]
  by_cases hs:(findM (f l[k]) (keysM f (l.take k))).isSome = true
  ·rw [if_pos hs]
   refine ⟨by omega,⟨fun e=>by omega,fun e=>?_⟩⟩
   obtain ⟨x,hx,he⟩:=hfind.1 hs
   obtain ⟨j,hj,rfl⟩:=List.mem_take_iff_getElem.1 hx
   exact absurd he (e k (by omega) j (by omega))
  ·rw [if_neg hs]
   refine ⟨by omega,⟨fun e i hi j hj=>?_,fun e=>?_⟩⟩
   ·by_cases hik:i < k
    ·exact h2.1 (by omega) i hik j hj
    ·obtain rfl:i = k:=by omega
     intro he
     exact hs (hfind.2 ⟨l[j]'(by omega),List.mem_take_iff_getElem.2 ⟨j,by omega,rfl⟩,he⟩)
   ·have:=h2.2 (fun i hi j hj=>e i (by omega) j hj)
    omega
theorem keysM_twice {α:Type} (f:α → ByteArray) (l:List α):decide ((((keysM f l).length:Nat):Int) < ((l.length:Nat):Int)) = !pairsB (fun _=>true) (fun x y=>!sameName (f x) (f y)) l:=by
 obtain ⟨h1,h2⟩:=keysM_length f l l.length (Nat.le_refl _)
 rw [List.take_length] at h1 h2
 have h3:(keysM f l).length = l.length ↔ pairsB (fun _=>true) (fun x y=>!sameName (f x) (f y)) l = true:=by
  rw [h2,pairs_iff]
  constructor
  ·intro e i hi
   refine ⟨rfl,fun k hk=>?_⟩
   rw [Bool.not_eq_true',Bool.eq_false_iff,Ne,sameName_iff]
   exact e i hi k hk
  ·intro e i hi j hj
   have:=(e i hi).2 j hj
   rw [Bool.not_eq_true',Bool.eq_false_iff,Ne,sameName_iff] at this
   exact this
 cases hp:pairsB (fun _=>true) (fun x y=>!sameName (f x) (f y)) l with
 | true=>exact decide_eq_false (by have:=h3.2 hp;omega)
 | false=>exact decide_eq_true (by
   have:(keysM f l).length ≠ l.length:=fun e=>by rw [h3.1 e] at hp;cases hp
   omega)
theorem f_batten_twice_api_Item (l:List TItem) (hl:l.length ≤ 2147483648) (name:TItem → Option ByteArray) (f:TItem → ByteArray) (hf:∀ x ∈ l,name x = some (f x) ∧ (f x).size ≤ 2147483648) :
  F_batten_twice_api_Item l name = some (!pairsB (fun _=>true) (fun x y=>!sameName (f x) (f y)) l):=by
 unfold F_batten_twice_api_Item
 obtain ⟨r,h1,h2⟩:=iter_inv (F:=fun s5:Int × List (ByteArray × Bool) × Unit=>(bif (decide (s5.1 < ((l.length:Nat):Int))) then (idx l s5.1).bind fun x6=>(name x6).bind fun r7=>(if r7.size ≤ 2147483648 ∧ s5.2.1.length ≤ 2147483648 then some (.inl ((IntKind.i64.wrap (s5.1 + 1)),(setM r7 true s5.2.1),())) else none) else some (.inr (s5.2.1,())):Option ((Int × List (ByteArray × Bool) × Unit) ⊕ (List (ByteArray × Bool) × Unit))))
  (Q:=fun r=>r = (keysM f l,())) (fun k s=>s = ((k:Int),keysM f (l.take k),())) l.length (by unfold big;omega) (fun k s hk hs=>by
   subst hs
   by_cases hlt:k < l.length
   ·have hd:decide ((k:Int) < ((l.length:Nat):Int)) = true:=decide_eq_true (by omega)
    obtain ⟨g1,g2⟩:=hf l[k] (List.getElem_mem hlt)
    have g3:=(keysM_length f l k (by omega)).1
    simp only [hd,cond_true,idx_at hlt,Option.bind_some,g1]
    rw [if_pos ⟨g2,by omega⟩,wrap64 (by omega) (by omega)]
    exact .inl ⟨_,rfl,hlt,by rw [List.take_succ_eq_append_getElem hlt,keysM_snoc];rfl⟩
   ·obtain rfl:k = l.length:=by omega
    have hd:decide (((l.length:Nat):Int) < ((l.length:Nat):Int)) = false:=decide_eq_false (by omega)
    simp only [hd,cond_false]
    exact .inr ⟨_,rfl,by rw [List.take_length]⟩) (s:=(0,([]:List (ByteArray × Bool)),())) rfl
 rw [h1,h2,Option.bind_some,keysM_twice]
theorem f_batten_twice_api_Brick (l:List TBrick) (hl:l.length ≤ 2147483648) (name:TBrick → Option ByteArray) (f:TBrick → ByteArray) (hf:∀ x ∈ l,name x = some (f x) ∧ (f x).size ≤ 2147483648) :
  F_batten_twice_api_Brick l name = some (!pairsB (fun _=>true) (fun x y=>!sameName (f x) (f y)) l):=by
 unfold F_batten_twice_api_Brick
 obtain ⟨r,h1,h2⟩:=iter_inv (F:=fun s5:Int × List (ByteArray × Bool) × Unit=>(bif (decide (s5.1 < ((l.length:Nat):Int))) then (idx l s5.1).bind fun x6=>(name x6).bind fun r7=>(if r7.size ≤ 2147483648 ∧ s5.2.1.length ≤ 2147483648 then some (.inl ((IntKind.i64.wrap (s5.1 + 1)),(setM r7 true s5.2.1),())) else none) else some (.inr (s5.2.1,())):Option ((Int × List (ByteArray × Bool) × Unit) ⊕ (List (ByteArray × Bool) × Unit))))
  (Q:=fun r=>r = (keysM f l,())) (fun k s=>s = ((k:Int),keysM f (l.take k),())) l.length (by unfold big;omega) (fun k s hk hs=>by
   subst hs
   by_cases hlt:k < l.length
   ·have hd:decide ((k:Int) < ((l.length:Nat):Int)) = true:=decide_eq_true (by omega)
    obtain ⟨g1,g2⟩:=hf l[k] (List.getElem_mem hlt)
    have g3:=(keysM_length f l k (by omega)).1
    simp only [hd,cond_true,idx_at hlt,Option.bind_some,g1]
    rw [if_pos ⟨g2,by omega⟩,wrap64 (by omega) (by omega)]
    exact .inl ⟨_,rfl,hlt,by rw [List.take_succ_eq_append_getElem hlt,keysM_snoc];rfl⟩
   ·obtain rfl:k = l.length:=by omega
    have hd:decide (((l.length:Nat):Int) < ((l.length:Nat):Int)) = false:=decide_eq_false (by omega)
    simp only [hd,cond_false]
    exact .inr ⟨_,rfl,by rw [List.take_length]⟩) (s:=(0,([]:List (ByteArray × Bool)),())) rfl
 rw [h1,h2,Option.bind_some,keysM_twice]
end Go.Proofs.YtgbicnkpnhifgaaGreatDoor

namespace Go.Proofs.YtgbicnkpnhifgaaGreatDoor
theorem inside_sum {x:TItem} {len:Int} (h:insideB x len = true) (hl:len ≤ 4611686018427387904):-4611686018427387904 ≤ x.at_ + x.width ∧ x.at_ + x.width ≤ 4611686018427387904:=by
 simp only [insideB,betweenB,Bool.and_eq_true,decide_eq_true_iff] at h
 omega
theorem f_items (l:List TItem) (len:Int) (hl:l.length ≤ 2147483648) (hn:∀ x ∈ l,x.name.size ≤ 2147483648) (h1:-4611686018427387904 ≤ len) (h2:len ≤ 4611686018427387904):F_batten_items l len = some (itemsB l len):=by
 unfold F_batten_items itemsB
 rw [f_batten_twice_api_Item l hl (fun z3=>F_batten_items_1 z3) (fun x=>x.name) (fun x hx=>⟨rfl,hn x hx⟩)]
 by_cases h40:l.length ≤ 40
 ·have e1:decide (((l.length:Nat):Int) > 40) = false:=decide_eq_false (by omega)
  rw [e1,decide_eq_true h40]
  cases hp:pairsB (fun _=>true) (fun x y:TItem=>!sameName x.name y.name) l with
  | false=>simp only [cond_false,Option.bind_some,Bool.not_false,cond_true,Bool.and_false]
  | true =>
   simp only [cond_false,Option.bind_some,Bool.not_true,Bool.and_true,Bool.true_and]
   obtain ⟨r,g1,g2⟩:=iter_inv (F:=fun s16:Int × Unit=>(bif (decide (s16.1 < ((l.length:Nat):Int))) then (idx l s16.1).bind fun x17=>((F_batten_alone x17).bind fun r18=>(bif (!r18) then some (true,()) else (F_batten_inside x17 len).bind fun r19=>(bif (!r19) then some (true,()) else (if 0 ≤ (0:Int) ∧ (0:Int) ≤ s16.1 ∧ s16.1 ≤ ((l.length:Nat):Int) then (F_slices_ContainsFunc_api_Item ((l.take (Int.toNat s16.1)).drop (Int.toNat (0:Int))) (fun z20=>F_batten_items_2 z20 x17)).bind fun r21=>some (r21,()) else none))):Option (Bool × Unit)).bind fun y22=>(bif y22.1 then some (.inr (.inl (false,()))) else some (.inl ((IntKind.i64.wrap (s16.1 + 1)),()))) else some (.inr (.inr ((())))):Option ((Int × Unit) ⊕ ((Bool × Unit) ⊕ Unit))))
    (Q:=fun r=>r = (bif pairsB (fun x=>aloneB x && insideB x len) apartB l then .inr () else .inl (false,()))) (fun k s=>s = ((k:Int),()) ∧ okTo (fun x=>aloneB x && insideB x len) apartB l k) l.length (by unfold big;omega) (fun k s hk hs=>by
     obtain ⟨rfl,hok⟩:=hs
     by_cases hlt:k < l.length
     ·have hd:decide ((k:Int) < ((l.length:Nat):Int)) = true:=decide_eq_true (by omega)
      have hna:=hn l[k] (List.getElem_mem hlt)
      simp only [hd,cond_true,idx_at hlt,Option.bind_some,f_alone l[k] (by omega),f_inside l[k] len h1 h2]
      have hat:=okAt_eq (one:=fun x=>aloneB x && insideB x len) (two:=apartB) hlt
      have hno:∀ b,okAt (fun x=>aloneB x && insideB x len) apartB l k = false → b = (Sum.inl (false,()):(Bool × Unit) ⊕ Unit) → b = (bif pairsB (fun x=>aloneB x && insideB x len) apartB l then .inr () else .inl (false,())):=fun b h hb=>by rw [pairs_no hlt h,hb];rfl
      cases ha:aloneB l[k] with
      | false=>exact .inr ⟨_,rfl,hno _ (by rw [hat,ha];rfl) rfl⟩
      | true =>
       cases hi:insideB l[k] len with
       | false=>exact .inr ⟨_,rfl,hno _ (by rw [hat,ha,hi];rfl) rfl⟩
       | true =>
        simp only [Bool.not_true,cond_false]
        rw [if_pos ⟨by omega,by omega,by omega⟩,Int.toNat_natCast]
        have hxs:=inside_sum hi h2
        rw [f_slices_ContainsFunc_api_Item ((l.take k).drop (Int.toNat 0)) (by simp;omega) _ (fun z=>!apartB l[k] z) (fun z hz=>by
         have hz':z ∈ l.take k:=by simpa using hz
         obtain ⟨j,hj,rfl⟩:=List.mem_take_iff_getElem.1 hz'
         have hjk:j < k:=by omega
         have:=hok j hjk
         rw [okAt_eq (by omega)] at this
         simp only [Bool.and_eq_true] at this
         unfold F_batten_items_2
         rw [f_apart _ _ hxs (inside_sum this.1.2 h2)]
         rfl)]
        have hdr:(l.take k).drop (Int.toNat 0) = l.take k:=by simp
        rw [hdr]
        simp only [Option.bind_some]
        have hall:((l.take k).any fun z=>!apartB l[k] z) = !(l.take k).all fun y=>apartB y l[k]:=by
         rw [List.not_all_eq_any_not]
         congr 1
         funext z
         rw [apart_comm]
        rw [hall]
        cases hq:(l.take k).all fun y=>apartB y l[k] with
        | false=>exact .inr ⟨_,rfl,hno _ (by rw [hat,ha,hi,hq];rfl) rfl⟩
        | true =>
         refine .inl ⟨((k:Int) + 1,()),?_,hlt,rfl,okTo_succ hok (by rw [hat,ha,hi,hq];rfl)⟩
         simp only [Bool.not_true,cond_false]
         rw [wrap64 (by omega) (by omega)]
     ·obtain rfl:k = l.length:=by omega
      have hd:decide (((l.length:Nat):Int) < ((l.length:Nat):Int)) = false:=decide_eq_false (by omega)
      simp only [hd,cond_false]
      exact .inr ⟨_,rfl,by rw [pairs_yes hok];rfl⟩) (s:=(0,())) ⟨rfl,okTo_zero⟩
   rw [g1,g2]
   cases pairsB (fun x=>aloneB x && insideB x len) apartB l <;> rfl
 ·have e1:decide (((l.length:Nat):Int) > 40) = true:=decide_eq_true (by omega)
  rw [e1,decide_eq_false h40]
  rfl
end Go.Proofs.YtgbicnkpnhifgaaGreatDoor

namespace Go.Proofs.YtgbicnkpnhifgaaGreatDoor
theorem f_bricks (l:List TBrick) (hl:l.length ≤ 2147483648) (hn:∀ x ∈ l,x.name.size ≤ 2147483648):F_batten_bricks l = some (bricksB l):=by
 unfold F_batten_bricks bricksB
 rw [f_batten_twice_api_Brick l hl (fun z3=>F_batten_bricks_1 z3) (fun x=>x.name) (fun x hx=>⟨rfl,hn x hx⟩),pairs_split (one:=brickB)]
 by_cases h8:l.length ≤ 8
 ·have e1:decide (((l.length:Nat):Int) > 8) = false:=decide_eq_false (by omega)
  rw [e1,decide_eq_true h8]
  cases hp:pairsB (fun _=>true) (fun x y:TBrick=>!sameName x.name y.name) l with
  | false=>simp only [cond_false,Option.bind_some,Bool.not_false,cond_true,Bool.and_false,Bool.false_and]
  | true =>
   simp only [cond_false,Option.bind_some,Bool.not_true,Bool.and_true,Bool.true_and]
   obtain ⟨r,g1,g2⟩:=iter_inv (F:=fun s14:Int × Int × Unit=>(bif (decide (s14.2.1 < ((l.length:Nat):Int))) then (idx l s14.2.1).bind fun x15=>((F_decimal_IsName x15.name).bind fun r16=>(bif (!r16) then some (true,()) else (F_batten_between x15.weight 1 1048576).bind fun r17=>(bif (!r17) then some (true,()) else (F_batten_between x15.count 0 60).bind fun r18=>some ((!r18),()))):Option (Bool × Unit)).bind fun y19=>(bif y19.1 then some (.inr (.inl (false,()))) else some (.inl ((IntKind.i64.wrap (s14.1 + x15.count)),(IntKind.i64.wrap (s14.2.1 + 1)),()))) else some (.inr (.inr ((s14.1,())))):Option ((Int × Int × Unit) ⊕ ((Bool × Unit) ⊕ (Int × Unit)))))
    (Q:=fun r=>r = (bif l.all brickB then .inr (sumTo (·.count) l l.length,()) else .inl (false,()))) (fun k s=>s = (sumTo (·.count) l k,(k:Int),()) ∧ (l.take k).all brickB = true) l.length (by unfold big;omega) (fun k s hk hs=>by
     obtain ⟨rfl,hok⟩:=hs
     by_cases hlt:k < l.length
     ·have hd:decide ((k:Int) < ((l.length:Nat):Int)) = true:=decide_eq_true (by omega)
      have hna:=hn l[k] (List.getElem_mem hlt)
      simp only [hd,cond_true,idx_at hlt,Option.bind_some,f_name l[k].name (by omega),f_between]
      cases hb:brickB l[k] with
      | false =>
       refine .inr ⟨.inl (false,()),?_,by rw [all_no l brickB k hlt hb];rfl⟩
       unfold brickB at hb
       cases ha:nameB l[k].name <;> cases hc:betweenB l[k].weight 1 1048576 <;> cases hd':betweenB l[k].count 0 60 <;> first | rfl | (rw [ha,hc,hd'] at hb;cases hb)
      | true =>
       have hg:=GoodBrick.of hb
       have hsum:=sumTo_bound (·.count) (l.take k) 60 (fun x hx=>by
        have:=GoodBrick.of (List.all_eq_true.1 hok x hx)
        exact ⟨this.c0,this.c1⟩) k (by simp;omega)
       have hsk:sumTo (·.count) (l.take k) k = sumTo (·.count) l k:=by unfold sumTo;rw [List.take_take,Nat.min_self]
       rw [hsk] at hsum
       refine .inl ⟨(sumTo (·.count) l k + l[k].count,(k:Int) + 1,()),?_,hlt,by rw [sumTo_succ _ _ _ hlt];rfl,all_take_succ l brickB k hlt hok hb⟩
       have hc0:=hg.c0
       have hc1:=hg.c1
       unfold brickB at hb
       simp only [Bool.and_eq_true] at hb
       rw [hb.1,hb.2.1,hb.2.2,wrap64 (by omega) (by omega),wrap64 (by omega) (by omega)]
       rfl
     ·obtain rfl:k = l.length:=by omega
      have hd:decide (((l.length:Nat):Int) < ((l.length:Nat):Int)) = false:=decide_eq_false (by omega)
      simp only [hd,cond_false]
      rw [List.take_length] at hok
      exact .inr ⟨_,rfl,by rw [hok];rfl⟩) (s:=(0,0,())) ⟨rfl,by simp⟩
   rw [g1,g2]
   cases l.all brickB <;> rfl
 ·have e1:decide (((l.length:Nat):Int) > 8) = true:=decide_eq_true (by omega)
  rw [e1,decide_eq_false h8]
  rfl
end Go.Proofs.YtgbicnkpnhifgaaGreatDoor

namespace Go.Proofs.YtgbicnkpnhifgaaGreatDoor
theorem lineAt_eq (l:List Int) (len:Int) (i:Nat) (h:i < l.length):lineAt l len i = (betweenB l[i] 0 len && (decide (i = 0) || decide (l[i - 1]'(by omega) < l[i]))):=by
 unfold lineAt
 rw [List.getElem?_eq_getElem h,List.getElem?_eq_getElem (show i - 1 < l.length by omega)]
 rfl
theorem linesB_iff (l:List Int) (len:Int):linesB l len = true ↔ 2 ≤ l.length ∧ l.length ≤ 10 ∧ ∀ i (h:i < l.length),0 ≤ l[i] ∧ l[i] ≤ len ∧ (i = 0 ∨ l[i - 1]'(by omega) < l[i]):=by
 unfold linesB
 rw [Bool.and_eq_true,decide_eq_true_iff,List.all_eq_true,and_assoc]
 refine and_congr Iff.rfl (and_congr Iff.rfl ⟨fun h i hi=>?_,fun h i hi=>?_⟩)
 ·have:=h i (List.mem_range.2 hi)
  rw [lineAt_eq l len i hi,Bool.and_eq_true,between_iff,Bool.or_eq_true,decide_eq_true_iff,decide_eq_true_iff,and_assoc] at this
  exact this
 ·rw [lineAt_eq l len i (List.mem_range.1 hi),Bool.and_eq_true,between_iff,Bool.or_eq_true,decide_eq_true_iff,decide_eq_true_iff,and_assoc]
  exact h i (List.mem_range.1 hi)
theorem asc_mono (l:List Int) (h:∀ i (h:i < l.length),1 ≤ i → l[i - 1]'(by omega) < l[i]):∀ j (hj:j < l.length) i (hi:i ≤ j),l[i]'(by omega) ≤ l[j]:=by
 intro j
 induction j with
 | zero =>
  intro hj i hi
  obtain rfl:i = 0:=by omega
  exact Int.le_refl _
 | succ j ih =>
  intro hj i hi
  rcases Nat.lt_or_ge i (j + 1) with h1 | h1
  ·have h2:=ih (by omega) i (by omega)
   have h3:=h (j + 1) hj (by omega)
   simp only [Nat.add_sub_cancel] at h3
   omega
  ·obtain rfl:i = j + 1:=by omega
   exact Int.le_refl _
theorem lines_yes (l:List Int) (len:Int) (h2:2 ≤ l.length) (h10:l.length ≤ 10) (h0:0 ≤ l[0]) (hl:l[l.length - 1] ≤ len) (h:∀ i (h:i < l.length),1 ≤ i → l[i - 1]'(by omega) < l[i]):linesB l len = true:=by
 rw [linesB_iff]
 refine ⟨h2,h10,fun i hi=>?_⟩
 have m:=asc_mono l h
 have m1:=m i hi 0 (by omega)
 have m2:=m (l.length - 1) (by omega) i (by omega)
 refine ⟨by omega,by omega,?_⟩
 rcases Nat.eq_zero_or_pos i with h1 | h1
 ·exact Or.inl h1
 ·exact Or.inr (h i hi h1)
theorem lines_no_len (l:List Int) (len:Int) (h:¬ (2 ≤ l.length ∧ l.length ≤ 10)):linesB l len = false:=by
 rw [Bool.eq_false_iff];intro e;rw [linesB_iff] at e;exact h ⟨e.1,e.2.1⟩
theorem lines_no_at (l:List Int) (len:Int) (i:Nat) (hi:i < l.length) (h:l[i] < 0 ∨ len < l[i] ∨ (i ≠ 0 ∧ l[i] ≤ l[i - 1]'(by omega))):linesB l len = false:=by
 rw [Bool.eq_false_iff];intro e;rw [linesB_iff] at e
 have:=e.2.2 i hi
 omega
def AscTo (l:List Int) (k:Nat):Prop:=∀ i (h:i < l.length),1 ≤ i → i < k → l[i - 1]'(by omega) < l[i]
theorem AscTo.succ {l:List Int} {k:Nat} (h:AscTo l k) (hk:k < l.length) (h1:l[k - 1]'(by omega) < l[k]):AscTo l (k + 1):=fun i hi hi1 hik=>by
 rcases Nat.lt_or_ge i k with h2 | h2
 ·exact h i hi hi1 h2
 ·obtain rfl:i = k:=by omega
  exact h1
theorem f_lines (l:List Int) (len:Int) (hl:l.length ≤ 2147483648):F_batten_lines l len = some (linesB l len):=by
 unfold F_batten_lines
 rw [f_between,Option.bind_some]
 by_cases hb:2 ≤ l.length ∧ l.length ≤ 10
 ·have e1:betweenB ((l.length:Nat):Int) 2 10 = true:=(between_iff _ _ _).2 (by omega)
  have i0:idx l 0 = some (l[0]'(by omega)):=idx_at (k:=0) (by omega)
  have i1:idx l (IntKind.i64.wrap (((l.length:Nat):Int) - 1)) = some (l[l.length - 1]'(by omega)):=by
   rw [wrap64 (by omega) (by omega),show ((l.length:Nat):Int) - 1 = ((l.length - 1:Nat):Int) from by omega]
   exact idx_at (by omega)
  rw [e1,i0,i1]
  simp only [Bool.not_true,cond_false,Option.bind_some]
  by_cases h0:l[0]'(by omega) < 0
  ·rw [decide_eq_true h0,lines_no_at l len 0 (by omega) (.inl h0)];rfl
  rw [decide_eq_false h0]
  by_cases h1:l[l.length - 1]'(by omega) > len
  ·rw [decide_eq_true h1,lines_no_at l len (l.length - 1) (by omega) (.inr (.inl h1))];rfl
  rw [decide_eq_false h1]
  simp only [cond_false,Option.bind_some]
  obtain ⟨r,g1,g2⟩:=iter_inv (F:=fun s10:Int × Unit=>(bif (decide (s10.1 < ((l.length:Nat):Int))) then (idx l s10.1).bind fun x11=>(idx l (IntKind.i64.wrap (s10.1 - 1))).bind fun x12=>(bif (decide (x11 ≤ x12)) then some (.inr (.inl (false,()))) else some (.inl ((IntKind.i64.wrap (s10.1 + 1)),()))) else some (.inr (.inr ((())))):Option ((Int × Unit) ⊕ ((Bool × Unit) ⊕ Unit))))
   (Q:=fun r=>r = (bif linesB l len then .inr () else .inl (false,()))) (fun k s=>s = (((k + 1:Nat):Int),()) ∧ AscTo l (k + 1)) (l.length - 1) (by unfold big;omega) (fun k s hk hs=>by
    obtain ⟨rfl,ha⟩:=hs
    by_cases hlt:k + 1 < l.length
    ·have hd:decide (((k + 1:Nat):Int) < ((l.length:Nat):Int)) = true:=decide_eq_true (by omega)
     have i2:idx l (IntKind.i64.wrap (((k + 1:Nat):Int) - 1)) = some (l[k]'(by omega)):=by
      rw [wrap64 (by omega) (by omega),show ((k + 1:Nat):Int) - 1 = (k:Int) from by omega]
      exact idx_at (by omega)
     simp only [hd,cond_true,idx_at hlt,i2,Option.bind_some]
     by_cases hle:l[k + 1] ≤ l[k]'(by omega)
     ·rw [decide_eq_true hle]
      exact .inr ⟨_,rfl,by rw [lines_no_at l len (k + 1) hlt (.inr (.inr ⟨by omega,by simpa using hle⟩))];rfl⟩
     ·rw [decide_eq_false hle]
      refine .inl ⟨(((k + 1 + 1:Nat):Int),()),?_,by omega,rfl,ha.succ hlt (by simp only [Nat.add_sub_cancel];omega)⟩
      simp only [cond_false]
      rw [wrap64 (by omega) (by omega)]
      rfl
    ·have hk1:k + 1 = l.length:=by omega
     have hd:decide (((k + 1:Nat):Int) < ((l.length:Nat):Int)) = false:=decide_eq_false (by omega)
     simp only [hd,cond_false]
     exact .inr ⟨_,rfl,by rw [lines_yes l len hb.1 hb.2 (by omega) (by omega) (fun i hi h1=>ha i hi h1 (by omega))];rfl⟩) (s:=(1,())) ⟨rfl,fun i hi h1 h2=>by omega⟩
  rw [g1,g2]
  cases linesB l len <;> rfl
 ·have e1:betweenB ((l.length:Nat):Int) 2 10 = false:=by
   rw [Bool.eq_false_iff]
   intro e
   rw [between_iff] at e
   omega
  rw [e1,lines_no_len l len hb]
  rfl
end Go.Proofs.YtgbicnkpnhifgaaGreatDoor

namespace Go.Proofs.YtgbicnkpnhifgaaGreatDoor
structure Fits (s:TSet):Prop where
 name:s.name.size ≤ 2147483648
 lines:s.lines.length ≤ 2147483648
 items:s.items.length ≤ 2147483648
 bricks:s.bricks.length ≤ 2147483648
 inames:∀ x ∈ s.items,x.name.size ≤ 2147483648
 bnames:∀ x ∈ s.bricks,x.name.size ≤ 2147483648
theorem f_valid (s:TSet) (h:Fits s):F_batten_Valid s = some (validB s):=by
 unfold F_batten_Valid validB headB weightsB
 rw [f_name s.name (by have:=h.name;omega),f_lines s.lines s.length h.lines,f_bricks s.bricks h.bricks h.bnames]
 simp only [f_between,Option.bind_some]
 cases nameB s.name <;> try rfl
 cases betweenB s.depth 0 1048576 <;> try rfl
 cases decide (0 ≤ s.low) <;> try rfl
 cases decide (s.low ≤ s.high) <;> try rfl
 cases decide (s.high ≤ 1048576) <;> try rfl
 cases hl:betweenB s.length 1000 1048576 <;> try rfl
 rw [between_iff] at hl
 have hm:(s.length.tmod 1000 == 0) = decide (s.length % 1000 = 0):=by
  rw [Int.tmod_eq_emod_of_nonneg (by omega)]
  by_cases hz:s.length % 1000 = 0
  ·rw [decide_eq_true hz,beq_iff_eq.2 hz]
  ·rw [decide_eq_false hz,beq_eq_false_iff_ne.2 hz]
 rw [hm,f_items s.items s.length h.items h.inames (by omega) (by omega)]
 simp only [cond_true,Option.bind_some]
 cases decide (s.length % 1000 = 0) <;> try rfl
 cases linesB s.lines s.length <;> try rfl
 cases betweenB s.pipe 0 1048576 <;> try rfl
 cases betweenB s.arbor 0 1048576 <;> try rfl
 cases betweenB s.purchase 1 2 <;> try rfl
 cases betweenB s.most 1 67108864 <;> try rfl
 cases betweenB s.brake 0 67108864 <;> try rfl
 cases itemsB s.items s.length <;> rfl
end Go.Proofs.YtgbicnkpnhifgaaGreatDoor

namespace Go.Proofs.YtgbicnkpnhifgaaGreatDoor
theorem iter_sum {α:Type} (f:α → Int) (l:List α) (hl:l.length ≤ 2147483648) (M:Int) (hM0:0 ≤ M) (hM:M ≤ 1152921504606846976) (a:Int) (ha:0 ≤ a ∧ a ≤ 1152921504606846976) (hb:∀ k,k ≤ l.length → 0 ≤ sumTo f l k ∧ sumTo f l k ≤ M) {F:Int × Int × Unit → Option ((Int × Int × Unit) ⊕ (Int × Unit))}
  (hin:∀ (k:Nat) (hk:k < l.length) (z:Int),z = a + sumTo f l k → F (z,(k:Int),()) = some (.inl (IntKind.i64.wrap (z + f l[k]),(k:Int) + 1,()))) (hout:∀ z:Int,F (z,(l.length:Int),()) = some (.inr (z,()))) :
  iterF F big (a,0,()) = some (a + sumTo f l l.length,()):=by
 obtain ⟨r,h1,h2⟩:=iter_inv (F:=F) (Q:=fun r=>r = (a + sumTo f l l.length,())) (fun k s=>s = (a + sumTo f l k,(k:Int),())) l.length (by unfold big;omega) (fun k s hk hs=>by
  subst hs
  by_cases hlt:k < l.length
  ·have h3:=hb (k + 1) (by omega)
   have h4:=hb k hk
   have e:=hin k hlt _ rfl
   rw [sumTo_succ _ _ _ hlt] at h3
   rw [wrap64 (by omega) (by omega)] at e
   exact .inl ⟨_,e,hlt,by rw [sumTo_succ _ _ _ hlt,Int.add_assoc];rfl⟩
  ·obtain rfl:k = l.length:=by omega
   exact .inr ⟨_,hout _,rfl⟩) (s:=(a,0,())) (by rw [sumTo_zero];simp)
 rw [h1,h2]
def thereW (l:List TBrick):Int:=sumTo (fun b=>b.weight * b.count) l l.length
def thereC (l:List TBrick):Int:=sumTo (·.count) l l.length
theorem brick_mul {x:TBrick} (h:GoodBrick x):0 ≤ x.weight * x.count ∧ x.weight * x.count ≤ 62914560:=by
 have h1:=h.w0
 have h2:=h.c0
 refine ⟨Int.mul_nonneg (by omega) h2,?_⟩
 have:=Int.mul_le_mul h.w1 h.c1 h2 (by decide)
 exact Int.le_trans this (by decide)
theorem thereW_bound {l:List TBrick} (hl:l.length ≤ 8) (h:∀ x ∈ l,GoodBrick x) (k:Nat) (hk:k ≤ l.length):0 ≤ sumTo (fun b:TBrick=>b.weight * b.count) l k ∧ sumTo (fun b:TBrick=>b.weight * b.count) l k ≤ 503316480:=by
 have h1:=sumTo_bound (fun b:TBrick=>b.weight * b.count) l 62914560 (fun x hx=>brick_mul (h x hx)) k hk
 omega
theorem thereC_bound {l:List TBrick} (hl:l.length ≤ 8) (h:∀ x ∈ l,GoodBrick x) (k:Nat) (hk:k ≤ l.length):0 ≤ sumTo (·.count) l k ∧ sumTo (·.count) l k ≤ 480:=by
 have h1:=sumTo_bound (·.count) l 60 (fun x hx=>⟨(h x hx).c0,(h x hx).c1⟩) k hk
 omega
theorem f_there (s:TSet) (hl:s.bricks.length ≤ 8) (h:∀ x ∈ s.bricks,GoodBrick x):F_arbor_there s = some (thereW s.bricks,thereC s.bricks):=by
 unfold F_arbor_there thereW thereC
 obtain ⟨r,h1,h2⟩:=iter_inv (F:=fun s2:Int × Int × Int × Unit=>(bif (decide (s2.2.2.1 < ((s.bricks.length:Nat):Int))) then (idx s.bricks s2.2.2.1).bind fun x3=>some (.inl ((IntKind.i64.wrap (s2.1 + (IntKind.i64.wrap (x3.weight * x3.count)))),(IntKind.i64.wrap (s2.2.1 + x3.count)),(IntKind.i64.wrap (s2.2.2.1 + 1)),())) else some (.inr (s2.1,s2.2.1,())):Option ((Int × Int × Int × Unit) ⊕ (Int × Int × Unit))))
  (Q:=fun r=>r = (sumTo (fun b:TBrick=>b.weight * b.count) s.bricks s.bricks.length,sumTo (·.count) s.bricks s.bricks.length,())) (fun k z=>z = (sumTo (fun b:TBrick=>b.weight * b.count) s.bricks k,sumTo (·.count) s.bricks k,(k:Int),())) s.bricks.length (by unfold big;omega) (fun k z hk hz=>by
   subst hz
   by_cases hlt:k < s.bricks.length
   ·have hd:decide ((k:Int) < ((s.bricks.length:Nat):Int)) = true:=decide_eq_true (by omega)
    have b1:=thereW_bound hl h k hk
    have b2:=thereC_bound hl h k hk
    have hg:=h s.bricks[k] (List.getElem_mem hlt)
    have b3:=brick_mul hg
    have b4:=hg.c0
    have b5:=hg.c1
    simp only [hd,cond_true,idx_at hlt,Option.bind_some]
    rw [wrap64 (n:=s.bricks[k].weight * s.bricks[k].count) (by omega) (by omega),wrap64 (by omega) (by omega),wrap64 (by omega) (by omega),wrap64 (by omega) (by omega)]
    exact .inl ⟨_,rfl,hlt,by rw [sumTo_succ _ _ _ hlt,sumTo_succ _ _ _ hlt];rfl⟩
   ·obtain rfl:k = s.bricks.length:=by omega
    have hd:decide (((s.bricks.length:Nat):Int) < ((s.bricks.length:Nat):Int)) = false:=decide_eq_false (by omega)
    simp only [hd,cond_false]
    exact .inr ⟨_,rfl,rfl⟩) (s:=(0,0,0,())) rfl
 rw [h1,h2]
 rfl
theorem f_pipe (s:TSet) (h:Good s):F_batten_pipe s = some (pipeI s):=by
 unfold F_batten_pipe
 have hb:=pipe_bound h
 have h0:=h.n0
 have h1:=h.n1
 have e:s.length.tdiv 1000 = s.length / 1000:=Int.tdiv_eq_ediv_of_nonneg (by omega)
 rw [e,wrap64 (n:=s.length / 1000) (by omega) (by omega)]
 show some (IntKind.i64.wrap (pipeI s)) = _
 rw [wrap64 (by omega) (by omega)]
theorem f_weight (s:TSet) (h:Good s):F_batten_weight s = some (weightI s):=by
 unfold F_batten_weight weightI
 rw [f_pipe s h,Option.bind_some]
 have hb:=pipe_bound h
 have hni:=h.ni
 rw [iter_sum (·.weight) s.items (by omega) 41943040 (by decide) (by decide) (pipeI s) (by omega) (fun k hk=>weights_bound h k hk) ?hin ?hout]
 case hin =>
  intro k hk z hz
  have hd:decide ((k:Int) < ((s.items.length:Nat):Int)) = true:=decide_eq_true (by omega)
  simp only [hd,cond_true,idx_at hk,Option.bind_some]
  rw [wrap64 (n:=(k:Int) + 1) (by omega) (by omega)]
 case hout =>
  intro z
  have hd:decide (((s.items.length:Nat):Int) < ((s.items.length:Nat):Int)) = false:=decide_eq_false (by omega)
  simp only [hd,cond_false]
 rfl
theorem weight_bound {s:TSet} (h:Good s):0 ≤ weightI s ∧ weightI s ≤ 1099553570816:=by
 have h1:=pipe_bound h
 have h2:=weights_bound h s.items.length (Nat.le_refl _)
 unfold weightI
 omega
def neededI (s:TSet):Int:=weightI s * s.purchase - s.arbor
def balanceI (s:TSet):Int:=neededI s - thereW s.bricks
theorem needed_bound {s:TSet} (h:Good s):-1048576 ≤ neededI s ∧ neededI s ≤ 2199107141632:=by
 have h1:=weight_bound h
 have h2:0 ≤ weightI s * s.purchase:=Int.mul_nonneg h1.1 (by have:=h.u0;omega)
 have h3:weightI s * s.purchase ≤ 1099553570816 * 2:=Int.mul_le_mul h1.2 h.u1 (by have:=h.u0;omega) (by decide)
 have h4:=h.a0
 have h5:=h.a1
 unfold neededI
 omega
theorem f_needed (s:TSet) (hf:Fits s):F_arbor_Needed s = some (if validB s = true then (neededI s,0) else (0,1)):=by
 unfold F_arbor_Needed F_batten_Weight
 rw [f_valid s hf]
 cases hv:validB s with
 | false=>rfl
 | true =>
  have h:=Good.of hv
  have b1:=weight_bound h
  have b2:=needed_bound h
  have b3:0 ≤ weightI s * s.purchase:=Int.mul_nonneg b1.1 (by have:=h.u0;omega)
  have b4:weightI s * s.purchase ≤ 1099553570816 * 2:=Int.mul_le_mul b1.2 h.u1 (by have:=h.u0;omega) (by decide)
  simp only [Option.bind_some,Bool.not_true,cond_false,f_weight s h,if_true]
  show (bif ((0:Int) != 0) then some (0,0) else some (IntKind.i64.wrap (IntKind.i64.wrap (weightI s * s.purchase) - s.arbor),0)) = _
  rw [wrap64 (n:=weightI s * s.purchase) (by omega) (by omega)]
  show some (IntKind.i64.wrap (neededI s),0) = _
  rw [wrap64 (by omega) (by omega)]
theorem f_balance (s:TSet) (hf:Fits s):F_arbor_Balance s = some (if validB s = true then (balanceI s,0) else (0,1)):=by
 unfold F_arbor_Balance
 rw [f_needed s hf]
 cases hv:validB s with
 | false=>rfl
 | true =>
  have h:=Good.of hv
  have b1:=needed_bound h
  have b2:=thereW_bound h.nb h.bricks s.bricks.length (Nat.le_refl _)
  simp only [if_true,Option.bind_some,f_there s h.nb h.bricks]
  show some (IntKind.i64.wrap (neededI s - thereW s.bricks),0) = _
  have e:balanceI s = neededI s - thereW s.bricks:=rfl
  unfold thereW at e ⊢
  rw [wrap64 (by omega) (by omega)]
  rfl
end Go.Proofs.YtgbicnkpnhifgaaGreatDoor

namespace Go.Proofs.YtgbicnkpnhifgaaGreatDoor
def runL {α τ ρ:Type} (step:τ → α → τ ⊕ ρ) (fin:τ → ρ):List α → τ → ρ
 | [],t=>fin t
 | x :: l,t=>match step t x with
  | .inl t=>runL step fin l t
  | .inr r=>r
theorem iter_run {σ τ ρ α:Type} {F:σ → Option (σ ⊕ ρ)} (enc:τ → Int → σ) (l:List α) (hl:l.length < 9223372036854775807) (step:τ → α → τ ⊕ ρ) (fin:τ → ρ) (I:Nat → τ → Prop)
  (hin:∀ (k:Nat) (h:k < l.length) (t:τ),I k t → F (enc t (k:Int)) = some (match step t l[k] with | .inl t'=>.inl (enc t' ((k:Int) + 1)) | .inr r=>.inr r) ∧ ∀ t',step t l[k] = .inl t' → I (k + 1) t')
  (hout:∀ t:τ,I l.length t → F (enc t (l.length:Int)) = some (.inr (fin t))) (t0:τ) (h0:I 0 t0):iterF F big (enc t0 0) = some (runL step fin l t0):=by
 have hb:l.length < big:=by unfold big;omega
 obtain ⟨r,h1,h2⟩:=iter_inv (F:=F) (Q:=fun r=>r = runL step fin l t0) (fun k s=>∃ t,s = enc t (k:Int) ∧ I k t ∧ runL step fin l t0 = runL step fin (l.drop k) t) l.length hb (fun k s hk hi=>by
  obtain ⟨t,rfl,hI,hr⟩:=hi
  by_cases hlt:k < l.length
  ·obtain ⟨h,hn⟩:=hin k hlt t hI
   rw [List.drop_eq_getElem_cons hlt] at hr
   cases hs:step t l[k] with
   | inl t' =>
    rw [hs] at h
    refine .inl ⟨_,h,hlt,t',rfl,hn t' hs,?_⟩
    rw [hr];simp only [runL,hs]
   | inr r =>
    rw [hs] at h
    refine .inr ⟨r,h,?_⟩
    rw [hr];simp only [runL,hs]
  ·obtain rfl:k = l.length:=by omega
   refine .inr ⟨_,hout t hI,?_⟩
   rw [hr,List.drop_length];rfl) (s:=enc t0 0) ⟨t0,rfl,h0,by rw [List.drop_zero]⟩
 rw [h1,h2]
theorem iter_ak {τ ρ α:Type} {F:τ × Int × Unit → Option ((τ × Int × Unit) ⊕ ρ)} (l:List α) (hl:l.length < 9223372036854775807) (step:τ → α → τ ⊕ ρ) (fin:τ → ρ) (I:Nat → τ → Prop) (t0:τ) (h0:I 0 t0)
  (hin:∀ (k:Nat) (h:k < l.length) (t:τ),I k t → F (t,(k:Int),()) = some (match step t l[k] with | .inl t'=>.inl (t',(k:Int) + 1,()) | .inr r=>.inr r) ∧ ∀ t',step t l[k] = .inl t' → I (k + 1) t')
  (hout:∀ t:τ,I l.length t → F (t,(l.length:Int),()) = some (.inr (fin t))):iterF F big (t0,0,()) = some (runL step fin l t0) :=
 iter_run (fun t k=>(t,k,())) l hl step fin I hin hout t0 h0
theorem iter_no {α ρ:Type} {F:Int × Unit → Option ((Int × Unit) ⊕ ρ)} (l:List α) (hl:l.length < 9223372036854775807) (p:α → Bool) (a d:ρ)
  (hin:∀ (k:Nat) (h:k < l.length),F ((k:Int),()) = some (bif p l[k] then .inl ((k:Int) + 1,()) else .inr a)) (hout:F ((l.length:Int),()) = some (.inr d)) :
  iterF F big (0,()) = some (bif l.all p then d else a):=by
 have h:=iter_run (F:=F) (fun (_:Unit) k=>(k,())) l hl (fun _ x=>bif p x then .inl () else .inr a) (fun _=>d) (fun _ _=>True) (fun k hk t _=>⟨by
  rw [hin k hk];cases p l[k] <;> rfl,fun _ _=>trivial⟩) (fun _ _=>hout) () trivial
 rw [h]
 congr 1
 clear h hin hout hl
 induction l with
 | nil=>rfl
 | cons x l ih =>
  unfold runL
  rw [List.all_cons]
  cases p x with
  | true=>simpa using ih
  | false=>rfl
theorem lt_yes {k n:Nat} (h:k < n):decide ((k:Int) < ((n:Nat):Int)) = true:=decide_eq_true (by omega)
theorem lt_no (n:Nat):decide (((n:Nat):Int) < ((n:Nat):Int)) = false:=decide_eq_false (by omega)
def smallH (s:TSet) (most:Int):Bool:=decide (s.name.size ≤ 60 ∧ s.lines.length ≤ 12 ∧ ((s.items.length:Int) ≤ most ∨ 40 < s.items.length) ∧ s.items.length ≤ 45 ∧ s.bricks.length ≤ 10)
def smallB (s:TSet) (most:Int):Bool:=smallH s most && (s.items.all (fun x=>decide (x.name.size ≤ 60)) && s.bricks.all fun x=>decide (x.name.size ≤ 60))
theorem f_small (s:TSet) (most:Int):F_ref21_Small s most = some (smallB s most):=by
 unfold F_ref21_Small smallB
 by_cases h1:s.name.size ≤ 60
 case neg =>
  have:decide (((s.name.size:Nat):Int) > 60) = true:=decide_eq_true (by omega)
  have e:smallH s most = false:=decide_eq_false (by omega)
  rw [this,e];rfl
 have e1:decide (((s.name.size:Nat):Int) > 60) = false:=decide_eq_false (by omega)
 by_cases h2:s.lines.length ≤ 12
 case neg =>
  have:decide (((s.lines.length:Nat):Int) > 12) = true:=decide_eq_true (by omega)
  have e:smallH s most = false:=decide_eq_false (by omega)
  rw [e1,this,e];rfl
 have e2:decide (((s.lines.length:Nat):Int) > 12) = false:=decide_eq_false (by omega)
 rw [e1,e2]
 have hand:∀ (a:Option (Bool × Unit)) (b:Bool),a = some (!b,()) → ∀ (K:Bool × Unit → Option Bool),a.bind K = K (!b,()):=fun a b h K=>by rw [h];rfl
 have hcase:(bif decide (((s.items.length:Nat):Int) > most) then (bif (decide (((s.items.length:Nat):Int) ≤ 40)) then some (true,()) else (bif (decide (((s.items.length:Nat):Int) > 45)) then some (true,()) else some ((decide (((s.bricks.length:Nat):Int) > 10)),()))) else (bif (decide (((s.items.length:Nat):Int) > 45)) then some (true,()) else some ((decide (((s.bricks.length:Nat):Int) > 10)),())):Option (Bool × Unit)) =
   some (!smallH s most,()):=by
  unfold smallH
  by_cases h3:((s.items.length:Nat):Int) > most <;> by_cases h4:((s.items.length:Nat):Int) ≤ 40 <;> by_cases h5:((s.items.length:Nat):Int) > 45 <;> by_cases h6:((s.bricks.length:Nat):Int) > 10 <;>
   simp only [h3,h4,h5,h6,decide_true,decide_false,cond_true,cond_false,Option.some.injEq,Prod.mk.injEq,and_true] <;> (symm;simp only [Bool.not_eq_true',Bool.not_eq_false',decide_eq_true_eq,decide_eq_false_iff_not];omega)
 simp only [cond_false]
 rw [hand _ _ hcase]
 cases hb:smallH s most with
 | false=>rfl
 | true =>
  have hb:=of_decide_eq_true hb
  simp only [Bool.not_true,cond_false,Bool.true_and]
  rw [iter_no s.items (by omega) (fun x=>decide (x.name.size ≤ 60)) (.inl (false,())) (.inr ()) ?h1 ?h2,iter_no s.bricks (by omega) (fun x=>decide (x.name.size ≤ 60)) (.inl (false,())) (.inr ()) ?h3 ?h4]
  ·cases s.items.all (fun x=>decide (x.name.size ≤ 60)) <;> cases s.bricks.all (fun x=>decide (x.name.size ≤ 60)) <;> rfl
  case h1 =>
   intro k hk
   simp only [lt_yes hk,cond_true,idx_at hk,Option.bind_some]
   rw [wrap64 (by omega) (by omega)]
   by_cases h:s.items[k].name.size ≤ 60
   ·rw [decide_eq_false (show ¬ (((s.items[k].name.size:Nat):Int) > 60) by omega),decide_eq_true h];rfl
   ·rw [decide_eq_true (show (((s.items[k].name.size:Nat):Int) > 60) by omega),decide_eq_false h];rfl
  case h2=>simp only [lt_no,cond_false]
  case h3 =>
   intro k hk
   simp only [lt_yes hk,cond_true,idx_at hk,Option.bind_some]
   rw [wrap64 (by omega) (by omega)]
   by_cases h:s.bricks[k].name.size ≤ 60
   ·rw [decide_eq_false (show ¬ (((s.bricks[k].name.size:Nat):Int) > 60) by omega),decide_eq_true h];rfl
   ·rw [decide_eq_true (show (((s.bricks[k].name.size:Nat):Int) > 60) by omega),decide_eq_false h];rfl
  case h4=>simp only [lt_no,cond_false]
theorem small_fits {s:TSet} {most:Int} (h:smallB s most = true):Fits s:=by
 simp only [smallB,smallH,Bool.and_eq_true,decide_eq_true_eq,List.all_eq_true] at h
 obtain ⟨⟨h1,h2,_,h3,h4⟩,h5,h6⟩:=h
 exact ⟨by omega,by omega,by omega,by omega,fun x hx=>by have:=h5 x hx;omega,fun x hx=>by have:=h6 x hx;omega⟩
theorem f_clone_int (l:List Int) (h:l.length ≤ 2147483648):F_slices_Clone_int l = some l:=by unfold F_slices_Clone_int;rw [if_pos (by simpa using h)];rfl
theorem f_clone_item (l:List TItem) (h:l.length ≤ 2147483648):F_slices_Clone_api_Item l = some l:=by unfold F_slices_Clone_api_Item;rw [if_pos (by simpa using h)];rfl
theorem f_clone_brick (l:List TBrick) (h:l.length ≤ 2147483648):F_slices_Clone_api_Brick l = some l:=by unfold F_slices_Clone_api_Brick;rw [if_pos (by simpa using h)];rfl
end Go.Proofs.YtgbicnkpnhifgaaGreatDoor

namespace Go.Proofs.YtgbicnkpnhifgaaGreatDoor
theorem iter_pairs {α ρ:Type} {F:Int × Int × Unit → Option ((Int × Int × Unit) ⊕ ρ)} (one:α → Bool) (two:α → α → Bool) (l:List α) (hl:l.length < 9223372036854775807) (f:α → Int) (bad:ρ) (fin:Int → ρ)
  (hin:∀ (k:Nat) (h:k < l.length),okTo one two l k → F (sumTo f l k,(k:Int),()) = some (bif okAt one two l k then .inl (sumTo f l k + f l[k],(k:Int) + 1,()) else .inr bad))
  (hout:okTo one two l l.length → F (sumTo f l l.length,(l.length:Int),()) = some (.inr (fin (sumTo f l l.length)))) :
  iterF F big (0,0,()) = some (bif pairsB one two l then fin (sumTo f l l.length) else bad):=by
 obtain ⟨r,h1,h2⟩:=iter_inv (F:=F) (Q:=fun r=>r = (bif pairsB one two l then fin (sumTo f l l.length) else bad)) (fun k s=>s = (sumTo f l k,(k:Int),()) ∧ okTo one two l k) l.length (by unfold big;omega) (fun k s hk hs=>by
  obtain ⟨rfl,hok⟩:=hs
  by_cases hlt:k < l.length
  ·have h:=hin k hlt hok
   cases ho:okAt one two l k with
   | true =>
    rw [ho] at h
    exact .inl ⟨_,h,hlt,by rw [sumTo_succ _ _ _ hlt];rfl,okTo_succ hok ho⟩
   | false =>
    rw [ho] at h
    exact .inr ⟨_,h,by rw [pairs_no hlt ho];rfl⟩
  ·obtain rfl:k = l.length:=by omega
   exact .inr ⟨_,hout hok,by rw [pairs_yes hok];rfl⟩) (s:=(0,0,())) ⟨rfl,okTo_zero⟩
 rw [h1,h2]
theorem iter_pairs0 {α ρ:Type} {F:Int × Unit → Option ((Int × Unit) ⊕ ρ)} (one:α → Bool) (two:α → α → Bool) (l:List α) (hl:l.length < 9223372036854775807) (bad fin:ρ)
  (hin:∀ (k:Nat) (h:k < l.length),okTo one two l k → F ((k:Int),()) = some (bif okAt one two l k then .inl ((k:Int) + 1,()) else .inr bad))
  (hout:okTo one two l l.length → F ((l.length:Int),()) = some (.inr fin)) :
  iterF F big (0,()) = some (bif pairsB one two l then fin else bad):=by
 obtain ⟨r,h1,h2⟩:=iter_inv (F:=F) (Q:=fun r=>r = (bif pairsB one two l then fin else bad)) (fun k s=>s = ((k:Int),()) ∧ okTo one two l k) l.length (by unfold big;omega) (fun k s hk hs=>by
  obtain ⟨rfl,hok⟩:=hs
  by_cases hlt:k < l.length
  ·have h:=hin k hlt hok
   cases ho:okAt one two l k with
   | true =>
    rw [ho] at h
    exact .inl ⟨_,h,hlt,rfl,okTo_succ hok ho⟩
   | false =>
    rw [ho] at h
    exact .inr ⟨_,h,by rw [pairs_no hlt ho];rfl⟩
  ·obtain rfl:k = l.length:=by omega
   exact .inr ⟨_,hout hok,by rw [pairs_yes hok];rfl⟩) (s:=(0,())) ⟨rfl,okTo_zero⟩
 rw [h1,h2]
theorem iter_before {α ρ:Type} {F:Int × Unit → Option ((Int × Unit) ⊕ ρ)} (l:List α) (n:Nat) (hn:n ≤ l.length) (hl:l.length < 9223372036854775807) (p:α → Bool) (a d:ρ)
  (hin:∀ (k:Nat) (h:k < n),F ((k:Int),()) = some (bif p (l[k]'(by omega)) then .inl ((k:Int) + 1,()) else .inr a)) (hout:F ((n:Int),()) = some (.inr d)) :
  iterF F big (0,()) = some (bif (l.take n).all p then d else a):=by
 have hlen:(l.take n).length = n:=by rw [List.length_take];omega
 exact iter_no (l.take n) (by omega) p a d (fun k hk=>by rw [hin k (by omega),List.getElem_take]) (by rw [hlen];exact hout)
theorem okTo_one {α:Type} {one:α → Bool} {two:α → α → Bool} {l:List α} {k:Nat} (h:okTo one two l k) (hk:k ≤ l.length):∀ x ∈ l.take k,one x = true:=by
 intro x hx
 obtain ⟨j,hj,rfl⟩:=List.mem_take_iff_getElem.1 hx
 have:=h j (by omega)
 rw [okAt_eq (by omega),Bool.and_eq_true] at this
 exact this.1
theorem counts_to {l:List TBrick} {two:TBrick → TBrick → Bool} {k:Nat} (h:okTo brickB two l k) (hk:k ≤ l.length):0 ≤ sumTo (·.count) l k ∧ sumTo (·.count) l k ≤ k * 60:=by
 have h1:=sumTo_bound (·.count) (l.take k) 60 (fun x hx=>by
  have:=GoodBrick.of (okTo_one h hk x hx)
  exact ⟨this.c0,this.c1⟩) k (by rw [List.length_take];omega)
 have e:sumTo (·.count) (l.take k) k = sumTo (·.count) l k:=by unfold sumTo;rw [List.take_take,Nat.min_self]
 rw [e] at h1
 exact h1
theorem f_rbricks (l:List TBrick) (hl:l.length ≤ 2147483648) (hn:∀ x ∈ l,x.name.size ≤ 2147483648):F_ref21_Bricks l = some (bricksB l):=by
 unfold F_ref21_Bricks bricksB
 by_cases h8:l.length ≤ 8
 ·have e1:decide (((l.length:Nat):Int) > 8) = false:=decide_eq_false (by omega)
  rw [e1,decide_eq_true h8]
  simp only [cond_false,Bool.true_and]
  rw [iter_pairs brickB (fun x y=>!sameName x.name y.name) l (by omega) (·.count) (.inl (false,())) (fun t=>.inr (t,())) ?hin ?hout]
  ·cases pairsB brickB (fun x y=>!sameName x.name y.name) l <;> rfl
  case hout=>intro _;simp only [lt_no,cond_false]
  case hin =>
   intro k hk hok
   have hna:=hn l[k] (List.getElem_mem hk)
   have hsum:=counts_to hok (by omega)
   simp only [lt_yes hk,cond_true,idx_at hk,Option.bind_some,f_rname l[k].name (by omega),f_rbetween]
   rw [okAt_eq hk]
   cases hb:brickB l[k] with
   | false =>
    unfold brickB at hb
    cases ha:nameB l[k].name <;> cases hc:betweenB l[k].weight 1 1048576 <;> cases hd':betweenB l[k].count 0 60 <;> first | rfl | (rw [ha,hc,hd'] at hb;cases hb)
   | true =>
    have hg:=GoodBrick.of hb
    have hc0:=hg.c0
    have hc1:=hg.c1
    unfold brickB at hb
    simp only [Bool.and_eq_true] at hb
    rw [hb.1,hb.2.1,hb.2.2]
    simp only [Bool.not_true,cond_false,cond_true,Option.bind_some,Bool.true_and]
    rw [iter_before l k (by omega) (by omega) (fun x=>!sameName x.name l[k].name) (.inl (false,())) (.inr ()) ?h1 ?h2]
    ·cases (l.take k).all (fun x=>!sameName x.name l[k].name) with
     | false=>rfl
     | true =>
      simp only [cond_true,Option.bind_some]
      rw [wrap64 (by omega) (by omega),wrap64 (by omega) (by omega)]
    case h1 =>
     intro j hj
     simp only [lt_yes hj,cond_true,idx_at (show j < l.length by omega),idx_at hk,Option.bind_some]
     rw [wrap64 (by omega) (by omega)]
     unfold sameName
     cases (l[j].name.toList == l[k].name.toList) <;> rfl
    case h2=>simp only [lt_no,cond_false]
 ·have e1:decide (((l.length:Nat):Int) > 8) = true:=decide_eq_true (by omega)
  rw [e1,decide_eq_false h8]
  rfl
theorem f_ralone (x:TItem) (len:Int) (hx:x.name.size ≤ 9223372036854775806) (h1:-4611686018427387904 ≤ len) (h2:len ≤ 4611686018427387904):F_ref21_alone x len = some (aloneB x && insideB x len):=by
 unfold F_ref21_alone aloneB insideB
 rw [f_rname _ hx]
 simp only [f_rbetween,Option.bind_some]
 cases nameB x.name with
 | false=>rfl
 | true =>
  cases hb:betweenB x.width 1 1048576 with
  | false=>simp only [cond_true,cond_false,Option.bind_some,Bool.false_and,Bool.and_false]
  | true =>
   have hb':=hb
   rw [between_iff] at hb'
   rw [wrap64 (by omega) (by omega)]
   have e:betweenB x.at_ 0 (len - x.width) = (decide (0 ≤ x.at_) && decide (x.at_ ≤ len - x.width)):=by
    unfold betweenB
    rw [Bool.eq_iff_iff];simp
   rw [e]
   simp only [cond_true,Option.bind_some,Bool.true_and]
   cases decide (0 ≤ x.at_) <;> cases decide (x.at_ ≤ len - x.width) <;> cases betweenB x.weight 0 1048576 <;> cases betweenB x.hang 0 1048576 <;> cases betweenB x.front 0 1048576 <;> cases betweenB x.back 0 1048576 <;> rfl
theorem f_ritems (s:TSet) (hl:s.items.length ≤ 2147483648) (hn:∀ x ∈ s.items,x.name.size ≤ 2147483648) (h1:-4611686018427387904 ≤ s.length) (h2:s.length ≤ 4611686018427387904):F_ref21_items s = some (itemsB s.items s.length):=by
 unfold F_ref21_items itemsB
 have hp:(pairsB (fun x=>aloneB x && insideB x s.length) apartB s.items && pairsB (fun _=>true) (fun x y=>!sameName x.name y.name) s.items) = pairsB (fun x=>aloneB x && insideB x s.length) (fun x y=>apartB x y && !sameName x.name y.name) s.items:=by rw [pairs_and]
 rw [hp]
 by_cases h40:s.items.length ≤ 40
 ·have e1:decide (((s.items.length:Nat):Int) > 40) = false:=decide_eq_false (by omega)
  rw [e1,decide_eq_true h40]
  simp only [cond_false,Bool.true_and]
  rw [iter_pairs0 (fun x=>aloneB x && insideB x s.length) (fun x y=>apartB x y && !sameName x.name y.name) s.items (by omega) (.inl (false,())) (.inr ()) ?hin ?hout]
  ·cases pairsB (fun x=>aloneB x && insideB x s.length) (fun x y=>apartB x y && !sameName x.name y.name) s.items <;> rfl
  case hout=>intro _;simp only [lt_no,cond_false]
  case hin =>
   intro k hk hok
   have hna:=hn s.items[k] (List.getElem_mem hk)
   simp only [lt_yes hk,cond_true,idx_at hk,Option.bind_some,f_ralone s.items[k] s.length (by omega) h1 h2]
   rw [okAt_eq hk]
   cases hb:(aloneB s.items[k] && insideB s.items[k] s.length) with
   | false=>rfl
   | true =>
    have hxs:=inside_sum (Bool.and_eq_true _ _ ▸ hb).2 h2
    simp only [Bool.not_true,cond_false,Bool.true_and]
    rw [iter_before s.items k (by omega) (by omega) (fun x=>apartB x s.items[k] && !sameName x.name s.items[k].name) (.inl (false,())) (.inr ()) ?g1 ?g2]
    ·cases (s.items.take k).all (fun x=>apartB x s.items[k] && !sameName x.name s.items[k].name) with
     | false=>rfl
     | true =>
      simp only [cond_true,Option.bind_some]
      rw [wrap64 (by omega) (by omega)]
    case g1 =>
     intro j hj
     have hj':=hok j hj
     rw [okAt_eq (by omega)] at hj'
     simp only [Bool.and_eq_true] at hj'
     have hys:=inside_sum hj'.1.2 h2
     simp only [lt_yes hj,cond_true,idx_at (show j < s.items.length by omega),idx_at hk,Option.bind_some,f_rapart _ _ hys hxs]
     rw [wrap64 (by omega) (by omega)]
     unfold sameName
     cases (s.items[j].name.toList == s.items[k].name.toList) <;> cases apartB s.items[j] s.items[k] <;> rfl
    case g2=>simp only [lt_no,cond_false]
 ·have e1:decide (((s.items.length:Nat):Int) > 40) = true:=decide_eq_true (by omega)
  rw [e1,decide_eq_false h40]
  rfl
theorem f_rvalid (s:TSet) (h:Fits s):F_ref21_Valid s = some (validB s):=by
 unfold F_ref21_Valid validB headB weightsB
 rw [f_rname s.name (by have:=h.name;omega),f_rbricks s.bricks h.bricks h.bnames]
 simp only [f_rbetween,Option.bind_some]
 cases nameB s.name <;> try rfl
 cases betweenB s.depth 0 1048576 <;> try rfl
 have e1:betweenB s.low 0 s.high = (decide (0 ≤ s.low) && decide (s.low ≤ s.high)):=by
  unfold betweenB
  rw [Bool.eq_iff_iff];simp
 have e2:(betweenB s.low 0 s.high && betweenB s.high 0 1048576) = (decide (0 ≤ s.low) && (decide (s.low ≤ s.high) && decide (s.high ≤ 1048576))):=by
  unfold betweenB
  rw [Bool.eq_iff_iff];simp only [Bool.and_eq_true,decide_eq_true_eq];omega
 have e3:∀ t:Bool,(decide (0 ≤ s.low) && (decide (s.low ≤ s.high) && (decide (s.high ≤ 1048576) && t))) = (betweenB s.low 0 s.high && (betweenB s.high 0 1048576 && t)):=by
  intro t
  rw [← Bool.and_assoc (betweenB _ _ _),e2]
  simp only [Bool.and_assoc]
 rw [e3]
 cases betweenB s.low 0 s.high <;> try rfl
 cases betweenB s.high 0 1048576 <;> try rfl
 cases hl:betweenB s.length 1000 1048576 <;> try rfl
 rw [between_iff] at hl
 have hm:((s.length.tmod 1000) != 0) = !decide (s.length % 1000 = 0):=by
  rw [Int.tmod_eq_emod_of_nonneg (by omega)]
  by_cases hz:s.length % 1000 = 0
  ·rw [decide_eq_true hz,hz];rfl
  ·rw [decide_eq_false hz];simp [hz]
 rw [hm,f_ritems s h.items h.inames (by omega) (by omega)]
 cases decide (s.length % 1000 = 0) <;> try rfl
 simp only [cond_false,Bool.not_true,Option.bind_some,Bool.true_and]
 have hlines:linesB s.lines s.length = (betweenB ((s.lines.length:Nat):Int) 2 10 && (List.range s.lines.length).all (lineAt s.lines s.length)):=by
  unfold linesB betweenB
  congr 1
  by_cases h:2 ≤ s.lines.length ∧ s.lines.length ≤ 10
  ·rw [decide_eq_true h,decide_eq_true (by omega)]
  ·rw [decide_eq_false h,decide_eq_false (by omega)]
 rw [hlines]
 cases hb:betweenB ((s.lines.length:Nat):Int) 2 10 with
 | false=>rfl
 | true =>
  rw [between_iff] at hb
  cases betweenB s.pipe 0 1048576 <;> try (simp only [Bool.not_true,Bool.not_false,cond_false,cond_true,Option.bind_some,Bool.false_and,Bool.and_false];done)
  cases betweenB s.arbor 0 1048576 <;> try (simp only [Bool.not_true,Bool.not_false,cond_false,cond_true,Option.bind_some,Bool.false_and,Bool.and_false];done)
  cases betweenB s.purchase 1 2 <;> try (simp only [Bool.not_true,Bool.not_false,cond_false,cond_true,Option.bind_some,Bool.false_and,Bool.and_false];done)
  cases betweenB s.most 1 67108864 <;> try (simp only [Bool.not_true,Bool.not_false,cond_false,cond_true,Option.bind_some,Bool.false_and,Bool.and_false];done)
  cases betweenB s.brake 0 67108864 <;> try (simp only [Bool.not_true,Bool.not_false,cond_false,cond_true,Option.bind_some,Bool.false_and,Bool.and_false];done)
  simp only [Bool.not_true,cond_false,Option.bind_some,Bool.true_and]
  have hrange:∀ (p:Nat → Bool),(List.range s.lines.length).all p = (s.lines.zipIdx.all fun x=>p x.2):=by
   intro p
   rw [Bool.eq_iff_iff,List.all_eq_true,List.all_eq_true]
   constructor
   ·intro e x hx
    obtain ⟨i,hi,rfl⟩:=List.mem_iff_getElem.1 hx
    rw [List.length_zipIdx] at hi
    exact e _ (List.mem_range.2 (by simpa using hi))
   ·intro e i hi
    have hi:=List.mem_range.1 hi
    exact e (s.lines[i],i) (by rw [List.mem_iff_getElem];exact ⟨i,by simpa using hi,by simp⟩)
  rw [hrange,iter_find s.lines (by have:=h.lines;omega) (fun k _=>bif lineAt s.lines s.length k then none else some (.inl (false,()))) (.inr ()) ?hin ?hout]
  ·cases ha:(s.lines.zipIdx.all fun x=>lineAt s.lines s.length x.2) with
   | true =>
    have e:(s.lines.zipIdx.findSome? fun x=>bif lineAt s.lines s.length x.2 then (none:Option ((Bool × Unit) ⊕ Unit)) else some (.inl (false,()))) = none:=by
     rw [List.findSome?_eq_none_iff]
     intro x hx
     rw [List.all_eq_true.1 ha x hx];rfl
    rw [e]
    simp only [Option.getD_none,Option.bind_some,Bool.true_and]
    cases itemsB s.items s.length <;> rfl
   | false =>
    have e:(s.lines.zipIdx.findSome? fun x=>bif lineAt s.lines s.length x.2 then (none:Option ((Bool × Unit) ⊕ Unit)) else some (.inl (false,()))) = some (.inl (false,())):=by
     rw [List.all_eq_false] at ha
     obtain ⟨x,hx,hp⟩:=ha
     cases hf:(s.lines.zipIdx.findSome? fun x=>bif lineAt s.lines s.length x.2 then (none:Option ((Bool × Unit) ⊕ Unit)) else some (.inl (false,()))) with
     | none =>
      rw [List.findSome?_eq_none_iff] at hf
      have:=hf x hx
      rw [show lineAt s.lines s.length x.2 = false from by simpa using hp] at this
      cases this
     | some r =>
      obtain ⟨y,_,hy⟩:=List.exists_of_findSome?_eq_some hf
      cases hq:lineAt s.lines s.length y.2 with
      | true=>rw [hq] at hy;cases hy
      | false=>rw [hq] at hy;cases hy;rfl
    rw [e]
    rfl
  case hin =>
   intro k hk
   simp only [lt_yes hk,cond_true,idx_at hk,Option.bind_some]
   rw [lineAt_eq _ _ _ hk]
   cases betweenB s.lines[k] 0 s.length with
   | false=>rfl
   | true =>
    simp only [Bool.not_true,cond_false,Bool.true_and]
    rcases Nat.eq_zero_or_pos k with h0 | h0
    ·subst h0
     rfl
    ·rw [decide_eq_true (show ((k:Nat):Int) > 0 by omega)]
     have i2:idx s.lines (IntKind.i64.wrap (((k:Nat):Int) - 1)) = some (s.lines[k - 1]'(by omega)):=by
      rw [wrap64 (by omega) (by omega),show ((k:Nat):Int) - 1 = ((k - 1:Nat):Int) from by omega]
      exact idx_at (by omega)
     rw [i2,wrap64 (by omega) (by omega),decide_eq_false (show ¬ k = 0 by omega)]
     simp only [cond_true,Option.bind_some,Bool.false_or]
     by_cases hle:s.lines[k] ≤ s.lines[k - 1]'(by omega)
     ·rw [decide_eq_true hle,decide_eq_false (by omega)];rfl
     ·rw [decide_eq_false hle,decide_eq_true (by omega)];rfl
  case hout=>simp only [lt_no,cond_false]
end Go.Proofs.YtgbicnkpnhifgaaGreatDoor

namespace Go.Proofs.YtgbicnkpnhifgaaGreatDoor
def zeroS:TSet:=TSet.mk (⟨#[]⟩:ByteArray) 0 0 0 0 ([]:List Int) 0 0 0 0 0 ([]:List TItem) ([]:List TBrick)
def withC (bs:List TBrick) (cs:List Int):List TBrick:=List.zipWith (fun b c=>TBrick.mk b.name b.weight c) bs cs
def setC (s:TSet) (cs:List Int):TSet:=TSet.mk s.name s.depth s.low s.high s.length s.lines s.pipe s.arbor s.purchase s.most s.brake s.items (withC s.bricks cs)
def badC (n:Int):Bool:=decide (n < 0) || decide (n > 60)
def loadedP (s:TSet) (cs:List Int):TSet × Int:=bif !validB s then (zeroS,1) else bif !decide (cs.length = s.bricks.length) then (zeroS,3) else bif cs.any badC then (zeroS,2) else bif decide (cs.sum > 60) then (zeroS,4) else (setC s cs,0)
theorem iter_set {α β ρ:Type} {F:Int × List β × Unit → Option ((Int × List β × Unit) ⊕ ρ)} (l:List α) (l0:List β) (hlen:l.length = l0.length) (hl:l.length < 9223372036854775807) (g:β → α → β) (fin:List β → ρ)
  (hin:∀ (k:Nat) (h:k < l.length) (t:List β),t.length = l0.length → t[k]? = some (l0[k]'(by omega)) → F ((k:Int),t,()) = some (.inl ((k:Int) + 1,t.set k (g (l0[k]'(by omega)) l[k]),())))
  (hout:∀ t:List β,t.length = l0.length → F ((l.length:Int),t,()) = some (.inr (fin t))) :
  iterF F big (0,l0,()) = some (fin (List.zipWith g l0 l)):=by
 obtain ⟨r,h1,h2⟩:=iter_inv (F:=F) (Q:=fun r=>r = fin (List.zipWith g l0 l)) (fun k s=>s = ((k:Int),(List.zipWith g l0 l).take k ++ l0.drop k,())) l.length (by unfold big;omega) (fun k s hk hs=>by
  subst hs
  have hz:(List.zipWith g l0 l).length = l0.length:=by rw [List.length_zipWith];omega
  have hlen2:((List.zipWith g l0 l).take k ++ l0.drop k).length = l0.length:=by rw [List.length_append,List.length_take,List.length_drop];omega
  by_cases hlt:k < l.length
  ·have hk0:k < l0.length:=by omega
   have hget:((List.zipWith g l0 l).take k ++ l0.drop k)[k]? = some (l0[k]'hk0):=by
    rw [List.getElem?_append_right (by rw [List.length_take];omega),List.length_take,List.getElem?_drop,show k + (k - min k (List.zipWith g l0 l).length) = k from by omega,List.getElem?_eq_getElem hk0]
   refine .inl ⟨_,hin k hlt _ hlen2 hget,hlt,?_⟩
   have e:((List.zipWith g l0 l).take k ++ l0.drop k).set k (g (l0[k]'hk0) l[k]) = (List.zipWith g l0 l).take (k + 1) ++ l0.drop (k + 1):=by
    rw [List.set_append_right _ _ (by rw [List.length_take];omega),List.length_take,show k - min k (List.zipWith g l0 l).length = 0 from by omega,List.drop_eq_getElem_cons hk0,List.set_cons_zero,List.take_succ_eq_append_getElem (by omega),List.getElem_zipWith,List.append_assoc]
    rfl
   rw [e]
   rfl
  ·obtain rfl:k = l.length:=by omega
   refine .inr ⟨_,hout _ hlen2,?_⟩
   rw [List.take_of_length_le (by omega),List.drop_of_length_le (by omega),List.append_nil]) (s:=(0,l0,())) (by simp)
 rw [h1,h2]
theorem sumTo_all {α:Type} (f:α → Int) (l:List α):sumTo f l l.length = (l.map f).sum:=by unfold sumTo;rw [List.take_length]
theorem withC_len {bs:List TBrick} {cs:List Int} (h:cs.length = bs.length):(withC bs cs).length = bs.length:=by unfold withC;rw [List.length_zipWith];omega
theorem withC_counts {bs:List TBrick} {cs:List Int} (h:cs.length = bs.length):(withC bs cs).map (·.count) = cs:=by
 unfold withC
 rw [List.map_zipWith]
 induction bs generalizing cs with
 | nil=>cases cs with
  | nil=>rfl
  | cons=>simp at h
 | cons b bs ih=>cases cs with
  | nil=>simp at h
  | cons c cs=>simp only [List.zipWith_cons_cons];rw [ih (by simpa using h)]
theorem withC_get {bs:List TBrick} {cs:List Int} (h:cs.length = bs.length) (i:Nat) (hi:i < bs.length):(withC bs cs)[i]'(by rw [withC_len h];exact hi) = TBrick.mk bs[i].name bs[i].weight (cs[i]'(by omega)):=by unfold withC;rw [List.getElem_zipWith]
theorem badC_no {cs:List Int} (h:cs.any badC = false):∀ c ∈ cs,0 ≤ c ∧ c ≤ 60:=by
 intro c hc
 have:=List.any_eq_false.1 h c hc
 simp only [badC,Bool.or_eq_true,decide_eq_true_eq,not_or] at this
 omega
theorem withC_good {bs:List TBrick} {cs:List Int} (h:cs.length = bs.length) (hg:∀ x ∈ bs,GoodBrick x) (hc:∀ c ∈ cs,0 ≤ c ∧ c ≤ 60):∀ x ∈ withC bs cs,GoodBrick x:=by
 intro x hx
 obtain ⟨i,hi,rfl⟩:=List.mem_iff_getElem.1 hx
 rw [withC_len h] at hi
 rw [withC_get h i hi]
 have h1:=hg _ (List.getElem_mem hi)
 have h2:=hc _ (List.getElem_mem (show i < cs.length by omega))
 exact ⟨h1.name,h1.w0,h1.w1,h2.1,h2.2⟩
theorem thereC_with {bs:List TBrick} {cs:List Int} (h:cs.length = bs.length):thereC (withC bs cs) = cs.sum:=by unfold thereC;rw [sumTo_all,withC_counts h]
theorem f_loaded (s:TSet) (cs:List Int) (hf:Fits s) (hc:cs.length ≤ 2147483648):F_arbor_Loaded s cs = some (loadedP s cs):=by
 unfold F_arbor_Loaded loadedP
 rw [f_valid s hf]
 cases hv:validB s with
 | false=>rfl
 | true =>
  have hg:=Good.of hv
  simp only [Option.bind_some,Bool.not_true,cond_false]
  by_cases hlen:cs.length = s.bricks.length
  case neg =>
   have e:(((cs.length:Nat):Int) != ((s.bricks.length:Nat):Int)) = true:=by rw [bne_iff_ne];omega
   rw [e,decide_eq_false hlen];rfl
  have e:(((cs.length:Nat):Int) != ((s.bricks.length:Nat):Int)) = false:=by rw [bne_eq_false_iff_eq];omega
  rw [e,decide_eq_true hlen]
  simp only [cond_false,Bool.not_true]
  rw [f_slices_ContainsFunc_int cs (by omega) _ badC (fun x _=>by unfold F_arbor_Loaded_1 badC;cases decide (x < 0) <;> rfl)]
  simp only [Option.bind_some]
  cases hb:cs.any badC with
  | true=>rfl
  | false =>
   have hr:=badC_no hb
   have hnb:=hg.nb
   rw [f_clone_int _ hf.lines,f_clone_item _ hf.items,f_clone_brick _ hf.bricks]
   simp only [cond_false,Option.bind_some]
   rw [iter_set cs s.bricks hlen (by omega) (fun b c=>TBrick.mk b.name b.weight c) (fun t=>(t,())) ?hin ?hout]
   ·simp only [Option.bind_some]
    have hw:List.zipWith (fun b c=>TBrick.mk b.name b.weight c) s.bricks cs = withC s.bricks cs:=rfl
    rw [hw,f_there (TSet.mk s.name s.depth s.low s.high s.length s.lines s.pipe s.arbor s.purchase s.most s.brake s.items (withC s.bricks cs)) (by show (withC s.bricks cs).length ≤ 8;rw [withC_len hlen];exact hnb) (withC_good hlen hg.bricks hr)]
    simp only [Option.bind_some]
    have e2:thereC (withC s.bricks cs) = cs.sum:=thereC_with hlen
    rw [e2]
    cases decide (cs.sum > 60) <;> rfl
   case hin =>
    intro k hk t ht hget
    have hkt:k < t.length:=by omega
    simp only [lt_yes hk,cond_true,idx_at hk,idx_at hkt,Option.bind_some,Int.toNat_natCast,hget]
    rw [wrap64 (by omega) (by omega)]
   case hout=>intro t _;simp only [lt_no,cond_false]
theorem valid_head (s t:TSet) (h1:t.name = s.name) (h2:t.depth = s.depth) (h3:t.low = s.low) (h4:t.high = s.high) (h5:t.length = s.length) (h6:t.lines = s.lines) (h7:t.pipe = s.pipe) (h8:t.arbor = s.arbor) (h9:t.purchase = s.purchase) (h10:t.most = s.most) (h11:t.brake = s.brake) (hv:validB s = true) :
  validB t = (itemsB t.items s.length && bricksB t.bricks):=by
 unfold validB headB weightsB at hv ⊢
 simp only [Bool.and_eq_true] at hv
 obtain ⟨⟨a1,a2,a3,a4,a5,a6,a7⟩,b,⟨c1,c2,c3,c4,c5⟩,_,_⟩:=hv
 rw [h1,h2,h3,h4,h5,h6,h7,h8,h9,h10,h11,a1,a2,a3,a4,a5,a6,a7,b,c1,c2,c3,c4,c5]
 simp
theorem valid_parts {s:TSet} (hv:validB s = true):itemsB s.items s.length = true ∧ bricksB s.bricks = true:=by
 unfold validB at hv
 simp only [Bool.and_eq_true] at hv
 exact ⟨hv.2.2.2.1,hv.2.2.2.2⟩
theorem valid_setC {s:TSet} {cs:List Int} (hv:validB s = true) (hlen:cs.length = s.bricks.length) (hb:cs.any badC = false) (hs:¬ cs.sum > 60):validB (setC s cs) = true:=by
 rw [valid_head s (setC s cs) rfl rfl rfl rfl rfl rfl rfl rfl rfl rfl rfl hv]
 obtain ⟨h1,h2⟩:=valid_parts hv
 have hr:=badC_no hb
 have hg:=Good.of hv
 rw [Bool.and_eq_true]
 refine ⟨h1,?_⟩
 show bricksB (withC s.bricks cs) = true
 unfold bricksB at h2 ⊢
 simp only [Bool.and_eq_true,decide_eq_true_eq] at h2 ⊢
 refine ⟨by rw [withC_len hlen];exact h2.1,?_,by show thereC (withC s.bricks cs) ≤ 60;rw [thereC_with hlen];omega⟩
 have h3:=h2.2.1
 rw [pairs_iff] at h3 ⊢
 intro i hi
 rw [withC_len hlen] at hi
 obtain ⟨g1,g2⟩:=h3 i hi
 rw [withC_get hlen i hi]
 have hc:=hr _ (List.getElem_mem (show i < cs.length by omega))
 refine ⟨?_,fun k hk=>?_⟩
 ·unfold brickB at g1 ⊢
  simp only [Bool.and_eq_true,between_iff] at g1 ⊢
  exact ⟨g1.1,g1.2.1,hc⟩
 ·rw [withC_get hlen k (by omega)]
  exact g2 k hk
theorem setC_fits {s:TSet} {cs:List Int} (h:Fits s) (hlen:cs.length = s.bricks.length):Fits (setC s cs):=by
 refine ⟨h.name,h.lines,h.items,by show (withC s.bricks cs).length ≤ _;rw [withC_len hlen];exact h.bricks,h.inames,fun x hx=>?_⟩
 have hx:x ∈ withC s.bricks cs:=hx
 obtain ⟨i,hi,rfl⟩:=List.mem_iff_getElem.1 hx
 have hi':i < s.bricks.length:=by rw [← withC_len hlen];exact hi
 rw [withC_get hlen i hi']
 exact h.bnames s.bricks[i] (List.getElem_mem hi')
end Go.Proofs.YtgbicnkpnhifgaaGreatDoor

namespace Go.Proofs.YtgbicnkpnhifgaaGreatDoor
def wsum (bs:List TBrick) (cs:List Int):Int:=(List.zipWith (fun b c=>b.weight * c) bs cs).sum
theorem wsum_with (bs:List TBrick) (cs:List Int):thereW (withC bs cs) = wsum bs cs:=by
 unfold thereW wsum withC
 rw [sumTo_all,List.map_zipWith]
end Go.Proofs.YtgbicnkpnhifgaaGreatDoor

namespace Go.Proofs.YtgbicnkpnhifgaaGreatDoor
def Chs:List TBrick → List Int → Prop
 | [],[]=>True
 | b :: l,c :: cs=>(0 ≤ c ∧ c ≤ b.count) ∧ Chs l cs
 | _,_=>False
def restS (l:List TBrick):Int:=(l.map fun b=>b.weight * b.count).sum
def RestOk (l:List TBrick) (rest:List Int):Prop:=∀ i,i ≤ l.length → rest[i]? = some (restS (l.drop i))
def farZ (w x:Int):Int:=maxZ (x - w) (w - x)
theorem chs_len:∀ (l:List TBrick) (c:List Int),Chs l c → c.length = l.length
 | [],[],_=>rfl
 | b :: l,c :: cs,h=>by simp [chs_len l cs h.2]
theorem wsum_cons (b:TBrick) (l:List TBrick) (c:Int) (cs:List Int):wsum (b :: l) (c :: cs) = b.weight * c + wsum l cs:=by simp [wsum]
theorem restS_cons (b:TBrick) (l:List TBrick):restS (b :: l) = b.weight * b.count + restS l:=by simp [restS]
theorem chs_bound:∀ (l:List TBrick) (c:List Int),(∀ x ∈ l,GoodBrick x) → Chs l c → 0 ≤ wsum l c ∧ wsum l c ≤ restS l
 | [],[],_,_=>by simp [wsum,restS]
 | b :: l,c :: cs,hg,h=>by
  have hb:=hg b (by simp)
  have ih:=chs_bound l cs (fun x hx=>hg x (by simp [hx])) h.2
  rw [wsum_cons,restS_cons]
  have h1:0 ≤ b.weight * c:=Int.mul_nonneg (by have:=hb.w0;omega) h.1.1
  have h2:b.weight * c ≤ b.weight * b.count:=Int.mul_le_mul_of_nonneg_left h.1.2 (by have:=hb.w0;omega)
  omega
theorem restS_bound:∀ (l:List TBrick),(∀ x ∈ l,GoodBrick x) → 0 ≤ restS l ∧ restS l ≤ l.length * 62914560
 | [],_=>by simp [restS]
 | b :: l,hg=>by
  have hb:=hg b (by simp)
  have ih:=restS_bound l (fun x hx=>hg x (by simp [hx]))
  rw [restS_cons,List.length_cons]
  have h1:0 ≤ b.weight * b.count:=Int.mul_nonneg (by have:=hb.w0;omega) hb.c0
  have h2:b.weight * b.count ≤ 1048576 * 60:=Int.mul_le_mul hb.w1 hb.c1 hb.c0 (by decide)
  push_cast
  omega
theorem chs_append:∀ (a:List TBrick) (c:List Int) (l:List TBrick) (cs:List Int),Chs a c → Chs l cs → Chs (a ++ l) (c ++ cs) ∧ wsum (a ++ l) (c ++ cs) = wsum a c + wsum l cs
 | [],[],l,cs,_,h=>⟨h,by simp [wsum]⟩
 | b :: a,c :: d,l,cs,h1,h=>by
  obtain ⟨g1,g2⟩:=chs_append a d l cs h1.2 h
  refine ⟨⟨h1.1,g1⟩,?_⟩
  show wsum (b :: (a ++ l)) (c :: (d ++ cs)) = _
  rw [wsum_cons,wsum_cons,g2];omega
theorem brick_part {x:TBrick} (h:GoodBrick x) {n:Int} (h0:0 ≤ n) (h1:n ≤ x.count):0 ≤ n * x.weight ∧ n * x.weight ≤ 62914560:=by
 refine ⟨Int.mul_nonneg h0 (by have:=h.w0;omega),?_⟩
 have:=Int.mul_le_mul (show n ≤ 60 by have:=h.c1;omega) h.w1 (by have:=h.w0;omega) (by decide)
 exact Int.le_trans this (by decide)
theorem f_far {b w:Int} (hb:0 ≤ b ∧ b ≤ 1099511627776) (hw:-1099511627776 * 4 ≤ w ∧ w ≤ 1099511627776 * 4):F_bricks_search__nearest_1 b w = some (farZ w b):=by
 unfold F_bricks_search__nearest_1
 rw [wrap64 (n:=b - w) (by omega) (by omega),wrap64 (n:=w - b) (by omega) (by omega)]
 rfl
structure NearQ (l:List TBrick) (w:Int) (i:Nat) (sum best:Int) (found:Bool) (b:Int):Prop where
 lo:0 ≤ b
 hi:b ≤ 1099511627776
 kept:found = true → farZ w b ≤ farZ w best
 some_:(∃ c,Chs (l.drop i) c ∧ b = sum + wsum (l.drop i) c) ∨ (found = true ∧ b = best)
 all:∀ c,Chs (l.drop i) c → farZ w b ≤ farZ w (sum + wsum (l.drop i) c)
theorem near_ok (l:List TBrick) (hg:∀ x ∈ l,GoodBrick x) (h8:l.length ≤ 8) (rest:List Int) (hr:RestOk l rest) (w:Int) (hw:-1099511627776 * 4 ≤ w ∧ w ≤ 1099511627776 * 4) :
  ∀ (d i:Nat) (sum best:Int) (found:Bool),i ≤ l.length → l.length < d + i → 0 ≤ sum → sum ≤ i * 62914560 → (found = true → 0 ≤ best ∧ best ≤ 1099511627776) →
   ∃ b,vN d l rest w (i:Int) sum best found = some (b,true) ∧ NearQ l w i sum best found b:=by
 intro d
 induction d with
 | zero=>intro i _ _ _ h1 h2;omega
 | succ d ih =>
  intro i sum best found hi hd h0 h1 hb
  have hdg:∀ x ∈ l.drop i,GoodBrick x:=fun x hx=>hg x (List.mem_of_mem_drop hx)
  have hrb:=restS_bound (l.drop i) hdg
  have hdl:(l.drop i).length = l.length - i:=List.length_drop
  have hrb':restS (l.drop i) ≤ 503316480:=by omega
  have hs:sum ≤ 503316480:=by omega
  show ∃ b,stepN (vN d) l rest w (i:Int) sum best found = some (b,true) ∧ _
  unfold stepN
  have hx1:idx rest (i:Int) = some (restS (l.drop i)):=by
   unfold idx
   rw [if_pos (by omega),Int.toNat_natCast]
   exact hr i hi
  rw [hx1,wrap64 (n:=sum - w) (by omega) (by omega),wrap64 (n:=w - sum) (by omega) (by omega)]
  simp only [Option.bind_some]
  rw [wrap64 (n:=w - sum - restS (l.drop i)) (by omega) (by omega)]
  generalize hL:maxZ (maxZ 0 (sum - w)) (w - sum - restS (l.drop i)) = L
  have hleast:∀ c,Chs (l.drop i) c → L ≤ farZ w (sum + wsum (l.drop i) c):=by
   intro c hc
   have hcb:=chs_bound _ _ hdg hc
   rw [← hL]
   unfold farZ maxZ
   split <;> split <;> split <;> omega
  have hP:((bif found then (F_bricks_search__nearest_1 best w).bind fun r2=>(bif decide (L > r2) then some (true,()) else (F_bricks_search__nearest_1 best w).bind fun r3=>(bif (L == r3) then some (decide (sum ≥ best),()) else some (false,()))) else some (false,())):Option (Bool × Unit)) = some (found && (decide (L > farZ w best) || (L == farZ w best) && decide (sum ≥ best)),()):=by
   cases found with
   | false=>rfl
   | true =>
    simp only [cond_true,f_far (hb rfl) hw,Option.bind_some,Bool.true_and]
    cases decide (L > farZ w best) <;> cases L == farZ w best <;> rfl
  rw [hP]
  simp only [Option.bind_some]
  cases hp:found && (decide (L > farZ w best) || (L == farZ w best) && decide (sum ≥ best)) with
  | true =>
   simp only [Bool.and_eq_true,Bool.or_eq_true,decide_eq_true_eq,beq_iff_eq] at hp
   obtain ⟨rfl,hp⟩:=hp
   refine ⟨best,rfl,(hb rfl).1,(hb rfl).2,fun _=>Int.le_refl _,.inr ⟨rfl,rfl⟩,fun c hc=>?_⟩
   have:=hleast c hc
   rcases hp with hp | hp <;> omega
  | false =>
   simp only [cond_false]
   by_cases he:i = l.length
   ·subst he
    have e1:(((l.length:Nat):Int) == ((l.length:Nat):Int)) = true:=by simp
    have hdn:l.drop l.length = []:=List.drop_length
    rw [e1]
    refine ⟨sum,rfl,h0,by omega,?_,.inl ⟨[],by rw [hdn];trivial,by simp [wsum]⟩,?_⟩
    ·intro hf
     subst hf
     simp only [Bool.true_and,Bool.or_eq_false_iff,decide_eq_false_iff_not] at hp
     have hL2:L = farZ w sum:=by
      rw [← hL,hdn]
      show maxZ (maxZ 0 (sum - w)) (w - sum - 0) = _
      unfold farZ maxZ
      split <;> split <;> split <;> omega
     omega
    ·intro c hc
     rw [hdn] at hc ⊢
     have hc':=chs_len _ _ hc
     have:c = []:=List.eq_nil_of_length_eq_zero (by simpa using hc')
     subst this
     simp [wsum]
   ·have hlt:i < l.length:=by omega
    have e1:(((i:Nat):Int) == ((l.length:Nat):Int)) = false:=by simp;omega
    rw [e1]
    simp only [cond_false]
    have hdc:l.drop i = l[i] :: l.drop (i + 1):=List.drop_eq_getElem_cons hlt
    have hgi:=hg l[i] (List.getElem_mem hlt)
    obtain ⟨r,hr1,hr2⟩:=iter_inv (F:=fun s12:Int × Int × Bool × Unit=>(idx l (i:Int)).bind fun x13=>(bif (decide (s12.1 ≤ x13.count)) then (idx l (i:Int)).bind fun x14=>(vN d l rest w (IntKind.i64.wrap ((i:Int) + 1)) (IntKind.i64.wrap (sum + (IntKind.i64.wrap (s12.1 * x14.weight)))) s12.2.1 s12.2.2.1).bind fun r15=>some (.inl ((IntKind.i64.wrap (s12.1 + 1)),r15.1,r15.2,())) else some (.inr (s12.2.1,s12.2.2.1,()))))
     (Q:=fun r:Int × Bool × Unit=>∃ b,r = (b,true,()) ∧ NearQ l w i sum best found b)
     (fun k s=>∃ b f,s = ((k:Int),b,f,()) ∧ (found = true → f = true) ∧ (f = true → (0 ≤ b ∧ b ≤ 1099511627776) ∧ ((∃ c,Chs (l.drop i) c ∧ b = sum + wsum (l.drop i) c) ∨ (found = true ∧ b = best)) ∧ (found = true → farZ w b ≤ farZ w best)) ∧ (0 < k → f = true) ∧ ∀ c cs,Chs (l.drop i) (c :: cs) → c < k → farZ w b ≤ farZ w (sum + wsum (l.drop i) (c :: cs)))
     (l[i].count.toNat + 1) (by have:=hgi.c1;unfold big;omega) (by
      rintro k s hk ⟨b,f,rfl,hf1,hf2,hf3,hf4⟩
      have hc0:=hgi.c0
      have hc1:=hgi.c1
      simp only [idx_at hlt,Option.bind_some]
      by_cases hkc:(k:Int) ≤ l[i].count
      ·left
       have hm:=brick_part hgi (n:=(k:Int)) (by omega) hkc
       rw [decide_eq_true hkc]
       simp only [cond_true]
       rw [wrap64 (n:=(k:Int) * l[i].weight) (by omega) (by omega),wrap64 (n:=sum + _) (by omega) (by omega),wrap64 (n:=(i:Int) + 1) (by omega) (by omega),wrap64 (n:=(k:Int) + 1) (by omega) (by omega)]
       obtain ⟨b',hv,hq⟩:=ih (i + 1) (sum + (k:Int) * l[i].weight) b f hlt (by omega) (by omega) (by push_cast;omega) (fun h=>(hf2 h).1)
       have e2:((i:Int) + 1) = ((i + 1:Nat):Int):=by push_cast;rfl
       rw [e2,hv]
       have hext:∀ cs,Chs (l.drop (i + 1)) cs → Chs (l.drop i) ((k:Int) :: cs) ∧ sum + wsum (l.drop i) ((k:Int) :: cs) = sum + (k:Int) * l[i].weight + wsum (l.drop (i + 1)) cs:=by
        intro cs hcs
        rw [hdc]
        refine ⟨⟨⟨by omega,hkc⟩,hcs⟩,?_⟩
        rw [wsum_cons,Int.mul_comm];omega
       refine ⟨_,rfl,by omega,b',true,by push_cast;rfl,fun _=>rfl,fun _=>⟨⟨hq.lo,hq.hi⟩,?_,?_⟩,fun _=>rfl,?_⟩
       ·rcases hq.some_ with ⟨cs,g1,g2⟩ | ⟨g1,g2⟩
        ·obtain ⟨g3,g4⟩:=hext cs g1
         exact .inl ⟨_,g3,by omega⟩
        ·subst g2
         exact (hf2 g1).2.1
       ·intro hf
        have:=hq.kept (hf1 hf)
        have:=(hf2 (hf1 hf)).2.2 hf
        omega
       ·intro c cs hch hc
        by_cases hck:c < (k:Int)
        ·have:=hf4 c cs hch hck
         have:=hq.kept (hf3 (by rw [hdc] at hch;have:=hch.1.1;omega))
         omega
        ·have:c = (k:Int):=by push_cast at hc;omega
         subst this
         rw [hdc] at hch
         obtain ⟨g3,g4⟩:=hext cs hch.2
         rw [g4]
         exact hq.all cs hch.2
      ·right
       rw [decide_eq_false hkc]
       have hft:=hf3 (by omega)
       subst hft
       obtain ⟨g1,g2,g3⟩:=hf2 rfl
       refine ⟨_,rfl,b,rfl,g1.1,g1.2,g3,g2,fun c hc=>?_⟩
       match c,hc with
       | [],hc=>rw [hdc] at hc;exact hc.elim
       | c :: cs,hc =>
        refine hf4 c cs hc ?_
        rw [hdc] at hc
        have:=hc.1.2
        omega) (s:=((0:Nat),best,found,()))
     ⟨best,found,rfl,fun h=>h,fun h=>⟨hb h,.inr ⟨h,rfl⟩,fun _=>Int.le_refl _⟩,fun h=>absurd h (by omega),fun c cs hch hc=>by rw [hdc] at hch;have:=hch.1.1;omega⟩
    obtain ⟨b,rfl,hq⟩:=hr2
    refine ⟨b,?_,hq⟩
    refine (congrArg (fun x=>Option.bind x _) hr1).trans ?_
    rfl
end Go.Proofs.YtgbicnkpnhifgaaGreatDoor
