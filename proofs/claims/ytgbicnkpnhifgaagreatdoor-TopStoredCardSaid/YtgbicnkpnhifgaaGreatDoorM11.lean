/- Joined by merge.py: PlQ8a, PlQ8b, PlH2, PlH3, PlH4, PlJ1b, PlT2, PlT4a, PlT4, PlJ1c, PlZ1, Tc, Sh, Tp, Tk, Tj, EF0, EF, PlZ2, PlZ3, PlZ4, PlZ5, PlZ6, PlZ7, PlZ8. -/
import Derived.Test.YtgbicnkpnhifgaaGreatDoorM10
import Derived.Shelf.Strings.OnBuilder
import Derived.Shelf.LaysM
import Derived.Shelf.Strconv.Itoa3
import Derived.Test.YtgbicnkpnhifgaaGreatDoorProg
import Derived.WalkSpells
import Derived.Lib.ItoaLen
set_option linter.unusedSectionVars false
set_option linter.unusedVariables false
set_option linter.unusedSimpArgs false
namespace Go.Proofs.YtgbicnkpnhifgaaGreatDoor
def setBeam (s:TSet):TBeam:=⟨s.name,s.length,s.lines,s.items.map (fun x=>⟨x.at_ + x.width / 2,x.weight⟩),s.pipe⟩
theorem set_sp {s:TSet} {i:Nat} (h:i < s.lines.length):sp (setBeam s) i = s.lines[i]:=by
 show s.lines.getD i 0 = _
 rw [List.getD_eq_getElem?_getD,List.getElem?_eq_getElem h];rfl
theorem set_valid {s:TSet} (hg:Good s):validBm (setBeam s) = true ∧ ¬ tilt (setBeam s):=by
 have a1:=hg.n0;have a2:=hg.n1;have a3:=hg.p0;have a4:=hg.p1;have a5:=hg.ln0;have a6:=hg.ln1;have a7:=hg.ni
 constructor
 ·unfold validBm
  rw [Bool.and_eq_true,Bool.and_eq_true,Bool.and_eq_true]
  refine ⟨?_,?_,?_,?_⟩
  ·unfold badH1
   simp only [Bool.not_eq_true',Bool.or_eq_false_iff,decide_eq_false_iff_not,Bool.not_eq_false']
   refine ⟨hg.name,?_,?_,?_,?_⟩
   ·show ¬ s.length < 1;omega
   ·show ¬ s.length > 1048576;omega
   ·show ¬ s.pipe < 0;omega
   ·show ¬ s.pipe > 1048576;omega
  ·unfold badH2
   simp only [Bool.not_eq_true',Bool.or_eq_false_iff,decide_eq_false_iff_not]
   refine ⟨?_,?_,?_⟩
   ·show ¬ ((s.lines.length:Nat):Int) < 1;omega
   ·show ¬ ((s.lines.length:Nat):Int) > 10;omega
   ·show ¬ (((s.items.map _).length:Nat):Int) > 40;rw [List.length_map];omega
  ·apply all_of
   intro j hj
   have hj2:j < s.lines.length:=hj
   have h:=hg.lat j hj2
   rw [lineAt_eq _ _ _ hj2,Bool.and_eq_true,between_iff,Bool.or_eq_true,decide_eq_true_iff,decide_eq_true_iff] at h
   have e1:=set_sp hj2
   have e2:=set_sp (s:=s) (i:=j - 1) (by omega)
   unfold badS
   simp only [Bool.not_eq_true',Bool.or_eq_false_iff,Bool.and_eq_false_iff,decide_eq_false_iff_not]
   rw [e1,e2]
   show ¬ s.lines[j] < 0 ∧ ¬ s.lines[j] > s.length ∧ _
   omega
  ·rw [List.all_eq_true]
   intro x hx
   obtain ⟨y,hy,rfl⟩:=List.mem_map.1 hx
   have h:=hg.items y hy
   have b1:=h.p0;have b2:=h.w1;have b3:=h.pw;have b4:=h.m0;have b5:=h.m1
   unfold badL
   simp only [Bool.not_eq_true',Bool.or_eq_false_iff,decide_eq_false_iff_not]
   show ¬ y.at_ + y.width / 2 < 0 ∧ ¬ y.at_ + y.width / 2 > s.length ∧ ¬ y.weight < 0 ∧ ¬ y.weight > 67108864
   omega
 ·rintro ⟨h,_⟩
  have:s.lines.length = 1:=h
  omega
theorem set_small {s:TSet} (hn:s.name.size ≤ 1000000) (hg:Good s):SmallB (setBeam s):=by
 have a6:=hg.ln1;have a7:=hg.ni
 exact ⟨hn,by show s.lines.length ≤ _;omega,by show (s.items.map _).length ≤ _;rw [List.length_map];omega⟩
end Go.Proofs.YtgbicnkpnhifgaaGreatDoor

namespace Go.Proofs.YtgbicnkpnhifgaaGreatDoor
theorem mid_of {L:Int} {x:TItem} (h:GoodItem L x) (hL:L ≤ 1048576):IntKind.i64.wrap (x.at_ + IntKind.i64.wrap (x.width.tdiv 2)) = x.at_ + x.width / 2:=by
 have b1:=h.p0;have b2:=h.w1;have b3:=h.pw
 rw [Int.tdiv_eq_ediv_of_nonneg (by omega),wrap64 (n:=x.width / 2) (by omega) (by omega),wrap64 (by omega) (by omega)]
theorem t_beamOf {s:TSet} (hg:Good s):F_batten_beamOf s = some (setBeam s):=by
 have a6:=hg.ln1;have a7:=hg.ni;have a2:=hg.n1
 apply gs_eq
 unfold F_batten_beamOf
 refine go (f_clone_int _ (by omega)) ?_
 refine gloop (fun r:TBeam × Unit=>r.1 = setBeam s) (fun k t=>k ≤ s.items.length ∧ t = ((k:Int),⟨s.name,s.length,s.lines,(s.items.take k).map (fun x=>⟨x.at_ + x.width / 2,x.weight⟩),s.pipe⟩,())) s.items.length (by unfold big;omega) ⟨Nat.zero_le _,rfl⟩ ?_ ?_
 ·rintro k t hk ⟨_,rfl⟩
  rcases Nat.lt_or_ge k s.items.length with hlt | hge
  ·have hm:=mid_of (hg.items _ (List.getElem_mem hlt)) a2
   have hmid:F_batten_middle s.items[k] = some (s.items[k].at_ + s.items[k].width / 2):=by unfold F_batten_middle;rw [hm]
   refine gt (decide_eq_true (by show (k:Int) < ((s.items.length:Nat):Int);omega)) (go (idx_at hlt) (go hmid (gif (by simp;omega) (gend ⟨hlt,hlt,?_⟩))))
   rw [List.take_succ_eq_append_getElem hlt,List.map_append]
   show (IntKind.i64.wrap ((k:Int) + 1),_,()) = _
   rw [wrap64 (by omega) (by omega)]
   rfl
  ·refine gf (decide_eq_false (by show ¬ (k:Int) < ((s.items.length:Nat):Int);omega)) (gend ?_)
   show (⟨s.name,s.length,s.lines,(s.items.take k).map (fun x=>⟨x.at_ + x.width / 2,x.weight⟩),s.pipe⟩:TBeam) = setBeam s
   rw [List.take_of_length_le hge];rfl
 ·rintro ⟨t,u⟩ h
  exact gend h
structure Sm (s:TSet):Prop where
 fits:Fits s
 name:s.name.size ≤ 1000000
theorem sm_of {s:TSet} {m:Int} (h:smallB s m = true):Sm s:=by
 refine ⟨small_fits h,?_⟩
 simp only [smallB,smallH,Bool.and_eq_true,decide_eq_true_eq,List.all_eq_true] at h
 omega
def linesT (s:TSet):List TFrac × Int:=if validB s = true then outL (reaL (setBeam s)) else ([],1)
theorem t_lines {s:TSet} (h:Sm s):F_batten_Lines s = some (linesT s):=by
 apply gs_eq
 unfold F_batten_Lines linesT
 refine go (f_valid s h.fits) ?_
 cases hv:validB s with
 | false=>exact gt rfl (gend rfl)
 | true =>
  have hg:=Good.of hv
  obtain ⟨h1,h2⟩:=set_valid hg
  exact gf rfl (go (t_beamOf hg) (go (f_Reactions (set_small h.name hg) h1 h2) (gend rfl)))
theorem lq_len {s:TSet}:(reaL (setBeam s)).length = s.lines.length:=by unfold reaL setBeam;simp
theorem lines_cases (s:TSet):(validB s = false ∧ linesT s = ([],1)) ∨ (validB s = true ∧ (∀ q ∈ reaL (setBeam s),fitQ q) ∧ linesT s = ((reaL (setBeam s)).map frQ,0)) ∨ (validB s = true ∧ linesT s = ([],5)):=by
 unfold linesT
 by_cases hv:validB s = true
 ·right
  rw [if_pos hv]
  by_cases hf:∀ q ∈ reaL (setBeam s),fitQ q
  ·exact .inl ⟨hv,hf,outL_fit hf⟩
  ·exact .inr ⟨hv,outL_big hf⟩
 ·left
  rw [if_neg hv]
  exact ⟨by simpa using hv,rfl⟩
theorem fr_get {l:List Rat} {k:Nat} (h:k < l.length):(l.map frQ)[k]? = some (frQ (l.getD k 0)):=by
 rw [List.getElem?_map,List.getD_eq_getElem?_getD,List.getElem?_eq_getElem h];rfl
theorem fit_get {l:List Rat} (hf:∀ q ∈ l,fitQ q) {k:Nat} (h:k < l.length):fitQ (l.getD k 0):=by
 rw [List.getD_eq_getElem?_getD,List.getElem?_eq_getElem h]
 exact hf _ (List.getElem_mem h)
end Go.Proofs.YtgbicnkpnhifgaaGreatDoor

namespace Go.Proofs.YtgbicnkpnhifgaaGreatDoor
theorem t_llines {s:TSet} (h:Sm s):F_liftline_Lines s = some (linesT s):=by
 unfold F_liftline_Lines
 rw [t_lines h];rfl
end Go.Proofs.YtgbicnkpnhifgaaGreatDoor

namespace Go.Proofs.YtgbicnkpnhifgaaGreatDoor
theorem f_eqFr {a b:List TFrac} (ha:a.length ≤ 1000000):Gs (F_slices_Equal_api_Frac a b) fun v=>v = true ↔ a = b:=by
 unfold F_slices_Equal_api_Frac
 by_cases hl:a.length = b.length
 ·refine gf (by rw [hl];simp) ?_
  refine gloop (fun r:(Bool × Unit) ⊕ Unit=>(∃ y,r = .inl y ∧ y.1 = false ∧ a ≠ b) ∨ (r = .inr () ∧ a = b)) (fun k s=>k ≤ a.length ∧ s = ((k:Int),()) ∧ a.take k = b.take k) a.length (by unfold big;omega) ⟨by omega,rfl,by simp⟩ ?_ ?_
  ·rintro k s hk ⟨_,rfl,hab⟩
   rcases Nat.lt_or_ge k a.length with hlt | hge
   ·refine gt (decide_eq_true (by show (k:Int) < ((a.length:Nat):Int);omega)) (go (idx_nat hlt) (go (idx_nat (l:=b) (k:=k) (by omega)) ?_))
    by_cases hc:a[k] = b[k]'(by omega)
    ·refine gf (by rw [(fr_eq _ _).2 hc];rfl) (gend ⟨hlt,hlt,?_,?_⟩)
     ·show (IntKind.i64.wrap ((k:Int) + 1),()) = _
      rw [wrap64 (by omega) (by omega)];rfl
     ·rw [List.take_succ_eq_append_getElem hlt,List.take_succ_eq_append_getElem (show k < b.length by omega),hab,hc]
    ·refine gt ?_ (gend (.inl ⟨_,rfl,rfl,fun e=>hc (by subst e;rfl)⟩))
     cases hv:((a[k].num == (b[k]'(by omega)).num) && (a[k].den == (b[k]'(by omega)).den)) with
     | false=>rfl
     | true=>exact absurd ((fr_eq _ _).1 hv) hc
   ·refine gf (decide_eq_false (by show ¬ (k:Int) < ((a.length:Nat):Int);omega)) (gend (.inr ⟨rfl,?_⟩))
    rw [List.take_of_length_le hge,List.take_of_length_le (by omega)] at hab
    exact hab
  ·rintro r (⟨y,rfl,h1,h2⟩ | ⟨rfl,h2⟩)
   ·refine gend ?_
    rw [h1];simp [h2]
   ·refine gend ?_
    simp [h2]
 ·refine gt (by rw [bne_iff_ne];omega) (gend ?_)
  constructor
  ·intro h;cases h
  ·intro h;exact absurd (by rw [h]) hl
theorem f_same (a:List TFrac) (ha:a.length ≤ 1000000):F_slices_Equal_api_Frac a a = some true:=by
 obtain ⟨v,h1,h2⟩:=f_eqFr (a:=a) (b:=a) ha
 rw [h1,h2.2 rfl]
end Go.Proofs.YtgbicnkpnhifgaaGreatDoor

namespace Go.Proofs.YtgbicnkpnhifgaaGreatDoor
theorem eq_loop {α:Type} (a b:List α) (ne:α → α → Bool) (hne:∀ x y,ne x y = true ↔ x ≠ y) (ha:a.length ≤ 1000000) :
  Gs (bif (((a.length:Nat):Int) != ((b.length:Nat):Int)) then some false else (iterF (σ:=Int × Unit) (ρ:=(Bool × Unit) ⊕ (Unit)) (fun s3=>(bif (decide (s3.1 < ((a.length:Nat):Int))) then (idx a s3.1).bind fun x4=>(idx b s3.1).bind fun x5=>(bif ne x4 x5 then some (.inr (.inl (false,()))) else some (.inl ((IntKind.i64.wrap (s3.1 + 1)),()))) else some (.inr (.inr ((())))))) big (0,())).bind fun y6=>(match y6 with | .inl y7=>some y7.1 | .inr y8=>some true)) fun v=>v = true ↔ a = b:=by
 by_cases hl:a.length = b.length
 ·refine gf (by rw [hl];simp) ?_
  refine gloop (fun r:(Bool × Unit) ⊕ Unit=>(∃ y,r = .inl y ∧ y.1 = false ∧ a ≠ b) ∨ (r = .inr () ∧ a = b)) (fun k s=>k ≤ a.length ∧ s = ((k:Int),()) ∧ a.take k = b.take k) a.length (by unfold big;omega) ⟨by omega,rfl,by simp⟩ ?_ ?_
  ·rintro k s hk ⟨_,rfl,hab⟩
   rcases Nat.lt_or_ge k a.length with hlt | hge
   ·refine gt (decide_eq_true (by show (k:Int) < ((a.length:Nat):Int);omega)) (go (idx_at hlt) (go (idx_at (l:=b) (k:=k) (by omega)) ?_))
    by_cases hc:a[k] = b[k]'(by omega)
    ·have hn:ne a[k] (b[k]'(by omega)) = false:=by
      cases hv:ne a[k] (b[k]'(by omega)) with
      | false=>rfl
      | true=>exact absurd hc ((hne _ _).1 hv)
     refine gf hn (gend ⟨hlt,hlt,?_,?_⟩)
     ·show (IntKind.i64.wrap ((k:Int) + 1),()) = _
      rw [wrap64 (by omega) (by omega)];rfl
     ·rw [List.take_succ_eq_append_getElem hlt,List.take_succ_eq_append_getElem (show k < b.length by omega),hab,hc]
    ·exact gt ((hne _ _).2 hc) (gend (.inl ⟨_,rfl,rfl,fun e=>hc (by subst e;rfl)⟩))
   ·refine gf (decide_eq_false (by show ¬ (k:Int) < ((a.length:Nat):Int);omega)) (gend (.inr ⟨rfl,?_⟩))
    rw [List.take_of_length_le hge,List.take_of_length_le (by omega)] at hab
    exact hab
  ·rintro r (⟨y,rfl,h1,h2⟩ | ⟨rfl,h2⟩)
   ·refine gend ?_
    rw [h1];simp [h2]
   ·refine gend ?_
    simp [h2]
 ·refine gt (by rw [bne_iff_ne];omega) (gend ?_)
  constructor
  ·intro h;cases h
  ·intro h;exact absurd (by rw [h]) hl
theorem bytes_eq (a b:ByteArray):(a.toList == b.toList) = true ↔ a = b:=sameName_iff a b
theorem toList_inj (a b:ByteArray):a.toList = b.toList ↔ a = b:=by rw [← beq_iff_eq];exact bytes_eq a b
theorem bool_ne {c:Bool} {p:Prop} (h:c = true ↔ p):(!c) = true ↔ ¬ p:=by
 cases c <;> simp_all
theorem z_eqI (a b:List Int) (ha:a.length ≤ 1000000):Gs (F_slices_Equal_int a b) fun v=>v = true ↔ a = b :=
 eq_loop a b (fun x y=>x != y) (fun x y=>bne_iff_ne) ha
theorem z_eqItem (a b:List TItem) (ha:a.length ≤ 1000000):Gs (F_slices_Equal_api_Item a b) fun v=>v = true ↔ a = b :=
 eq_loop a b (fun x4 x5=>(!((x4.name.toList == x5.name.toList) && ((x4.at_ == x5.at_) && ((x4.width == x5.width) && ((x4.weight == x5.weight) && ((x4.hang == x5.hang) && ((x4.front == x5.front) && (x4.back == x5.back))))))))) (fun x y=>by
  refine bool_ne ?_
  simp only [Bool.and_eq_true,beq_iff_eq,toList_inj]
  cases x;cases y;simp) ha
theorem z_eqBrick (a b:List TBrick) (ha:a.length ≤ 1000000):Gs (F_slices_Equal_api_Brick a b) fun v=>v = true ↔ a = b :=
 eq_loop a b (fun x4 x5=>(!((x4.name.toList == x5.name.toList) && ((x4.weight == x5.weight) && (x4.count == x5.count))))) (fun x y=>by
  refine bool_ne ?_
  simp only [Bool.and_eq_true,beq_iff_eq,toList_inj]
  cases x;cases y;simp) ha
theorem z_eqFind (a b:List TFinding) (ha:a.length ≤ 1000000):Gs (F_slices_Equal_api_Finding a b) fun v=>v = true ↔ a = b :=
 eq_loop a b (fun x4 x5=>(!((x4.kind == x5.kind) && (x4.name.toList == x5.name.toList)))) (fun x y=>by
  refine bool_ne ?_
  simp only [Bool.and_eq_true,beq_iff_eq,toList_inj]
  cases x;cases y;simp) ha
structure Few (s:TSet):Prop where
 lines:s.lines.length ≤ 1000000
 items:s.items.length ≤ 1000000
 bricks:s.bricks.length ≤ 1000000
theorem few_of {s:TSet} {m:Int} (h:smallB s m = true):Few s:=by
 simp only [smallB,smallH,Bool.and_eq_true,decide_eq_true_eq] at h
 exact ⟨by omega,by omega,by omega⟩
theorem z_same (a b:TSet) (h:Few a):Gs (F_lineset_Same a b) fun v=>v = true ↔ a = b:=by
 unfold F_lineset_Same
 obtain ⟨v1,e1,i1⟩:=z_eqI a.lines b.lines h.lines
 obtain ⟨v2,e2,i2⟩:=z_eqItem a.items b.items h.items
 obtain ⟨v3,e3,i3⟩:=z_eqBrick a.bricks b.bricks h.bricks
 rw [e1,e2,e3]
 simp only [Option.bind_some]
 have key:a = b ↔ (a.name.toList == b.name.toList) = true ∧ (a.depth == b.depth) = true ∧ (a.low == b.low) = true ∧ (a.high == b.high) = true ∧ (a.length == b.length) = true ∧ (a.pipe == b.pipe) = true ∧ (a.arbor == b.arbor) = true ∧ (a.purchase == b.purchase) = true ∧ (a.most == b.most) = true ∧ (a.brake == b.brake) = true ∧ v1 = true ∧ v2 = true ∧ v3 = true:=by
  rw [i1,i2,i3]
  simp only [beq_iff_eq,toList_inj]
  cases a;cases b
  simp
  grind
 rw [key]
 cases (a.name.toList == b.name.toList)
 ·exact gend (by simp)
 cases (a.depth == b.depth)
 ·exact gend (by simp)
 cases (a.low == b.low)
 ·exact gend (by simp)
 cases (a.high == b.high)
 ·exact gend (by simp)
 cases (a.length == b.length)
 ·exact gend (by simp)
 cases (a.pipe == b.pipe)
 ·exact gend (by simp)
 cases (a.arbor == b.arbor)
 ·exact gend (by simp)
 cases (a.purchase == b.purchase)
 ·exact gend (by simp)
 cases (a.most == b.most)
 ·exact gend (by simp)
 cases (a.brake == b.brake)
 ·exact gend (by simp)
 cases v1
 ·exact gend (by simp)
 cases v2
 ·exact gend (by simp)
 cases v3
 ·exact gend (by simp)
 ·exact gend (by simp)
theorem z_same_iff {a b:TSet} (h:Few a):∃ v,F_lineset_Same a b = some v ∧ (v = true ↔ a = b):=z_same a b h
theorem z_own (s:TSet) (h:Few s):F_versions_own s = some s:=by
 unfold F_versions_own
 rw [f_clone_int _ (by have:=h.lines;omega),f_clone_item _ (by have:=h.items;omega),f_clone_brick _ (by have:=h.bricks;omega)]
 rfl
theorem z_find (l:List TSet) (n:ByteArray) (hl:l.length ≤ 1000000) :
  Gs (iterF (σ:=Int × Unit) (ρ:=(Int × Unit) ⊕ (Unit)) (fun s347=>(bif (decide (s347.1 < ((l.length:Nat):Int))) then (idx l s347.1).bind fun _x348=>(l[(Int.toNat s347.1)]?).bind fun x349=>(bif (x349.name.toList == n.toList) then some (.inr (.inl (s347.1,()))) else some (.inl ((IntKind.i64.wrap (s347.1 + 1)),()))) else some (.inr (.inr ((())))))) big (0,())) fun r =>
   (∃ k:Nat,∃ hk:k < l.length,r = .inl ((k:Int),()) ∧ l[k].name = n) ∨ (r = .inr () ∧ ∀ x ∈ l,x.name ≠ n):=by
 obtain ⟨r,h1,h2⟩:=iter_inv (F:=fun s347:Int × Unit=>(bif (decide (s347.1 < ((l.length:Nat):Int))) then (idx l s347.1).bind fun _x348=>(l[(Int.toNat s347.1)]?).bind fun x349=>(bif (x349.name.toList == n.toList) then some (.inr (.inl (s347.1,()))) else some (.inl ((IntKind.i64.wrap (s347.1 + 1)),()))) else some (.inr (.inr ((()))))))
  (ρ:=(Int × Unit) ⊕ Unit) (Q:=fun r=>(∃ k:Nat,∃ hk:k < l.length,r = .inl ((k:Int),()) ∧ l[k].name = n) ∨ (r = .inr () ∧ ∀ x ∈ l,x.name ≠ n)) (fun k s=>s = ((k:Int),()) ∧ ∀ x ∈ l.take k,x.name ≠ n) l.length (by unfold big;omega) (by
   rintro k s hk ⟨rfl,hall⟩
   by_cases hlt:k < l.length
   ·rw [decide_eq_true (show (k:Int) < ((l.length:Nat):Int) by omega),idx_at hlt,Int.toNat_natCast,List.getElem?_eq_getElem hlt]
    simp only [cond_true,Option.bind_some]
    cases hc:(l[k].name.toList == n.toList) with
    | true=>exact .inr ⟨_,rfl,.inl ⟨k,hlt,rfl,(bytes_eq _ _).1 hc⟩⟩
    | false =>
     rw [wrap64 (n:=(k:Int) + 1) (by omega) (by omega)]
     refine .inl ⟨_,rfl,hlt,rfl,fun x hx=>?_⟩
     rw [List.take_succ_eq_append_getElem hlt] at hx
     rcases List.mem_append.1 hx with hx | hx
     ·exact hall x hx
     ·have:=List.mem_singleton.1 hx
      subst this
      intro e
      rw [(bytes_eq _ _).2 e] at hc
      cases hc
   ·have hkl:k = l.length:=by omega
    subst hkl
    rw [decide_eq_false (show ¬ ((l.length:Nat):Int) < ((l.length:Nat):Int) by omega)]
    rw [List.take_length] at hall
    exact .inr ⟨_,rfl,.inr ⟨rfl,hall⟩⟩) (s:=((0:Nat),())) ⟨rfl,fun x hx=>by simp at hx⟩
 exact ⟨r,h1,h2⟩
end Go.Proofs.YtgbicnkpnhifgaaGreatDoor

namespace Go.Proofs.YtgbicnkpnhifgaaGreatDoor
open Go.Shelf
def Tryz.lays156_ren:Go.Shelf.Ren:=⟨fun | 156=>177 | 165=>217 | 166=>182 | 169=>185 | 240=>226 | 241=>253 | 276=>263 | 277=>276 | n=>n,fun | 31=>58 | 9=>9 | 3=>3 | 4=>4 | 0=>0 | 20=>20 | 72=>193 | 76=>246 | 70=>190 | 37=>191 | 75=>245 | 127=>289 | 164=>318 | 5=>5 | 80=>249 | n=>n,fun | n=>n⟩
theorem Tryz.lays156:Go.Proofs.Lays.n156 Tryz.prog Tryz.lays156_ren:={
 mixed:=by kernel_rfl
 f156:=Tryz.func177.trans (congrArg some (by kernel_rfl))
 f165:=Tryz.func217.trans (congrArg some (by kernel_rfl))
 f166:=Tryz.func182.trans (congrArg some (by kernel_rfl))
 f169:=Tryz.func185.trans (congrArg some (by kernel_rfl))
 f240:=Tryz.func226.trans (congrArg some (by kernel_rfl))
 f241:=Tryz.func253.trans (congrArg some (by kernel_rfl))
 f276:=Tryz.func263.trans (congrArg some (by kernel_rfl))
 f277:=Tryz.func276.trans (congrArg some (by kernel_rfl))
 t0:=Tryz.underlying0
 a0:=Tryz.isAgg0
 z0:=Tryz.sizeOf0
 v0:=Tryz.zeroValue0
 t3:=Tryz.underlying3
 a3:=Tryz.isAgg3
 z3:=Tryz.sizeOf3
 v3:=Tryz.zeroValue3
 t4:=Tryz.underlying4
 a4:=Tryz.isAgg4
 z4:=Tryz.sizeOf4
 v4:=Tryz.zeroValue4
 t9:=Tryz.underlying9
 a9:=Tryz.isAgg9
 z9:=Tryz.sizeOf9
 v9:=Tryz.zeroValue9
 t20:=Tryz.underlying20
 a20:=Tryz.isAgg20
 z20:=Tryz.sizeOf20
 v20:=Tryz.zeroValue20
 t31:=Tryz.underlying58
 a31:=Tryz.isAgg58
 z31:=Tryz.sizeOf58
 v31:=Tryz.zeroValue58
 t37:=Tryz.underlying191
 a37:=Tryz.isAgg191
 z37:=Tryz.sizeOf191
 v37:=Tryz.zeroValue191
 t70:=Tryz.underlying190
 a70:=Tryz.isAgg190
 z70:=Tryz.sizeOf190
 v70:=Tryz.zeroValue190
 t72:=Tryz.underlying193
 a72:=Tryz.isAgg193
 z72:=Tryz.sizeOf193
 v72:=Tryz.zeroValue193
 t75:=Tryz.underlying245
 a75:=Tryz.isAgg245
 z75:=Tryz.sizeOf245
 v75:=Tryz.zeroValue245
 t76:=Tryz.underlying246
 a76:=Tryz.isAgg246
 z76:=Tryz.sizeOf246
 v76:=Tryz.zeroValue246
 t127:=Tryz.underlying289
 a127:=Tryz.isAgg289
 z127:=Tryz.sizeOf289
 v127:=Tryz.zeroValue289
 t164:=Tryz.underlying318
 a164:=Tryz.isAgg318
 z164:=Tryz.sizeOf318
 v164:=Tryz.zeroValue318 }
theorem Tryz.Builder_Extra_156:Builder.Extra Tryz.prog Tryz.lays156_ren:={
 sizeBuilder:=by kernel_rfl
 liesBuilder:=by kernel_rfl
 t5:=Tryz.underlying5
 a5:=Tryz.isAgg5
 z5:=Tryz.sizeOf5
 v5:=Tryz.zeroValue5
 infoByte:=by kernel_rfl
 cellsByte:=by kernel_rfl
 sizeByte:=by kernel_rfl
 neB5:=by decide }
open Go.RowKit in
theorem Tryz.strings_Join_none (a:Option Addr) (c:Nat) (sep:ByteArray) (w:World) :
  Calls Tryz.prog 177 #[.slice a 0 c,.string sep] w fun e w'=>e = .returned (.string ⟨#[]⟩) ∧ w' = w:=Any.strings_Join_none Tryz.lays156 Tryz.Builder_Extra_156 a c sep w
open Go.RowKit in
theorem Tryz.strings_Join (bk o c:Nat) (xs:List ByteArray) (sep:ByteArray) (w:World) (hcells:∀ (j:Nat) x,xs[j]? = some x → w.cell? ⟨bk,o + j,none⟩ = some (.string x)) (hbk:bk < w.heap.size) (hN:xs.length ≤ 140737488355328) (hcap:xs.length ≤ c) (hlen:(Lib.join (xs.map (·.data.toList)) sep.data.toList).length ≤ 140737488355328) :
  Calls Tryz.prog 177 #[.slice (some ⟨bk,o,none⟩) xs.length c,.string sep] w fun e w'=>e = .returned (.string ⟨(Lib.join (xs.map (·.data.toList)) sep.data.toList).toArray⟩) ∧ Below w.heap.size w w':=Any.strings_Join Tryz.lays156 Tryz.Builder_Extra_156 bk o c xs sep w hcells hbk hN hcap hlen
def Tryz.laysM246_ren:Go.Shelf.Ren:=⟨fun | 246=>169 | 283=>202 | 284=>203 | 285=>204 | 286=>205 | 129=>235 | 317=>234 | 318=>236 | 319=>237 | 320=>238 | 337=>266 | 338=>267 | n=>n,fun | 2=>2 | 3=>3 | 9=>9 | 4=>4 | 171=>260 | 0=>0 | 53=>119 | 37=>191 | 5=>5 | 173=>263 | 212=>294 | 51=>295 | 20=>20 | 213=>296 | 46=>185 | 232=>331 | 233=>332 | n=>n,fun | 17=>2 | 18=>3 | 19=>4 | n=>n⟩
theorem Tryz.laysM246:Go.Proofs.LaysM.n246 Tryz.prog Tryz.laysM246_ren:={
 mixed:=by kernel_rfl
 f129:=Tryz.func235.trans (congrArg some (by kernel_rfl))
 f246:=Tryz.func169.trans (congrArg some (by kernel_rfl))
 f283:=Tryz.func202.trans (congrArg some (by kernel_rfl))
 f284:=Tryz.func203.trans (congrArg some (by kernel_rfl))
 f285:=Tryz.func204.trans (congrArg some (by kernel_rfl))
 f286:=Tryz.func205.trans (congrArg some (by kernel_rfl))
 f317:=Tryz.func234.trans (congrArg some (by kernel_rfl))
 f318:=Tryz.func236.trans (congrArg some (by kernel_rfl))
 f319:=Tryz.func237.trans (congrArg some (by kernel_rfl))
 f320:=Tryz.func238.trans (congrArg some (by kernel_rfl))
 f337:=Tryz.func266.trans (congrArg some (by kernel_rfl))
 f338:=Tryz.func267.trans (congrArg some (by kernel_rfl))
 t0:=Tryz.underlying0
 a0:=Tryz.isAgg0
 z0:=Tryz.sizeOf0
 v0:=Tryz.zeroValue0
 t2:=Tryz.underlying2
 a2:=Tryz.isAgg2
 z2:=Tryz.sizeOf2
 v2:=Tryz.zeroValue2
 t3:=Tryz.underlying3
 a3:=Tryz.isAgg3
 z3:=Tryz.sizeOf3
 v3:=Tryz.zeroValue3
 t4:=Tryz.underlying4
 a4:=Tryz.isAgg4
 z4:=Tryz.sizeOf4
 v4:=Tryz.zeroValue4
 t5:=Tryz.underlying5
 a5:=Tryz.isAgg5
 z5:=Tryz.sizeOf5
 v5:=Tryz.zeroValue5
 t9:=Tryz.underlying9
 a9:=Tryz.isAgg9
 z9:=Tryz.sizeOf9
 v9:=Tryz.zeroValue9
 t20:=Tryz.underlying20
 a20:=Tryz.isAgg20
 z20:=Tryz.sizeOf20
 v20:=Tryz.zeroValue20
 t37:=Tryz.underlying191
 a37:=Tryz.isAgg191
 z37:=Tryz.sizeOf191
 v37:=Tryz.zeroValue191
 t46:=Tryz.underlying185
 a46:=Tryz.isAgg185
 z46:=Tryz.sizeOf185
 v46:=Tryz.zeroValue185
 t51:=Tryz.underlying295
 a51:=Tryz.isAgg295
 z51:=Tryz.sizeOf295
 v51:=Tryz.zeroValue295
 t53:=Tryz.underlying119
 a53:=Tryz.isAgg119
 z53:=Tryz.sizeOf119
 v53:=Tryz.zeroValue119
 t171:=Tryz.underlying260
 a171:=Tryz.isAgg260
 z171:=Tryz.sizeOf260
 v171:=Tryz.zeroValue260
 t173:=Tryz.underlying263
 a173:=Tryz.isAgg263
 z173:=Tryz.sizeOf263
 v173:=Tryz.zeroValue263
 t212:=Tryz.underlying294
 a212:=Tryz.isAgg294
 z212:=Tryz.sizeOf294
 v212:=Tryz.zeroValue294
 t213:=Tryz.underlying296
 a213:=Tryz.isAgg296
 z213:=Tryz.sizeOf296
 t232:=Tryz.underlying331
 a232:=Tryz.isAgg331
 z232:=Tryz.sizeOf331
 v232:=Tryz.zeroValue331
 t233:=Tryz.underlying332
 a233:=Tryz.isAgg332
 z233:=Tryz.sizeOf332
 v233:=Tryz.zeroValue332
 g17:=by kernel_rfl
 g18:=by kernel_rfl
 g19:=by kernel_rfl
 i0:=by kernel_rfl
 i2:=by kernel_rfl
 i3:=by kernel_rfl
 i4:=by kernel_rfl
 i5:=by kernel_rfl
 i9:=by kernel_rfl
 i20:=by kernel_rfl
 i37:=by kernel_rfl
 i46:=by kernel_rfl
 i51:=by kernel_rfl
 i53:=by kernel_rfl
 i171:=by kernel_rfl
 i173:=by kernel_rfl
 i212:=by kernel_rfl
 i232:=by kernel_rfl
 i233:=by kernel_rfl
 m17:=by kernel_rfl
 m18:=by kernel_rfl
 m19:=by kernel_rfl }
open Go.RowKit Go.Sort Go.Lib in
theorem Tryz.internal_strconv_FormatInt_10 (n:Int) (h0:-9223372036854775808 ≤ n) (h1:n ≤ 9223372036854775807) (w:World) (htab:Lib.TabIs Tryz.prog w "internal/strconv.uint64pow10" .u64 Lib.pow10Tab) :
  Calls Tryz.prog 169 #[.int .i64 n,.int .i64 10] w fun e w'=>e = .returned (.string ⟨(Lib.itoa n).toArray⟩) ∧ ∃ k os,w' = grow (w.drewN k) os:=Any.internal_strconv_FormatInt_10 Tryz.laysM246 n h0 h1 w htab
end Go.Proofs.YtgbicnkpnhifgaaGreatDoor

namespace Go.Proofs.YtgbicnkpnhifgaaGreatDoor
open Go.RowKit Go.Lib Go.Sort
noncomputable section
def tb_reeving_Matrix:List (FuncId × Fe G):=[(137,fe_reeving_Valid),(195,fe_reeving_find)]
def F_reeving_Matrix (s:TSystem):Option (List (List Int) × Int):=evZ G (lstK G tb_reeving_Matrix) (bodyOf Tryz.f159) .nil 66 [.tmp 2,.tmp 3] [.Matrix,.Errno] (argT G [.v .System] (s,()))
def fe_reeving_Matrix:Fe G:=⟨[.v .System],[.Matrix,.Errno],fun x=>F_reeving_Matrix x.1⟩
theorem ok_reeving_Matrix:FnOk G 159 fe_reeving_Matrix:=fnOkz_of G_ok (an:=.nil) (k:=66) (res:=[.tmp 2,.tmp 3]) (fun _=>lstK_ok G_ok (lcons ok_reeving_Valid (lcons ok_reeving_find (lnil)))) Tryz.func159 (by kernel_rfl) (by kernel_rfl) (by kernel_rfl) (by kernel_rfl) (by kernel_rfl) (fun _=>by kernel_rfl)
def tb_motion_rows:List (FuncId × Fe G):=[(159,fe_reeving_Matrix)]
def F_motion_rows (s:TSystem):Option (List (List Int) × Int):=evZ G (lstK G tb_motion_rows) (bodyOf Tryz.f200) .nil 49 [.tmp 2,.tmp 3] [.Matrix,.Errno] (argT G [.v .System] (s,()))
def fe_motion_rows:Fe G:=⟨[.v .System],[.Matrix,.Errno],fun x=>F_motion_rows x.1⟩
theorem ok_motion_rows:FnOk G 200 fe_motion_rows:=fnOkz_of G_ok (an:=.nil) (k:=49) (res:=[.tmp 2,.tmp 3]) (fun _=>lstK_ok G_ok (lcons ok_reeving_Matrix (lnil))) Tryz.func200 (by kernel_rfl) (by kernel_rfl) (by kernel_rfl) (by kernel_rfl) (by kernel_rfl) (fun _=>by kernel_rfl)
def F_internal_strconv_FormatInt (i base:Int):Option ByteArray:=if (-9223372036854775808 ≤ i ∧ i ≤ 9223372036854775807) ∧ base = 10 then some ⟨(Go.Lib.itoa i).toArray⟩ else none
def fe_internal_strconv_FormatInt:Fe G:=⟨[.v .int,.v .int1],[.str],fun x=>F_internal_strconv_FormatInt x.1 x.2.1⟩
theorem below_grow (w:World) (k:Nat) (os:Array Obj):Below w.heap.size w (grow (w.drewN k) os):=by
 refine ⟨rfl,rfl,rfl,by simp [grow],fun b hb=>?_⟩
 simp [grow,Array.getElem?_append,hb]
theorem ok_internal_strconv_FormatInt:FnOk G 169 fe_internal_strconv_FormatInt:=by
 refine ⟨⟨_,Tryz.func169,by decide,by kernel_rfl⟩,fun _ x y hy w vs hgh ha=>?_,fun h=>absurd h (by decide)⟩
 obtain ⟨i,b,⟨⟩⟩:=x
 have hy':F_internal_strconv_FormatInt i b = some y:=hy
 unfold F_internal_strconv_FormatInt at hy'
 split at hy'
 rotate_left
 ·cases hy'
 rename_i hc
 obtain ⟨⟨h0,h1⟩,rfl⟩:=hc
 cases hy'
 have ha':RepTs G w (AllRo w) 0 (fun _=>undef) [.c (.pv (.val (.int .i64 i))),.c (.pv (.val (.int .i64 10)))] vs:=ha
 cases ha' with
 | cons hx hr =>
  cases hr with
  | cons hn hnil =>
   cases hnil
   rename_i v0 v1
   have hx':RepP G w (AllRo w) (.val (.int .i64 i)) v0:=hx
   have hn':RepP G w (AllRo w) (.val (.int .i64 10)) v1:=hn
   cases hx'
   cases hn'
   refine (Tryz.internal_strconv_FormatInt_10 i h0 h1 w hgh).mono ?_
   rintro e w' ⟨rfl,k,os,rfl⟩
   have hb:=below_grow w k os
   refine ⟨_,rfl,hb,fun _ N hp m hh=>?_⟩
   obtain ⟨g1,g2⟩:=hh.ext (w':=grow (w.drewN k) os) (m':=m) hb.size (fun b hlt=>hb.block b hlt) [] (fun _ _=>rfl) (fun i ob hi=>by cases hi) (fun i ob b hi=>by cases hi) (fun i j ob ob' b hi=>by cases hi)
   exact ⟨m,g1,g2,RepP.val _ rfl⟩
end
end Go.Proofs.YtgbicnkpnhifgaaGreatDoor

namespace Go.Proofs.YtgbicnkpnhifgaaGreatDoor
open Go.RowKit
noncomputable section
theorem own_empty (w:World) (t:TypeId) (size:Nat):(w.alloc (.cells #[] t)).ownsRow w.heap.size t size (.slice (some ⟨w.heap.size,0,none⟩) 0 0) 0 [] :=
 ⟨by simp,.inr ⟨w.heap.size,0,#[],rfl,Nat.le_refl _,(show (w.heap.push (Obj.cells #[] t))[w.heap.size]? = _ from Array.getElem?_push_size),Nat.le_refl _,Nat.zero_le _,by simp,by simp⟩⟩
theorem below_box (w:World) (o:Obj):Below w.heap.size w (w.alloc o):=(Below.refl _ _).alloc (Nat.le_refl _) _
set_option maxHeartbeats 1000000 in
theorem clone_row (A:Option Addr) (n c:Nat) (cs:List Value) (w:World) (hlen:cs.length = n * 13) (hone:∀ x ∈ cs,x.oneCell' = true) (h0:A = none → n = 0)
  (hA:∀ ad,A = some ad → ∀ (j:Nat) (u:Value),cs[j]? = some u → w.cell? (ad.add j) = some u) (hn:n ≤ 2147483648) :
  Calls Tryz.prog 73 #[.slice A n c] w fun e w'=>∃ v,e = .returned v ∧ w'.ownsRow w.heap.size 26 13 v n cs ∧ Below w.heap.size w w' ∧ ∀ b,blkOf v = some b → w.heap.size ≤ b:=by
 obtain ⟨i0,hi0,hz0,hz1,hz2⟩:=info_parts info_Set
 cases A with
 | none =>
  have hn0:=h0 rfl
  subst hn0
  have hcs:cs = []:=List.eq_nil_of_length_eq_zero (by omega)
  subst hcs
  have hq:=fun wx=>Lib.run_eql_slice_nil (P:=Tryz.prog) wx 50 26 none 0 c 0 0 Tryz.underlying50
  go_enter Tryz.func73,Tryz.ntmps73
  go_wp2_with fail
  go_ret
  exact ⟨_,rfl,⟨by simp,.inl ⟨rfl,rfl⟩⟩,Below.refl _ _,fun b hb=>by cases hb⟩
 | some ad =>
  have HN:=Lib.hid (hA ad rfl);clear hA h0
  have hq:=fun wx=>Lib.run_eql_slice_nil (P:=Tryz.prog) wx 50 26 (some ad) n c 0 0 Tryz.underlying50
  have HO:=Lib.hid hone
  have HLEN:=Lib.hid hlen
  clear hlen hone
  go_enter Tryz.func73,Tryz.ntmps73
  go_wp2_with (at_builtin;refine wpList_append_own _ rfl _ _ 50 rfl w.heap.size 26 i0 _ 13 _ Tryz.underlying50 hi0 hz0 hz1 hz2 rfl (by decide) _ 0 [] rfl (own_empty w 26 13) ad n c cs rfl HLEN.out (fun j u hu=>(below_box w _).cell (HN.out j u hu |> fun h=>(World.block_lt_of_cell? w _ h)) |>.trans (HN.out j u hu)) HO.out (by simp only [maxLen];omega) (by omega) (by simp) ?_;intro v' w1 hown1 hgrow1 hat1)
  go_ret
  have hown2:w1.ownsRow w.heap.size 26 13 v' n cs:=by simpa using hown1
  refine ⟨v',rfl,hown2,(below_box w (.cells #[] 26)).grown hgrow1 (by simp) (fun k hk=>by cases hk;exact Nat.le_refl _),fun b hb=>?_⟩
  rcases hown2.2 with ⟨e,_⟩ | ⟨g,cap,cur,e,hg,_⟩
  ·rw [e] at hb;cases hb
  ·rw [e] at hb;cases hb;exact hg
section
variable {P:Program} {G:Sg P} [Held]
theorem clone_call (hok:G.Ok) {f:FuncId} {u:G.U} {N:Nat} {m:Nat → Value} {w:World} {hp:G.Hp} (hh:HRel G N hp m w) {l:List (G.El u)} {v:Value} (hx:Reads G w (Rof G hp m w) u l v)
  (hf:∀ (A:Option Addr) (n c:Nat) (cs:List Value),cs.length = n * G.sz u → (∀ x ∈ cs,x.oneCell' = true) → (A = none → n = 0) → (∀ ad,A = some ad → ∀ (j:Nat) (x:Value),cs[j]? = some x → w.cell? (ad.add j) = some x) → n ≤ 2147483648 →
   Calls P f #[.slice A n c] w fun e w'=>∃ v,e = .returned v ∧ w'.ownsRow w.heap.size (G.ty u) (G.sz u) v n cs ∧ Below w.heap.size w w' ∧ ∀ b,blkOf v = some b → w.heap.size ≤ b) (hl:l.length ≤ 2147483648) :
  Calls P f #[v] w fun e w'=>∃ v' m',e = .returned v' ∧ HRel G N (hp ++ [(.row false u l:G.O)]) m' w' ∧ Keep G hp m w (hp ++ [(.row false u l:G.O)]) m' w' ∧ (∀ o,o < hp.length → m' o = m o) ∧ Below w.heap.size w w' ∧ RepD G w' (Rof G (hp ++ [(.row false u l:G.O)]) m' w') (hp ++ [(.row false u l:G.O)]).length m' (.t (.c (.os hp.length))) v':=by
 obtain ⟨A,cap,news,rfl,hnl,hnr,hn1,_,hA⟩:=hx
 refine (hf A l.length cap news hnl hn1 ?_ ?_ hl).mono ?_
 ·intro hn
  rcases hA with ⟨_,rfl⟩ | ⟨a,e,_⟩
  ·rfl
  ·rw [hn] at e;cases e
 ·intro ad he j x hj
  rcases hA with ⟨rfl,_⟩ | ⟨a,e,_,hcells⟩
  ·cases he
  ·rw [e] at he
   cases he
   exact hcells j x hj
 ·rintro e w' ⟨v,rfl,hown,hb,hbv⟩
  obtain ⟨h1,h2⟩:=new_row (l:=l) hh hb.size (fun b hlt=>hb.block b hlt) (⟨hown.1,by
   rcases hown.2 with h | ⟨g,cap',cur,e1,e2,e3⟩
   ·exact .inl h
   ·exact .inr ⟨g,cap',cur,e1,Nat.le_trans hh.base e2,e3⟩⟩:w'.ownsRow N (G.ty u) (G.sz u) v l.length _) hbv hnr hn1
  refine ⟨v,_,rfl,h1,h2,fun o ho=>mAt_lt m _ _ o ho,hb,?_⟩
  have hv1:v.oneCell' = true:=by
   rcases hown.2 with ⟨e,_⟩ | ⟨g,cap',cur,e,_⟩ <;> rw [e] <;> rfl
  exact ⟨by simp,(mAt_same m _ _).symm,hv1⟩
end
def cloneS:G.KT:=fun β f ts hp k=>match f == 73 with
 | true=>match ts with
  | [x]=>match rowRead G hp U.Set x with
   | some l=>if List.length (α:=TSet) l ≤ 2147483648 then k [] (hp ++ [.row false U.Set l]) (.t (.c (.os hp.length))) else none
   | none=>none
  | _=>none
 | false=>none
theorem cloneS_ok [Held]:CallOk G cloneS:=by
 intro β f ts hp k r hk
 unfold cloneS at hk
 split at hk
 ·rename_i hf
  have hf':f = 73:=by simpa using hf
  subst hf'
  split at hk
  ·rename_i x
   split at hk
   ·rename_i l hrd
    split at hk
    ·rename_i hl
     refine ⟨⟨_,Tryz.func73,by decide,by kernel_rfl⟩,fun N m w vs hh hr=>?_⟩
     cases hr with
     | cons hx hnil =>
      cases hnil
      have hx':=rowRead_ok G_ok hh hx hrd
      refine (clone_call G_ok (f:=73) (u:=U.Set) hh hx' (fun A n c cs h1 h2 h3 h4 h5=>clone_row A n c cs w h1 h2 h3 h4 h5) hl).mono ?_
      rintro e w' ⟨v',m',rfl,h1,h2,h3,h4,h5⟩
      exact ⟨v',_,m',_,[],rfl,h1,h2.kp (by simp),fun o ho _=>h3 o ho,by simp,h4.mono hh.base,h5,hk,fun _ b hlt=>h4.block b hlt⟩
    ·cases hk
   ·cases hk
  ·cases hk
 ·cases hk
end
end Go.Proofs.YtgbicnkpnhifgaaGreatDoor

namespace Go.Proofs.YtgbicnkpnhifgaaGreatDoor
open Go.RowKit Go.Lib
noncomputable section
def joinL (l:List ByteArray) (sep:ByteArray):List UInt8:=Lib.join (l.map (·.data.toList)) sep.data.toList
def F_strings_Join (l:List ByteArray) (sep:ByteArray):Option ByteArray:=if l.length ≤ 2147483648 ∧ (joinL l sep).length ≤ 2147483648 then some ⟨(joinL l sep).toArray⟩ else none
def fe_strings_Join:Fe G:=⟨[.v .l_str,.v .str],[.str],fun x=>F_strings_Join x.1 x.2.1⟩
theorem join_nil (sep:ByteArray):joinL [] sep = []:=rfl
theorem ok_strings_Join:FnOk G 177 fe_strings_Join:=by
 refine ⟨⟨_,Tryz.func177,by decide,by kernel_rfl⟩,fun _ x y hy w vs hgh ha=>?_,fun h=>absurd h (by decide)⟩
 obtain ⟨l,sep,⟨⟩⟩:=x
 have hy':F_strings_Join l sep = some y:=hy
 unfold F_strings_Join at hy'
 split at hy'
 rotate_left
 ·cases hy'
 rename_i hc
 obtain ⟨h0,h1⟩:=hc
 cases hy'
 have ha':RepTs G w (AllRo w) 0 (fun _=>undef) [.c (.pv (.sl U.str l)),.c (.pv (.val (.string sep)))] vs:=ha
 have fin:∀ {e:Ending} {w':World},e = .returned (.string ⟨(joinL l sep).toArray⟩) → Below w.heap.size w w' → Ret G [U.str] (⟨(joinL l sep).toArray⟩:ByteArray) w e w':=by
  rintro e w' rfl hb
  refine ⟨_,rfl,hb,fun _ N hp m hh=>?_⟩
  obtain ⟨g1,g2⟩:=hh.ext (w':=w') (m':=m) hb.size (fun b hlt=>hb.block b hlt) [] (fun _ _=>rfl) (fun i ob hi=>by cases hi) (fun i ob b hi=>by cases hi) (fun i j ob ob' b hi=>by cases hi)
  exact ⟨m,g1,g2,RepP.val _ rfl⟩
 cases ha' with
 | cons hx hr =>
  cases hr with
  | cons hn hnil =>
   cases hnil
   rename_i v0 v1
   have hx':RepP G w (AllRo w) (.sl U.str l) v0:=hx
   have hn':RepP G w (AllRo w) (.val (.string sep)) v1:=hn
   cases hn'
   cases hx' with
   | sl _ _ A b off cap c hcap hcell hcc hrp =>
    rcases Nat.eq_zero_or_pos (List.length (α:=ByteArray) l) with hl | hl
    ·have hnl:l = ([]:List ByteArray):=List.eq_nil_of_length_eq_zero hl
     subst hnl
     refine (Tryz.strings_Join_none A cap sep w).mono ?_
     rintro e w' ⟨rfl,rfl⟩
     exact fin rfl (Below.refl _ _)
    ·obtain ⟨rfl,hb⟩:=hcell hl
     refine (Tryz.strings_Join b off cap l sep w (fun j x hj=>?_) hb (by omega) hcap (by show (joinL l sep).length ≤ _;omega)).mono ?_
     ·have g1:=hcc j x 0 (.val (.string x)) hj rfl
      have g2:=hrp j x 0 (.val (.string x)) hj rfl
      have hsz:G.sz U.str = 1:=by kernel_rfl
      rw [hsz] at g1
      generalize c j 0 = z at g1 g2
      cases g2
      simpa using g1
     ·rintro e w' ⟨rfl,hb2⟩
      exact fin rfl hb2
end
end Go.Proofs.YtgbicnkpnhifgaaGreatDoor

namespace Go.Proofs.YtgbicnkpnhifgaaGreatDoor
open Go.RowKit
noncomputable section
def F_internal_strconv_Itoa (i:Int):Option (ByteArray) :=
 (F_internal_strconv_FormatInt i 10).bind fun r1=>some r1
def fe_internal_strconv_Itoa:Fe G:=⟨[.v .int1],[.str],fun x=>F_internal_strconv_Itoa x.1⟩
theorem ok_internal_strconv_Itoa:FnOk G 122 fe_internal_strconv_Itoa:=fk (an:=.nil) (k:=5) (res:=[.tmp 2]) (lstK_ok G_ok (lcons ok_internal_strconv_FormatInt (lnil))) Tryz.func122 fun _=>by kernel_rfl
def F_strconv_Itoa (i:Int):Option (ByteArray) :=
 (F_internal_strconv_Itoa i).bind fun r1=>some r1
def fe_strconv_Itoa:Fe G:=⟨[.v .int1],[.str],fun x=>F_strconv_Itoa x.1⟩
theorem ok_strconv_Itoa:FnOk G 54 fe_strconv_Itoa:=fk (an:=.nil) (k:=5) (res:=[.tmp 2]) (lstK_ok G_ok (lcons ok_internal_strconv_Itoa (lnil))) Tryz.func54 fun _=>by kernel_rfl
def F_lineset_line (words:List Value):Option (ByteArray) :=
 (iterF (σ:=Int × List ByteArray × Unit) (ρ:=List ByteArray × Unit) (fun s20=>(bif (decide (s20.1 < ((words.length:Nat):Int))) then ((idx words s20.1).bind fun x21=>(ifTy x21).bind fun t22=>(bif (t22 == some 9) then (ifStr x21).bind fun x23=>(if s20.2.1.length + ([x23]:List ByteArray).length ≤ 2147483648 then some ((s20.2.1 ++ ([x23]:List ByteArray)),()) else none) else (ifTy x21).bind fun t24=>(bif (t24 == some 3) then (ifInt x21).bind fun x25=>(F_strconv_Itoa x25).bind fun r26=>(if s20.2.1.length + ([r26]:List ByteArray).length ≤ 2147483648 then some ((s20.2.1 ++ ([r26]:List ByteArray)),()) else none) else some (s20.2.1,()))):Option (List ByteArray × Unit)).bind fun y27=>some (.inl ((IntKind.i64.wrap (s20.1 + 1)),y27.1,())) else some (.inr (s20.2.1,())))) big (0,([]:List ByteArray),())).bind fun y28=>(F_strings_Join y28.1 (⟨#[32]⟩:ByteArray)).bind fun r29=>(if r29.size + (⟨#[10]⟩:ByteArray).size ≤ 2147483648 then some (r29 ++ (⟨#[10]⟩:ByteArray)) else none)
def an_lineset_line:An U:=(.node none .nil (.node none .nil (.node none (.node none .nil (.node none (.node (some ⟨[2,8,9],[0],⟨[(3,.os 0),(10,.tv .int)],[(0,.row .str)]⟩,[(.exit 0,⟨[(3,.os 0)],[(0,.row .str)]⟩)]⟩) (.node none .nil (.node none .nil (.node (some ⟨[10],[0],⟨[],[]⟩,[(.normal,⟨[(3,.os 0)],[(0,.row .str)]⟩)]⟩) .nil .nil))) .nil) .nil)) .nil)))
def fe_lineset_line:Fe G:=⟨[.v .l_any],[.str],fun x=>F_lineset_line x.1⟩
theorem ok_lineset_line:FnOk G 135 fe_lineset_line:=fk (an:=an_lineset_line) (k:=34) (res:=[.tmp 2]) (lstK_ok G_ok (lcons ok_strconv_Itoa (lcons ok_strings_Join (lnil)))) Tryz.func135 fun _=>by kernel_rfl
def F_lineset_Text (s:TSet):Option (ByteArray × Int) :=
 (F_batten_Valid s).bind fun r1=>(bif (!r1) then some ((⟨#[]⟩:ByteArray),1) else (F_lineset_line ([(Value.iface 9 (.string (⟨#[115,101,116]⟩:ByteArray))),(Value.iface 9 (.string s.name)),(Value.iface 9 (.string (⟨#[100,101,112,116,104]⟩:ByteArray))),(Value.iface 3 (.int .i64 s.depth)),(Value.iface 9 (.string (⟨#[108,111,119]⟩:ByteArray))),(Value.iface 3 (.int .i64 s.low)),(Value.iface 9 (.string (⟨#[104,105,103,104]⟩:ByteArray))),(Value.iface 3 (.int .i64 s.high)),(Value.iface 9 (.string (⟨#[108,101,110,103,116,104]⟩:ByteArray))),(Value.iface 3 (.int .i64 s.length)),(Value.iface 9 (.string (⟨#[112,105,112,101]⟩:ByteArray))),(Value.iface 3 (.int .i64 s.pipe)),(Value.iface 9 (.string (⟨#[97,114,98,111,114]⟩:ByteArray))),(Value.iface 3 (.int .i64 s.arbor)),(Value.iface 9 (.string (⟨#[112,117,114,99,104,97,115,101]⟩:ByteArray))),(Value.iface 3 (.int .i64 s.purchase)),(Value.iface 9 (.string (⟨#[109,111,115,116]⟩:ByteArray))),(Value.iface 3 (.int .i64 s.most)),(Value.iface 9 (.string (⟨#[98,114,97,107,101]⟩:ByteArray))),(Value.iface 3 (.int .i64 s.brake))]:List Value)).bind fun r2=>(iterF (σ:=Int × List Value × Unit) (ρ:=List Value × Unit) (fun s5=>(bif (decide (s5.1 < ((s.lines.length:Nat):Int))) then (idx s.lines s5.1).bind fun x6=>(if s5.2.1.length + ([(Value.iface 3 (.int .i64 x6))]:List Value).length ≤ 2147483648 then some (.inl ((IntKind.i64.wrap (s5.1 + 1)),(s5.2.1 ++ ([(Value.iface 3 (.int .i64 x6))]:List Value)),())) else none) else some (.inr (s5.2.1,())))) big (0,([(Value.iface 9 (.string (⟨#[108,105,110,101,115]⟩:ByteArray)))]:List Value),())).bind fun y7=>(F_lineset_line y7.1).bind fun r8=>(if r2.size + r8.size ≤ 2147483648 then (iterF (σ:=ByteArray × Int × Unit) (ρ:=ByteArray × Unit) (fun s11=>(bif (decide (s11.2.1 < ((s.items.length:Nat):Int))) then (idx s.items s11.2.1).bind fun x12=>(F_lineset_line ([(Value.iface 9 (.string (⟨#[105,116,101,109]⟩:ByteArray))),(Value.iface 9 (.string x12.name)),(Value.iface 9 (.string (⟨#[97,116]⟩:ByteArray))),(Value.iface 3 (.int .i64 x12.at_)),(Value.iface 9 (.string (⟨#[119,105,100,116,104]⟩:ByteArray))),(Value.iface 3 (.int .i64 x12.width)),(Value.iface 9 (.string (⟨#[119,101,105,103,104,116]⟩:ByteArray))),(Value.iface 3 (.int .i64 x12.weight)),(Value.iface 9 (.string (⟨#[104,97,110,103]⟩:ByteArray))),(Value.iface 3 (.int .i64 x12.hang)),(Value.iface 9 (.string (⟨#[102,114,111,110,116]⟩:ByteArray))),(Value.iface 3 (.int .i64 x12.front)),(Value.iface 9 (.string (⟨#[98,97,99,107]⟩:ByteArray))),(Value.iface 3 (.int .i64 x12.back))]:List Value)).bind fun r13=>(if s11.1.size + r13.size ≤ 2147483648 then some (.inl ((s11.1 ++ r13),(IntKind.i64.wrap (s11.2.1 + 1)),())) else none) else some (.inr (s11.1,())))) big ((r2 ++ r8),0,())).bind fun y14=>(iterF (σ:=ByteArray × Int × Unit) (ρ:=ByteArray × Unit) (fun s17=>(bif (decide (s17.2.1 < ((s.bricks.length:Nat):Int))) then (idx s.bricks s17.2.1).bind fun x18=>(F_lineset_line ([(Value.iface 9 (.string (⟨#[98,114,105,99,107]⟩:ByteArray))),(Value.iface 9 (.string x18.name)),(Value.iface 9 (.string (⟨#[119,101,105,103,104,116]⟩:ByteArray))),(Value.iface 3 (.int .i64 x18.weight)),(Value.iface 9 (.string (⟨#[99,111,117,110,116]⟩:ByteArray))),(Value.iface 3 (.int .i64 x18.count))]:List Value)).bind fun r19=>(if s17.1.size + r19.size ≤ 2147483648 then some (.inl ((s17.1 ++ r19),(IntKind.i64.wrap (s17.2.1 + 1)),())) else none) else some (.inr (s17.1,())))) big (y14.1,0,())).bind fun y20=>some (y20.1,0) else none))
def an_lineset_Text:An U:=(.node none .nil (.node none .nil (.node none .nil (.node none .nil (.node none (.node none .nil (.node none (.node (some ⟨[1,2,3,4,60,61],[2],⟨[(5,.os 2),(62,.tv .int)],[(2,.row .any)]⟩,[(.exit 0,⟨[(5,.os 2)],[(2,.row .any)]⟩)]⟩) .nil .nil) .nil)) (.node none .nil (.node none (.node none .nil (.node none (.node (some ⟨[1,2,3,77,78],[],⟨[(4,.tv .str),(79,.tv .int)],[]⟩,[(.exit 2,⟨[(4,.tv .str)],[]⟩)]⟩) .nil .nil) .nil)) (.node none (.node none .nil (.node none (.node (some ⟨[2,3,117,118],[],⟨[(4,.tv .str),(119,.tv .int)],[]⟩,[(.exit 4,⟨[(4,.tv .str)],[]⟩)]⟩) .nil .nil) .nil)) .nil))))))))
def fe_lineset_Text:Fe G:=⟨[.v .Set],[.str,.Errno],fun x=>F_lineset_Text x.1⟩
theorem ok_lineset_Text:FnOk G 79 fe_lineset_Text:=fk (an:=an_lineset_Text) (k:=141) (res:=[.tmp 2,.tmp 3]) (lstK_ok G_ok (lcons ok_batten_Valid (lcons ok_lineset_line (lnil)))) Tryz.func79 fun _=>by kernel_rfl
def F_motion_Speeds (s:TSystem) (hauls:List Int):Option ((List TFrac) × Int) :=
 (F_motion_rows s).bind fun r1=>(bif (r1.2 != 0) then some (([]:List TFrac),r1.2) else (bif (((hauls.length:Nat):Int) != ((s.ropes.length:Nat):Int)) then some (([]:List TFrac),3) else (F_motion_ranged s hauls).bind fun r2=>(bif (!r2) then some (([]:List TFrac),2) else (F_linear_Solve r1.1 hauls).bind fun r3=>some (r3.1,r3.2))))
def fe_motion_Speeds:Fe G:=⟨[.v .System,.v .l_int1],[.l_Frac,.Errno],fun x=>F_motion_Speeds x.1 x.2.1⟩
theorem ok_motion_Speeds:FnOk G 165 fe_motion_Speeds:=fk (an:=.nil) (k:=34) (res:=[.tmp 4,.tmp 5]) (lstK_ok G_ok (lcons ok_linear_Solve (lcons ok_motion_rows (lcons ok_motion_ranged (lnil))))) Tryz.func165 fun _=>by kernel_rfl
def F_statics_Tensions (s:TSystem):Option ((List TFrac) × Int) :=
 (F_reeving_Matrix s).bind fun r1=>(bif (r1.2 != 0) then some (([]:List TFrac),r1.2) else (F_reeving_Weights s).bind fun r2=>(bif (r2.2 != 0) then some (([]:List TFrac),r2.2) else (F_linear_Solve r1.1 r2.1).bind fun r3=>some (r3.1,r3.2)))
def fe_statics_Tensions:Fe G:=⟨[.v .System],[.l_Frac,.Errno],fun x=>F_statics_Tensions x.1⟩
theorem ok_statics_Tensions:FnOk G 106 fe_statics_Tensions:=fk (an:=.nil) (k:=28) (res:=[.tmp 2,.tmp 3]) (lstK_ok G_ok (lcons ok_reeving_Matrix (lcons ok_reeving_Weights (lcons ok_linear_Solve (lnil))))) Tryz.func106 fun _=>by kernel_rfl
def F_motion_Travel (s:TSystem) (block:ByteArray):Option (TFrac × Int) :=
 (F_reeving_Valid s).bind fun r1=>(bif (!r1) then some ((TFrac.mk 0 0),1) else (F_slices_IndexFunc_api_Block s.blocks (fun z3=>F_motion_Travel_1 z3 block)).bind fun r4=>(bif (decide (r4 < 0)) then some ((TFrac.mk 0 0),9) else (F_slices_IndexFunc_api_Rope s.ropes (fun z6=>F_motion_Travel_2 z6)).bind fun r7=>(bif (decide (r7 < 0)) then some ((TFrac.mk 0 0),11) else (if 0 ≤ ((s.ropes.length:Nat):Int) ∧ ((s.ropes.length:Nat):Int) ≤ 16777216 then (idx (List.replicate (Int.toNat ((s.ropes.length:Nat):Int)) (0:Int)) r7).bind fun _x8=>((List.replicate (Int.toNat ((s.ropes.length:Nat):Int)) (0:Int))[(Int.toNat r7)]?).bind fun x9=>(F_motion_Speeds s ((List.replicate (Int.toNat ((s.ropes.length:Nat):Int)) (0:Int)).set (Int.toNat r7) 1)).bind fun r10=>(bif (r10.2 != 0) then some ((TFrac.mk 0 0),r10.2) else (idx r10.1 r4).bind fun _x11=>(r10.1[(Int.toNat r4)]?).bind fun x12=>(F_ratio_Div (TFrac.mk 1 1) x12).bind fun r13=>some (r13.1,r13.2)) else none))))
def fe_motion_Travel:Fe G:=⟨[.v .System,.v .str],[.Frac,.Errno],fun x=>F_motion_Travel x.1 x.2.1⟩
theorem ok_motion_Travel:FnOk G 109 fe_motion_Travel:=fk (an:=.nil) (k:=53) (res:=[.cell 4 35,.tmp 5]) (lstK_ok G_ok (lcons ok_slices_IndexFunc_api_Rope (lcons ok_reeving_Valid (lcons ok_slices_IndexFunc_api_Block (lcons ok_motion_Travel_1 (lcons ok_motion_Travel_2 (lcons ok_motion_Speeds (lcons ok_ratio_Div (lnil))))))))) Tryz.func109 fun _=>by kernel_rfl
def F_statics_Haul (s:TSystem):Option (TFrac × Int) :=
 (F_statics_Tensions s).bind fun r1=>(bif (r1.2 != 0) then some ((TFrac.mk 0 0),r1.2) else (F_slices_IndexFunc_api_Rope s.ropes (fun z3=>F_statics_Haul_1 z3)).bind fun r4=>(bif (decide (r4 < 0)) then some ((TFrac.mk 0 0),12) else (idx r1.1 r4).bind fun _x5=>(r1.1[(Int.toNat r4)]?).bind fun x6=>some (x6,0)))
def fe_statics_Haul:Fe G:=⟨[.v .System],[.Frac,.Errno],fun x=>F_statics_Haul x.1⟩
theorem ok_statics_Haul:FnOk G 45 fe_statics_Haul:=fk (an:=.nil) (k:=26) (res:=[.cell 2 35,.tmp 3]) (lstK_ok G_ok (lcons ok_statics_Tensions (lcons ok_slices_IndexFunc_api_Rope (lcons ok_statics_Haul_1 (lnil))))) Tryz.func45 fun _=>by kernel_rfl
def F_advantage_Travels (s:TSystem) (block:ByteArray):Option (TFrac × Int) :=
 (F_motion_Travel s block).bind fun r1=>some (r1.1,r1.2)
def fe_advantage_Travels:Fe G:=⟨[.v .System,.v .str],[.Frac,.Errno],fun x=>F_advantage_Travels x.1 x.2.1⟩
theorem ok_advantage_Travels:FnOk G 46 fe_advantage_Travels:=fk (an:=.nil) (k:=11) (res:=[.cell 4 35,.tmp 5]) (lstK_ok G_ok (lcons ok_motion_Travel (lnil))) Tryz.func46 fun _=>by kernel_rfl
def F_lineset_Check (s:TSet):Option ((List TFinding) × Int) :=
 (F_batten_Lines s).bind fun r1=>(bif (r1.2 != 0) then some (([]:List TFinding),r1.2) else (F_arbor_Holds s).bind fun r2=>(bif (r2.2 != 0) then some (([]:List TFinding),r2.2) else ((bif (!r2.1) then (if ([(TFinding.mk 1 s.name)]:List TFinding).length ≤ 2147483648 then some (([(TFinding.mk 1 s.name)]:List TFinding),()) else none) else some (([]:List TFinding),())):Option ((List TFinding) × Unit)).bind fun y3=>(iterF (σ:=Int × (List TFinding) × Unit) (ρ:=(List TFinding) × Unit) (fun s33=>(bif (decide (s33.1 < ((r1.1.length:Nat):Int))) then ((idx r1.1 s33.1).bind fun _x34=>(r1.1[(Int.toNat s33.1)]?).bind fun x35=>(F_lineset_Check_2 x35).bind fun r36=>(bif r36 then (F_strconv_Itoa (IntKind.i64.wrap (s33.1 + 1))).bind fun r37=>(if (⟨#[108,105,110,101]⟩:ByteArray).size + r37.size ≤ 2147483648 then (if s33.2.1.length + ([(TFinding.mk 2 ((⟨#[108,105,110,101]⟩:ByteArray) ++ r37))]:List TFinding).length ≤ 2147483648 then some ((s33.2.1 ++ ([(TFinding.mk 2 ((⟨#[108,105,110,101]⟩:ByteArray) ++ r37))]:List TFinding)),()) else none) else none) else some (s33.2.1,())):Option ((List TFinding) × Unit)).bind fun y38=>some (.inl ((IntKind.i64.wrap (s33.1 + 1)),y38.1,())) else some (.inr (s33.2.1,())))) big (0,y3.1,())).bind fun y39=>(iterF (σ:=Int × (List TFinding) × Unit) (ρ:=(List TFinding) × Unit) (fun s69=>(bif (decide (s69.1 < ((r1.1.length:Nat):Int))) then ((idx r1.1 s69.1).bind fun _x70=>(r1.1[(Int.toNat s69.1)]?).bind fun x71=>(F_lineset_Check_3 x71 s).bind fun r72=>(bif r72 then (F_strconv_Itoa (IntKind.i64.wrap (s69.1 + 1))).bind fun r73=>(if (⟨#[108,105,110,101]⟩:ByteArray).size + r73.size ≤ 2147483648 then (if s69.2.1.length + ([(TFinding.mk 3 ((⟨#[108,105,110,101]⟩:ByteArray) ++ r73))]:List TFinding).length ≤ 2147483648 then some ((s69.2.1 ++ ([(TFinding.mk 3 ((⟨#[108,105,110,101]⟩:ByteArray) ++ r73))]:List TFinding)),()) else none) else none) else some (s69.2.1,())):Option ((List TFinding) × Unit)).bind fun y74=>some (.inl ((IntKind.i64.wrap (s69.1 + 1)),y74.1,())) else some (.inr (s69.2.1,())))) big (0,y39.1,())).bind fun y75=>some (y75.1,0)))
def an_lineset_Check:An U:=(.node none .nil (.node none .nil (.node none .nil (.node none .nil (.node none .nil (.node none .nil (.node (some ⟨[1,2,3,4,7],[4],⟨[],[]⟩,[(.normal,⟨[],[(4,.bx .l_Finding [0])]⟩)]⟩) .nil (.node none .nil (.node none .nil (.node none .nil .nil))))))))))
def fe_lineset_Check:Fe G:=⟨[.v .Set],[.l_Finding,.Errno],fun x=>F_lineset_Check x.1⟩
def tb_lineset_Check:List (FuncId × Fe G):=[(13,fe_arbor_Holds),(54,fe_strconv_Itoa),(57,fe_batten_Lines),(59,fe_lineset_Check_2),(60,fe_lineset_Check_3)]
theorem ev_lineset_Check (x:TyP G fe_lineset_Check.ps):evF G (inlK G [⟨58,6,[2,3,4,5],[2,5],bodyOf Tryz.f58,(.node none .nil (.node none (.node (some ⟨[0,1,3,8,9],[4,5],⟨[(10,.tv .int)],[(4,.bx .l_Finding [0]),(5,.gone)]⟩,[(.exit 0,⟨[],[(4,.bx .l_Finding [0])]⟩)]⟩) (.node none .nil (.node none .nil (.node (some ⟨[10],[4,7],⟨[],[]⟩,[(.normal,⟨[],[(4,.bx .l_Finding [0])]⟩)]⟩) .nil .nil))) .nil) .nil)),28,[]⟩,⟨58,8,[0,2,3,4,7],[2,7],bodyOf Tryz.f58,(.node none .nil (.node none (.node (some ⟨[0,1,3,8,9],[4,7],⟨[(10,.tv .int)],[(4,.bx .l_Finding [0]),(7,.gone)]⟩,[(.exit 0,⟨[],[(4,.bx .l_Finding [0])]⟩)]⟩) (.node none .nil (.node none .nil (.node (some ⟨[10],[4,9],⟨[],[]⟩,[(.normal,⟨[],[(4,.bx .l_Finding [0])]⟩)]⟩) .nil .nil))) .nil) .nil)),28,[]⟩] (lstK G tb_lineset_Check) 1) (bodyOf Tryz.f11) an_lineset_Check 40 [.tmp 2,.tmp 3] fe_lineset_Check.rs (argT G fe_lineset_Check.ps x) = fe_lineset_Check.fn x:=by kernel_rfl
theorem ok_lineset_Check:FnOk G 11 fe_lineset_Check:=fnOk_of G_ok (inlK_ok G_ok (icons Tryz.func58 (by kernel_rfl) (by kernel_rfl) (by kernel_rfl) (by kernel_rfl) (icons Tryz.func58 (by kernel_rfl) (by kernel_rfl) (by kernel_rfl) (by kernel_rfl) (inil))) (lstK_ok G_ok (lcons ok_arbor_Holds (lcons ok_strconv_Itoa (lcons ok_batten_Lines (lcons ok_lineset_Check_2 (lcons ok_lineset_Check_3 (lnil))))))) 1) Tryz.func11 (by kernel_rfl) (by kernel_rfl) (by kernel_rfl) (by kernel_rfl) (by kernel_rfl) ev_lineset_Check
def F_top_soundAwake:Option (Bool) :=
 (F_top_soundFrac 1).bind fun r1=>(F_top_soundFrac 1).bind fun r2=>(F_top_soundFrac 1).bind fun r3=>(F_statics_Haul (TSystem.mk ([(TBlock.mk (⟨#[98]⟩:ByteArray) 10)]:List TBlock) ([(TRope.mk (⟨#[114]⟩:ByteArray) ([(THold.mk (⟨#[]⟩:ByteArray) 0 r1),(THold.mk (⟨#[98]⟩:ByteArray) 2 r2),(THold.mk (⟨#[]⟩:ByteArray) 0 r3)]:List THold) true)]:List TRope))).bind fun r4=>(F_advantage_Travels (TSystem.mk ([(TBlock.mk (⟨#[98]⟩:ByteArray) 10)]:List TBlock) ([(TRope.mk (⟨#[114]⟩:ByteArray) ([(THold.mk (⟨#[]⟩:ByteArray) 0 r1),(THold.mk (⟨#[98]⟩:ByteArray) 2 r2),(THold.mk (⟨#[]⟩:ByteArray) 0 r3)]:List THold) true)]:List TRope)) (⟨#[98]⟩:ByteArray)).bind fun r5=>(F_liftline_Lines (TSet.mk (⟨#[97]⟩:ByteArray) 0 0 9000 4000 ([0,4000]:List Int) 500 2000 1 1000 0 ([]:List TItem) ([]:List TBrick))).bind fun r6=>(F_failure_Survives (TSet.mk (⟨#[97]⟩:ByteArray) 0 0 9000 4000 ([0,4000]:List Int) 500 2000 1 1000 0 ([]:List TItem) ([]:List TBrick))).bind fun r7=>((bif (r4.2 == 0) then (F_top_soundFrac 5).bind fun r13=>(bif ((r4.1.num == r13.num) && (r4.1.den == r13.den)) then (bif (r5.2 == 0) then (F_top_soundFrac 2).bind fun r14=>(bif ((r5.1.num == r14.num) && (r5.1.den == r14.den)) then (bif (r6.2 == 0) then (F_top_soundFrac 1000).bind fun r15=>(F_top_soundFrac 1000).bind fun r16=>(F_slices_Equal_api_Frac r6.1 ([r15,r16]:List TFrac)).bind fun r17=>(bif r17 then (bif (r7.2.2 == 0) then some ((!r7.1),()) else some (false,())) else some (false,())) else some (false,())) else some (false,())) else some (false,())) else some (false,())) else some (false,())):Option (Bool × Unit)).bind fun y18=>some y18.1
def an_top_soundAwake:An U:=(.node none .nil (.node none .nil (.node none .nil (.node none .nil (.node none .nil (.node none .nil (.node none .nil (.node (some ⟨[],[],⟨[],[]⟩,[(.normal,⟨[(0,.tv .bool)],[]⟩)]⟩) .nil .nil))))))))
def fe_top_soundAwake:Fe G:=⟨[],[.bool],fun x=>F_top_soundAwake⟩
def tb_top_soundAwake:List (FuncId × Fe G):=[(10,fe_top_soundFrac),(28,fe_liftline_Lines),(29,fe_slices_Equal_api_Frac),(45,fe_statics_Haul),(46,fe_advantage_Travels),(47,fe_failure_Survives)]
theorem ev0_top_soundAwake (F_top_soundFrac:(Int) → Option (TFrac)) (F_liftline_Lines:(TSet) → Option ((List TFrac) × Int)) (F_slices_Equal_api_Frac:(List TFrac) → (List TFrac) → Option (Bool)) (F_statics_Haul:(TSystem) → Option (TFrac × Int)) (F_advantage_Travels:(TSystem) → (ByteArray) → Option (TFrac × Int)) (F_failure_Survives:(TSet) → Option (Bool × Int × Int)):evF G (lstK G [(10,⟨[.v .int1],[.Frac],fun x=>F_top_soundFrac x.1⟩),(28,⟨[.v .Set],[.l_Frac,.Errno],fun x=>F_liftline_Lines x.1⟩),(29,⟨[.v .l_Frac,.v .l_Frac],[.bool],fun x=>F_slices_Equal_api_Frac x.1 x.2.1⟩),(45,⟨[.v .System],[.Frac,.Errno],fun x=>F_statics_Haul x.1⟩),(46,⟨[.v .System,.v .str],[.Frac,.Errno],fun x=>F_advantage_Travels x.1 x.2.1⟩),(47,⟨[.v .Set],[.bool,.int1,.Errno],fun x=>F_failure_Survives x.1⟩)]) (bodyOf Tryz.f6) an_top_soundAwake 82 [.tmp 0] [.bool] [] = ((F_top_soundFrac 1).bind fun r1=>(F_top_soundFrac 1).bind fun r2=>(F_top_soundFrac 1).bind fun r3=>(F_statics_Haul (TSystem.mk ([(TBlock.mk (⟨#[98]⟩:ByteArray) 10)]:List TBlock) ([(TRope.mk (⟨#[114]⟩:ByteArray) ([(THold.mk (⟨#[]⟩:ByteArray) 0 r1),(THold.mk (⟨#[98]⟩:ByteArray) 2 r2),(THold.mk (⟨#[]⟩:ByteArray) 0 r3)]:List THold) true)]:List TRope))).bind fun r4=>(F_advantage_Travels (TSystem.mk ([(TBlock.mk (⟨#[98]⟩:ByteArray) 10)]:List TBlock) ([(TRope.mk (⟨#[114]⟩:ByteArray) ([(THold.mk (⟨#[]⟩:ByteArray) 0 r1),(THold.mk (⟨#[98]⟩:ByteArray) 2 r2),(THold.mk (⟨#[]⟩:ByteArray) 0 r3)]:List THold) true)]:List TRope)) (⟨#[98]⟩:ByteArray)).bind fun r5=>(F_liftline_Lines (TSet.mk (⟨#[97]⟩:ByteArray) 0 0 9000 4000 ([0,4000]:List Int) 500 2000 1 1000 0 ([]:List TItem) ([]:List TBrick))).bind fun r6=>(F_failure_Survives (TSet.mk (⟨#[97]⟩:ByteArray) 0 0 9000 4000 ([0,4000]:List Int) 500 2000 1 1000 0 ([]:List TItem) ([]:List TBrick))).bind fun r7=>((bif (r4.2 == 0) then (F_top_soundFrac 5).bind fun r13=>(bif ((r4.1.num == r13.num) && (r4.1.den == r13.den)) then (bif (r5.2 == 0) then (F_top_soundFrac 2).bind fun r14=>(bif ((r5.1.num == r14.num) && (r5.1.den == r14.den)) then (bif (r6.2 == 0) then (F_top_soundFrac 1000).bind fun r15=>(F_top_soundFrac 1000).bind fun r16=>(F_slices_Equal_api_Frac r6.1 ([r15,r16]:List TFrac)).bind fun r17=>(bif r17 then (bif (r7.2.2 == 0) then some ((!r7.1),()) else some (false,())) else some (false,())) else some (false,())) else some (false,())) else some (false,())) else some (false,())) else some (false,())):Option (Bool × Unit)).bind fun y18=>some y18.1:Option (Bool)):=by kernel_rfl
set_option maxRecDepth 1000000 in
theorem ev_top_soundAwake (x:TyP G fe_top_soundAwake.ps):evF G (lstK G tb_top_soundAwake) (bodyOf Tryz.f6) an_top_soundAwake 82 [.tmp 0] fe_top_soundAwake.rs (argT G fe_top_soundAwake.ps x) = fe_top_soundAwake.fn x:=ev0_top_soundAwake F_top_soundFrac F_liftline_Lines F_slices_Equal_api_Frac F_statics_Haul F_advantage_Travels F_failure_Survives
theorem ok_top_soundAwake:FnOk G 6 fe_top_soundAwake:=fnOk_of G_ok (lstK_ok G_ok (lcons ok_top_soundFrac (lcons ok_liftline_Lines (lcons ok_slices_Equal_api_Frac (lcons ok_statics_Haul (lcons ok_advantage_Travels (lcons ok_failure_Survives (lnil)))))))) Tryz.func6 (by kernel_rfl) (by kernel_rfl) (by kernel_rfl) (by kernel_rfl) (by kernel_rfl) ev_top_soundAwake
def F_top_TopStored (l:List TSet):Option (Bool) :=
 (F_top_soundAwake).bind fun r1=>(bif (!r1) then some false else ((bif (decide (((l.length:Nat):Int) > 5)) then some (true,()) else (F_slices_ContainsFunc_api_Set l (fun z6=>F_top_TopStored_1 z6)).bind fun r7=>some (r7,())):Option (Bool × Unit)).bind fun y8=>(bif y8.1 then some true else (iterF (σ:=Int × Int × TStore × (Bool × List (ByteArray × TSet)) × Unit) (ρ:=(Bool × TStore × (Bool × List (ByteArray × TSet)) × Unit) ⊕ (Int × TStore × (Bool × List (ByteArray × TSet)) × Unit)) (fun s772=>(bif (decide (s772.2.1 < ((l.length:Nat):Int))) then ((idx l s772.2.1).bind fun x773=>(if x773.name.size ≤ 2147483648 then (((F_batten_Valid x773).bind fun r774=>some ((!r774),()):Option (Bool × Unit)).bind fun y775=>(bif y775.1 then some (1,s772.2.2.1,()) else (iterF (σ:=Int × Unit) (ρ:=(Int × Unit) ⊕ (Unit)) (fun s776=>(bif (decide (s776.1 < ((s772.2.2.1.sets.length:Nat):Int))) then (idx s772.2.2.1.sets s776.1).bind fun _x777=>(s772.2.2.1.sets[(Int.toNat s776.1)]?).bind fun x778=>(bif (x778.name.toList == x773.name.toList) then some (.inr (.inl (s776.1,()))) else some (.inl ((IntKind.i64.wrap (s776.1 + 1)),()))) else some (.inr (.inr ((())))))) big (0,())).bind fun y779=>(match y779 with | .inl y780=>((bif (decide (y780.1 ≥ 0)) then (idx s772.2.2.1.sets y780.1).bind fun _x782=>(s772.2.2.1.sets[(Int.toNat y780.1)]?).bind fun x783=>(F_lineset_Same x783 x773).bind fun r784=>some (r784,()) else some (false,())):Option (Bool × Unit)).bind fun y785=>(bif y785.1 then some (0,s772.2.2.1,()) else ((bif (decide (y780.1 < 0)) then some ((decide (((s772.2.2.1.sets.length:Nat):Int) ≥ 60)),()) else some (false,())):Option (Bool × Unit)).bind fun y786=>(bif y786.1 then some (4,s772.2.2.1,()) else (if s772.2.2.1.sets.length ≤ 2147483648 then ((bif (decide (y780.1 < 0)) then (F_versions_own x773).bind fun r787=>(if s772.2.2.1.sets.length + ([r787]:List TSet).length ≤ 2147483648 then some ((s772.2.2.1.sets ++ ([r787]:List TSet)),()) else none) else (F_versions_own x773).bind fun r788=>(idx s772.2.2.1.sets y780.1).bind fun _x789=>(s772.2.2.1.sets[(Int.toNat y780.1)]?).bind fun x790=>some ((s772.2.2.1.sets.set (Int.toNat y780.1) r788),())):Option (List TSet × Unit)).bind fun y791=>(if s772.2.2.1.past.length + ([s772.2.2.1.sets]:List (List TSet)).length ≤ 2147483648 then some (0,(TStore.mk y791.1 (s772.2.2.1.past ++ ([s772.2.2.1.sets]:List (List TSet))) s772.2.2.1.known s772.2.2.1.work),()) else none) else none))) | .inr y781=>(some (false,()):Option (Bool × Unit)).bind fun y792=>(bif y792.1 then some (0,s772.2.2.1,()) else (some ((decide (((s772.2.2.1.sets.length:Nat):Int) ≥ 60)),()):Option (Bool × Unit)).bind fun y793=>(bif y793.1 then some (4,s772.2.2.1,()) else (if s772.2.2.1.sets.length ≤ 2147483648 then ((F_versions_own x773).bind fun r794=>(if s772.2.2.1.sets.length + ([r794]:List TSet).length ≤ 2147483648 then some ((s772.2.2.1.sets ++ ([r794]:List TSet)),()) else none):Option (List TSet × Unit)).bind fun y795=>(if s772.2.2.1.past.length + ([s772.2.2.1.sets]:List (List TSet)).length ≤ 2147483648 then some (0,(TStore.mk y795.1 (s772.2.2.1.past ++ ([s772.2.2.1.sets]:List (List TSet))) s772.2.2.1.known s772.2.2.1.work),()) else none) else none))))):Option (Int × TStore × Unit)).bind fun y796=>(F_batten_Valid x773).bind fun r797=>(bif (!((y796.1 == 0) == r797)) then some (.inl (false,y796.2.1,(s772.2.2.2.1.1,s772.2.2.2.1.2),())) else (bif (y796.1 != 0) then some (.inr ((s772.1,y796.2.1,(s772.2.2.2.1.1,s772.2.2.2.1.2),()))) else (((bif (!(findM x773.name s772.2.2.2.1.2).isSome) then some (true,()) else (F_lineset_Same (((findM x773.name s772.2.2.2.1.2).getD (⟨ByteArray.empty,0,0,0,0,[],0,0,0,0,0,[],[]⟩:TSet))) x773).bind fun r798=>some ((!r798),())):Option (Bool × Unit)).bind fun y799=>(bif y799.1 then some ((IntKind.i64.wrap (s772.1 + 1)),()) else some (s772.1,())):Option (Int × Unit)).bind fun y800=>(if s772.2.2.2.1.1 = true ∧ x773.name.size ≤ 2147483648 ∧ s772.2.2.2.1.2.length ≤ 2147483648 then some (.inr ((y800.1,y796.2.1,(true,(setM x773.name x773 s772.2.2.2.1.2)),()))) else none))) else none):Option ((Bool × TStore × (Bool × List (ByteArray × TSet)) × Unit) ⊕ (Int × TStore × (Bool × List (ByteArray × TSet)) × Unit))).bind fun y801=>(match y801 with | .inl y802=>some (.inr (.inl (y802.1,y802.2.1,(y802.2.2.1.1,y802.2.2.1.2),()))) | .inr y803=>some (.inl (y803.1,(IntKind.i64.wrap (s772.2.1 + 1)),y803.2.1,(y803.2.2.1.1,y803.2.2.1.2),()))) else some (.inr (.inr ((s772.1,s772.2.2.1,(s772.2.2.2.1.1,s772.2.2.2.1.2),())))))) big (0,0,(TStore.mk ([]:List TSet) ([]:List (List TSet)) ((false,[]):Bool × List (ByteArray × Tresult)) 0),(true,([]:List (ByteArray × TSet))),())).bind fun y804=>(match y804 with | .inl y805=>some y805.1 | .inr y806=>(iterF (σ:=Int × List ByteArray × Unit) (ρ:=List ByteArray × Unit) (fun s811=>(bif (decide (s811.1 < ((y806.2.1.sets.length:Nat):Int))) then (idx y806.2.1.sets s811.1).bind fun _x812=>(y806.2.1.sets[(Int.toNat s811.1)]?).bind fun x813=>(if s811.2.1.length + ([x813.name]:List ByteArray).length ≤ 2147483648 then some (.inl ((IntKind.i64.wrap (s811.1 + 1)),(s811.2.1 ++ ([x813.name]:List ByteArray)),())) else none) else some (.inr (s811.2.1,())))) big (0,([]:List ByteArray),())).bind fun y814=>(if y806.2.2.1.1 = true then (bif (((y814.1.length:Nat):Int) != ((y806.2.2.1.2.length:Nat):Int)) then some false else (iterF (σ:=Int × TStore × Unit) (ρ:=(Bool × TStore × Unit) ⊕ (TStore × Unit)) (fun s938=>(bif (decide (s938.1 < ((y814.1.length:Nat):Int))) then (idx y814.1 s938.1).bind fun _x939=>(y814.1[(Int.toNat s938.1)]?).bind fun x940=>(if x940.size ≤ 2147483648 then ((iterF (σ:=Int × Unit) (ρ:=(Int × Unit) ⊕ (Unit)) (fun s941=>(bif (decide (s941.1 < ((s938.2.1.sets.length:Nat):Int))) then (idx s938.2.1.sets s941.1).bind fun _x942=>(s938.2.1.sets[(Int.toNat s941.1)]?).bind fun x943=>(bif (x943.name.toList == x940.toList) then some (.inr (.inl (s941.1,()))) else some (.inl ((IntKind.i64.wrap (s941.1 + 1)),()))) else some (.inr (.inr ((())))))) big (0,())).bind fun y944=>(match y944 with | .inl y945=>(bif (decide (y945.1 < 0)) then (F_versions_own (TSet.mk (⟨#[]⟩:ByteArray) 0 0 0 0 ([]:List Int) 0 0 0 0 0 ([]:List TItem) ([]:List TBrick))).bind fun r947=>some (r947,9,()) else (idx s938.2.1.sets y945.1).bind fun _x948=>(s938.2.1.sets[(Int.toNat y945.1)]?).bind fun x949=>(F_versions_own x949).bind fun r950=>some (r950,0,())) | .inr y946=>(F_versions_own (TSet.mk (⟨#[]⟩:ByteArray) 0 0 0 0 ([]:List Int) 0 0 0 0 0 ([]:List TItem) ([]:List TBrick))).bind fun r951=>some (r951,9,())):Option (TSet × Int × Unit)).bind fun y952=>((iterF (σ:=Int × Unit) (ρ:=(Int × Unit) ⊕ (Unit)) (fun s953=>(bif (decide (s953.1 < ((s938.2.1.sets.length:Nat):Int))) then (idx s938.2.1.sets s953.1).bind fun _x954=>(s938.2.1.sets[(Int.toNat s953.1)]?).bind fun x955=>(bif (x955.name.toList == x940.toList) then some (.inr (.inl (s953.1,()))) else some (.inl ((IntKind.i64.wrap (s953.1 + 1)),()))) else some (.inr (.inr ((())))))) big (0,())).bind fun y956=>(match y956 with | .inl y957=>(bif (decide (y957.1 < 0)) then some (([]:List TFrac),9,s938.2.1,()) else (idx s938.2.1.sets y957.1).bind fun _x959=>(s938.2.1.sets[(Int.toNat y957.1)]?).bind fun x960=>(F_lineset_Text x960).bind fun r961=>(bif (r961.2 != 0) then some (([]:List TFrac),r961.2,s938.2.1,()) else (if r961.1.size ≤ 2147483648 then ((bif (!(findM r961.1 s938.2.1.known.2).isSome) then (F_batten_Lines x960).bind fun r962=>((bif (!s938.2.1.known.1) then some ((TStore.mk s938.2.1.sets s938.2.1.past (true,([]:List (ByteArray × Tresult))) s938.2.1.work),()) else some (s938.2.1,())):Option (TStore × Unit)).bind fun y963=>(if y963.1.known.1 = true ∧ r961.1.size ≤ 2147483648 ∧ y963.1.known.2.length ≤ 2147483648 then some ((TStore.mk y963.1.sets y963.1.past (true,(setM r961.1 (Tresult.mk r962.1 r962.2) y963.1.known.2)) (IntKind.i64.wrap (y963.1.work + 1))),(Tresult.mk r962.1 r962.2),()) else none) else some (s938.2.1,(((findM r961.1 s938.2.1.known.2).getD (⟨[],0⟩:Tresult))),())):Option (TStore × Tresult × Unit)).bind fun y964=>(F_slices_Clone_api_Frac y964.2.1.loads).bind fun r965=>some (r965,y964.2.1.e,y964.1,()) else none))) | .inr y958=>some (([]:List TFrac),9,s938.2.1,())):Option (List TFrac × Int × TStore × Unit)).bind fun y966=>(F_liftline_Lines (((findM x940 y806.2.2.1.2).getD (⟨ByteArray.empty,0,0,0,0,[],0,0,0,0,0,[],[]⟩:TSet)))).bind fun r967=>(F_lineset_Check y952.1).bind fun r968=>(F_lineset_Check (((findM x940 y806.2.2.1.2).getD (⟨ByteArray.empty,0,0,0,0,[],0,0,0,0,0,[],[]⟩:TSet)))).bind fun r969=>((bif (!(findM x940 y806.2.2.1.2).isSome) then some (true,()) else (bif (y952.2.1 != 0) then some (true,()) else (F_lineset_Same (((findM x940 y806.2.2.1.2).getD (⟨ByteArray.empty,0,0,0,0,[],0,0,0,0,0,[],[]⟩:TSet))) y952.1).bind fun r970=>(bif (!r970) then some (true,()) else (bif (y966.2.1 != r967.2) then some (true,()) else (F_slices_Equal_api_Frac y966.1 r967.1).bind fun r971=>(bif (!r971) then some (true,()) else (bif (r968.2 != r969.2) then some (true,()) else (F_slices_Equal_api_Finding r968.1 r969.1).bind fun r972=>some ((!r972),()))))))):Option (Bool × Unit)).bind fun y973=>(bif y973.1 then some (.inr (.inl (false,y966.2.2.1,()))) else some (.inl ((IntKind.i64.wrap (s938.1 + 1)),y966.2.2.1,()))) else none) else some (.inr (.inr ((s938.2.1,())))))) big (0,y806.2.1,())).bind fun y974=>(match y974 with | .inl y975=>some y975.1 | .inr y976=>(iterF (σ:=Int × TStore × Unit) (ρ:=(Bool × TStore × Unit) ⊕ (TStore × Unit)) (fun s995=>(bif (decide (s995.1 < y806.1)) then (bif (((s995.2.1.past.length:Nat):Int) == 0) then some (.inr (.inl (false,s995.2.1,()))) else (idx s995.2.1.past (IntKind.i64.wrap (((s995.2.1.past.length:Nat):Int) - 1))).bind fun x996=>(if 0 ≤ (0:Int) ∧ (0:Int) ≤ (IntKind.i64.wrap (((s995.2.1.past.length:Nat):Int) - 1)) ∧ (IntKind.i64.wrap (((s995.2.1.past.length:Nat):Int) - 1)) ≤ ((s995.2.1.past.length:Nat):Int) then some (.inl ((IntKind.i64.wrap (s995.1 + 1)),(TStore.mk x996 ((s995.2.1.past.take (Int.toNat (IntKind.i64.wrap (((s995.2.1.past.length:Nat):Int) - 1)))).drop (Int.toNat (0:Int))) s995.2.1.known s995.2.1.work),())) else none)) else some (.inr (.inr ((s995.2.1,())))))) big (0,y976.1,())).bind fun y997=>(match y997 with | .inl y998=>some y998.1 | .inr y999=>((iterF (σ:=Int × List ByteArray × Unit) (ρ:=List ByteArray × Unit) (fun s1012=>(bif (decide (s1012.1 < ((y999.1.sets.length:Nat):Int))) then (idx y999.1.sets s1012.1).bind fun x1013=>(if s1012.2.1.length + ([x1013.name]:List ByteArray).length ≤ 2147483648 then some (.inl ((IntKind.i64.wrap (s1012.1 + 1)),(s1012.2.1 ++ ([x1013.name]:List ByteArray)),())) else none) else some (.inr (s1012.2.1,())))) big (0,([]:List ByteArray),())).bind fun y1014=>(bif (((y1014.1.length:Nat):Int) == 0) then (bif (((y999.1.past.length:Nat):Int) == 0) then some (true,y999.1,()) else (idx y999.1.past (IntKind.i64.wrap (((y999.1.past.length:Nat):Int) - 1))).bind fun x1015=>(if 0 ≤ (0:Int) ∧ (0:Int) ≤ (IntKind.i64.wrap (((y999.1.past.length:Nat):Int) - 1)) ∧ (IntKind.i64.wrap (((y999.1.past.length:Nat):Int) - 1)) ≤ ((y999.1.past.length:Nat):Int) then some (false,(TStore.mk x1015 ((y999.1.past.take (Int.toNat (IntKind.i64.wrap (((y999.1.past.length:Nat):Int) - 1)))).drop (Int.toNat (0:Int))) y999.1.known y999.1.work),()) else none)) else some (false,y999.1,())):Option (Bool × TStore × Unit)).bind fun y1016=>some y1016.1))) else none))))
def an_top_TopStored:An U:=(.node none .nil (.node none .nil (.node none (.node (some ⟨[0,2],[],⟨[],[]⟩,[(.normal,⟨[(34,.tv .bool)],[]⟩)]⟩) .nil .nil) (.node none .nil (.node none .nil (.node none .nil (.node none .nil (.node none (.node none .nil (.node none (.node (some ⟨[3,4,39,40],[1,2],⟨[(5,.tv .int),(41,.tv .int)],[(1,.bx .Store [0,1,2]),(2,.ab (.mapu 54 .Set))]⟩,[(.ret,⟨[(2,.tv .bool)],[(1,.bx .Store [0,1,2]),(2,.ab (.mapu 54 .Set))]⟩),(.exit 0,⟨[(5,.tv .int)],[(1,.bx .Store [0,1,2]),(2,.ab (.mapu 54 .Set))]⟩)]⟩) (.node none .nil (.node none .nil (.node (some ⟨[41],[1,2,3,4,5],⟨[],[]⟩,[(.ret,⟨[(2,.tv .bool)],[(1,.bx .Store [0,1,2]),(2,.ab (.mapu 54 .Set))]⟩),(.normal,⟨[(5,.tv .int)],[(1,.bx .Store [0,1,2]),(2,.ab (.mapu 54 .Set))]⟩)]⟩) (.node none (.node none .nil (.node none .nil (.node (some ⟨[5,7,8,9],[1,3,4,5],⟨[],[]⟩,[(.normal,⟨[(10,.tv .int)],[(1,.bx .Store [0,1,2])]⟩)]⟩) .nil (.node none .nil (.node none .nil (.node (some ⟨[7],[],⟨[],[]⟩,[(.normal,⟨[(5,.tv .int)],[]⟩)]⟩) (.node (some ⟨[5],[],⟨[],[]⟩,[(.normal,⟨[(69,.tv .bool)],[]⟩)]⟩) .nil .nil) .nil)))))) .nil) .nil))) .nil) .nil)) (.node none .nil (.node none .nil (.node none (.node none .nil (.node none (.node (some ⟨[3,4,5,84,85],[1,3,4,5],⟨[(86,.tv .int)],[(1,.bx .Store [0,1,2]),(3,.gone),(4,.gone),(5,.gone)]⟩,[(.ret,⟨[(2,.tv .bool)],[(1,.bx .Store [0,1,2])]⟩),(.exit 2,⟨[],[(1,.bx .Store [0,1,2])]⟩)]⟩) (.node none .nil (.node none .nil (.node none (.node none (.node none .nil (.node none .nil (.node (some ⟨[13,14,15,86],[],⟨[],[]⟩,[(.normal,⟨[(16,.bx .Set [5,11,12]),(17,.tv .int)],[]⟩)]⟩) .nil (.node (some ⟨[14,15,16,17,86],[1,9,10,11],⟨[],[]⟩,[(.normal,⟨[(18,.nr .Frac),(19,.tv .int)],[(1,.bx .Store [0,1,2])]⟩)]⟩) .nil (.node none .nil (.node none .nil (.node none .nil (.node (some ⟨[86],[],⟨[],[]⟩,[(.normal,⟨[(156,.tv .bool)],[]⟩)]⟩) .nil .nil)))))))) .nil) .nil))) .nil) .nil)) (.node none (.node none .nil (.node (some ⟨[],[9,10],⟨[],[]⟩,[]⟩) (.node (some ⟨[3,158],[1,11],⟨[(159,.tv .int)],[(1,.bx .Store [2]),(11,.gone)]⟩,[(.ret,⟨[(2,.tv .bool)],[(1,.bx .Store [2])]⟩),(.exit 4,⟨[],[(1,.bx .Store [2])]⟩)]⟩) .nil .nil) .nil)) (.node (some ⟨[],[1,12],⟨[],[]⟩,[(.normal,⟨[(2,.tv .bool)],[(1,.bx .Store [2])]⟩)]⟩) .nil .nil)))))))))))))
def fe_top_TopStored:Fe G:=⟨[.v .l_Set],[.bool],fun x=>F_top_TopStored x.1⟩
def tb_top_TopStored:List (FuncId × Fe G):=[(6,fe_top_soundAwake),(8,fe_batten_Valid),(11,fe_lineset_Check),(20,fe_slices_ContainsFunc_api_Set),(21,fe_top_TopStored_1),(24,fe_lineset_Same),(28,fe_liftline_Lines),(29,fe_slices_Equal_api_Frac),(30,fe_slices_Equal_api_Finding),(57,fe_batten_Lines),(74,fe_versions_own),(79,fe_lineset_Text),(80,fe_slices_Clone_api_Frac)]
theorem ev_top_TopStored (x:TyP G fe_top_TopStored.ps):evF G (inlK G [⟨22,0,[],[],bodyOf Tryz.f22,.nil,3,[.tmp 0]⟩,⟨23,8,[1,3,4,5],[],bodyOf Tryz.f23,(.node none .nil (.node none (.node (some ⟨[0,3,4],[],⟨[],[]⟩,[(.normal,⟨[(13,.tv .bool)],[]⟩)]⟩) .nil .nil) (.node none .nil (.node none (.node none (.node (some ⟨[0,3,4,5],[],⟨[],[]⟩,[(.normal,⟨[(18,.tv .bool)],[]⟩)]⟩) .nil (.node none .nil (.node (some ⟨[0,3,4,5],[],⟨[],[]⟩,[(.normal,⟨[(32,.tv .bool)],[]⟩)]⟩) .nil .nil))) .nil) (.node none .nil (.node (some ⟨[0,4],[13],⟨[],[]⟩,[(.normal,⟨[(6,.os 13)],[(13,.row .Set)]⟩)]⟩) .nil .nil)))))),63,[.tmp 4]⟩,⟨25,6,[],[],bodyOf Tryz.f25,(.node none .nil (.node none .nil (.node none .nil (.node none (.node none .nil (.node none (.node (some ⟨[2,11,12],[8],⟨[(3,.os 8),(13,.tv .int)],[(8,.row .str)]⟩,[(.exit 0,⟨[(3,.os 8)],[(8,.row .str)]⟩)]⟩) .nil .nil) .nil)) .nil)))),24,[.tmp 2]⟩,⟨25,13,[],[],bodyOf Tryz.f25,(.node none .nil (.node none .nil (.node none .nil (.node none (.node none .nil (.node none (.node (some ⟨[2,11,12],[15],⟨[(3,.os 15),(13,.tv .int)],[(15,.row .str)]⟩,[(.exit 0,⟨[(3,.os 15)],[(15,.row .str)]⟩)]⟩) .nil .nil) .nil)) .nil)))),24,[.tmp 2]⟩,⟨26,13,[],[],bodyOf Tryz.f26,(.node none .nil (.node none .nil .nil)),17,[.cell 4 26,.tmp 5]⟩,⟨27,17,[1,9,10,11],[9,10],bodyOf Tryz.f27,(.node none .nil (.node none .nil (.node none .nil (.node none .nil (.node none .nil (.node none .nil (.node (some ⟨[4,5,9],[1,9,10,11,25],⟨[],[]⟩,[(.normal,⟨[],[(1,.bx .Store [0,1,2]),(25,.bx .result [])]⟩)]⟩) (.node none .nil (.node none (.node none .nil (.node (some ⟨[0,8],[1,9,10,11],⟨[],[]⟩,[(.normal,⟨[],[(1,.bx .Store [0,1,2])]⟩)]⟩) .nil .nil)) .nil)) .nil))))))),73,[.tmp 4,.tmp 5]⟩,⟨31,13,[1,12],[],bodyOf Tryz.f31,.nil,39,[.tmp 2]⟩,⟨31,16,[1,12],[],bodyOf Tryz.f31,.nil,39,[.tmp 2]⟩,⟨71,12,[],[],bodyOf Tryz.f71,(.node none .nil (.node none (.node none .nil (.node none (.node (some ⟨[0,1,7],[],⟨[(8,.tv .int)],[]⟩,[(.ret,⟨[(4,.tv .int)],[]⟩),(.exit 0,⟨[],[]⟩)]⟩) .nil .nil) .nil)) .nil)),19,[.tmp 4]⟩,⟨71,19,[],[],bodyOf Tryz.f71,(.node none .nil (.node none (.node none .nil (.node none (.node (some ⟨[0,1,7],[],⟨[(8,.tv .int)],[]⟩,[(.ret,⟨[(4,.tv .int)],[]⟩),(.exit 0,⟨[],[]⟩)]⟩) .nil .nil) .nil)) .nil)),19,[.tmp 4]⟩,⟨71,23,[],[],bodyOf Tryz.f71,(.node none .nil (.node none (.node none .nil (.node none (.node (some ⟨[0,1,7],[],⟨[(8,.tv .int)],[]⟩,[(.ret,⟨[(4,.tv .int)],[]⟩),(.exit 0,⟨[],[]⟩)]⟩) .nil .nil) .nil)) .nil)),19,[.tmp 4]⟩,⟨72,10,[],[],bodyOf Tryz.f72,(.node none .nil (.node none .nil .nil)),11,[.tmp 4]⟩,⟨72,17,[],[],bodyOf Tryz.f72,(.node none .nil (.node none .nil .nil)),11,[.tmp 4]⟩,⟨72,21,[],[],bodyOf Tryz.f72,(.node none .nil (.node none .nil .nil)),11,[.tmp 4]⟩,⟨75,14,[1,3,4,5,13],[13],bodyOf Tryz.f75,.nil,21,[]⟩,⟨78,15,[],[],bodyOf Tryz.f78,(.node none .nil (.node none .nil (.node none .nil .nil))),23,[.cell 4 26,.tmp 5]⟩,⟨78,19,[],[],bodyOf Tryz.f78,(.node none .nil (.node none .nil (.node none .nil .nil))),23,[.cell 4 26,.tmp 5]⟩,⟨134,13,[],[],bodyOf Tryz.f134,.nil,8,[.tmp 3]⟩,⟨134,20,[],[],bodyOf Tryz.f134,.nil,8,[.tmp 3]⟩,⟨134,24,[],[],bodyOf Tryz.f134,.nil,8,[.tmp 3]⟩] (altK G (fun f=>f == 73) cloneS (lstK G tb_top_TopStored)) 5) (bodyOf Tryz.f4) an_top_TopStored 174 [.tmp 2] fe_top_TopStored.rs (argT G fe_top_TopStored.ps x) = fe_top_TopStored.fn x:=by kernel_rfl
theorem ok_top_TopStored:FnOk G 4 fe_top_TopStored:=fnOk_of G_ok (inlK_ok G_ok (icons Tryz.func22 (by kernel_rfl) (by kernel_rfl) (by kernel_rfl) (by kernel_rfl) (icons Tryz.func23 (by kernel_rfl) (by kernel_rfl) (by kernel_rfl) (by kernel_rfl) (icons Tryz.func25 (by kernel_rfl) (by kernel_rfl) (by kernel_rfl) (by kernel_rfl) (icons Tryz.func25 (by kernel_rfl) (by kernel_rfl) (by kernel_rfl) (by kernel_rfl) (icons Tryz.func26 (by kernel_rfl) (by kernel_rfl) (by kernel_rfl) (by kernel_rfl) (icons Tryz.func27 (by kernel_rfl) (by kernel_rfl) (by kernel_rfl) (by kernel_rfl) (icons Tryz.func31 (by kernel_rfl) (by kernel_rfl) (by kernel_rfl) (by kernel_rfl) (icons Tryz.func31 (by kernel_rfl) (by kernel_rfl) (by kernel_rfl) (by kernel_rfl) (icons Tryz.func71 (by kernel_rfl) (by kernel_rfl) (by kernel_rfl) (by kernel_rfl) (icons Tryz.func71 (by kernel_rfl) (by kernel_rfl) (by kernel_rfl) (by kernel_rfl) (icons Tryz.func71 (by kernel_rfl) (by kernel_rfl) (by kernel_rfl) (by kernel_rfl) (icons Tryz.func72 (by kernel_rfl) (by kernel_rfl) (by kernel_rfl) (by kernel_rfl) (icons Tryz.func72 (by kernel_rfl) (by kernel_rfl) (by kernel_rfl) (by kernel_rfl) (icons Tryz.func72 (by kernel_rfl) (by kernel_rfl) (by kernel_rfl) (by kernel_rfl) (icons Tryz.func75 (by kernel_rfl) (by kernel_rfl) (by kernel_rfl) (by kernel_rfl) (icons Tryz.func78 (by kernel_rfl) (by kernel_rfl) (by kernel_rfl) (by kernel_rfl) (icons Tryz.func78 (by kernel_rfl) (by kernel_rfl) (by kernel_rfl) (by kernel_rfl) (icons Tryz.func134 (by kernel_rfl) (by kernel_rfl) (by kernel_rfl) (by kernel_rfl) (icons Tryz.func134 (by kernel_rfl) (by kernel_rfl) (by kernel_rfl) (by kernel_rfl) (icons Tryz.func134 (by kernel_rfl) (by kernel_rfl) (by kernel_rfl) (by kernel_rfl) (inil))))))))))))))))))))) (altK_ok cloneS_ok (lstK_ok G_ok (lcons ok_top_soundAwake (lcons ok_batten_Valid (lcons ok_lineset_Check (lcons ok_slices_ContainsFunc_api_Set (lcons ok_top_TopStored_1 (lcons ok_lineset_Same (lcons ok_liftline_Lines (lcons ok_slices_Equal_api_Frac (lcons ok_slices_Equal_api_Finding (lcons ok_batten_Lines (lcons ok_versions_own (lcons ok_lineset_Text (lcons ok_slices_Clone_api_Frac (lnil)))))))))))))))) 5) Tryz.func4 (by kernel_rfl) (by kernel_rfl) (by kernel_rfl) (by kernel_rfl) (by kernel_rfl) ev_top_TopStored
end
end Go.Proofs.YtgbicnkpnhifgaaGreatDoor

namespace Go.Proofs.YtgbicnkpnhifgaaGreatDoor
theorem z_awake:F_top_soundAwake = some true:=by kernel_rfl
theorem z_itoa {n:Int} (h1:-9223372036854775808 ≤ n) (h2:n ≤ 9223372036854775807):F_strconv_Itoa n = some ⟨(Go.Lib.itoa n).toArray⟩:=by
 unfold F_strconv_Itoa F_internal_strconv_Itoa F_internal_strconv_FormatInt
 rw [if_pos ⟨⟨h1,h2⟩,rfl⟩]
 rfl
theorem size_mk (l:List UInt8):(⟨l.toArray⟩:ByteArray).size = l.length:=rfl
theorem z_itoa_size {n:Int} (h1:-9223372036854775808 ≤ n) (h2:n ≤ 9223372036854775807):(⟨(Go.Lib.itoa n).toArray⟩:ByteArray).size ≤ 21:=Go.Lib.itoa_length_le n h1 h2
theorem gs_loop {σ ρ:Type} {F:σ → Option (σ ⊕ ρ)} (Q:ρ → Prop) (I:Nat → σ → Prop) (n:Nat) (hn:n < big) {s:σ}
  (h:I 0 s) (step:∀ k s,k ≤ n → I k s → Gs (F s) fun y=>match y with | .inl s'=>k < n ∧ I (k + 1) s' | .inr r=>Q r):Gs (iterF F big s) Q :=
 iter_inv (F:=F) (Q:=Q) I n hn (fun k s hk hi=>by
  obtain ⟨y,h1,h2⟩:=step k s hk hi
  cases y with
  | inl s'=>exact .inl ⟨s',h1,h2.1,h2.2⟩
  | inr r=>exact .inr ⟨r,h1,h2⟩) h
theorem z_holds {s:TSet} (h:Sm s) (hv:validB s = true):∃ b,F_arbor_Holds s = some (b,0):=by
 suffices hs:Gs (F_arbor_Holds s) fun r=>r.2 = 0 by
  obtain ⟨⟨b,e⟩,h1,h2⟩:=hs
  cases h2
  exact ⟨b,h1⟩
 unfold F_arbor_Holds
 refine go (f_balance s h.fits) ?_
 rw [if_pos hv]
 exact gbt rfl (gs (gend rfl))
theorem z_slack {q:Rat}:∃ b,F_lineset_Check_2 (frQ q) = some b:=by
 unfold F_lineset_Check_2
 exact ⟨_,rfl⟩
theorem z_over {q:Rat} {s:TSet} (hq:fitQ q) (hm:s.most.natAbs ≤ 1152921504606846976):∃ b,F_lineset_Check_3 (frQ q) s = some b:=by
 suffices hs:Gs (F_lineset_Check_3 (frQ q) s) fun _=>True by
  obtain ⟨b,h1,_⟩:=hs
  exact ⟨b,h1⟩
 unfold F_lineset_Check_3
 have hc:=t_cmp hq (t_fitint hm)
 rw [fr_int] at hc
 exact go hc (gbt rfl (gs (gend trivial)))
theorem z_loop {R:List Rat} (hf:∀ q ∈ R,fitQ q) (hl:R.length ≤ 1000) {Fp:TFrac → Option Bool} (hp:∀ q,fitQ q → ∃ b,Fp (frQ q) = some b) (kd:Int) (o0:List TFinding) (ho0:o0.length ≤ 2000) :
  Gs (iterF (σ:=Int × (List TFinding) × Unit) (ρ:=(List TFinding) × Unit) (fun s33=>(bif (decide (s33.1 < (((R.map frQ).length:Nat):Int))) then ((idx (R.map frQ) s33.1).bind fun _x34=>((R.map frQ)[(Int.toNat s33.1)]?).bind fun x35=>(Fp x35).bind fun r36=>(bif r36 then (F_strconv_Itoa (IntKind.i64.wrap (s33.1 + 1))).bind fun r37=>(if (⟨#[108,105,110,101]⟩:ByteArray).size + r37.size ≤ 2147483648 then (if s33.2.1.length + ([(TFinding.mk kd ((⟨#[108,105,110,101]⟩:ByteArray) ++ r37))]:List TFinding).length ≤ 2147483648 then some ((s33.2.1 ++ ([(TFinding.mk kd ((⟨#[108,105,110,101]⟩:ByteArray) ++ r37))]:List TFinding)),()) else none) else none) else some (s33.2.1,())):Option ((List TFinding) × Unit)).bind fun y38=>some (.inl ((IntKind.i64.wrap (s33.1 + 1)),y38.1,())) else some (.inr (s33.2.1,())))) big (0,o0,()))
   fun r=>r.1.length ≤ o0.length + 1000:=by
 refine gs_loop _ (fun k y=>k ≤ R.length ∧ ∃ o:List TFinding,y = ((k:Int),o,()) ∧ o.length ≤ o0.length + k) R.length (by unfold big;omega) ⟨Nat.zero_le _,o0,rfl,Nat.le_refl _⟩ ?_
 rintro k y hk ⟨_,o,rfl,ho⟩
 rcases Nat.lt_or_ge k R.length with hlk | hge
 ·have g1:=fr_get (l:=R) hlk
  have hq:=fit_get hf hlk
  have w1:IntKind.i64.wrap ((k:Int) + 1) = ((k + 1:Nat):Int):=by rw [wrap64 (by omega) (by omega)];omega
  have hit:=z_itoa (n:=((k + 1:Nat):Int)) (by omega) (by omega)
  have hsz:=z_itoa_size (n:=((k + 1:Nat):Int)) (by omega) (by omega)
  rw [← w1] at hit hsz
  refine gt (decide_eq_true (by show (k:Int) < (((R.map frQ).length:Nat):Int);rw [List.length_map];omega)) ?_
  refine gcall (Q:=fun y38:List TFinding × Unit=>y38.1.length ≤ o0.length + (k + 1)) ?_ ?_
  ·obtain ⟨b,hb⟩:=hp _ hq
   refine go (idx_q g1) (go (at_w rfl g1) (go hb ?_))
   cases b with
   | true=>exact gt rfl (go hit (gif (by show 4 + _ ≤ 2147483648;omega) (gif (by simp;omega) (gend (by simp;omega)))))
   | false=>exact gf rfl (gend (by show o.length ≤ _;omega))
  ·rintro ⟨o',⟨⟩⟩ ho'
   refine gend ⟨hlk,hlk,o',?_,ho'⟩
   show (IntKind.i64.wrap ((k:Int) + 1),_,()) = _
   rw [w1]
 ·have:k = R.length:=by omega
  subst this
  exact gf (decide_eq_false (by show ¬ ((R.length:Nat):Int) < (((R.map frQ).length:Nat):Int);rw [List.length_map];omega)) (gend (by show o.length ≤ _;omega))
theorem z_check {s:TSet} (h:Sm s) (h15:s.lines.length ≤ 1000) (hm:s.most.natAbs ≤ 1152921504606846976) (hv:validB s = true) :
  ∃ r,F_lineset_Check s = some r ∧ r.1.length ≤ 1000000:=by
 suffices hs:Gs (F_lineset_Check s) fun r=>r.1.length ≤ 1000000 from hs
 have hlen:=lq_len (s:=s)
 rcases lines_cases s with ⟨h1,_⟩ | ⟨_,hf,hlt⟩ | ⟨_,hlt⟩
 ·rw [hv] at h1;cases h1
 ·unfold F_lineset_Check
  obtain ⟨b,hb⟩:=z_holds h hv
  refine go (t_lines h) ?_
  rw [hlt]
  refine gf rfl (go hb (gf rfl ?_))
  refine gcall (Q:=fun y3:List TFinding × Unit=>y3.1.length ≤ 1) ?_ ?_
  ·cases b with
   | true=>exact gf rfl (gend (Nat.zero_le _))
   | false=>exact gt rfl (gif (by simp) (gend (Nat.le_refl _)))
  ·rintro ⟨o0,⟨⟩⟩ ho
   have ho':o0.length ≤ 1:=ho
   refine gcall (z_loop (R:=reaL (setBeam s)) hf (by omega) (Fp:=fun x=>F_lineset_Check_2 x) (fun q _=>z_slack) 2 o0 (by omega)) ?_
   rintro ⟨o1,⟨⟩⟩ h2
   have h2':o1.length ≤ o0.length + 1000:=h2
   refine gcall (z_loop (R:=reaL (setBeam s)) hf (by omega) (Fp:=fun x=>F_lineset_Check_3 x s) (fun q hq=>z_over hq hm) 3 o1 (by omega)) ?_
   rintro ⟨o2,⟨⟩⟩ h4
   have h4':o2.length ≤ o1.length + 1000:=h4
   exact gend (by show o2.length ≤ _;omega)
 ·unfold F_lineset_Check
  refine go (t_lines h) ?_
  rw [hlt]
  exact gt rfl (gend (Nat.zero_le _))
end Go.Proofs.YtgbicnkpnhifgaaGreatDoor

namespace Go.Proofs.YtgbicnkpnhifgaaGreatDoor
def wT (v:Value):ByteArray:=match v with
 | .iface _ (.string s)=>s
 | .iface _ (.int _ n)=>⟨(Go.Lib.itoa n).toArray⟩
 | _=>ByteArray.empty
def Wrd (v:Value):Prop:=(∃ s:ByteArray,v = .iface 9 (.string s) ∧ s.size ≤ 60) ∨ ∃ n:Int,v = .iface 3 (.int .i64 n) ∧ -9223372036854775808 ≤ n ∧ n ≤ 9223372036854775807
theorem wS {s:ByteArray} (h:s.size ≤ 60):Wrd (.iface 9 (.string s)):=.inl ⟨s,rfl,h⟩
theorem wI {n:Int} (h1:-9223372036854775808 ≤ n) (h2:n ≤ 9223372036854775807):Wrd (.iface 3 (.int .i64 n)):=.inr ⟨n,rfl,h1,h2⟩
theorem wc {v:Value} {l:List Value} (h:Wrd v) (g:∀ x ∈ l,Wrd x):∀ x ∈ v :: l,Wrd x:=by
 intro x hx
 rcases List.mem_cons.1 hx with rfl | hx
 ·exact h
 ·exact g x hx
theorem wn:∀ x ∈ ([]:List Value),Wrd x:=by intro x hx;cases hx
theorem wT_size {v:Value} (h:Wrd v):(wT v).size ≤ 60:=by
 rcases h with ⟨s,rfl,h⟩ | ⟨n,rfl,h1,h2⟩
 ·exact h
 ·have:=z_itoa_size h1 h2
  show (⟨(Go.Lib.itoa n).toArray⟩:ByteArray).size ≤ 60
  omega
theorem joinTail_len (sep:List UInt8) (hs:sep.length ≤ 1):∀ (l:List (List UInt8)),(∀ x ∈ l,x.length ≤ 60) → (Go.Lib.joinTail sep l).length ≤ l.length * 61
 | [],_=>Nat.zero_le _
 | x :: l,h=>by
  have ih:=joinTail_len sep hs l (fun y hy=>h y (List.mem_cons_of_mem _ hy))
  have hx:=h x List.mem_cons_self
  have e:Go.Lib.joinTail sep (x :: l) = (sep ++ x) ++ Go.Lib.joinTail sep l:=by simp [Go.Lib.joinTail]
  rw [e,List.length_append,List.length_append,List.length_cons]
  omega
theorem join_len (sep:List UInt8) (hs:sep.length ≤ 1) (l:List (List UInt8)) (h:∀ x ∈ l,x.length ≤ 60):(Go.Lib.join l sep).length ≤ l.length * 61:=by
 cases l with
 | nil=>rw [Go.Lib.join_nil];exact Nat.zero_le _
 | cons x l =>
  have h1:=joinTail_len sep hs l (fun y hy=>h y (List.mem_cons_of_mem _ hy))
  have hx:=h x List.mem_cons_self
  rw [Go.Lib.join_cons,List.length_append,List.length_cons]
  omega
theorem z_line (ws:List Value) (hw:∀ v ∈ ws,Wrd v) (hl:ws.length ≤ 1000) :
  Gs (F_lineset_line ws) fun t=>t.data.toList = joinL (ws.map wT) ⟨#[32]⟩ ++ [10] ∧ t.size ≤ 62000:=by
 unfold F_lineset_line
 refine gloop (fun r:List ByteArray × Unit=>r.1 = ws.map wT) (fun k y=>k ≤ ws.length ∧ y = ((k:Int),(ws.take k).map wT,())) ws.length (by unfold big;omega) ⟨Nat.zero_le _,rfl⟩ ?_ ?_
 ·rintro k y hk ⟨_,rfl⟩
  rcases Nat.lt_or_ge k ws.length with hlt | hge
  ·have w1:IntKind.i64.wrap ((k:Int) + 1) = ((k + 1:Nat):Int):=by rw [wrap64 (by omega) (by omega)];omega
   have hlen:((ws.take k).map wT).length = k:=by rw [List.length_map,List.length_take];omega
   refine gt (decide_eq_true (by show (k:Int) < ((ws.length:Nat):Int);omega)) ?_
   refine gcall (Q:=fun y:List ByteArray × Unit=>y.1 = (ws.take (k + 1)).map wT) ?_ ?_
   ·refine go (idx_at hlt) ?_
    rcases hw _ (List.getElem_mem hlt) with ⟨s,e,hs⟩ | ⟨n,e,h1,h2⟩
    ·rw [List.take_succ_eq_append_getElem hlt,List.map_append,List.map_singleton,e]
     exact go rfl (gt rfl (go rfl (gif (by show ((ws.take k).map wT).length + 1 ≤ 2147483648;omega) (gend rfl))))
    ·rw [List.take_succ_eq_append_getElem hlt,List.map_append,List.map_singleton,e]
     exact go rfl (gf rfl (go rfl (gt rfl (go rfl (go (z_itoa h1 h2) (gif (by show ((ws.take k).map wT).length + 1 ≤ 2147483648;omega) (gend rfl)))))))
   ·rintro ⟨o,⟨⟩⟩ ho
    cases ho
    refine gend ⟨hlt,hlt,?_⟩
    show (IntKind.i64.wrap ((k:Int) + 1),_,()) = _
    rw [w1]
  ·have:k = ws.length:=by omega
   subst this
   refine gf (decide_eq_false (by show ¬ ((ws.length:Nat):Int) < ((ws.length:Nat):Int);omega)) (gend ?_)
   show (ws.take ws.length).map wT = _
   rw [List.take_length]
 ·rintro ⟨o,⟨⟩⟩ ho
  cases ho
  have hj:(joinL (ws.map wT) ⟨#[32]⟩).length ≤ 61000:=by
   unfold joinL
   have:=join_len [32] (Nat.le_refl _) ((ws.map wT).map (·.data.toList)) (by
    intro x hx
    obtain ⟨b,hb,rfl⟩:=List.mem_map.1 hx
    obtain ⟨v,hv,rfl⟩:=List.mem_map.1 hb
    exact wT_size (hw v hv))
   rw [List.length_map,List.length_map] at this
   refine Nat.le_trans this ?_
   omega
  have hlm:(ws.map wT).length ≤ 2147483648:=by rw [List.length_map];omega
  have hJ:F_strings_Join (ws.map wT) ⟨#[32]⟩ = some ⟨(joinL (ws.map wT) ⟨#[32]⟩).toArray⟩:=by
   unfold F_strings_Join
   rw [if_pos ⟨hlm,by omega⟩]
  refine go hJ (gif (by rw [size_mk];show _ + 1 ≤ 2147483648;omega) (gend ⟨?_,?_⟩))
  ·rw [ByteArray.data_append]
   simp
  ·rw [ByteArray.size_append,size_mk]
   show _ + 1 ≤ 62000
   omega
def Named (n t:ByteArray):Prop:=∃ r,t.data.toList = [115,101,116,32] ++ n.data.toList ++ 32 :: r
theorem Named.app {n t u:ByteArray} (h:Named n t):Named n (t ++ u):=by
 obtain ⟨r,h⟩:=h
 refine ⟨r ++ u.data.toList,?_⟩
 rw [ByteArray.data_append,Array.toList_append,h]
 simp
theorem name_blank {n:ByteArray} (h:nameB n = true):∀ c ∈ n.data.toList,c ≠ 32:=by
 unfold nameB at h
 intro c hc e
 subst e
 split at h
 ·rename_i hd
  rw [hd] at hc
  cases hc
 ·rename_i c0 l hd
  rw [hd] at hc
  simp only [Bool.and_eq_true,List.all_eq_true] at h
  exact absurd (h.2.2 _ hc) (by decide)
theorem blank_cut {a b r s:List UInt8} (ha:∀ c ∈ a,c ≠ 32) (hb:∀ c ∈ b,c ≠ 32) (h:a ++ 32 :: r = b ++ 32 :: s):a = b:=by
 induction a generalizing b with
 | nil =>
  cases b with
  | nil=>rfl
  | cons y b =>
   rw [List.nil_append,List.cons_append] at h
   injection h with h1 h2
   exact absurd h1.symm (hb y List.mem_cons_self)
 | cons x a ih =>
  cases b with
  | nil =>
   rw [List.nil_append,List.cons_append] at h
   injection h with h1 h2
   exact absurd h1 (ha x List.mem_cons_self)
  | cons y b =>
   rw [List.cons_append,List.cons_append] at h
   injection h with h1 h2
   rw [h1,ih (fun c hc=>ha c (List.mem_cons_of_mem _ hc)) (fun c hc=>hb c (List.mem_cons_of_mem _ hc)) h2]
theorem Named.inj {m n t:ByteArray} (hm:nameB m = true) (hn:nameB n = true) (h1:Named m t) (h2:Named n t):m = n:=by
 obtain ⟨r,h1⟩:=h1
 obtain ⟨s,h2⟩:=h2
 rw [h1,List.append_assoc,List.append_assoc] at h2
 have e:=blank_cut (name_blank hm) (name_blank hn) (List.append_cancel_left h2)
 exact ByteArray.ext (Array.toList_inj.1 e)
end Go.Proofs.YtgbicnkpnhifgaaGreatDoor

namespace Go.Proofs.YtgbicnkpnhifgaaGreatDoor
theorem line_named (n:ByteArray) (v w:Value) (l:List Value) {t:ByteArray} (h:t.data.toList = joinL ((Value.iface 9 (.string ⟨#[115,101,116]⟩) :: Value.iface 9 (.string n) :: v :: l).map wT) ⟨#[32]⟩ ++ [10]):Named n t:=by
 unfold joinL at h
 rw [List.map_cons,List.map_cons,List.map_cons,List.map_cons,List.map_cons,List.map_cons,Go.Lib.join_cons] at h
 refine ⟨(wT v).data.toList ++ Go.Lib.joinTail [32] ((l.map wT).map (·.data.toList)) ++ [10],?_⟩
 rw [h]
 simp [Go.Lib.joinTail,wT]
structure SmI (s:TSet):Prop where
 name:s.name.size ≤ 60
 items:∀ x ∈ s.items,x.name.size ≤ 60
 bricks:∀ x ∈ s.bricks,x.name.size ≤ 60
theorem smI_of {s:TSet} {m:Int} (h:smallB s m = true):SmI s:=by
 simp only [smallB,smallH,Bool.and_eq_true,decide_eq_true_eq,List.all_eq_true] at h
 exact ⟨h.1.1,h.2.1,h.2.2⟩
theorem z_text {s:TSet} (hf:Fits s) (hi:SmI s) (hv:validB s = true):Gs (F_lineset_Text s) fun r=>r.2 = 0 ∧ r.1.size ≤ 100000000 ∧ Named s.name r.1:=by
 have hg:=Good.of hv
 have hline:∀ (k:Nat) (hk:k < s.lines.length),-9223372036854775808 ≤ s.lines[k] ∧ s.lines[k] ≤ 9223372036854775807:=by
  intro k hk
  have:=hg.lat k hk
  unfold lineAt at this
  rw [List.getElem?_eq_getElem hk] at this
  simp only [betweenB,Bool.and_eq_true,decide_eq_true_eq] at this
  have:=hg.n1
  omega
 obtain ⟨_,d0,d1,l0,l1,h1,n0,n1,_,p0,p1,a0,a1,u0,u1,m0,m1,b0,b1,ln0,ln1,_,ni,gi,_,_,nb,gb,_,_⟩:=hg
 have hn:=hi.name
 unfold F_lineset_Text
 refine go (f_valid s hf) ?_
 rw [hv]
 refine gf rfl ?_
 refine gcall (z_line _ (wc (wS (by decide)) (wc (wS hn) (wc (wS (by decide)) (wc (wI (by omega) (by omega)) (wc (wS (by decide)) (wc (wI (by omega) (by omega)) (wc (wS (by decide)) (wc (wI (by omega) (by omega)) (wc (wS (by decide)) (wc (wI (by omega) (by omega)) (wc (wS (by decide)) (wc (wI (by omega) (by omega)) (wc (wS (by decide)) (wc (wI (by omega) (by omega)) (wc (wS (by decide)) (wc (wI (by omega) (by omega)) (wc (wS (by decide)) (wc (wI (by omega) (by omega)) (wc (wS (by decide)) (wc (wI (by omega) (by omega)) wn)))))))))))))))))))) (by show (20:Nat) ≤ 1000;decide)) ?_
 rintro r2 ⟨e2,s2⟩
 have nm2:Named s.name r2:=line_named s.name _ (.iface 3 (.int .i64 0)) _ e2
 refine gloop (fun r:List Value × Unit=>(∀ v ∈ r.1,Wrd v) ∧ r.1.length ≤ 1000) (fun k y=>k ≤ s.lines.length ∧ ∃ o:List Value,y = ((k:Int),o,()) ∧ (∀ v ∈ o,Wrd v) ∧ o.length ≤ k + 1) s.lines.length (by unfold big;omega) ⟨Nat.zero_le _,_,rfl,wc (wS (by decide)) wn,Nat.le_refl _⟩ ?_ ?_
 ·rintro k y hk ⟨_,o,rfl,ho,hol⟩
  rcases Nat.lt_or_ge k s.lines.length with hlt | hge
  ·have w1:IntKind.i64.wrap ((k:Int) + 1) = ((k + 1:Nat):Int):=by rw [wrap64 (by omega) (by omega)];omega
   refine gt (decide_eq_true (by show (k:Int) < ((s.lines.length:Nat):Int);omega)) (go (idx_at hlt) (gif (by show o.length + 1 ≤ 2147483648;omega) (gend ⟨hlt,hlt,o ++ [Value.iface 3 (.int .i64 s.lines[k])],?_,?_,?_⟩)))
   ·show (IntKind.i64.wrap ((k:Int) + 1),_,()) = _
    rw [w1]
   ·intro v hv
    rcases List.mem_append.1 hv with hv | hv
    ·exact ho v hv
    ·exact wc (wI (hline k hlt).1 (hline k hlt).2) wn v hv
   ·rw [List.length_append]
    show o.length + 1 ≤ _
    omega
  ·exact gf (decide_eq_false (by show ¬ (k:Int) < ((s.lines.length:Nat):Int);omega)) (gend ⟨ho,by show o.length ≤ 1000;omega⟩)
 rintro ⟨o,⟨⟩⟩ ⟨ho,hol⟩
 refine gcall (z_line o ho hol) ?_
 rintro r8 ⟨_,s8⟩
 refine gif (by omega) ?_
 refine gloop (fun r:ByteArray × Unit=>Named s.name r.1 ∧ r.1.size ≤ 10000000) (fun k y=>k ≤ s.items.length ∧ ∃ o:ByteArray,y = (o,(k:Int),()) ∧ Named s.name o ∧ o.size ≤ 124000 + k * 62000) s.items.length (by unfold big;omega) ⟨Nat.zero_le _,_,rfl,nm2.app,by rw [ByteArray.size_append];omega⟩ ?_ ?_
 ·rintro k y hk ⟨_,o,rfl,ho,hol⟩
  rcases Nat.lt_or_ge k s.items.length with hlt | hge
  ·have w1:IntKind.i64.wrap ((k:Int) + 1) = ((k + 1:Nat):Int):=by rw [wrap64 (by omega) (by omega)];omega
   have hx:=List.getElem_mem hlt
   have hxn:=hi.items _ hx
   obtain ⟨_,q0,q1,q2,q3,q4,q5,q6,q7,q8,q9,q10⟩:=gi _ hx
   refine gt (decide_eq_true (by show (k:Int) < ((s.items.length:Nat):Int);omega)) (go (idx_at hlt) ?_)
   refine gcall (z_line _ (wc (wS (by decide)) (wc (wS hxn) (wc (wS (by decide)) (wc (wI (by omega) (by omega)) (wc (wS (by decide)) (wc (wI (by omega) (by omega)) (wc (wS (by decide)) (wc (wI (by omega) (by omega)) (wc (wS (by decide)) (wc (wI (by omega) (by omega)) (wc (wS (by decide)) (wc (wI (by omega) (by omega)) (wc (wS (by decide)) (wc (wI (by omega) (by omega)) wn)))))))))))))) (by show (14:Nat) ≤ 1000;decide)) ?_
   rintro r13 ⟨_,s13⟩
   refine gif (by show o.size + r13.size ≤ 2147483648;omega) (gend ⟨hlt,hlt,o ++ r13,?_,ho.app,?_⟩)
   ·show (_,IntKind.i64.wrap ((k:Int) + 1),()) = _
    rw [w1]
   ·rw [ByteArray.size_append]
    omega
  ·exact gf (decide_eq_false (by show ¬ (k:Int) < ((s.items.length:Nat):Int);omega)) (gend ⟨ho,by show o.size ≤ _;omega⟩)
 rintro ⟨o1,⟨⟩⟩ ⟨ho1,hol1⟩
 refine gloop (fun r:ByteArray × Unit=>Named s.name r.1 ∧ r.1.size ≤ 100000000) (fun k y=>k ≤ s.bricks.length ∧ ∃ o:ByteArray,y = (o,(k:Int),()) ∧ Named s.name o ∧ o.size ≤ 10000000 + k * 62000) s.bricks.length (by unfold big;omega) ⟨Nat.zero_le _,_,rfl,ho1,by show o1.size ≤ _;omega⟩ ?_ ?_
 ·rintro k y hk ⟨_,o,rfl,ho,hol⟩
  rcases Nat.lt_or_ge k s.bricks.length with hlt | hge
  ·have w1:IntKind.i64.wrap ((k:Int) + 1) = ((k + 1:Nat):Int):=by rw [wrap64 (by omega) (by omega)];omega
   have hx:=List.getElem_mem hlt
   have hxn:=hi.bricks _ hx
   obtain ⟨_,q0,q1,q2,q3⟩:=gb _ hx
   refine gt (decide_eq_true (by show (k:Int) < ((s.bricks.length:Nat):Int);omega)) (go (idx_at hlt) ?_)
   refine gcall (z_line _ (wc (wS (by decide)) (wc (wS hxn) (wc (wS (by decide)) (wc (wI (by omega) (by omega)) (wc (wS (by decide)) (wc (wI (by omega) (by omega)) wn)))))) (by show (6:Nat) ≤ 1000;decide)) ?_
   rintro r19 ⟨_,s19⟩
   refine gif (by show o.size + r19.size ≤ 2147483648;omega) (gend ⟨hlt,hlt,o ++ r19,?_,ho.app,?_⟩)
   ·show (_,IntKind.i64.wrap ((k:Int) + 1),()) = _
    rw [w1]
   ·rw [ByteArray.size_append]
    omega
  ·exact gf (decide_eq_false (by show ¬ (k:Int) < ((s.bricks.length:Nat):Int);omega)) (gend ⟨ho,by show o.size ≤ _;omega⟩)
 rintro ⟨o2,⟨⟩⟩ ⟨ho2,hol2⟩
 exact gend ⟨rfl,hol2,ho2⟩
end Go.Proofs.YtgbicnkpnhifgaaGreatDoor

namespace Go.Proofs.YtgbicnkpnhifgaaGreatDoor
theorem nodup_one {α β:Type} (f:α → β):∀ {l:List α},(l.map f).Nodup → ∀ x ∈ l,∀ y ∈ l,f x = f y → x = y
 | [],_,x,hx,_,_,_=>by cases hx
 | a :: l,h,x,hx,y,hy,e=>by
  rw [List.map_cons,List.nodup_cons] at h
  rcases List.mem_cons.1 hx with h1 | h1
  ·rcases List.mem_cons.1 hy with h2 | h2
   ·rw [h1,h2]
   ·exact absurd (List.mem_map.2 ⟨y,h2,by rw [← e,h1]⟩) h.1
  ·rcases List.mem_cons.1 hy with h2 | h2
   ·exact absurd (List.mem_map.2 ⟨x,h1,by rw [e,h2]⟩) h.1
   ·exact nodup_one f h.2 x h1 y h2 e
structure St (l st:List TSet) (past:List (List TSet)) (m:List (ByteArray × TSet)) (e:Nat):Prop where
 good:∀ x ∈ st,x ∈ l ∧ validB x = true
 names:(st.map (·.name)).Nodup
 find:∀ x ∈ st,findM x.name m = some x
 miss:∀ n,(∀ x ∈ st,x.name ≠ n) → findM n m = none
 len:m.length = st.length
 plen:past.length = e
 head:∃ tl,past ++ [st] = [] :: tl
theorem St.init (l:List TSet):St l [] [] [] 0:=by
 refine ⟨?_,List.nodup_nil,?_,fun n _=>rfl,rfl,rfl,[],rfl⟩
 ·intro x hx;cases hx
 ·intro x hx;cases hx
theorem St.one {l st:List TSet} {past:List (List TSet)} {m:List (ByteArray × TSet)} {e:Nat} (h:St l st past m e) {x y:TSet} (hx:x ∈ st) (hy:y ∈ st) (hn:x.name = y.name):x = y :=
 nodup_one (·.name) h.names x hx y hy hn
theorem St.same {l st:List TSet} {past:List (List TSet)} {m:List (ByteArray × TSet)} {e:Nat} (h:St l st past m e) {x:TSet} (hx:x ∈ st):St l st past (setM x.name x m) e:=by
 refine ⟨h.good,h.names,fun y hy=>?_,fun n hn=>?_,?_,h.plen,h.head⟩
 ·by_cases he:y.name = x.name
  ·rw [h.one hy hx he]
   exact find_set_same _ _ _
  ·rw [find_set_other he]
   exact h.find y hy
 ·rw [find_set_other (fun e=>hn x hx e.symm)]
  exact h.miss n hn
 ·rw [length_set,h.find x hx]
  exact h.len
theorem St.next {l st st':List TSet} {past:List (List TSet)} {m:List (ByteArray × TSet)} {e:Nat} (h:St l st past m e):∃ tl,(past ++ [st]) ++ [st'] = [] :: tl:=by
 obtain ⟨tl,h⟩:=h.head
 exact ⟨tl ++ [st'],by rw [h];rfl⟩
theorem St.new {l st:List TSet} {past:List (List TSet)} {m:List (ByteArray × TSet)} {e:Nat} (h:St l st past m e) {x:TSet} (hl:x ∈ l) (hv:validB x = true) (hx:∀ y ∈ st,y.name ≠ x.name) :
  St l (st ++ [x]) (past ++ [st]) (setM x.name x m) (e + 1):=by
 refine ⟨fun y hy=>?_,?_,fun y hy=>?_,fun n hn=>?_,?_,?_,h.next⟩
 ·rcases List.mem_append.1 hy with hy | hy
  ·exact h.good y hy
  ·obtain rfl:=List.mem_singleton.1 hy
   exact ⟨hl,hv⟩
 ·rw [List.map_append,List.nodup_append]
  refine ⟨h.names,by simp,?_⟩
  intro a ha b hb hab
  obtain ⟨y,hy,hya⟩:=List.mem_map.1 ha
  have hbx:b = x.name:=List.mem_singleton.1 hb
  exact hx y hy (hya.trans (hab.trans hbx))
 ·rcases List.mem_append.1 hy with hy | hy
  ·rw [find_set_other (hx y hy)]
   exact h.find y hy
  ·obtain rfl:=List.mem_singleton.1 hy
   exact find_set_same _ _ _
 ·rw [find_set_other (fun e=>hn x (by simp) e.symm)]
  exact h.miss n (fun y hy=>hn y (List.mem_append_left _ hy))
 ·rw [length_set,h.miss _ hx,List.length_append,h.len]
  rfl
 ·rw [List.length_append,h.plen]
  rfl
theorem St.over {l st:List TSet} {past:List (List TSet)} {m:List (ByteArray × TSet)} {e:Nat} (h:St l st past m e) {x:TSet} (hl:x ∈ l) (hv:validB x = true) {k:Nat} (hk:k < st.length) (hn:st[k].name = x.name) :
  St l (st.set k x) (past ++ [st]) (setM x.name x m) (e + 1):=by
 have hmap:(st.set k x).map (·.name) = st.map (·.name):=by
  rw [List.map_set,← hn]
  refine List.ext_getElem (by simp) fun i h1 h2=>?_
  rw [List.getElem_set]
  split
  ·rename_i e
   subst e
   rw [List.getElem_map]
  ·rfl
 have hin:x ∈ st.set k x:=List.mem_set hk x
 refine ⟨fun y hy=>?_,?_,fun y hy=>?_,fun n hm=>?_,?_,?_,h.next⟩
 ·rcases List.mem_or_eq_of_mem_set hy with hy | rfl
  ·exact h.good y hy
  ·exact ⟨hl,hv⟩
 ·rw [hmap]
  exact h.names
 ·by_cases he:y.name = x.name
  ·rw [nodup_one (·.name) (by rw [hmap];exact h.names) y hy x hin he]
   exact find_set_same _ _ _
  ·rw [find_set_other he]
   rcases List.mem_or_eq_of_mem_set hy with hy | rfl
   ·exact h.find y hy
   ·exact absurd rfl he
 ·rw [find_set_other (fun e=>hm x hin e.symm)]
  refine h.miss n (fun y hy e=>?_)
  have:y.name ∈ (st.set k x).map (·.name):=by rw [hmap];exact List.mem_map.2 ⟨y,hy,rfl⟩
  obtain ⟨z,hz,e2⟩:=List.mem_map.1 this
  exact hm z hz (e2.trans e)
 ·rw [length_set,← hn,h.find _ (List.getElem_mem hk),List.length_set]
  exact h.len
 ·rw [List.length_append,h.plen]
  rfl
def Kn (st:List TSet) (i:Nat) (kn:List (ByteArray × Tresult)):Prop:=kn.length ≤ i ∧ ∀ t,(findM t kn).isSome = true → ∃ x ∈ st.take i,Named x.name t
theorem Kn.init (st:List TSet):Kn st 0 []:=⟨Nat.le_refl _,fun t h=>by cases h⟩
theorem Kn.miss {l st:List TSet} {past:List (List TSet)} {m:List (ByteArray × TSet)} {e:Nat} (h:St l st past m e) {i:Nat} {kn:List (ByteArray × Tresult)} (hk:Kn st i kn) (hi:i < st.length) {t:ByteArray} (ht:Named st[i].name t):findM t kn = none:=by
 cases hf:findM t kn with
 | none=>rfl
 | some v =>
  obtain ⟨x,hx,hn⟩:=hk.2 t (by rw [hf];rfl)
  have hx1:=List.mem_of_mem_take hx
  have e1:=Named.inj (Good.of (h.good x hx1).2).name (Good.of (h.good _ (List.getElem_mem hi)).2).name hn ht
  have hd:=h.names
  rw [← List.take_append_drop i st,List.map_append,List.nodup_append] at hd
  refine absurd e1 (hd.2.2 x.name (List.mem_map.2 ⟨x,hx,rfl⟩) _ (List.mem_map.2 ⟨st[i],?_,rfl⟩))
  rw [List.drop_eq_getElem_cons hi]
  exact List.mem_cons_self
theorem Kn.put {st:List TSet} {i:Nat} {kn:List (ByteArray × Tresult)} (hk:Kn st i kn) (hi:i < st.length) {t:ByteArray} (ht:Named st[i].name t) (r:Tresult) (hm:findM t kn = none):Kn st (i + 1) (setM t r kn):=by
 refine ⟨?_,fun u hu=>?_⟩
 ·rw [length_set,hm]
  have:=hk.1
  show kn.length + 1 ≤ _
  omega
 ·by_cases he:u = t
  ·subst he
   refine ⟨st[i],?_,ht⟩
   rw [List.take_succ_eq_append_getElem hi]
   exact List.mem_append_right _ (List.mem_singleton.2 rfl)
  ·rw [find_set_other he] at hu
   obtain ⟨x,hx,hn⟩:=hk.2 u hu
   rw [List.take_succ_eq_append_getElem hi]
   exact ⟨x,List.mem_append_left _ hx,hn⟩
end Go.Proofs.YtgbicnkpnhifgaaGreatDoor

namespace Go.Proofs.YtgbicnkpnhifgaaGreatDoor
theorem z_put (st:List TSet) (past:List (List TSet)) (kn:Bool × List (ByteArray × Tresult)) (wk:Int) (x:TSet) (hf:Fits x) (hx:Few x) (hs:st.length ≤ 50) (hp:past.length ≤ 1000) (hall:∀ y ∈ st,Few y) :
  Gs (((F_batten_Valid x).bind fun r774=>some ((!r774),()):Option (Bool × Unit)).bind fun y775=>(bif y775.1 then some (1,(TStore.mk st past kn wk),()) else (iterF (σ:=Int × Unit) (ρ:=(Int × Unit) ⊕ (Unit)) (fun s776=>(bif (decide (s776.1 < ((st.length:Nat):Int))) then (idx st s776.1).bind fun _x777=>(st[(Int.toNat s776.1)]?).bind fun x778=>(bif (x778.name.toList == x.name.toList) then some (.inr (.inl (s776.1,()))) else some (.inl ((IntKind.i64.wrap (s776.1 + 1)),()))) else some (.inr (.inr ((())))))) big (0,())).bind fun y779=>(match y779 with | .inl y780=>((bif (decide (y780.1 ≥ 0)) then (idx st y780.1).bind fun _x782=>(st[(Int.toNat y780.1)]?).bind fun x783=>(F_lineset_Same x783 x).bind fun r784=>some (r784,()) else some (false,())):Option (Bool × Unit)).bind fun y785=>(bif y785.1 then some (0,(TStore.mk st past kn wk),()) else ((bif (decide (y780.1 < 0)) then some ((decide (((st.length:Nat):Int) ≥ 60)),()) else some (false,())):Option (Bool × Unit)).bind fun y786=>(bif y786.1 then some (4,(TStore.mk st past kn wk),()) else (if st.length ≤ 2147483648 then ((bif (decide (y780.1 < 0)) then (F_versions_own x).bind fun r787=>(if st.length + ([r787]:List TSet).length ≤ 2147483648 then some ((st ++ ([r787]:List TSet)),()) else none) else (F_versions_own x).bind fun r788=>(idx st y780.1).bind fun _x789=>(st[(Int.toNat y780.1)]?).bind fun x790=>some ((st.set (Int.toNat y780.1) r788),())):Option (List TSet × Unit)).bind fun y791=>(if past.length + ([st]:List (List TSet)).length ≤ 2147483648 then some (0,(TStore.mk y791.1 (past ++ ([st]:List (List TSet))) kn wk),()) else none) else none))) | .inr y781=>(some (false,()):Option (Bool × Unit)).bind fun y792=>(bif y792.1 then some (0,(TStore.mk st past kn wk),()) else (some ((decide (((st.length:Nat):Int) ≥ 60)),()):Option (Bool × Unit)).bind fun y793=>(bif y793.1 then some (4,(TStore.mk st past kn wk),()) else (if st.length ≤ 2147483648 then ((F_versions_own x).bind fun r794=>(if st.length + ([r794]:List TSet).length ≤ 2147483648 then some ((st ++ ([r794]:List TSet)),()) else none):Option (List TSet × Unit)).bind fun y795=>(if past.length + ([st]:List (List TSet)).length ≤ 2147483648 then some (0,(TStore.mk y795.1 (past ++ ([st]:List (List TSet))) kn wk),()) else none) else none))))):Option (Int × TStore × Unit)) fun y =>
   (validB x = false ∧ y = (1,(TStore.mk st past kn wk),())) ∨ (validB x = true ∧ ((x ∈ st ∧ y = (0,(TStore.mk st past kn wk),())) ∨
    (∃ k,∃ hk:k < st.length,st[k].name = x.name ∧ st[k] ≠ x ∧ y = (0,(TStore.mk (st.set k x) (past ++ [st]) kn wk),())) ∨
    ((∀ y ∈ st,y.name ≠ x.name) ∧ y = (0,(TStore.mk (st ++ [x]) (past ++ [st]) kn wk),())))):=by
 refine goo (f_valid x hf) ?_
 cases hv:validB x with
 | false=>exact gs (gt rfl (gend (.inl ⟨rfl,rfl⟩)))
 | true =>
  refine gs (gf rfl ?_)
  refine gcall (z_find st x.name (by omega)) ?_
  rintro _ (⟨k,hk,rfl,hn⟩ | ⟨rfl,hn⟩)
  ·obtain ⟨v,hsame,hiff⟩:=z_same_iff (a:=st[k]) (b:=x) (hall _ (List.getElem_mem hk))
   refine gbt (decide_eq_true (by show (k:Int) ≥ 0;omega)) ?_
   refine goo (idx_at hk) (goo (at_w rfl (List.getElem?_eq_getElem hk)) (goo hsame (gs ?_)))
   cases v with
   | true =>
    have e:=hiff.1 rfl
    exact gt rfl (gend (.inr ⟨rfl,.inl ⟨e ▸ List.getElem_mem hk,rfl⟩⟩))
   | false =>
    have hne:st[k] ≠ x:=fun e=>by
     have:=hiff.2 e
     cases this
    refine gf rfl ?_
    refine gbf (decide_eq_false (by show ¬ (k:Int) < 0;omega)) (gs (gf rfl (gif (by omega) ?_)))
    refine gbf (decide_eq_false (by show ¬ (k:Int) < 0;omega)) ?_
    refine goo (z_own x hx) (goo (idx_at hk) (goo (at_w rfl (List.getElem?_eq_getElem hk)) (gs (gif (by show past.length + 1 ≤ 2147483648;omega) (gend (.inr ⟨rfl,.inr (.inl ⟨k,hk,hn,hne,rfl⟩)⟩))))))
  ·refine gs (gf rfl (gs (gf (decide_eq_false (by show ¬ ((st.length:Nat):Int) ≥ 60;omega)) (gif (by omega) ?_))))
   refine goo (z_own x hx) (gbif (by show st.length + 1 ≤ 2147483648;omega) (gs (gif (by show past.length + 1 ≤ 2147483648;omega) (gend (.inr ⟨rfl,.inr (.inr ⟨hn,rfl⟩)⟩)))))
theorem z_names (st:List TSet) (hs:st.length ≤ 1000000):Gs (iterF (σ:=Int × List ByteArray × Unit) (ρ:=List ByteArray × Unit) (fun s811=>(bif (decide (s811.1 < ((st.length:Nat):Int))) then (idx st s811.1).bind fun _x812=>(st[(Int.toNat s811.1)]?).bind fun x813=>(if s811.2.1.length + ([x813.name]:List ByteArray).length ≤ 2147483648 then some (.inl ((IntKind.i64.wrap (s811.1 + 1)),(s811.2.1 ++ ([x813.name]:List ByteArray)),())) else none) else some (.inr (s811.2.1,())))) big (0,([]:List ByteArray),())) fun r=>r = (st.map (·.name),()):=by
 refine gs_loop _ (fun k y=>k ≤ st.length ∧ y = ((k:Int),(st.take k).map (·.name),())) st.length (by unfold big;omega) ⟨Nat.zero_le _,rfl⟩ ?_
 rintro k y hk ⟨_,rfl⟩
 rcases Nat.lt_or_ge k st.length with hlt | hge
 ·have w1:IntKind.i64.wrap ((k:Int) + 1) = ((k + 1:Nat):Int):=by rw [wrap64 (by omega) (by omega)];omega
  have hlen:((st.take k).map (·.name)).length = k:=by rw [List.length_map,List.length_take];omega
  refine gt (decide_eq_true (by show (k:Int) < ((st.length:Nat):Int);omega)) (go (idx_at hlt) (go (at_w rfl (List.getElem?_eq_getElem hlt)) (gif (by show ((st.take k).map (·.name)).length + 1 ≤ 2147483648;omega) (gend ⟨hlt,hlt,?_⟩))))
  show (IntKind.i64.wrap ((k:Int) + 1),_,()) = _
  rw [w1,List.take_succ_eq_append_getElem hlt,List.map_append]
  rfl
 ·have:k = st.length:=by omega
  subst this
  refine gf (decide_eq_false (by show ¬ ((st.length:Nat):Int) < ((st.length:Nat):Int);omega)) (gend ?_)
  show ((st.take st.length).map _,()) = _
  rw [List.take_length]
theorem z_undo {l st:List TSet} {past:List (List TSet)} {m:List (ByteArray × TSet)} {e:Nat} (h:St l st past m e) (he:e ≤ 1000000) (kn:Bool × List (ByteArray × Tresult)) (wk:Int) :
  Gs (iterF (σ:=Int × TStore × Unit) (ρ:=(Bool × TStore × Unit) ⊕ (TStore × Unit)) (fun s995=>(bif (decide (s995.1 < (e:Int))) then (bif (((s995.2.1.past.length:Nat):Int) == 0) then some (.inr (.inl (false,s995.2.1,()))) else (idx s995.2.1.past (IntKind.i64.wrap (((s995.2.1.past.length:Nat):Int) - 1))).bind fun x996=>(if 0 ≤ (0:Int) ∧ (0:Int) ≤ (IntKind.i64.wrap (((s995.2.1.past.length:Nat):Int) - 1)) ∧ (IntKind.i64.wrap (((s995.2.1.past.length:Nat):Int) - 1)) ≤ ((s995.2.1.past.length:Nat):Int) then some (.inl ((IntKind.i64.wrap (s995.1 + 1)),(TStore.mk x996 ((s995.2.1.past.take (Int.toNat (IntKind.i64.wrap (((s995.2.1.past.length:Nat):Int) - 1)))).drop (Int.toNat (0:Int))) s995.2.1.known s995.2.1.work),())) else none)) else some (.inr (.inr ((s995.2.1,())))))) big (0,(TStore.mk st past kn wk),())) fun r=>r = .inr ((TStore.mk [] [] kn wk),()):=by
 obtain ⟨tl,hh⟩:=h.head
 have hpl:=h.plen
 refine gs_loop _ (fun k y=>k ≤ e ∧ ∃ (s':List TSet) (p':List (List TSet)),y = ((k:Int),(TStore.mk s' p' kn wk),()) ∧ p' ++ [s'] = (past ++ [st]).take (e - k + 1)) e (by unfold big;omega) ⟨Nat.zero_le _,st,past,rfl,by rw [List.take_of_length_le];rw [List.length_append,hpl];simp⟩ ?_
 rintro k y hk ⟨_,s',p',rfl,hp⟩
 have hpn:p'.length = e - k:=by
  have:=congrArg List.length hp
  rw [List.length_append,List.length_take,List.length_append,hpl] at this
  simp at this
  omega
 rcases Nat.lt_or_ge k e with hlt | hge
 ·have w1:IntKind.i64.wrap ((k:Int) + 1) = ((k + 1:Nat):Int):=by rw [wrap64 (by omega) (by omega)];omega
  have w2:IntKind.i64.wrap (((p'.length:Nat):Int) - 1) = ((p'.length - 1:Nat):Int):=by rw [wrap64 (by omega) (by omega)];omega
  have hl:p'.length - 1 < p'.length:=by omega
  refine gt (decide_eq_true (by show (k:Int) < (e:Int);omega)) (gf (by show (((p'.length:Nat):Int) == 0) = false;rw [beq_eq_false_iff_ne];omega) ?_)
  refine go (show idx p' (IntKind.i64.wrap (((p'.length:Nat):Int) - 1)) = some (p'[p'.length - 1]) by rw [w2];exact idx_at hl) ?_
  refine gif ⟨by omega,by show (0:Int) ≤ IntKind.i64.wrap (((p'.length:Nat):Int) - 1);rw [w2];omega,by show IntKind.i64.wrap (((p'.length:Nat):Int) - 1) ≤ ((p'.length:Nat):Int);rw [w2];omega⟩ (gend ⟨hlt,hlt,p'[p'.length - 1],p'.take (p'.length - 1),?_,?_⟩)
  ·show (IntKind.i64.wrap ((k:Int) + 1),(TStore.mk _ ((p'.take (Int.toNat (IntKind.i64.wrap (((p'.length:Nat):Int) - 1)))).drop 0) _ _),()) = _
   rw [w1,w2]
   rfl
  ·have e1:p'.take (p'.length - 1) ++ [p'[p'.length - 1]] = p':=by
    rw [← List.take_succ_eq_append_getElem hl]
    exact List.take_of_length_le (by omega)
   have e2:=congrArg (List.take p'.length) hp
   rw [List.take_left,List.take_take] at e2
   rw [e1,e2]
   congr 1
   omega
 ·have:k = e:=by omega
  subst this
  refine gf (decide_eq_false (by show ¬ (k:Int) < (k:Int);omega)) (gend ?_)
  have hp0:p' = []:=List.length_eq_zero_iff.1 (by omega)
  subst hp0
  rw [hh] at hp
  have:k - k + 1 = 1:=by omega
  rw [this] at hp
  have hs0:s' = []:=by simpa using hp
  subst hs0
  rfl
end Go.Proofs.YtgbicnkpnhifgaaGreatDoor

namespace Go.Proofs.YtgbicnkpnhifgaaGreatDoor
theorem z_frac (a:List TFrac) (h:a.length ≤ 1000000):F_slices_Clone_api_Frac a = some a:=by
 unfold F_slices_Clone_api_Frac
 rw [if_pos (by show 0 + a.length ≤ 2147483648;omega)]
 rfl
theorem z_lines_len {s:TSet} (h:s.lines.length ≤ 1000000):(linesT s).1.length ≤ 1000000:=by
 rcases lines_cases s with ⟨_,h1⟩ | ⟨_,_,h1⟩ | ⟨_,h1⟩
 ·rw [h1];exact Nat.zero_le _
 ·rw [h1]
  show ((reaL (setBeam s)).map frQ).length ≤ _
  rw [List.length_map,lq_len]
  exact h
 ·rw [h1];exact Nat.zero_le _
theorem z_ask {l st:List TSet} {past:List (List TSet)} {m:List (ByteArray × TSet)} {e:Nat} (h:St l st past m e) (hs:∀ x ∈ l,smallB x 6 = true) (hl:st.length ≤ 50) :
  Gs (iterF (σ:=Int × TStore × Unit) (ρ:=(Bool × TStore × Unit) ⊕ (TStore × Unit)) (fun s938=>(bif (decide (s938.1 < (((st.map (·.name)).length:Nat):Int))) then (idx (st.map (·.name)) s938.1).bind fun _x939=>((st.map (·.name))[(Int.toNat s938.1)]?).bind fun x940=>(if x940.size ≤ 2147483648 then ((iterF (σ:=Int × Unit) (ρ:=(Int × Unit) ⊕ (Unit)) (fun s941=>(bif (decide (s941.1 < ((s938.2.1.sets.length:Nat):Int))) then (idx s938.2.1.sets s941.1).bind fun _x942=>(s938.2.1.sets[(Int.toNat s941.1)]?).bind fun x943=>(bif (x943.name.toList == x940.toList) then some (.inr (.inl (s941.1,()))) else some (.inl ((IntKind.i64.wrap (s941.1 + 1)),()))) else some (.inr (.inr ((())))))) big (0,())).bind fun y944=>(match y944 with | .inl y945=>(bif (decide (y945.1 < 0)) then (F_versions_own (TSet.mk (⟨#[]⟩:ByteArray) 0 0 0 0 ([]:List Int) 0 0 0 0 0 ([]:List TItem) ([]:List TBrick))).bind fun r947=>some (r947,9,()) else (idx s938.2.1.sets y945.1).bind fun _x948=>(s938.2.1.sets[(Int.toNat y945.1)]?).bind fun x949=>(F_versions_own x949).bind fun r950=>some (r950,0,())) | .inr y946=>(F_versions_own (TSet.mk (⟨#[]⟩:ByteArray) 0 0 0 0 ([]:List Int) 0 0 0 0 0 ([]:List TItem) ([]:List TBrick))).bind fun r951=>some (r951,9,())):Option (TSet × Int × Unit)).bind fun y952=>((iterF (σ:=Int × Unit) (ρ:=(Int × Unit) ⊕ (Unit)) (fun s953=>(bif (decide (s953.1 < ((s938.2.1.sets.length:Nat):Int))) then (idx s938.2.1.sets s953.1).bind fun _x954=>(s938.2.1.sets[(Int.toNat s953.1)]?).bind fun x955=>(bif (x955.name.toList == x940.toList) then some (.inr (.inl (s953.1,()))) else some (.inl ((IntKind.i64.wrap (s953.1 + 1)),()))) else some (.inr (.inr ((())))))) big (0,())).bind fun y956=>(match y956 with | .inl y957=>(bif (decide (y957.1 < 0)) then some (([]:List TFrac),9,s938.2.1,()) else (idx s938.2.1.sets y957.1).bind fun _x959=>(s938.2.1.sets[(Int.toNat y957.1)]?).bind fun x960=>(F_lineset_Text x960).bind fun r961=>(bif (r961.2 != 0) then some (([]:List TFrac),r961.2,s938.2.1,()) else (if r961.1.size ≤ 2147483648 then ((bif (!(findM r961.1 s938.2.1.known.2).isSome) then (F_batten_Lines x960).bind fun r962=>((bif (!s938.2.1.known.1) then some ((TStore.mk s938.2.1.sets s938.2.1.past (true,([]:List (ByteArray × Tresult))) s938.2.1.work),()) else some (s938.2.1,())):Option (TStore × Unit)).bind fun y963=>(if y963.1.known.1 = true ∧ r961.1.size ≤ 2147483648 ∧ y963.1.known.2.length ≤ 2147483648 then some ((TStore.mk y963.1.sets y963.1.past (true,(setM r961.1 (Tresult.mk r962.1 r962.2) y963.1.known.2)) (IntKind.i64.wrap (y963.1.work + 1))),(Tresult.mk r962.1 r962.2),()) else none) else some (s938.2.1,(((findM r961.1 s938.2.1.known.2).getD (⟨[],0⟩:Tresult))),())):Option (TStore × Tresult × Unit)).bind fun y964=>(F_slices_Clone_api_Frac y964.2.1.loads).bind fun r965=>some (r965,y964.2.1.e,y964.1,()) else none))) | .inr y958=>some (([]:List TFrac),9,s938.2.1,())):Option (List TFrac × Int × TStore × Unit)).bind fun y966=>(F_liftline_Lines (((findM x940 m).getD (⟨ByteArray.empty,0,0,0,0,[],0,0,0,0,0,[],[]⟩:TSet)))).bind fun r967=>(F_lineset_Check y952.1).bind fun r968=>(F_lineset_Check (((findM x940 m).getD (⟨ByteArray.empty,0,0,0,0,[],0,0,0,0,0,[],[]⟩:TSet)))).bind fun r969=>((bif (!(findM x940 m).isSome) then some (true,()) else (bif (y952.2.1 != 0) then some (true,()) else (F_lineset_Same (((findM x940 m).getD (⟨ByteArray.empty,0,0,0,0,[],0,0,0,0,0,[],[]⟩:TSet))) y952.1).bind fun r970=>(bif (!r970) then some (true,()) else (bif (y966.2.1 != r967.2) then some (true,()) else (F_slices_Equal_api_Frac y966.1 r967.1).bind fun r971=>(bif (!r971) then some (true,()) else (bif (r968.2 != r969.2) then some (true,()) else (F_slices_Equal_api_Finding r968.1 r969.1).bind fun r972=>some ((!r972),()))))))):Option (Bool × Unit)).bind fun y973=>(bif y973.1 then some (.inr (.inl (false,y966.2.2.1,()))) else some (.inl ((IntKind.i64.wrap (s938.1 + 1)),y966.2.2.1,()))) else none) else some (.inr (.inr ((s938.2.1,())))))) big (0,(TStore.mk st past (false,[]) 0),())) fun r=>∃ kn wk,r = .inr ((TStore.mk st past kn wk),()):=by
 refine gs_loop _ (fun k y=>k ≤ st.length ∧ ∃ fl kn wk,y = ((k:Int),(TStore.mk st past (fl,kn) wk),()) ∧ Kn st k kn) st.length (by unfold big;omega) ⟨Nat.zero_le _,false,[],0,rfl,Kn.init st⟩ ?_
 rintro k y hk ⟨_,fl,kn,wk,rfl,hkn⟩
 rcases Nat.lt_or_ge k st.length with hlt | hge
 ·have w1:IntKind.i64.wrap ((k:Int) + 1) = ((k + 1:Nat):Int):=by rw [wrap64 (by omega) (by omega)];omega
  have hlm:k < (st.map (·.name)).length:=by rw [List.length_map];exact hlt
  have hget:(st.map (·.name))[k]? = some st[k].name:=by rw [List.getElem?_map,List.getElem?_eq_getElem hlt];rfl
  obtain ⟨x,hxe⟩:∃ x,x = st[k]:=⟨_,rfl⟩
  have hin:x ∈ st:=hxe ▸ List.getElem_mem hlt
  obtain ⟨hinl,hv⟩:=h.good x hin
  have hsm:=hs x hinl
  have hS:=sm_of hsm
  have hF:=hS.fits
  have hW:=few_of hsm
  have hI:=smI_of hsm
  have hg:=Good.of hv
  have hfind:=h.find x hin
  have hown:=z_own x hW
  have hll:=z_lines_len hW.lines
  obtain ⟨rc,hrc,hrl⟩:=z_check hS (by have:=hg.ln1;omega) (by have:=hg.m0;have:=hg.m1;omega) hv
  obtain ⟨v1,hsame,hsi⟩:=z_same_iff (a:=x) (b:=x) hW
  have hv1:v1 = true:=hsi.2 rfl
  subst hv1
  obtain ⟨v2,heqf,hei⟩:=z_eqFind rc.1 rc.1 hrl
  have hv2:v2 = true:=hei.2 rfl
  subst hv2
  have hnb:x.name.size ≤ 2147483648:=by have:=hI.name;omega
  have hat:∀ (j:Nat) (hj:j < st.length),st[j].name = x.name → st[j] = x:=fun j hj e=>h.one (List.getElem_mem hj) hin e
  rw [← hxe] at hget
  refine gt (decide_eq_true (by show (k:Int) < (((st.map (·.name)).length:Nat):Int);omega)) (go (idx_q hget) (go (at_w rfl hget) (gif hnb ?_)))
  refine gcall (Q:=fun y:TSet × Int × Unit=>y = (x,0,())) ?_ ?_
  ·refine gcall (z_find st x.name (by omega)) ?_
   rintro _ (⟨j,hj,rfl,hn⟩ | ⟨rfl,hn⟩)
   ·refine gf (decide_eq_false (by show ¬ (j:Int) < 0;omega)) (go (idx_at hj) (go (at_w rfl (List.getElem?_eq_getElem hj)) ?_))
    rw [hat j hj hn]
    exact go hown (gend rfl)
   ·exact absurd rfl (hn x hin)
  rintro _ rfl
  refine gcall (Q:=fun y:List TFrac × Int × TStore × Unit=>∃ kn' wk',y = ((linesT x).1,(linesT x).2,(TStore.mk st past (true,kn') wk'),()) ∧ Kn st (k + 1) kn') ?_ ?_
  ·refine gcall (z_find st x.name (by omega)) ?_
   rintro _ (⟨j,hj,rfl,hn⟩ | ⟨rfl,hn⟩)
   ·refine gf (decide_eq_false (by show ¬ (j:Int) < 0;omega)) (go (idx_at hj) (go (at_w rfl (List.getElem?_eq_getElem hj)) ?_))
    rw [hat j hj hn]
    refine gcall (z_text hF hI hv) ?_
    rintro ⟨t,e0⟩ ⟨h1,h2,h3⟩
    have h1':e0 = 0:=h1
    subst h1'
    have h2':t.size ≤ 100000000:=h2
    have h3':Named st[k].name t:=by rw [← hxe];exact h3
    have hmiss:=Kn.miss h hkn hlt h3'
    refine gf rfl (gif (by show t.size ≤ 2147483648;omega) ?_)
    refine gcall (Q:=fun y:TStore × Tresult × Unit=>∃ kn' wk',y = ((TStore.mk st past (true,kn') wk'),(Tresult.mk (linesT x).1 (linesT x).2),()) ∧ Kn st (k + 1) kn') ?_ ?_
    ·refine gt (by show (!(findM t kn).isSome) = true;rw [hmiss];rfl) (go (t_lines hS) ?_)
     have hkl:=hkn.1
     cases fl with
     | false =>
      refine gbt rfl (gs (gif ⟨rfl,by show t.size ≤ 2147483648;omega,Nat.zero_le _⟩ (gend ⟨_,_,rfl,?_⟩)))
      exact Kn.put (kn:=[]) ⟨Nat.zero_le _,fun u hu=>by cases hu⟩ hlt h3' _ rfl
     | true=>exact gbf rfl (gs (gif ⟨rfl,by show t.size ≤ 2147483648;omega,by show kn.length ≤ 2147483648;omega⟩ (gend ⟨_,_,rfl,hkn.put hlt h3' _ hmiss⟩)))
    ·rintro _ ⟨kn',wk',rfl,hk2⟩
     exact go (z_frac _ hll) (gend ⟨kn',wk',rfl,hk2⟩)
   ·exact absurd rfl (hn x hin)
  rintro _ ⟨kn',wk',rfl,hk2⟩
  have hget':(findM x.name m).getD (⟨ByteArray.empty,0,0,0,0,[],0,0,0,0,0,[],[]⟩:TSet) = x:=by rw [hfind];rfl
  rw [hget']
  refine go (t_llines hS) (go hrc (go hrc ?_))
  refine gcall (Q:=fun y:Bool × Unit=>y = (false,())) ?_ ?_
  ·refine gf (by rw [hfind];rfl) (gf rfl (go hsame (gf rfl (gf (by show ((linesT x).2 != (linesT x).2) = false;simp) (go (f_same _ hll) (gf rfl (gf (by simp) (go heqf (gend rfl)))))))))
  rintro _ rfl
  refine gf rfl (gend ⟨hlt,hlt,true,kn',wk',?_,hk2⟩)
  show (IntKind.i64.wrap ((k:Int) + 1),_,()) = _
  rw [w1]
 ·exact gf (decide_eq_false (by show ¬ (k:Int) < (((st.map (·.name)).length:Nat):Int);rw [List.length_map];omega)) (gend ⟨(fl,kn),wk,rfl⟩)
end Go.Proofs.YtgbicnkpnhifgaaGreatDoor

namespace Go.Proofs.YtgbicnkpnhifgaaGreatDoor
theorem main_TopStored (x0:List TSet) (w0:W_l_Set x0):F_top_TopStored x0 = some true:=by
 apply gs_eq
 unfold F_top_TopStored
 refine go z_awake (gf rfl ?_)
 refine gcall (Q:=fun y:Bool × Unit=>y.1 = false → x0.length ≤ 5 ∧ ∀ x ∈ x0,smallB x 6 = true) ?_ ?_
 ·by_cases h5:x0.length ≤ 5
  ·refine gf (decide_eq_false (by show ¬ ((x0.length:Nat):Int) > 5;omega)) (go (f_slices_ContainsFunc_api_Set x0 (by omega) (fun z6=>F_top_TopStored_1 z6) (fun x=>!smallB x 6) (fun x _=>by unfold F_top_TopStored_1;rw [f_small];rfl)) (gend ?_))
   intro h
   refine ⟨h5,fun x hx=>?_⟩
   have h':x0.any (fun x=>!smallB x 6) = false:=h
   rw [List.any_eq_false] at h'
   simpa using h' x hx
  ·exact gt (decide_eq_true (by show ((x0.length:Nat):Int) > 5;omega)) (gend (fun h=>by cases h))
 rintro ⟨b,⟨⟩⟩ hb
 cases b with
 | true=>exact gt rfl (gend rfl)
 | false =>
  obtain ⟨h5,hs⟩:=hb rfl
  refine gf rfl ?_
  refine gloop (fun r:(Bool × TStore × (Bool × List (ByteArray × TSet)) × Unit) ⊕ (Int × TStore × (Bool × List (ByteArray × TSet)) × Unit)=>∃ (e:Nat) (st:List TSet) (past:List (List TSet)) (m:List (ByteArray × TSet)),r = .inr ((e:Int),(TStore.mk st past (false,[]) 0),(true,m),()) ∧ e ≤ 5 ∧ st.length ≤ 5 ∧ St x0 st past m e)
   (fun k y=>k ≤ x0.length ∧ ∃ (e:Nat) (st:List TSet) (past:List (List TSet)) (m:List (ByteArray × TSet)),y = ((e:Int),(k:Int),(TStore.mk st past (false,[]) 0),(true,m),()) ∧ e ≤ k ∧ st.length ≤ k ∧ St x0 st past m e)
   x0.length (by unfold big;omega) ⟨Nat.zero_le _,0,[],[],[],rfl,Nat.le_refl _,Nat.le_refl _,St.init x0⟩ ?_ ?_
  ·rintro k y hk ⟨_,e,st,past,m,rfl,he,hl,h⟩
   rcases Nat.lt_or_ge k x0.length with hlt | hge
   ·have w1:IntKind.i64.wrap ((k:Int) + 1) = ((k + 1:Nat):Int):=by rw [wrap64 (by omega) (by omega)];omega
    have w2:IntKind.i64.wrap ((e:Int) + 1) = ((e + 1:Nat):Int):=by rw [wrap64 (by omega) (by omega)];omega
    obtain ⟨x,hxe⟩:∃ x,x = x0[k]:=⟨_,rfl⟩
    have hin:x ∈ x0:=hxe ▸ List.getElem_mem hlt
    have hsm:=hs x hin
    have hF:=(sm_of hsm).fits
    have hW:=few_of hsm
    have hI:=smI_of hsm
    have hnb:x.name.size ≤ 2147483648:=by have:=hI.name;omega
    have hfew:∀ y ∈ st,Few y:=fun y hy=>few_of (hs y (h.good y hy).1)
    have hml:=h.len
    refine gt (decide_eq_true (by show (k:Int) < ((x0.length:Nat):Int);omega)) ?_
    refine gcall (Q:=fun y801:(Bool × TStore × (Bool × List (ByteArray × TSet)) × Unit) ⊕ (Int × TStore × (Bool × List (ByteArray × TSet)) × Unit)=>∃ (e:Nat) (st:List TSet) (past:List (List TSet)) (m:List (ByteArray × TSet)),y801 = .inr ((e:Int),(TStore.mk st past (false,[]) 0),(true,m),()) ∧ e ≤ k + 1 ∧ st.length ≤ k + 1 ∧ St x0 st past m e) ?_ ?_
    ·refine go (idx_at hlt) ?_
     rw [← hxe]
     refine gif hnb ?_
     refine gcall (z_put st past (false,[]) 0 x hF hW (by omega) (by have:=h.plen;omega) hfew) ?_
     rintro y (⟨hv,rfl⟩ | ⟨hv,hy⟩)
     ·refine go (f_valid x hF) ?_
      rw [hv]
      exact gf rfl (gt rfl (gend ⟨e,st,past,m,rfl,by omega,by omega,h⟩))
     ·rcases hy with ⟨hx,rfl⟩ | ⟨j,hj,hn,hne,rfl⟩ | ⟨hn,rfl⟩
      ·obtain ⟨v,hsame,hiff⟩:=z_same_iff (a:=x) (b:=x) hW
       have hv1:v = true:=hiff.2 rfl
       subst hv1
       have hfind:=h.find x hx
       refine go (f_valid x hF) ?_
       rw [hv]
       refine gf rfl (gf rfl ?_)
       refine gcall (Q:=fun y:Int × Unit=>y = ((e:Int),())) ?_ ?_
       ·refine gcall (Q:=fun y:Bool × Unit=>y = (false,())) ?_ ?_
        ·refine gf (by rw [hfind];rfl) ?_
         have hget:(findM x.name m).getD (⟨ByteArray.empty,0,0,0,0,[],0,0,0,0,0,[],[]⟩:TSet) = x:=by rw [hfind];rfl
         rw [hget]
         exact go hsame (gend rfl)
        ·rintro _ rfl
         exact gf rfl (gend rfl)
       rintro _ rfl
       exact gif ⟨rfl,hnb,by show m.length ≤ 2147483648;omega⟩ (gend ⟨e,st,past,setM x.name x m,rfl,by omega,by omega,h.same hx⟩)
      ·obtain ⟨v,hsame,hiff⟩:=z_same_iff (a:=st[j]) (b:=x) (hfew _ (List.getElem_mem hj))
       have hv1:v = false:=by
        cases v with
        | false=>rfl
        | true=>exact absurd (hiff.1 rfl) hne
       subst hv1
       have hfind:=h.find _ (List.getElem_mem hj)
       rw [hn] at hfind
       refine go (f_valid x hF) ?_
       rw [hv]
       refine gf rfl (gf rfl ?_)
       refine gcall (Q:=fun y:Int × Unit=>y = (((e + 1:Nat):Int),())) ?_ ?_
       ·refine gcall (Q:=fun y:Bool × Unit=>y = (true,())) ?_ ?_
        ·refine gf (by rw [hfind];rfl) ?_
         have hget:(findM x.name m).getD (⟨ByteArray.empty,0,0,0,0,[],0,0,0,0,0,[],[]⟩:TSet) = st[j]:=by rw [hfind];rfl
         rw [hget]
         exact go hsame (gend rfl)
        ·rintro _ rfl
         exact gt rfl (gend (by rw [w2]))
       rintro _ rfl
       exact gif ⟨rfl,hnb,by show m.length ≤ 2147483648;omega⟩ (gend ⟨e + 1,st.set j x,past ++ [st],setM x.name x m,rfl,by omega,by rw [List.length_set];omega,h.over hin hv hj hn⟩)
      ·have hfind:=h.miss _ hn
       refine go (f_valid x hF) ?_
       rw [hv]
       refine gf rfl (gf rfl ?_)
       refine gcall (Q:=fun y:Int × Unit=>y = (((e + 1:Nat):Int),())) ?_ ?_
       ·refine gcall (Q:=fun y:Bool × Unit=>y = (true,())) ?_ ?_
        ·exact gt (by rw [hfind];rfl) (gend rfl)
        ·rintro _ rfl
         exact gt rfl (gend (by rw [w2]))
       rintro _ rfl
       exact gif ⟨rfl,hnb,by show m.length ≤ 2147483648;omega⟩ (gend ⟨e + 1,st ++ [x],past ++ [st],setM x.name x m,rfl,by omega,by rw [List.length_append];show st.length + 1 ≤ _;omega,h.new hin hv hn⟩)
    ·rintro _ ⟨e',st',past',m',rfl,he',hl',h'⟩
     refine gend ⟨hlt,hlt,e',st',past',m',?_,he',hl',h'⟩
     show ((e':Int),IntKind.i64.wrap ((k:Int) + 1),_,_,()) = _
     rw [w1]
   ·exact gf (decide_eq_false (by show ¬ (k:Int) < ((x0.length:Nat):Int);omega)) (gend ⟨e,st,past,m,rfl,by omega,by omega,h⟩)
  rintro _ ⟨e,st,past,m,rfl,he,hl,h⟩
  have hml:=h.len
  refine gcall (z_names st (by omega)) ?_
  rintro _ rfl
  refine gif rfl (gf ?_ ?_)
  ·show ((((st.map (·.name)).length:Nat):Int) != ((m.length:Nat):Int)) = false
   rw [List.length_map,hml]
   simp
  refine gcall (z_ask h hs (by omega)) ?_
  rintro _ ⟨kn,wk,rfl⟩
  refine gcall (z_undo h (by omega) kn wk) ?_
  rintro _ rfl
  refine gcall (Q:=fun y:Bool × TStore × Unit=>y.1 = true) ?_ ?_
  ·refine gcall (Q:=fun y:List ByteArray × Unit=>y = ([],())) ?_ ?_
   ·exact ⟨_,rfl,rfl⟩
   ·rintro _ rfl
    exact gt rfl (gt rfl (gend rfl))
  ·rintro ⟨b,s,⟨⟩⟩ hb
   exact gend hb
end Go.Proofs.YtgbicnkpnhifgaaGreatDoor
