/- The typed reading: slices.Clone, whose test against nil is not read. -/
import Derived.Test.YtmdghocpelkcoaaEvi
import Derived.Lib.SliceRun
namespace Go.Proofs.Ytmdghocpelkcoaa
open Go.RowKit

section
variable {P : Program} {G : Sg P}
/-- The reading of a text that ends in a return. -/
def evR (G : Sg P) (K : G.KT) (c : Code) (an : An G.U) (n : Nat) (res : List ResultVar) (rs : List G.U) (ts : List G.T) : Option (TyU G rs) :=
  ev G K c an (TyU G rs) (List.replicate n none) (frame0 G n ts) [] fun e fr hp => match e with
    | .ret => match resTs G (List.replicate n none) fr hp res with
      | some ts => match decRes G hp rs ts with
        | some (y, os) => if nodupB os then some y else none
        | none => none
      | none => none
    | _ => none
theorem code_ok (hok : G.Ok) {K : G.KT} (hK : CallOk G K) {fn : Func} {c : Code} {an : An G.U} {ts : List G.T} {rs : List G.U} {y : TyU G rs} {k : Nat}
    {res : List ResultVar} (hres : fn.results = res.toArray) (h : evR G K c an k res rs ts = some y) {w : World} {vs : List Value} (ha : Args G w ts vs) {tmps : Array Value} (hsz : tmps.size = (frame0 G k ts).length)
    (hpre : ∀ i v, vs[i]? = some v → tmps.getD i undef = v) : c.wp P (fun e a w' => e = .ret ∧ bodyPost P fn (Ret G rs y w) e a w') ⟨tmps, []⟩ w := by
  have hlen := ha.length
  have hro : ∀ b, AllRo w b → Rof G [] (fun _ => undef) w b := fun b hb => ⟨hb, fun ⟨o, ob, ho, _⟩ => by simp at ho⟩
  have hrl : Rl G w.heap.size w (List.replicate k none) (frame0 G k ts) [] (fun _ => undef) tmps w := by
    refine ⟨⟨fun o ob ho => by simp at ho, fun o o' ob ob' b ho => by simp at ho, Nat.le_refl _⟩, ⟨hsz, fun t d hd => ?_, fun t d hd => ?_⟩, Below.refl _ _⟩
    · unfold frame0 at hd
      rw [List.getElem?_append] at hd
      split at hd
      · rename_i hlt
        rw [List.length_map] at hlt
        rw [List.getElem?_map] at hd
        cases ht : ts[t]? with
        | none => rw [ht] at hd; cases hd
        | some x =>
          rw [ht] at hd
          cases hd
          obtain ⟨v, h1, h2⟩ := ha.get t x ht
          rw [hpre t v h1]
          exact RepT.mono hro (fun _ _ => rfl) (Nat.le_refl _) (fun _ _ _ => rfl) h2
      · rw [List.getElem?_replicate] at hd
        split at hd
        · cases hd; trivial
        · cases hd
    · rw [List.getElem?_replicate] at hd
      split at hd <;> cases hd
  refine ev_ok hok hK c hrl h ?_
  intro e fr' hp' m' tmps' w' h1 _ _ h4
  have fin : (match resTs G (List.replicate k none) fr' hp' res with
      | some ts => match decRes G hp' rs ts with
        | some (y, os) => if nodupB os then some y else none
        | none => none
      | none => none) = some y → ∃ v, (results fn tmps').run P w' = .ok v w' ∧ Ret G rs y w (.returned v) w' := by
    intro h4
    split at h4
    · rename_i ts' hts
      split at h4
      · rename_i y' os hdec
        split at h4
        · rename_i hnd
          cases h4
          obtain ⟨vs', h5, h6⟩ := resTs_ok (P := P) hok h1.hh h1.hf res hts
          refine ⟨_, ?_, ret_ok hok h1.hh h1.bl hdec hnd h6⟩
          show (do let vs ← fn.results.mapM (resM tmps'); pure (if h : vs.size = 1 then vs[0] else Value.tuple vs) : Sem Value).run P w' = _
          rw [hres]
          simp only [Sem.run_bind, Array.mapM_eq_mapM_toList, Sem.run_map, h5, Result.andThen_ok, Sem.run_pure]
          congr 1
          cases vs' with
          | nil => rfl
          | cons a vs' => cases vs' with
            | nil => rfl
            | cons b vs' => simp
        · cases h4
      · cases h4
    · cases h4
  cases e with
  | normal => cases h4
  | ret => exact ⟨rfl, rfl, fin h4⟩
  | exit id => cases h4
/-- The shape of slices.Clone. -/
structure CloneOf (c A B : Code) (t : TypeId) : Prop where
  ok : ∃ i0 o0 i1 o1 a0 m e yt, c = .seq (.region i0 o0 false) (.seq (.seq (.region i1 o1 false) (.cond (.tmp 4) A .skip)) B) ∧ o0 = #[a0] ∧ o1 = #[m, e] ∧
    a0.op = .assign (.const (.slice none 0 0)) ∧ a0.dst = some 2 ∧ a0.guard = none ∧ m.op = .move (.tmp 0) ∧ m.dst = some 3 ∧ m.guard = none ∧
    e.op = .binOp .eql t (.tmp 3) (.const (.slice none 0 0)) yt ∧ e.dst = some 4 ∧ e.guard = none
def hdC : Code → Code
  | .seq a _ => a
  | c => c
def tlC : Code → Code
  | .seq _ b => b
  | c => c
def thenC : Code → Code
  | .cond _ a _ => a
  | c => c
def isClone (c : Code) (t : TypeId) : Bool := match c with
  | .seq (.region _ o0 false) (.seq (.seq (.region _ o1 false) (.cond (.tmp 4) _ .skip)) _) => match o0.toList, o1.toList with
    | [a0], [m, e] => (match a0.op, a0.dst, a0.guard with
      | .assign (.const (.slice none 0 0)), some 2, none => true
      | _, _, _ => false) && (match m.op, m.dst, m.guard with
      | .move (.tmp 0), some 3, none => true
      | _, _, _ => false) && (match e.op, e.dst, e.guard with
      | .binOp .eql t' (.tmp 3) (.const (.slice none 0 0)) _, some 4, none => t' == t
      | _, _, _ => false)
    | _, _ => false
  | _ => false
theorem isClone_of {c : Code} {t : TypeId} (h : isClone c t = true) : CloneOf c (thenC (tlC (hdC (tlC c)))) (tlC (tlC c)) t := by
  unfold isClone at h
  split at h
  · rename_i i0 o0 i1 o1 A B
    split at h
    · rename_i a0 m e h0 h1
      simp only [Bool.and_eq_true] at h
      obtain ⟨⟨ha, hm⟩, he⟩ := h
      split at ha
      · rename_i p1 p2 p3
        split at hm
        · rename_i q1 q2 q3
          split at he
          · rename_i t' yt r1 r2 r3
            have : t' = t := by simpa using he
            subst this
            exact ⟨i0, o0, i1, o1, a0, m, e, yt, rfl, Array.toList_inj.1 h0, Array.toList_inj.1 h1, p1, p2, p3, q1, q2, q3, r1, r2, r3⟩
          · cases he
        · cases hm
      · cases ha
    · cases h
  · cases h
theorem clone_ok (hok : G.Ok) {K : G.KT} (hK : CallOk G K) {f : FuncId} {fn : Func} (hf : P.funcs[f]? = some fn) (hn : (fn.name == "runtime.NumGoroutine") = false) (hb : fn.body.isSome = true) {k : Nat} (hk : (fn.ntmps == k) = true) (hk8 : 5 ≤ k)
    {res : List ResultVar} (hres : fn.results = res.toArray) {t : TypeId} (hc : isClone (bodyOf fn) t = true) {u lu : G.U} (hu : G.elt t = some u) {cast : G.El lu → List (G.El u)} (hT : ∀ x, argT G [.v lu] (x, ()) = [.c (.pv (.sl u (cast x)))])
    {F : G.El lu → Option (G.El lu)}
    (hB : ∀ x, evR G K (tlC (tlC (bodyOf fn))) .nil k res [lu] (argT G [.v lu] (x, ())) = F x)
    (hA : ∀ x y, cast x = [] → F x = some y → evR G K (thenC (tlC (hdC (tlC (bodyOf fn))))) .nil k res [lu] (argT G [.v lu] (x, ())) = some y) : FnOk G f ⟨[.v lu], [lu], fun x => F x.1⟩ := by
  obtain ⟨c, hbo⟩ := Option.isSome_iff_exists.1 hb
  have hbc : bodyOf fn = c := by unfold bodyOf; rw [hbo]; rfl
  rw [hbc] at hc hA hB
  refine ⟨⟨fn, hf, by simpa using hn, by rw [hbo]; rfl⟩, fun x y hy w vs ha => ?_⟩
  obtain ⟨x, ⟨⟩⟩ := x
  have hy' : F x = some y := hy
  have ha' : Args G w (argT G [.v lu] (x, ())) vs := ha
  have ha2 := ha'
  rw [hT x] at ha2
  cases ha2 with
  | cons hx hnil =>
    cases hnil
    rename_i v
    have hx' : RepP G w (AllRo w) (.sl u (cast x)) v := hx
    obtain ⟨A, n, cp, rfl, hnone⟩ : ∃ (A : Option Addr) (n cp : Nat), v = .slice A n cp ∧ (A = none → cast x = []) := by
      cases hx' with
      | sl _ _ A b off cap c hcap hcell hc hr =>
        refine ⟨A, _, cap, rfl, fun hA => ?_⟩
        rcases Nat.eq_zero_or_pos (cast x).length with h0 | h0
        · exact List.eq_nil_of_length_eq_zero h0
        · have := (hcell h0).1
          rw [hA] at this; cases this
    refine calls_of_wp hf hbo ?_
    obtain ⟨i0, o0, i1, o1, a0, m, e, yt, hcc, h0, h1, p1, p2, p3, q1, q2, q3, r1, r2, r3⟩ := (isClone_of hc).ok
    generalize thenC (tlC (hdC (tlC c))) = cA at *
    generalize tlC (tlC c) = cB at *
    have hkk : fn.ntmps = k := by simpa using hk
    subst hkk
    have hsz : (#[Value.slice A n cp] ++ Array.replicate (fn.ntmps - 1) undef).size = fn.ntmps := by simp; omega
    rw [hcc]
    subst h0 h1
    refine wp_seq (wp_region_list ?_)
    have e0 : (a0.wp P ⟨[Value.slice A n cp].toArray ++ Array.replicate (fn.ntmps - [Value.slice A n cp].toArray.size) undef, []⟩ w) = a0.wp P ⟨#[Value.slice A n cp] ++ Array.replicate (fn.ntmps - 1) undef, []⟩ w := rfl
    show wpList P _ _ [a0] ⟨#[Value.slice A n cp] ++ Array.replicate (fn.ntmps - 1) undef, []⟩ w
    unfold wpList
    rw [if_pos (by simp [Region.wanted, p3])]
    refine .inl (wp_valr (v := .slice none 0 0) (w' := w) (by simp only [execOp, p1]; rfl) ?_)
    rw [p2]
    show (Code.seq _ _).wp P _ _ w
    refine wp_seq (wp_seq (wp_region_list ?_))
    generalize ht1 : (Act.put ⟨#[Value.slice A n cp] ++ Array.replicate (fn.ntmps - 1) undef, []⟩ (some 2) (.slice none 0 0)) = a1
    have ha1 : a1.tmps.size = fn.ntmps ∧ a1.tmps.getD 0 undef = .slice A n cp ∧ a1 = ⟨a1.tmps, []⟩ := by
      subst ht1
      refine ⟨by simp [Act.put]; omega, ?_, rfl⟩
      show ((#[Value.slice A n cp] ++ Array.replicate (fn.ntmps - 1) undef).setIfInBounds 2 (.slice none 0 0)).getD 0 undef = _
      rw [Array.getD_eq_getD_getElem?, Array.getElem?_setIfInBounds, if_neg (by omega), Array.getElem?_append_left (by simp)]
      rfl
    show wpList P _ _ [m, e] a1 w
    unfold wpList
    rw [if_pos (by simp [Region.wanted, q3])]
    refine .inl (wp_valr (v := .slice A n cp) (w' := w) (by simp only [execOp, q1]; show (pure (Next.value (a1.eval (.tmp 0))) : Sem Next).run P w = _; rw [show a1.eval (.tmp 0) = a1.tmps.getD 0 undef from rfl, ha1.2.1]; rfl) ?_)
    rw [q2]
    generalize ht2 : a1.put (some 3) (.slice A n cp) = a2
    have ha2' : a2.tmps.size = fn.ntmps ∧ a2.tmps.getD 0 undef = .slice A n cp ∧ a2.tmps.getD 3 undef = .slice A n cp ∧ a2 = ⟨a2.tmps, []⟩ := by
      subst ht2
      obtain ⟨g1, g2, g3⟩ := ha1
      rw [g3]
      refine ⟨by simp [Act.put, g1], ?_, ?_, rfl⟩
      · simp only [Act.put, Array.getD_eq_getD_getElem?] at g2 ⊢
        rw [Array.getElem?_setIfInBounds, if_neg (by omega)]
        exact g2
      · simp only [Act.put, Array.getD_eq_getD_getElem?]
        rw [Array.getElem?_setIfInBounds, if_pos rfl, if_pos (by omega)]
        rfl
    show wpList P _ _ [e] a2 w
    unfold wpList
    rw [if_pos (by simp [Region.wanted, r3])]
    have hu2 := hok.elt t u hu
    refine .inl (wp_valr (v := .bool A.isNone) (w' := w) ?_ ?_)
    · simp only [execOp, r1]
      rw [show a2.eval (.tmp 3) = a2.tmps.getD 3 undef from rfl, ha2'.2.2.1, show a2.eval (.const (.slice none 0 0)) = .slice none 0 0 from rfl]
      have hg : (eqGuard .eql t (.tmp 3) (.const (.slice none 0 0)) (.slice A n cp) (.slice none 0 0)).run P w = .ok () w := by
        unfold eqGuard; simp
      simp only [Sem.run_bind, hg, Result.andThen_ok, Lib.run_eql_slice_nil w t (G.ty u) A n cp 0 0 hu2, Sem.run_pure]
    rw [r2]
    generalize ht3 : a2.put (some 4) (.bool A.isNone) = a3
    have ha3 : a3.tmps.size = fn.ntmps ∧ a3.tmps.getD 0 undef = .slice A n cp ∧ a3.eval (.tmp 4) = .bool A.isNone ∧ a3 = ⟨a3.tmps, []⟩ := by
      subst ht3
      obtain ⟨g1, g2, _, g3⟩ := ha2'
      rw [g3]
      refine ⟨by simp [Act.put, g1], ?_, ?_, rfl⟩
      · simp only [Act.put, Array.getD_eq_getD_getElem?] at g2 ⊢
        rw [Array.getElem?_setIfInBounds, if_neg (by omega)]
        exact g2
      · show (a2.tmps.setIfInBounds 4 (.bool A.isNone)).getD 4 undef = _
        rw [Array.getD_eq_getD_getElem?, Array.getElem?_setIfInBounds, if_pos rfl, if_pos (by omega)]
        rfl
    have hfin : ∀ {c : Code}, evR G K c .nil fn.ntmps res [lu] (argT G [.v lu] (x, ())) = some y → c.wp P (fun e a w' => e = .ret ∧ bodyPost P fn (Ret G [lu] y w) e a w') ⟨a3.tmps, []⟩ w := fun h => by
      refine code_ok hok hK hres h ha' ?_ ?_
      · rw [hT]; simp [frame0, ha3.1]; omega
      · intro i v hi
        cases i with
        | zero => cases hi; exact ha3.2.1
        | succ i => cases hi
    show (Code.cond _ _ _).wp P _ a3 w
    refine wp_cond ha3.2.2.1 ?_
    cases A with
    | none =>
      show Code.wp P cA _ a3 w
      rw [ha3.2.2.2]
      refine wp_mono (hfin (hA x y (hnone rfl) hy')) fun e a' w' hq => ?_
      obtain ⟨rfl, hq⟩ := hq
      exact hq
    | some ad =>
      show Code.wp P .skip _ a3 w
      rw [ha3.2.2.2]
      refine wp_skip ?_
      show cB.wp P _ _ w
      exact wp_mono (hfin ((hB x).trans hy')) fun e a' w' hq => hq.2
end
end Go.Proofs.Ytmdghocpelkcoaa
