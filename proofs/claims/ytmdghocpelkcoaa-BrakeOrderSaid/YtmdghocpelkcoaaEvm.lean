/- The typed reading: maps from strings. -/
import Derived.Test.YtmdghocpelkcoaaEv10
import Derived.Laws.StructEq
namespace Go.Proofs.Ytmdghocpelkcoaa
open Go.RowKit Go.Maps Go.WideMaps

variable {P : Program} (G : Sg P) {β : Type}
def mapKind (P : Program) (t : TypeId) : Option Bool := match P.underlying t with
  | some (.map k e) => match P.underlying k with
    | some .string => match P.info? e with
      | some i => match i.zero with
        | some (.bool false) => some true
        | some (.agg cs) => if cs.size = 0 then some false else none
        | _ => none
      | none => none
    | _ => none
  | _ => none
def makeMapK (P : Program) (hp : G.Hp) (t : TypeId) (K : G.Hp → G.T → Option β) : Option β := match mapKind P t with
  | some b => K (hp ++ [.map false t b []]) (.c (.os hp.length))
  | none => none
def mapVal (b : Bool) (x : G.T) : Option Bool := match b, x with
  | true, .c (.pv (.val (.bool x))) => some x
  | false, .agg [] => some true
  | _, _ => none
def mapUpdK (hp : G.Hp) (t : TypeId) (a s x : G.T) (K : G.Hp → Option β) : Option β := match a, valOf G s with
  | .c (.os o), some (.string s) => match hp[o]? with
    | some (.map false t' b es) => if t' = t then (match mapVal G b x with
      | some x => if s.size ≤ 2147483648 ∧ es.length ≤ 2147483648 then K (hp.set o (.map false t' b (setM s x es))) else none
      | none => none) else none
    | _ => none
  | _, _ => none
def lookK (P : Program) (hp : G.Hp) (t : TypeId) (a s : G.T) (K : G.T → Option β) : Option β := match a, valOf G s with
  | .c (.os o), some (.string s) => match hp[o]? with
    | some (.map _ t' true es) => if t' = t ∧ mapKind P t = some true then (if s.size ≤ 2147483648 then K (pval G (.bool ((findM s es).getD false))) else none) else none
    | _ => none
  | _, _ => none
def isMapT (P : Program) (t : TypeId) : Bool := match P.underlying t with
  | some (.map _ _) => true
  | _ => false
def mapLenK (hp : G.Hp) (t : TypeId) (a : G.T) (K : G.T → Option β) : Option β := match a with
  | .c (.os o) => match hp[o]? with
    | some (.map _ t' _ es) => if t' = t then K (pval G (.int .i64 es.length)) else none
    | _ => none
  | _ => none
/-- Structs that are compared: their fields one by one. -/
def eqFs (f : TypeId → G.T → G.T → Option Bool) : List Field → List G.C → List G.C → Option Bool
  | [], _, _ => some true
  | fl :: fs, cs, ds => if fl.name = "_" then none else match shapeP P fl.type with
    | some s => match takeT G s (cs.drop fl.offset), takeT G s (ds.drop fl.offset) with
      | some a, some b => match f fl.type a b with
        | some e => match fs with
          | [] => some e
          | fl' :: fs => match eqFs f (fl' :: fs) cs ds with
            | some e' => some (e && e')
            | none => none
        | none => none
      | _, _ => none
    | none => none
def eqTy : Nat → TypeId → G.T → G.T → Option Bool
  | 0, _, _, _ => none
  | d + 1, t, x, y => match P.underlying t with
    | some (.int _) => match valOf G x, valOf G y with
      | some (.int k a), some (.int k' b) => if k = k' then some (a == b) else none
      | _, _ => none
    | some .bool => match valOf G x, valOf G y with
      | some (.bool a), some (.bool b) => some (a == b)
      | _, _ => none
    | some .string => match valOf G x, valOf G y with
      | some (.string a), some (.string b) => some (a.toList == b.toList)
      | _, _ => none
    | some (.struct fs) => match x, y with
      | .agg cs, .agg ds => if P.stoodInHeld t = true then none else eqFs G (eqTy d) fs.toList cs ds
      | _, _ => none
    | _ => none
def eqAggK (op : BinOp) (ty : TypeId) (x y : G.T) (K : Value → Option β) : Option β := match x, y with
  | .agg _, .agg _ => if P.eqGuardType P.depth ty = true then none else match eqTy G 8 ty x y, op with
    | some b, .eql => K (.bool b)
    | some b, .neq => K (.bool (!b))
    | _, _ => none
  | _, _ => none
section
variable {G} {w w' : World} {R R' : Nat → Prop} {n n' : Nat} {m m' : Nat → Value} {r : β} {N : Nat} {hp : G.Hp}
theorem eqFs_ok {f : TypeId → G.T → G.T → Option Bool} {e : Nat} (hf : ∀ (t : TypeId) (x y : G.T) (b : Bool) (va vb : Value), f t x y = some b → RepT G w R n m x va → RepT G w R n m y vb → ∀ w', (Op.equalIn e t va vb).run P w' = .ok b w')
    {cs ds : List G.C} {vs us : List Value} (hc : RepL G w R n m cs vs) (hd : RepL G w R n m ds us) : ∀ (fs : List Field) (b : Bool), eqFs G f fs cs ds = some b → ∀ w', (Op.eqFields e vs.toArray us.toArray fs).run P w' = .ok b w'
  | [], b, h, w' => by cases h; rfl
  | fl :: fs, b, h, w' => by
    unfold eqFs at h
    split at h
    · cases h
    · rename_i hne
      split at h
      · rename_i s hs
        split at h
        · rename_i x y hx hy
          obtain ⟨v, h1, h2⟩ := part_ok (P := P) hs hc hx
          obtain ⟨u, h3, h4⟩ := part_ok (P := P) hs hd hy
          split at h
          · rename_i a ha
            have h5 := hf _ _ _ _ _ _ ha h2 h4
            unfold Op.eqFields
            rw [if_pos hne]
            simp only [Sem.run_bind, h1, h3, h5, Result.andThen_ok]
            split at h
            · cases h
              cases b <;> simp [Op.eqFields]
            · rename_i fl' fs'
              split at h
              · rename_i b' hb'
                cases h
                have h6 := eqFs_ok hf hc hd _ b' hb' w'
                cases a
                · simp
                · simp only [Bool.not_true, Bool.false_eq_true, if_false, Bool.true_and]
                  exact h6
              · cases h
          · cases h
        · cases h
      · cases h
theorem eqTy_ok : ∀ (d : Nat) (t : TypeId) (x y : G.T) (b : Bool) (va vb : Value), eqTy G d t x y = some b → RepT G w R n m x va → RepT G w R n m y vb → ∀ e, d ≤ e → ∀ w', (Op.equalIn e t va vb).run P w' = .ok b w'
  | 0, _, _, _, _, _, _, h, _, _, _, _, _ => by cases h
  | d + 1, t, x, y, b, va, vb, h, hx, hy, 0, he, _ => by omega
  | d + 1, t, x, y, b, va, vb, h, hx, hy, e + 1, he, w' => by
    unfold eqTy at h
    split at h
    · rename_i k0 hu
      split at h
      · rename_i k a k' b' ha hb
        obtain ⟨rfl, _⟩ := valOf_rep ha hx
        obtain ⟨rfl, _⟩ := valOf_rep hb hy
        split at h
        · rename_i hk; subst hk; cases h
          exact run_equalIn_int w' e t k k0 a b' hu
        · cases h
      · cases h
    · rename_i hu
      split at h
      · rename_i a b' ha hb
        obtain ⟨rfl, _⟩ := valOf_rep ha hx
        obtain ⟨rfl, _⟩ := valOf_rep hb hy
        cases h
        exact run_equalIn_bool' w' e t a b' hu
      · cases h
    · rename_i hu
      split at h
      · rename_i a b' ha hb
        obtain ⟨rfl, _⟩ := valOf_rep ha hx
        obtain ⟨rfl, _⟩ := valOf_rep hb hy
        cases h
        exact run_equalIn_string w' e t a b' hu
      · cases h
    · rename_i fs hu
      split at h
      · rename_i cs ds
        split at h
        · cases h
        · rename_i hst
          obtain ⟨vs, rfl, hl⟩ := hx
          obtain ⟨us, rfl, hl'⟩ := hy
          have hfs : P.fieldsOf t = fs := by unfold Program.fieldsOf; rw [hu]
          rw [run_equalIn_struct w' e t _ _ (by rw [hfs]; exact hu) (by simpa using hst), hfs]
          exact eqFs_ok (fun t x y b va vb h hx hy w' => eqTy_ok d t x y b va vb h hx hy e (by omega) w') hl hl' _ b h w'
      · cases h
    · cases h
theorem eqAggK_ok {op : BinOp} {ty : TypeId} {x y : G.T} {va vb : Value} {K : Value → Option β} (p q : Operand) (hx : RepT G w R n m x va) (hy : RepT G w R n m y vb) (h : eqAggK G op ty x y K = some r) :
    ∃ v, (∀ w, (do eqGuard op ty p q va vb; binOp op ty va vb : Sem Value).run P w = .ok v w) ∧ K v = some r ∧ v.oneCell' = true := by
  unfold eqAggK at h
  split at h
  · rename_i cs ds
    split at h
    · cases h
    · rename_i hg
      have hg : P.eqGuardType P.depth ty = false := by simpa using hg
      split at h
      · rename_i b hb
        have h1 := eqTy_ok 8 ty _ _ b va vb hb hx hy 10000 (by decide)
        obtain ⟨vs, rfl, _⟩ := hx
        obtain ⟨us, rfl, _⟩ := hy
        exact ⟨.bool b, fun w => by simp only [Sem.run_bind, run_eqGuard_agg w _ _ _ _ _ _ hg, Result.andThen_ok, run_eql_struct, h1], h, rfl⟩
      · rename_i b hb
        have h1 := eqTy_ok 8 ty _ _ b va vb hb hx hy 10000 (by decide)
        obtain ⟨vs, rfl, _⟩ := hx
        obtain ⟨us, rfl, _⟩ := hy
        exact ⟨.bool (!b), fun w => by simp only [Sem.run_bind, run_eqGuard_agg w _ _ _ _ _ _ hg, Result.andThen_ok, run_neq_struct, h1], h, rfl⟩
      · cases h
  · cases h
theorem keyLit_inj {a b : ByteArray} (h : keyLit a = keyLit b) : a = b := by
  unfold keyLit at h
  injection h with h
  exact ByteArray.ext (Array.toList_inj.1 h)
theorem find_set_same (s : ByteArray) (x : Bool) : ∀ es, findM s (setM s x es) = some x
  | [] => if_pos rfl
  | p :: l => by
    unfold setM
    split
    · exact if_pos rfl
    · rename_i hne
      unfold findM
      rw [if_neg hne]
      exact find_set_same s x l
theorem find_set_other {s s' : ByteArray} (h : s' ≠ s) (x : Bool) : ∀ es, findM s' (setM s x es) = findM s' es
  | [] => if_neg h
  | p :: l => by
    unfold setM
    split
    · rename_i he
      subst he
      unfold findM
      rw [if_neg h, if_neg h]
    · unfold findM
      rw [find_set_other h x l]
theorem length_set (s : ByteArray) (x : Bool) : ∀ es, (setM s x es).length = if (findM s es).isSome then es.length else es.length + 1
  | [] => rfl
  | p :: l => by
    unfold setM findM
    split
    · simp
    · simp only [List.length_cons, length_set s x l]
      split <;> rfl
theorem MapRel.nil (b : Bool) : MapRel b (.map []) [] := ⟨rfl, fun _ => rfl, fun _ _ => rfl⟩
theorem MapRel.put {b : Bool} {D : DataW Unit} {es : List (ByteArray × Bool)} (h : MapRel b D es) (ht : Go.Maps.Tidy D) (hm : Go.Maps.IsMap D) (s : ByteArray) (x : Bool) : MapRel b (D.put (keyLit s) (datM b x)) (setM s x es) := by
  refine ⟨?_, fun s' => ?_, fun s' d => ?_⟩
  · rw [Go.Maps.size_put ht, h.has, length_set, h.size]
  · by_cases he : s' = s
    · subst he
      rw [Go.Maps.has_put_same hm (k := keyLit s') trivial, find_set_same]; rfl
    · rw [Go.Maps.has_put_other (fun e => he (keyLit_inj e)), find_set_other he, h.has]
  · by_cases he : s' = s
    · subst he
      rw [Go.Maps.atKey_put_same hm (k := keyLit s') trivial, find_set_same]; rfl
    · rw [Go.Maps.atKey_put_other (fun e => he (keyLit_inj e)), find_set_other he, h.at_]
theorem owns_tight {P : Program} {k : TypeId} {R : Value → Option (DataW Unit × List MemPlace)} {w : World} {b n : Nat} {D : DataW Unit} (h : w.ownsMap P k R b n D) : w.ownsMap P k R b (Go.Maps.size D) D := by
  obtain ⟨es, clock, hb, F, hs, rfl⟩ := h
  have e1 : Maps.size (DataW.map ((es.toList.map (Go.WideElems.rg P k R)).foldr DataW.insert [])) = es.size := by simp [Maps.size, length_sorted]
  exact ⟨es, clock, hb, F, by rw [e1]; exact Nat.le_refl _, rfl⟩
theorem key_of {k : TypeId} (hk : P.underlying k = some .string) {s : ByteArray} (hs : s.size ≤ 2147483648) : keyOf P k (.string s) = some (keyLit s) :=
  keyOf_string_mk hk (by unfold maxLen; omega)
theorem mapKind_some {t : TypeId} {b : Bool} (h : mapKind P t = some b) : ∃ k e i, P.underlying t = some (.map k e) ∧ P.underlying k = some .string ∧ P.info? e = some i ∧ (b = true → i.zero = some (.bool false)) := by
  unfold mapKind at h
  split at h
  · rename_i k e hu
    split at h
    · rename_i hk
      split at h
      · rename_i i hi
        split at h
        · rename_i hz; exact ⟨k, e, i, hu, hk, hi, fun _ => hz⟩
        · split at h
          · cases h; exact ⟨k, e, i, hu, hk, hi, fun h => by cases h⟩
          · cases h
        · cases h
      · cases h
    · cases h
  · cases h
theorem makeMapK_ok {t : TypeId} {K : G.Hp → G.T → Option β} (hh : HRel G N hp m w) (h : makeMapK G P hp t K = some r) : Made G N hp m w (Instr.makeMap t none) K r := by
  unfold makeMapK at h
  split at h
  · rename_i b hb
    obtain ⟨k, e, i, h1, h2, _⟩ := mapKind_some hb
    obtain ⟨h3, h4⟩ := new_one (w' := w.alloc (.map #[] 0)) hh (by simp) (fun b hb => heap_alloc_old w _ hb) (.map false t b []) (.map (some w.heap.size)) (fun b hb => by cases hb; exact Nat.le_refl _) (fun _ => by
      refine ⟨?_, by rw [mAt_same]; rfl⟩
      rw [mAt_same]
      exact ⟨_, _, k, e, rfl, hh.base, h1, h2, World.ownsMap_made _ _ _ _, MapRel.nil b⟩)
    exact ⟨_, _, _, _, _, rfl, h3, h4, by simp, ⟨(Below.refl _ _).alloc hh.base _, fun b hb => heap_alloc_old w _ hb⟩, os_new _ rfl _, h⟩
  · cases h
theorem mapVal_ok {b x : Bool} {t : G.T} {v : Value} (h : mapVal G b t = some x) (ht : RepT G w R n m t v) : elemR b v = some (datM b x, []) := by
  unfold mapVal at h
  split at h
  · cases h
    obtain ⟨rfl, _⟩ := valOf_rep (v := .bool x) rfl ht
    rfl
  · cases h
    obtain ⟨vs, rfl, hl⟩ := ht
    obtain rfl : vs = [] := List.eq_nil_of_length_eq_zero hl.1
    exact unitElem_mk
  · cases h
theorem mapUpdK_ok {t : TypeId} {a s x : G.T} {va vs vx : Value} {K : G.Hp → Option β} (hh : HRel G N hp m w) (ha : RepT G w (Rof G hp m w) hp.length m a va) (hs : RepT G w (Rof G hp m w) hp.length m s vs) (hx : RepT G w (Rof G hp m w) hp.length m x vx)
    (h : mapUpdK G hp t a s x K = some r) :
    ∃ w' hp', (Instr.mapUpdate t va vs vx).run P w = .ok () w' ∧ HRel G N hp' m w' ∧ Keep G hp m w hp' m w' ∧ hp'.length = hp.length ∧ Below N w w' ∧ K hp' = some r := by
  unfold mapUpdK at h
  split at h
  · rename_i o s' hs'
    obtain ⟨rfl, _⟩ := valOf_rep hs' hs
    split at h
    · rename_i t' b es ho
      split at h
      · rename_i het
        subst het
        split at h
        · rename_i x' hx'
          split at h
          · rename_i hsz
            obtain ⟨⟨bk, D, k, e, e1, h1, h2, h3, h4, h5⟩, h6⟩ := hh.obj o _ ho
            obtain ⟨_, rfl, _⟩ := ha
            have K0 := string_keyed h3
            obtain ⟨w', hrun, hown, hgrow⟩ := h4.update K0 h2 (Nat.lt_of_le_of_lt hsz.2 (by unfold maxLen; omega)) (key_of h3 hsz.1) (mapVal_ok hx' hx)
            have hrel := h5.put (h4.tidy K0) h4.isMap s' x'
            have htight := owns_tight hown
            rw [hrel.size] at htight
            have hold : ∀ c, c < w.heap.size → blkOf (m o) ≠ some c → w'.heap[c]? = w.heap[c]? := fun c hc hne => hgrow.block c hc (fun e2 => hne (by rw [e1]; exact e2.symm))
            obtain ⟨g1, g2, g3⟩ := hh.turn (w' := w') (m' := m) (ob' := .map false t' b (setM s' x' es)) (f := fun x => x) ho rfl hgrow.size hold (fun _ _ => rfl) (fun b _ hb => .inl hb) (.inl ⟨fun _ => rfl, rfl⟩)
              ⟨⟨bk, _, k, e, e1, h1, h2, h3, htight, hrel⟩, h6⟩
            rw [map_id'] at g1 g2
            refine ⟨w', _, by rw [e1]; exact hrun, g1, ⟨g2, g3, fun _ _ => rfl, lk_set ho rfl, mv_set ho rfl⟩, by simp, ?_, h⟩
            exact (Below.refl _ _).grown hgrow hh.base (fun c hc => by cases hc; exact h1)
          · cases h
        · cases h
      · cases h
    · cases h
  · cases h
theorem lookK_ok {t : TypeId} {a s : G.T} {va vs : Value} {K : G.T → Option β} (hh : HRel G N hp m w) (ha : RepT G w (Rof G hp m w) hp.length m a va) (hs : RepT G w (Rof G hp m w) hp.length m s vs) (h : lookK G P hp t a s K = some r) :
    ∃ v x, (∀ w', (∀ b, b < w.heap.size → w'.heap[b]? = w.heap[b]?) → (Instr.lookup t va vs false).run P w' = .ok v w') ∧ RepT G w (Rof G hp m w) hp.length m x v ∧ K x = some r := by
  unfold lookK at h
  split at h
  · rename_i o s' hs'
    obtain ⟨rfl, _⟩ := valOf_rep hs' hs
    split at h
    · rename_i lk t' es ho
      split at h
      · rename_i hc
        obtain ⟨rfl, hk⟩ := hc
        split at h
        · rename_i hsz
          obtain ⟨⟨bk, D, k, e, e1, h1, h2, h3, h4, h5⟩, h6⟩ := hh.obj o _ ho
          obtain ⟨_, rfl, _⟩ := ha
          obtain ⟨k', e', i, h7, h8, h9, h10⟩ := mapKind_some hk
          rw [h2] at h7
          cases h7
          refine ⟨_, _, fun w' hw => ?_, RepT_val rfl, h⟩
          have h4' : w'.ownsMap P k (elemR true) bk es.length D := by
            have hlt := h4.lt
            obtain ⟨es', clock, hb, rest⟩ := h4
            exact ⟨es', clock, (hw bk hlt).trans hb, rest⟩
          obtain ⟨v, ps, hrun, hv⟩ := h4'.lookup (z := .bool false) (string_keyed h3) h2 (by simp [zeroValue, typeInfo, h9, h10 rfl]) (zd := datM true false) (zp := []) rfl (key_of h3 hsz)
          rw [e1, hrun]
          congr 1
          rw [h5.at_] at hv
          cases v <;> simp only [elemR] at hv <;> first | (cases hv; done) | skip
          cases hf : findM s' es <;> rw [hf] at hv <;> simp [datM] at hv <;> rw [hv.1] <;> rfl
        · cases h
      · cases h
    · cases h
  · cases h
theorem mapLenK_ok {t ty : TypeId} {a : G.T} {va : Value} {K : G.T → Option β} (hh : HRel G N hp m w) (ha : RepT G w (Rof G hp m w) hp.length m a va) (h : mapLenK G hp t a K = some r) :
    ∃ v x, (∀ w', (∀ b, b < w.heap.size → w'.heap[b]? = w.heap[b]?) → (Builtin.len_ #[t] ty #[va]).run P w' = .ok v w') ∧ RepT G w (Rof G hp m w) hp.length m x v ∧ K x = some r := by
  unfold mapLenK at h
  split at h
  · rename_i o
    split at h
    · rename_i lk t' b es ho
      split at h
      · rename_i het
        subst het
        obtain ⟨⟨bk, D, k, e, e1, h1, h2, h3, h4, h5⟩, h6⟩ := hh.obj o _ ho
        obtain ⟨_, rfl, _⟩ := ha
        refine ⟨_, _, fun w' hw => ?_, RepT_val rfl, h⟩
        have h4' : w'.ownsMap P k (elemR b) bk es.length D := by
          have hlt := h4.lt
          obtain ⟨es', clock, hb, rest⟩ := h4
          exact ⟨es', clock, (hw bk hlt).trans hb, rest⟩
        rw [e1, h4'.len h2 ty, h5.size]
      · cases h
    · cases h
  · cases h
end
end Go.Proofs.Ytmdghocpelkcoaa
