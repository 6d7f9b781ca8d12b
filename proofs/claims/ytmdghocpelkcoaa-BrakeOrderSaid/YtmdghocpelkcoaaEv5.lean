/- The typed reading, operation by operation: min and max, parts of slices and strings, structs that are built. -/
import Derived.Test.YtmdghocpelkcoaaEv4
namespace Go.Proofs.Ytmdghocpelkcoaa
open Go.RowKit

variable {P : Program} (G : Sg P) {β : Type}
def tcells : G.T → Option (List G.C)
  | .c .junk => none
  | .c x => some [x]
  | .agg cs => some cs
def setAt {α : Type} (l : List α) (off : Nat) (xs : List α) : List α := l.take off ++ xs ++ l.drop (off + xs.length)
def fillC (places : List (Nat × Nat)) (cs : List G.C) : List (Nat × G.T) → Option (List G.C)
  | [] => some cs
  | (i, x) :: rest => match places[i]?, tcells G x with
    | some (off, size), some xs => if xs.length = size ∧ off + size ≤ cs.length then fillC places (setAt cs off xs) rest else none
    | _, _ => none
def zeroCells (P : Program) (t : TypeId) : Option (List G.C) := match P.info? t with
  | some i => match i.zero with
    | some z => if z.cells.toList.all Value.oneCell' then some (z.cells.toList.map fun v => .pv (.val v)) else none
    | none => none
  | none => none
def placesOf (P : Program) : List Field → Option (List (Nat × Nat))
  | [] => some []
  | f :: fs => match P.info? f.type, placesOf P fs with
    | some i, some l => some ((f.offset, i.size) :: l)
    | _, _ => none
def buildK (P : Program) (t : TypeId) (parts : List (Nat × G.T)) (K : G.T → Option β) : Option β := match P.underlying t, zeroCells G P t with
  | some (.struct fs), some z => match placesOf P fs.toList with
    | some pl => match fillC G pl z parts with
      | some cs => K (.agg cs)
      | none => none
    | none => none
  | _, _ => none
def capsOf : List G.T → Option (List Nat)
  | [] => some []
  | .c (.ptr o 0) :: xs => match capsOf xs with
    | some l => some (o :: l)
    | none => none
  | _ => none
def makeFuncK (fn : Fn) (first : Nat) (caps : List G.T) (K : G.T → Option β) : Option β := match fn, first, capsOf G caps with
  | .func f, 0, some l => K (.c (.clo f l))
  | _, _, _ => none

section
variable {G} {w : World} {R : Nat → Prop} {n : Nat} {m : Nat → Value} {r : β}
/-- Values that fit their readings, one by one. -/
inductive RepTs (G : Sg P) (w : World) (R : Nat → Prop) (n : Nat) (m : Nat → Value) : List G.T → List Value → Prop where
  | nil : RepTs G w R n m [] []
  | cons {x xs v vs} (h : RepT G w R n m x v) (ht : RepTs G w R n m xs vs) : RepTs G w R n m (x :: xs) (v :: vs)

theorem intsOf_ok {xs : List G.T} {vs : List Value} (h : RepTs G w R n m xs vs) : ∀ l, intsOf G xs = some l → vs = l.map fun p => .int p.1 p.2 := by
  induction h with
  | nil => intro l h; cases h; rfl
  | cons hx _ ih =>
    intro l h
    unfold intsOf at h
    split at h
    · rename_i k z l' h1 h2
      cases h
      obtain ⟨rfl, _⟩ := valOf_rep h1 hx
      rw [ih _ h2]; rfl
    · cases h
theorem run_max (k : IntKind) (x : Int) (l : List (IntKind × Int)) : ((l.map fun p => Value.int p.1 p.2).foldlM Builtin.max2 (.int k x)).run P w = .ok (.int k ((l.map (·.2)).foldl maxZ x)) w := by
  induction l generalizing x with
  | nil => rfl
  | cons p l ih => simp only [List.map_cons, List.foldlM_cons, Sem.run_bind, Builtin.max2, Sem.run_pure, Result.andThen_ok, List.foldl_cons]; exact ih _
theorem run_min (k : IntKind) (x : Int) (l : List (IntKind × Int)) : ((l.map fun p => Value.int p.1 p.2).foldlM Builtin.min2 (.int k x)).run P w = .ok (.int k ((l.map (·.2)).foldl minZ x)) w := by
  induction l generalizing x with
  | nil => rfl
  | cons p l ih => simp only [List.map_cons, List.foldlM_cons, Sem.run_bind, Builtin.min2, Sem.run_pure, Result.andThen_ok, List.foldl_cons]; exact ih _
theorem maxK_ok {ts : Array TypeId} {ty : TypeId} {xs : List G.T} {vs : List Value} {K : G.T → Option β} (ha : RepTs G w R n m xs vs) (h : extremeK G maxZ xs K = some r) :
    ∃ v x, (∀ w, (Builtin.max_ ts ty vs.toArray).run P w = .ok v w) ∧ RepT G w R n m x v ∧ K x = some r := by
  unfold extremeK at h
  split at h
  · rename_i k x l hl
    have := intsOf_ok ha _ hl
    subst this
    refine ⟨_, _, fun w => ?_, RepT_val rfl, h⟩
    simp only [Builtin.max_, List.map_cons]
    exact run_max k x l
  · cases h
theorem minK_ok {ts : Array TypeId} {ty : TypeId} {xs : List G.T} {vs : List Value} {K : G.T → Option β} (ha : RepTs G w R n m xs vs) (h : extremeK G minZ xs K = some r) :
    ∃ v x, (∀ w, (Builtin.min_ ts ty vs.toArray).run P w = .ok v w) ∧ RepT G w R n m x v ∧ K x = some r := by
  unfold extremeK at h
  split at h
  · rename_i k x l hl
    have := intsOf_ok ha _ hl
    subst this
    refine ⟨_, _, fun w => ?_, RepT_val rfl, h⟩
    simp only [Builtin.min_, List.map_cons]
    exact run_min k x l
  · cases h
theorem nilCheckK_ok {a : G.T} {va : Value} {K : G.T → Option β} (ρ : Operand → Value) (o : Oper) (x : Operand) (ho : o.op = .nilCheck x) (hx : ρ x = va) (ha : RepT G w R n m a va) (h : nilCheckK G a K = some r) :
    ∃ v x, (∀ w, (execOp ρ o).run P w = .ok (.value v) w) ∧ RepT G w R n m x v ∧ K x = some r := by
  unfold nilCheckK at h
  split at h
  · have h0 := ha
    obtain ⟨_, b, _, rfl⟩ := ha
    exact ⟨_, _, fun w => by simp only [execOp, ho, hx]; rfl, h0, h⟩
  · have h0 := ha
    obtain ⟨b, off, rfl, _⟩ := ha
    exact ⟨_, _, fun w => by simp only [execOp, ho, hx]; rfl, h0, h⟩
  · have h0 := ha
    obtain ⟨_, b, _, _, _, _, rfl⟩ := ha
    exact ⟨_, _, fun w => by simp only [execOp, ho, hx]; rfl, h0, h⟩
  · have h0 := ha
    obtain ⟨vs, rfl, _⟩ := ha
    exact ⟨_, _, fun w => by simp only [execOp, ho, hx]; rfl, h0, h⟩
  · cases h

theorem boundI_ok {x : Option G.T} {v : Option Value} {d z : Int} (hx : match x, v with | none, none => True | some x, some v => RepT G w R n m x v | _, _ => False) (h : boundI G x d = some z) :
    (x = none ∧ v = none ∧ z = d) ∨ ∃ k, v = some (.int k z) := by
  unfold boundI at h
  cases x with
  | none =>
    cases v with
    | none => exact .inl ⟨rfl, rfl, (Option.some.inj h).symm⟩
    | some v => exact hx.elim
  | some x =>
    cases v with
    | none => exact hx.elim
    | some v =>
      simp only at h
      split at h
      · rename_i k z' hv
        obtain ⟨rfl, _⟩ := valOf_rep hv hx
        cases h
        exact .inr ⟨_, rfl⟩
      · cases h
def RepOpt (G : Sg P) (w : World) (R : Nat → Prop) (n : Nat) (m : Nat → Value) : Option G.T → Option Value → Prop
  | none, none => True
  | some x, some v => RepT G w R n m x v
  | _, _ => False
theorem bounds_ok {w' : World} {s : Bool} {len cap : Nat} {lo hi : Option G.T} {vl vh : Option Value} {l h : Int} (h1 : RepOpt G w R n m lo vl) (h2 : RepOpt G w R n m hi vh)
    (hl : boundI G lo 0 = some l) (hh : boundI G hi len = some h) (b0 : 0 ≤ l) (b1 : l ≤ h) (b2 : h ≤ cap) : (Instr.sliceBounds s len cap vl vh none).run P w' = .ok (l.toNat, h.toNat, cap) w' := by
  have hb : ∀ (k : IntKind) (z : Int) (y : Nat) c, 0 ≤ z → z ≤ y → (Instr.sliceBound (.int k z) y c).run P w' = .ok z.toNat w' := by
    intro k z y c h0 h1
    simp [Instr.sliceBound, asIntOf, h0, h1]
  rcases boundI_ok (w := w) (R := R) (n := n) (m := m) (x := lo) (v := vl) h1 hl with ⟨_, rfl, rfl⟩ | ⟨k, rfl⟩ <;>
  rcases boundI_ok (w := w) (R := R) (n := n) (m := m) (x := hi) (v := vh) h2 hh with ⟨_, rfl, rfl⟩ | ⟨k', rfl⟩
  · simp [Instr.sliceBounds]
  · have := hb k' h cap (if s then .sliceAcap else .sliceAlen) (by omega) b2
    simp [Instr.sliceBounds, this]
  · have := hb k l len .sliceB b0 (by omega)
    simp [Instr.sliceBounds, this]
  · have h3 := hb k' h cap (if s then .sliceAcap else .sliceAlen) (by omega) b2
    have h4 := hb k l h.toNat .sliceB b0 (by omega)
    simp [Instr.sliceBounds, h3, h4]
theorem sliceAt_plain {t : TypeId} {d : TypeDesc} (h : P.underlying t = some d) (hd : ∀ k e, d ≠ .array k e) (v : Value) (vl vh vm : Option Value) : (Instr.sliceAt t v vl vh vm).run P w = (Instr.slice t v vl vh vm).run P w := by
  unfold Instr.sliceAt
  simp only [Sem.run_bind, run_underlying h, Result.andThen_ok]
theorem sliceK_ok {t : TypeId} {a : G.T} {va : Value} {lo hi : Option G.T} {vl vh : Option Value} {K : G.T → Option β} (hok : G.Ok) (ha : RepT G w R n m a va) (h1 : RepOpt G w R n m lo vl) (h2 : RepOpt G w R n m hi vh)
    (h : sliceK G P t a lo hi K = some r) : ∃ v x, (∀ w, (Instr.sliceAt t va vl vh none).run P w = .ok v w) ∧ RepT G w R n m x v ∧ K x = some r := by
  unfold sliceK at h
  split at h
  · rename_i s hu
    have hsa := fun (w : World) v => sliceAt_plain (P := P) (w := w) hu (by intro k e he; cases he) v vl vh none
    split at h
    · rename_i l hz hl hh
      split at h
      · rename_i hb
        have hbd := fun (w' : World) => bounds_ok (P := P) (w' := w') (s := false) (cap := s.size) h1 h2 hl hh hb.1 hb.2.1 hb.2.2
        obtain ⟨rfl, _⟩ := valOf_rep (v := .string s) rfl ha
        exact ⟨_, _, fun w => by rw [hsa]; simp [Instr.slice, run_underlying hu, hbd], RepT_val rfl, h⟩
      · cases h
    · cases h
  · rename_i e u xs hu
    have hsa := fun (w : World) v => sliceAt_plain (P := P) (w := w) hu (by intro k e he; cases he) v vl vh none
    split at h
    · rename_i v l hz hv hl hh
      split at h
      · rename_i heq
        obtain rfl := eqU_of heq
        split at h
        · rename_i hb
          have hu2 := hok.elt t u hv
          obtain ⟨inf, zz, hinf, _, hsz, _⟩ := hok.info u
          cases ha with
          | sl _ _ A b off cap c hcap ha hc hr =>
            have hbd := fun (w' : World) => bounds_ok (P := P) (w' := w') (s := true) (cap := cap) h1 h2 hl hh hb.1 hb.2.1 (by omega)
            refine ⟨_, _, fun w => by rw [hsa]; simp [Instr.slice, run_underlying hu2, hbd, sizeOf, typeInfo, hinf, hsz]; rfl, ?_, h⟩
            have hlen : ((xs.take hz.toNat).drop l.toNat).length = hz.toNat - l.toNat := by simp; omega
            rw [← hlen]
            by_cases hlc : cap = l.toNat
            · have h0 : (xs.take hz.toNat).drop l.toNat = [] := List.eq_nil_of_length_eq_zero (by rw [hlen]; omega)
              rw [h0]
              exact RepP.sl u [] _ 0 0 _ (fun _ _ => undef) (by simp) (by simp) (by simp) (by simp)
            · rw [if_neg hlc]
              refine RepP.sl u _ _ b (off + l.toNat * G.sz u) _ (fun k j => c (l.toNat + k) j) (by rw [hlen]; omega) (fun hp => ?_) (fun k x j p hk hj => ?_) (fun k x j p hk hj => ?_)
              · have : 0 < xs.length := by rw [hlen] at hp; omega
                obtain ⟨rfl, hb⟩ := ha this
                exact ⟨by simp [Addr.add_lit], hb⟩
              · rw [List.getElem?_drop, List.getElem?_take] at hk
                split at hk
                · have := hc _ x j p hk hj
                  rw [Nat.add_mul, ← Nat.add_assoc] at this
                  exact this
                · cases hk
              · rw [List.getElem?_drop, List.getElem?_take] at hk
                split at hk
                · exact hr _ x j p hk hj
                · cases hk
        · cases h
      · cases h
    · cases h
  · cases h

theorem capsOf_ok : ∀ (xs : List G.T) (vs : List Value) (l : List Nat), RepTs G w R n m xs vs → capsOf G xs = some l →
    vs.length = l.length ∧ ∀ (i o : Nat), l[i]? = some o → o < n ∧ ∃ b : Nat, m o = .pointer (some ⟨b, 0, none⟩) ∧ vs[i]? = some (Value.pointer (some ⟨b, 0, none⟩))
  | [], _, l, h, hl => by cases h; cases hl; exact ⟨rfl, by simp⟩
  | x :: xs, _, l, h, hl => by
    cases h with
    | cons hx ht =>
      unfold capsOf at hl
      split at hl
      · rename_i he; cases he
      · rename_i o xs' he
        cases he
        split at hl
        · rename_i l' hl'
          cases hl
          obtain ⟨h1, h2⟩ := capsOf_ok _ _ _ ht hl'
          refine ⟨by simp [h1], fun i o' hi => ?_⟩
          cases i with
          | zero =>
            cases hi
            obtain ⟨h3, b, h4, rfl⟩ := hx
            exact ⟨h3, b, h4, rfl⟩
          | succ i => exact h2 i o' hi
        · cases hl
      · cases hl
theorem makeFuncK_ok {fn : Fn} {xs : List G.T} {vs : List Value} {first : Array Value} {K : G.T → Option β} (ha : RepTs G w R n m xs vs) (h : makeFuncK G fn first.size xs K = some r) :
    ∃ v x, (∀ w, (Instr.makeFunc fn first vs.toArray).run P w = .ok v w) ∧ RepT G w R n m x v ∧ K x = some r := by
  unfold makeFuncK at h
  split at h
  · rename_i f l h0 hl
    obtain ⟨h1, h2⟩ := capsOf_ok _ _ _ ha hl
    obtain rfl : first = #[] := by simpa using h0
    refine ⟨_, _, fun _ => rfl, ?_, h⟩
    exact ⟨vs, rfl, h1, h2⟩
  · cases h

theorem RepL.setAt {cs xs : List G.C} {vs ys : List Value} (h : RepL G w R n m cs vs) (hx : RepL G w R n m xs ys) (off : Nat) (hle : off + xs.length ≤ cs.length) : RepL G w R n m (setAt cs off xs) (setAt vs off ys) := by
  have e1 := h.1
  have e2 := hx.1
  refine ⟨by simp [Proofs.Ytmdghocpelkcoaa.setAt]; omega, fun i c hi => ?_⟩
  unfold Proofs.Ytmdghocpelkcoaa.setAt at hi ⊢
  rw [List.getElem?_append, List.getElem?_append] at hi ⊢
  simp only [List.length_append, List.length_take] at hi ⊢
  have hm : min off vs.length = min off cs.length := by omega
  rw [hm, e2]
  split at hi
  · rename_i h1
    rw [if_pos h1]
    split at hi
    · rename_i h2
      rw [if_pos h2]
      exact (h.take off).2 i c hi
    · rename_i h2
      rw [if_neg h2]
      exact hx.2 _ c hi
  · rename_i h1
    rw [if_neg h1]
    exact (h.drop (off + xs.length)).2 _ c hi
theorem tcells_ok {x : G.T} {v : Value} {xs : List G.C} (h : RepT G w R n m x v) (hx : tcells G x = some xs) : RepL G w R n m xs v.cells.toList ∧ (∀ c, x = .c c → v.oneCell' = true) := by
  unfold tcells at hx
  split at hx
  · cases hx
  · rename_i c hne
    cases hx
    have h1 : v.oneCell' = true := by
      cases c with
      | junk => exact absurd rfl hne
      | pv p => exact RepP.one G h
      | os o => exact h.2.2
      | ptr o off => obtain ⟨_, b, _, rfl⟩ := h; rfl
      | rp cells => obtain ⟨b, off, rfl, _⟩ := h; rfl
      | ep u o i j => obtain ⟨_, b, _, _, _, _, rfl⟩ := h; rfl
      | clo f caps => obtain ⟨vs, rfl, _⟩ := h; rfl
      | fn u r F => obtain ⟨g, caps, rfl, _⟩ := h; rfl
    refine ⟨?_, fun _ _ => h1⟩
    have : v.cells = #[v] := by cases v <;> first | rfl | (simp [Value.oneCell'] at h1)
    rw [this]
    exact ⟨rfl, fun i c' hi => by
      cases i with
      | zero => cases hi; exact ⟨v, rfl, h⟩
      | succ i => cases hi⟩
  · rename_i cs
    cases hx
    obtain ⟨vs, rfl, hl⟩ := h
    exact ⟨by simpa [Value.cells] using hl, fun c hc => by cases hc⟩
theorem foldl_set {off : Nat} : ∀ (ys : List Value) (k : Nat) (cs : Array Value), off + k + ys.length ≤ cs.size →
    ((ys.zipIdx k).foldl (fun (cs : Array Value) (p : Value × Nat) => cs.setIfInBounds (off + p.2) p.1) cs).toList = setAt cs.toList (off + k) ys
  | [], k, cs, h => by simp [setAt]
  | y :: ys, k, cs, h => by
    simp only [List.length_cons] at h
    rw [List.zipIdx_cons, List.foldl_cons, foldl_set ys (k + 1) _ (by simp; omega)]
    unfold setAt
    apply List.ext_getElem?
    intro i
    simp only [List.getElem?_append, List.length_append, List.length_take, List.getElem?_take, List.getElem?_drop, Array.toList_setIfInBounds, List.getElem?_set, List.length_set, Array.length_toList, List.length_cons]
    have e1 : min (off + (k + 1)) cs.size = off + k + 1 := by omega
    have e2 : min (off + k) cs.size = off + k := by omega
    rw [e1, e2]
    by_cases h1 : i < off + k
    · rw [if_pos (by omega), if_pos (by omega), if_pos (by omega), if_neg (by omega), if_pos (by omega), if_pos h1, if_pos h1]
    · by_cases h2 : i = off + k
      · subst h2
        rw [if_pos (by omega), if_pos (by omega), if_pos (by omega), if_pos rfl, if_pos (by omega), if_pos (by omega), if_neg (by omega)]
        simp
      · by_cases h3 : i < off + k + (ys.length + 1)
        · rw [if_pos (by omega), if_neg (by omega), if_pos h3, if_neg h1]
          rw [show i - (off + k) = (i - (off + k + 1)) + 1 from by omega, List.getElem?_cons_succ]
        · rw [if_neg (by omega), if_neg h3, if_neg (by omega)]
          congr 1
          omega
theorem fillC_ok {places : List (Nat × Nat)} {xs : List (Nat × G.T)} {vs : List (Nat × Value)} (hx : vs.map (·.1) = xs.map (·.1)) (hr : RepTs G w R n m (xs.map (·.2)) (vs.map (·.2))) :
    ∀ (cs : List G.C) (ws : Array Value) (cs' : List G.C), RepL G w R n m cs ws.toList → fillC G places cs xs = some cs' →
      ∃ ws', Instr.fill (fun i => places[i]?) ws vs = some ws' ∧ RepL G w R n m cs' ws'.toList := by
  induction xs generalizing vs with
  | nil =>
    intro cs ws cs' h hf
    cases vs with
    | nil => cases hf; exact ⟨ws, rfl, h⟩
    | cons => simp at hx
  | cons x xs ih =>
    intro cs ws cs' h hf
    cases vs with
    | nil => simp at hx
    | cons v vs =>
      obtain ⟨i, x⟩ := x
      obtain ⟨i', v⟩ := v
      simp only [List.map_cons, List.cons.injEq] at hx
      obtain ⟨rfl, hx⟩ := hx
      simp only [List.map_cons] at hr
      cases hr with
      | cons h1 h2 =>
        unfold fillC at hf
        split at hf
        · rename_i off size ys hp hy
          split at hf
          · rename_i hsz
            obtain ⟨hl, _⟩ := tcells_ok h1 hy
            have hvl : v.cells.size = size := by have := hl.1; rw [Array.length_toList] at this; omega
            have hws : ws.size = cs.length := by have := h.1; rw [Array.length_toList] at this; exact this
            have hset := foldl_set (off := off) v.cells.toList 0 ws (by rw [Array.length_toList]; omega)
            have hrep := h.setAt hl off (by omega)
            rw [show setAt ws.toList off v.cells.toList = _ from hset.symm] at hrep
            obtain ⟨ws', h3, h4⟩ := ih hx h2 _ _ _ hrep hf
            refine ⟨ws', ?_, h4⟩
            unfold Instr.fill
            rw [hp]
            have : ¬ (off + v.cells.size > ws.size) := by omega
            simp only [hvl, ne_eq, not_true_eq_false, decide_false, Bool.false_or]
            rw [if_neg (by simp; omega)]
            rw [← h3]
            congr 1
            rw [← Array.foldl_toList, Array.toList_zipIdx]
          · cases hf
        · cases hf
end
end Go.Proofs.Ytmdghocpelkcoaa
