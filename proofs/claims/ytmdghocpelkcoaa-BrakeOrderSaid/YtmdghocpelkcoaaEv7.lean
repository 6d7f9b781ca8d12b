/- The typed reading, operation by operation: those that make or write memory. -/
import Derived.Test.YtmdghocpelkcoaaEv6
import Derived.Laws.OwnMore
namespace Go.Proofs.Ytmdghocpelkcoaa
open Go.RowKit

variable {P : Program} (G : Sg P) {β : Type}
def pvs : List G.C → Option (List G.P')
  | [] => some []
  | .pv p :: cs => match pvs cs with
    | some ps => some (p :: ps)
    | none => none
  | _ => none
def rowsOf (u : G.U) : Nat → List G.C → Option (List (G.El u))
  | 0, _ => some []
  | k + 1, cs => match pvs G (cs.take (G.sz u)), rowsOf u k (cs.drop (G.sz u)) with
    | some ps, some l => match G.unrow u ps with
      | some x => some (x :: l)
      | none => none
    | _, _ => none
def boxK (hp : G.Hp) (x : G.T) (K : G.Hp → G.T → Option β) : Option β := match tcells G x with
  | some cs => if cs.all (fun c => match c with | .junk => false | _ => true) then K (hp ++ [.box cs]) (.c (.ptr hp.length 0)) else none
  | none => none
def allocK (P : Program) (hp : G.Hp) (t : TypeId) (K : G.Hp → G.T → Option β) : Option β := match zeroCells G P t with
  | some cs => K (hp ++ [.box cs]) (.c (.ptr hp.length 0))
  | none => none
/-- The cells of parts laid into a row of 'size' cells each. -/
def fillR (size : Nat) (cs : List G.C) : List (Nat × G.T) → Option (List G.C)
  | [] => some cs
  | (i, x) :: rest => match tcells G x with
    | some xs => if xs.length = size ∧ i * size + size ≤ cs.length then fillR size (setAt cs (i * size) xs) rest else none
    | none => none
def buildSliceK (hp : G.Hp) (t : TypeId) (n : Nat) (parts : List (Nat × G.T)) (K : G.Hp → G.T → Option β) : Option β := match G.elt t with
  | some u => if n * G.sz u ≤ 16777216 then (match fillR G (G.sz u) (List.replicate (n * G.sz u) .junk) parts with
    | some cs => match rowsOf G u n cs with
      | some l => K (hp ++ [.row false u l]) (.c (.os hp.length))
      | none => none
    | none => none) else none
  | none => none
def makeK (hp : G.Hp) (t : TypeId) (n c : G.T) (same : Bool) (K : G.Hp → G.T → Option β) : Option β := match G.elt t, valOf G n, valOf G c with
  | some u, some (.int _ n), some (.int _ c) => match same with
    | true => if 0 ≤ n ∧ n ≤ 16777216 then K (hp ++ [.row false u (List.replicate n.toNat (G.zero u))]) (.c (.os hp.length)) else none
    | false => if n = 0 then (if 0 ≤ c ∧ c ≤ 16777216 then K (hp ++ [.row false u []]) (.c (.os hp.length)) else none) else none
  | _, _, _ => none

section
variable {G} {w w' : World} {R R' : Nat → Prop} {n n' : Nat} {m m' : Nat → Value} {r : β} {N : Nat} {hp : G.Hp}
def mAt (m : Nat → Value) (k : Nat) (v : Value) : Nat → Value := fun o => if o = k then v else m o
theorem mAt_same (m : Nat → Value) (k : Nat) (v : Value) : mAt m k v k = v := if_pos rfl
theorem mAt_other (m : Nat → Value) (k : Nat) (v : Value) {o : Nat} (h : o ≠ k) : mAt m k v o = m o := if_neg h
theorem mAt_lt (m : Nat → Value) (k : Nat) (v : Value) : ∀ o, o < k → mAt m k v o = m o := fun _ h => mAt_other m k v (by omega)

/-- One new object. -/
theorem new_one (hh : HRel G N hp m w) (hsz : w.heap.size ≤ w'.heap.size) (hold : ∀ b, b < w.heap.size → w'.heap[b]? = w.heap[b]?) (ob : G.O) (v : Value) (hb : ∀ b, blkOf v = some b → w.heap.size ≤ b)
    (hnew : (∀ b, Rof G hp m w b → Rof G (hp ++ [ob]) (mAt m hp.length v) w' b) → RepO G w' (Rof G (hp ++ [ob]) (mAt m hp.length v) w') (hp.length + 1) (mAt m hp.length v) N hp.length ob) :
    HRel G N (hp ++ [ob]) (mAt m hp.length v) w' ∧ Keep G hp m w (hp ++ [ob]) (mAt m hp.length v) w' := by
  have hblk : ∀ (i : Nat) (ob' : G.O) (b : Nat), [ob][i]? = some ob' → ob'.live = true → blkOf (mAt m hp.length v (hp.length + i)) = some b → w.heap.size ≤ b := by
    intro i ob' b hi _ hbk
    cases i with
    | zero => rw [Nat.add_zero, mAt_same] at hbk; exact hb b hbk
    | succ i => cases hi
  refine hh.ext hsz hold [ob] (mAt_lt m _ v) (fun i ob' hi => ?_) hblk (fun i j ob1 ob2 b hi hj _ _ _ _ => ?_)
  · cases i with
    | zero => cases hi; have := hnew (rof_ext hsz [ob] (mAt_lt m _ v) hblk); simpa using this
    | succ i => cases hi
  · cases i with
    | zero => cases j with
      | zero => rfl
      | succ j => cases hj
    | succ i => cases hi

theorem new_box (hh : HRel G N hp m w) {cs : List G.C} {vs : Array Value} (t : TypeId) (hl : RepL G w (Rof G hp m w) hp.length m cs vs.toList) (h1 : ∀ x ∈ vs.toList, x.oneCell' = true) :
    HRel G N (hp ++ [.box cs]) (mAt m hp.length (.pointer (some ⟨w.heap.size, 0, none⟩))) (w.alloc (.cells vs t)) ∧ Keep G hp m w (hp ++ [.box cs]) (mAt m hp.length (.pointer (some ⟨w.heap.size, 0, none⟩))) (w.alloc (.cells vs t)) := by
  refine new_one hh (by simp) (fun b hb => heap_alloc_old w _ hb) _ _ (fun b hb => by cases hb; exact Nat.le_refl _) fun hro => ?_
  refine ⟨w.heap.size, t, vs, mAt_same _ _ _, hh.base, heap_alloc_new w _, ?_, h1⟩
  exact hl.mono hro (fun b hb => heap_alloc_old w _ hb.1) (by omega) (fun c _ o _ ho => mAt_lt m _ _ o ho)

theorem ptr_new (v : Value) {b : Nat} (hv : v = .pointer (some ⟨b, 0, none⟩)) (ob : G.O) : RepT G w R (hp ++ [ob]).length (mAt m hp.length v) (.c (.ptr hp.length 0)) v :=
  ⟨by simp, b, by rw [mAt_same]; exact hv, hv⟩
theorem os_new (v : Value) (hv : v.oneCell' = true) (ob : G.O) : RepT G w R (hp ++ [ob]).length (mAt m hp.length v) (.c (.os hp.length)) v :=
  ⟨by simp, by rw [mAt_same], hv⟩

/-- A new row. -/
theorem new_row (hh : HRel G N hp m w) (hsz : w.heap.size ≤ w'.heap.size) (hold : ∀ b, b < w.heap.size → w'.heap[b]? = w.heap[b]?) {u : G.U} {l : List (G.El u)} {v : Value} {xs : List Value}
    (hown : w'.ownsRow N (G.ty u) (G.sz u) v l.length xs) (hb : ∀ b, blkOf v = some b → w.heap.size ≤ b) (hrow : RowRep G w (Rof G hp m w) u l xs) (h1 : ∀ x ∈ xs, x.oneCell' = true) :
    HRel G N (hp ++ [.row false u l]) (mAt m hp.length v) w' ∧ Keep G hp m w (hp ++ [.row false u l]) (mAt m hp.length v) w' := by
  refine new_one hh hsz hold _ _ hb fun hro => ?_
  exact ⟨xs, by rw [mAt_same]; exact hown, hrow.mono hro (fun b hb => hold b hb.1), h1⟩

theorem oneOf {c : G.C} {x : Value} (hc : (match c with | .junk => false | _ => true) = true) (h : RepC G w R n m c x) : x.oneCell' = true := by
  cases c with
  | junk => cases hc
  | pv p => exact RepP.one G h
  | os o => exact h.2.2
  | ptr o off => obtain ⟨_, b, _, rfl⟩ := h; rfl
  | rp cells => obtain ⟨b, off, rfl, _⟩ := h; rfl
  | ep u o i j => obtain ⟨_, b, _, _, _, _, rfl⟩ := h; rfl
  | clo f caps => obtain ⟨vs, rfl, _⟩ := h; rfl
  | fn u r F => obtain ⟨g, caps, rfl, _⟩ := h; rfl
theorem oneAll {cs : List G.C} {vs : List Value} (hc : cs.all (fun c => match c with | .junk => false | _ => true) = true) (h : RepL G w R n m cs vs) : ∀ x ∈ vs, x.oneCell' = true := by
  intro x hx
  obtain ⟨i, hi, rfl⟩ := List.mem_iff_getElem.1 hx
  have hlt : i < cs.length := by rw [← h.1]; exact hi
  obtain ⟨y, h1, h2⟩ := h.2 i cs[i] (List.getElem?_eq_getElem hlt)
  rw [List.getElem?_eq_getElem hi] at h1
  cases h1
  exact oneOf (List.all_eq_true.1 hc _ (List.getElem_mem hlt)) h2

/-- What every operation leaves: the run, the objects, the result. -/
def Made (G : Sg P) (N : Nat) (hp : G.Hp) (m : Nat → Value) (w : World) (s : Sem Value) (K : G.Hp → G.T → Option β) (r : β) : Prop :=
  ∃ v w' hp' m' x, s.run P w = .ok v w' ∧ HRel G N hp' m' w' ∧ Keep G hp m w hp' m' w' ∧ hp.length ≤ hp'.length ∧ (Below N w w' ∧ ∀ b, b < w.heap.size → w'.heap[b]? = w.heap[b]?) ∧ RepT G w' (Rof G hp' m' w') hp'.length m' x v ∧ K hp' x = some r

theorem boxK_ok {t : TypeId} {x : G.T} {v : Value} {K : G.Hp → G.T → Option β} (hh : HRel G N hp m w) (hx : RepT G w (Rof G hp m w) hp.length m x v) (h : boxK G hp x K = some r) : Made G N hp m w (Instr.box t v) K r := by
  unfold boxK at h
  split at h
  · rename_i cs hcs
    split at h
    · rename_i hall
      obtain ⟨hl, _⟩ := tcells_ok hx hcs
      obtain ⟨h1, h2⟩ := new_box hh t hl (oneAll hall hl)
      exact ⟨_, _, _, _, _, by simp [Instr.box, newVar, newRow, newObj, Sem.run], h1, h2, by simp, ⟨(Below.refl _ _).alloc hh.base _, fun b hb => heap_alloc_old w _ hb⟩, ptr_new _ rfl _, h⟩
    · cases h
  · cases h
theorem zeroCells_ok {t : TypeId} {cs : List G.C} (h : zeroCells G P t = some cs) : ∃ z, (zeroValue t).run P w = .ok z w ∧ RepL G w R n m cs z.cells.toList ∧ ∀ x ∈ z.cells.toList, x.oneCell' = true := by
  unfold zeroCells at h
  split at h
  · rename_i i hi
    split at h
    · rename_i z hz
      split at h
      · rename_i hall
        cases h
        refine ⟨z, by simp [zeroValue, typeInfo, hi, hz], ⟨by simp, fun j c hj => ?_⟩, fun x hx => List.all_eq_true.1 hall x hx⟩
        rw [List.getElem?_map] at hj
        cases hv : z.cells.toList[j]? with
        | none => rw [hv] at hj; cases hj
        | some v => rw [hv] at hj; cases hj; exact ⟨v, rfl, RepP.val v (List.all_eq_true.1 hall v (List.mem_of_getElem? hv))⟩
      · cases h
    · cases h
  · cases h
theorem allocK_ok {t : TypeId} {K : G.Hp → G.T → Option β} (hh : HRel G N hp m w) (h : allocK G P hp t K = some r) : Made G N hp m w (Instr.alloc t true (.tuple #[])) K r := by
  unfold allocK at h
  split at h
  · rename_i cs hcs
    obtain ⟨z, hz, hl, h1⟩ := zeroCells_ok (w := w) (R := Rof G hp m w) (n := hp.length) (m := m) hcs
    obtain ⟨h2, h3⟩ := new_box hh t hl h1
    exact ⟨_, _, _, _, _, by simp [Instr.alloc, hz, newVar, newRow, newObj, Sem.run], h2, h3, by simp, ⟨(Below.refl _ _).alloc hh.base _, fun b hb => heap_alloc_old w _ hb⟩, ptr_new _ rfl _, h⟩
  · cases h
end
end Go.Proofs.Ytmdghocpelkcoaa
