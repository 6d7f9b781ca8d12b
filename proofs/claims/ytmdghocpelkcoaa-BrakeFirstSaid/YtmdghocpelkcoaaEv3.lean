/- The typed reading, operation by operation: those that read memory. -/
import Derived.Test.YtmdghocpelkcoaaEv2
namespace Go.Proofs.Ytmdghocpelkcoaa
open Go.RowKit

variable {P : Program} (G : Sg P) {β : Type}
def isAggD : TypeDesc → Bool
  | .struct _ | .array _ _ => true
  | _ => false
def shapeP (P : Program) (t : TypeId) : Option (Bool × Nat) := match P.underlying t, P.info? t with
  | some d, some i => some (isAggD d, i.size)
  | _, _ => none
def takeT (s : Bool × Nat) (cs : List G.C) : Option G.T := match s.1 with
  | true => if s.2 ≤ cs.length then some (.agg (cs.take s.2)) else none
  | false => match cs with
    | c :: _ => some (.c c)
    | [] => none
def eqU (u v : G.U) : Bool := @decide (u = v) (G.deq u v)
/-- The cells that lie at an address, from it on. -/
def cellsK (hp : G.Hp) (a : G.T) (K : List G.C → Option β) : Option β := match a with
  | .c (.ptr o off) => match hp[o]? with
    | some (.box cs) => K (cs.drop off)
    | some (.lock cs) => K (cs.drop off)
    | _ => none
  | .c (.rp cells) => K (cells.map .pv)
  | .c (.ep u o i j) => match hp[o]? with
    | some (.row _ u' l) => if eqU G u' u then (l[i]?).bind fun x => K (((G.row u' x).drop j).map .pv) else none
    | _ => none
  | _ => none
def loadK (hp : G.Hp) (t : TypeId) (a : G.T) (K : G.T → Option β) : Option β := match shapeP P t with
  | some s => cellsK G hp a fun cs => match takeT G s cs with
    | some x => K x
    | none => none
  | none => none
def fieldOff (P : Program) (s : TypeId) (f : Nat) : Option Nat := match P.underlying s with
  | some (.struct fs) => match fs[f]? with
    | some fl => match P.info? fl.type with
      | some i => match i.size with
        | 0 => none
        | _ => some fl.offset
      | none => none
    | none => none
  | _ => none
def fieldAddrK (s : TypeId) (a : G.T) (f : Nat) (K : G.T → Option β) : Option β := match fieldOff P s f with
  | some k => match a with
    | .c (.ptr o off) => K (.c (.ptr o (off + k)))
    | .c (.rp cells) => K (.c (.rp (cells.drop k)))
    | .c (.ep u o i j) => K (.c (.ep u o i (j + k)))
    | _ => none
  | none => none
def idx {α : Type} (l : List α) (i : Int) : Option α := if 0 ≤ i then l[i.toNat]? else none
def indexAddrK (hp : G.Hp) (t : TypeId) (a i : G.T) (K : G.T → Option β) : Option β := match G.elt t, i with
  | some v, .c (.pv (.val (.int _ i))) => match a with
    | .c (.pv (.sl u l)) => if eqU G u v then (idx l i).bind fun x => K (.c (.rp (G.row u x))) else none
    | .c (.os o) => match hp[o]? with
      | some (.row _ u l) => if eqU G u v then (idx l i).bind fun _ => K (.c (.ep u o i.toNat 0)) else none
      | _ => none
    | _ => none
  | _, _ => none

section
variable {G} {w : World} {R : Nat → Prop} {n : Nat} {m : Nat → Value} {r : β}
theorem idx_some {α : Type} {l : List α} {i : Int} {x : α} (h : idx l i = some x) : 0 ≤ i ∧ l[i.toNat]? = some x ∧ i < l.length := by
  unfold idx at h
  split at h
  · rename_i h0
    have := (List.getElem?_eq_some_iff.1 h).1
    exact ⟨h0, h, by omega⟩
  · cases h
theorem RepL.drop {cs : List G.C} {vs : List Value} (h : RepL G w R n m cs vs) (k : Nat) : RepL G w R n m (cs.drop k) (vs.drop k) :=
  ⟨by simp [h.1], fun i c hi => by
    rw [List.getElem?_drop] at hi
    obtain ⟨x, h3, h4⟩ := h.2 _ c hi
    exact ⟨x, by rw [List.getElem?_drop]; exact h3, h4⟩⟩
theorem RepL.take {cs : List G.C} {vs : List Value} (h : RepL G w R n m cs vs) (k : Nat) : RepL G w R n m (cs.take k) (vs.take k) :=
  ⟨by simp [h.1], fun i c hi => by
    rw [List.getElem?_take] at hi ⊢
    split at hi
    · rename_i hlt; rw [if_pos hlt]; exact h.2 _ c hi
    · cases hi⟩
theorem eqU_of {u v : G.U} (h : eqU G u v = true) : u = v := by
  unfold eqU at h; exact @of_decide_eq_true _ (G.deq u v) h
theorem shapeP_some {t : TypeId} {s : Bool × Nat} (h : shapeP P t = some s) : ∃ d i, P.underlying t = some d ∧ P.info? t = some i ∧ s = (isAggD d, i.size) := by
  unfold shapeP at h
  split at h
  · rename_i d i h1 h2; exact ⟨d, i, h1, h2, (Option.some.inj h).symm⟩
  · cases h
theorem run_isAgg {t : TypeId} {d : TypeDesc} (h : P.underlying t = some d) : (isAgg t).run P w = .ok (isAggD d) w := by
  unfold isAgg
  simp only [Sem.run_bind, run_underlying h, Result.andThen_ok]
  cases d <;> rfl
/-- A variable is loaded. -/
theorem loadVar_ok {t : TypeId} {s : Bool × Nat} (hs : shapeP P t = some s) {b off : Nat} {cs : List G.C} {vs : List Value} {x : G.T} (hr : RepL G w R n m cs vs)
    (hv : ∀ j v, vs[j]? = some v → w.cell? ⟨b, off + j, none⟩ = some v) (ht : takeT G s cs = some x) : ∃ v, (∀ w', (∀ j, w'.cell? ⟨b, off + j, none⟩ = w.cell? ⟨b, off + j, none⟩) → (loadVar t ⟨b, off, none⟩).run P w' = .ok v w') ∧ RepT G w R n m x v := by
  obtain ⟨d, i, h1, h2, rfl⟩ := shapeP_some hs
  unfold takeT at ht
  unfold loadVar
  simp only [Sem.run_bind, run_isAgg h1, Result.andThen_ok]
  cases hd : isAggD d with
  | true =>
    simp only [hd] at ht
    split at ht
    · rename_i hlen
      cases ht
      have hl : (vs.take i.size).length = i.size := by rw [List.length_take, hr.1]; omega
      have hrun := fun (w' : World) (hw : ∀ j, w'.cell? ⟨b, off + j, none⟩ = w.cell? ⟨b, off + j, none⟩) => run_loadCells_list (P := P) (w := w') ⟨b, off, none⟩ (vs.take i.size) (fun j v hj => by
        rw [Addr.add_lit, hw]
        apply hv j v
        rw [List.getElem?_take] at hj
        split at hj
        · exact hj
        · cases hj)
      rw [hl] at hrun
      refine ⟨.agg (vs.take i.size).toArray, ?_, _, rfl, hr.take _⟩
      intro w' hw
      simp [sizeOf, typeInfo, h2, hrun w' hw]
    · cases ht
  | false =>
    simp only [hd] at ht
    split at ht
    · rename_i c cs
      cases ht
      obtain ⟨v, h3, h4⟩ := hr.2 0 c rfl
      refine ⟨v, ?_, h4⟩
      have := hv 0 v h3
      intro w' hw
      rw [← hw] at this
      simp only [Nat.add_zero] at this
      simp [run_load, this]
    · cases ht

theorem RepL_pv {ps : List G.P'} {vs : List Value} (h1 : vs.length = ps.length) (h2 : ∀ (j : Nat) (p : G.P'), ps[j]? = some p → ∃ x, vs[j]? = some x ∧ RepP G w R p x) : RepL G w R n m (ps.map .pv) vs :=
  ⟨by simpa using h1, fun i c hi => by
    rw [List.getElem?_map] at hi
    cases hp : ps[i]? with
    | none => rw [hp] at hi; cases hi
    | some p => rw [hp] at hi; cases hi; exact h2 i p hp⟩

/-- The block that an address looks into. -/
def LdAt (G : Sg P) (hp : G.Hp) (m : Nat → Value) (w : World) (a : G.T) (b : Nat) : Prop := match a with
  | .c (.ptr o _) => blkOf (m o) = some b
  | .c (.ep _ o _ _) => blkOf (m o) = some b
  | .c (.rp _) => Rof G hp m w b
  | _ => True
/-- What is known of an address. -/
theorem cellsK_ok {N : Nat} {hp : G.Hp} {a : G.T} {va : Value} {K : List G.C → Option β} (hok : G.Ok) (hh : HRel G N hp m w) (ha : RepT G w (Rof G hp m w) hp.length m a va) (h : cellsK G hp a K = some r) :
    ∃ b off cs vs, va = .pointer (some ⟨b, off, none⟩) ∧ (b < w.heap.size ∧ LdAt G hp m w a b) ∧ RepL G w (Rof G hp m w) hp.length m cs vs ∧ (∀ j v, vs[j]? = some v → w.cell? ⟨b, off + j, none⟩ = some v) ∧ K cs = some r := by
  unfold cellsK at h
  have box : ∀ o off cs, RepO G w (Rof G hp m w) hp.length m N o (.box cs) → RepT G w (Rof G hp m w) hp.length m (.c (.ptr o off)) va → K (cs.drop off) = some r →
      ∃ b off cs vs, va = .pointer (some ⟨b, off, none⟩) ∧ (b < w.heap.size ∧ blkOf (m o) = some b) ∧ RepL G w (Rof G hp m w) hp.length m cs vs ∧ (∀ j v, vs[j]? = some v → w.cell? ⟨b, off + j, none⟩ = some v) ∧ K cs = some r := by
    intro o off cs ho ha h
    obtain ⟨b, t, vs, e1, _, e2, e3, _⟩ := ho
    obtain ⟨_, b', e4, rfl⟩ := ha
    rw [e1] at e4
    cases e4
    refine ⟨b, off, cs.drop off, vs.toList.drop off, rfl, ⟨(Array.getElem?_eq_some_iff.1 e2).1, by rw [e1]; rfl⟩, e3.drop off, fun j v hj => ?_, h⟩
    rw [cell_of_row w b (off + j) vs t (0, 0) e2]
    rw [List.getElem?_drop] at hj
    simpa using hj
  split at h
  · rename_i o off
    split at h
    · rename_i cs ho; exact box o off cs (hh.obj o _ ho) ha h
    · rename_i cs ho; exact box o off cs (show RepO G w _ _ m N o (.lock cs) from hh.obj o (.lock cs) ho) ha h
    · cases h
  · rename_i cells
    obtain ⟨b, off, rfl, hbR, hc⟩ := ha
    have hex : ∃ vs : List Value, vs.length = cells.length ∧ ∀ (j : Nat) (p : G.P'), cells[j]? = some p → ∃ x, vs[j]? = some x ∧ w.cell? ⟨b, off + j, none⟩ = some x ∧ RepP G w (Rof G hp m w) p x := by
      clear h
      refine ⟨(List.range cells.length).map fun j => (w.cell? ⟨b, off + j, none⟩).getD undef, by simp, fun j p hj => ?_⟩
      obtain ⟨cv, h1, h2⟩ := hc j p hj
      have hlt := (List.getElem?_eq_some_iff.1 hj).1
      refine ⟨cv, ?_, h1, h2⟩
      simp [hlt, h1]
    obtain ⟨vs, h1, h2⟩ := hex
    refine ⟨b, off, cells.map .pv, vs, rfl, ⟨hbR.1, hbR⟩, RepL_pv h1 fun j p hj => by obtain ⟨x, h3, _, h4⟩ := h2 j p hj; exact ⟨x, h3, h4⟩, fun j v hj => ?_, h⟩
    have hlt := (List.getElem?_eq_some_iff.1 hj).1
    obtain ⟨x, h3, h4, _⟩ := h2 j (cells[j]'(by omega)) (List.getElem?_eq_getElem _)
    rw [h3] at hj
    cases hj
    exact h4
  · rename_i u o i j
    split at h
    · rename_i lk u' l ho
      split at h
      · rename_i hu
        obtain rfl := eqU_of hu
        rw [Option.bind_eq_some_iff] at h
        obtain ⟨x, hx, h⟩ := h
        obtain ⟨xs, h1, h2, _⟩ := hh.obj o _ ho
        obtain ⟨_, b, k, cap, e1, e2, rfl⟩ := ha
        rw [e1] at h1
        have hbs : b < w.heap.size := by
          rcases h1.2 with ⟨e, _⟩ | ⟨g, cap', cur, e, _, hg, _⟩
          · cases e
          · cases e; exact (Array.getElem?_eq_some_iff.1 hg).1
        have hk : k = l.length := by
          rcases h1.2 with ⟨e, _⟩ | ⟨g, cap', cur, e, _⟩
          · cases e
          · cases e; rfl
        subst hk
        have hrow := hok.row_sz u' x
        have hi := (List.getElem?_eq_some_iff.1 hx).1
        have hlen := h1.1
        have hle : i * G.sz u' + G.sz u' ≤ l.length * G.sz u' := by
          rw [← Nat.succ_mul]; exact Nat.mul_le_mul_right _ hi
        refine ⟨b, i * G.sz u' + j, ((G.row u' x).drop j).map .pv, ((xs.drop (i * G.sz u')).take (G.sz u')).drop j, rfl, ⟨hbs, show blkOf (m o) = some b by rw [e1]; rfl⟩, RepL_pv (by simp only [List.length_drop, List.length_take, hrow, hlen]; omega) (fun k p hk => ?_), fun k v hk => ?_, h⟩
        · rw [List.getElem?_drop] at hk
          obtain ⟨cv, h3, h4⟩ := h2 i x (j + k) p hx hk
          have := (List.getElem?_eq_some_iff.1 hk).1
          refine ⟨cv, ?_, h4⟩
          rw [List.getElem?_drop, List.getElem?_take, if_pos (by omega), List.getElem?_drop]
          exact h3
        · rw [List.getElem?_drop, List.getElem?_take] at hk
          split at hk
          · rw [List.getElem?_drop] at hk
            have := h1.cellAt (i * G.sz u' + (j + k)) (by omega)
            rw [Nat.add_assoc, this]
            exact hk
          · cases hk
      · cases h
    · cases h
  · cases h
end
end Go.Proofs.Ytmdghocpelkcoaa
