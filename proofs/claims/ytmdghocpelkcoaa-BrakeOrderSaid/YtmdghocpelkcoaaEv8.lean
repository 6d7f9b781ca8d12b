/- The typed reading: rows that are built or made. -/
import Derived.Test.YtmdghocpelkcoaaEv7
namespace Go.Proofs.Ytmdghocpelkcoaa
open Go.RowKit

variable {P : Program} {G : Sg P} {β : Type}
section
variable {w w' : World} {R R' : Nat → Prop} {n n' : Nat} {m m' : Nat → Value} {r : β} {N : Nat} {hp : G.Hp}

theorem fillR_ok {size : Nat} {xs : List (Nat × G.T)} {vs : List (Nat × Value)} (hx : vs.map (·.1) = xs.map (·.1)) (hr : RepTs G w R n m (xs.map (·.2)) (vs.map (·.2))) :
    ∀ (cs : List G.C) (ws : Array Value) (cs' : List G.C), RepL G w R n m cs ws.toList → fillR G size cs xs = some cs' →
      ∃ ws', Instr.fill (fun i => some (i * size, size)) ws vs = some ws' ∧ RepL G w R n m cs' ws'.toList ∧ cs'.length = cs.length := by
  induction xs generalizing vs with
  | nil =>
    intro cs ws cs' h hf
    cases vs with
    | nil => cases hf; exact ⟨ws, rfl, h, rfl⟩
    | cons => simp at hx
  | cons x xs ih =>
    intro cs ws cs' h hf
    cases vs with
    | nil => simp at hx
    | cons v vs =>
      obtain ⟨i, x⟩ := x
      obtain ⟨i', v⟩ := v
      simp only [List.map_cons, List.cons.injEq] at hx
      obtain ⟨rfl, hx⟩ := hx
      simp only [List.map_cons] at hr
      cases hr with
      | cons h1 h2 =>
        unfold fillR at hf
        split at hf
        · rename_i ys hy
          split at hf
          · rename_i hsz
            obtain ⟨hl, _⟩ := tcells_ok h1 hy
            have hvl : v.cells.size = size := by have := hl.1; rw [Array.length_toList] at this; omega
            have hws : ws.size = cs.length := by have := h.1; rw [Array.length_toList] at this; exact this
            have hset := foldl_set (off := i' * size) v.cells.toList 0 ws (by rw [Array.length_toList]; omega)
            have hrep := h.setAt hl (i' * size) (by omega)
            rw [show setAt ws.toList (i' * size) v.cells.toList = _ from hset.symm] at hrep
            obtain ⟨ws', h3, h4, h5⟩ := ih hx h2 _ _ _ hrep hf
            refine ⟨ws', ?_, h4, by rw [h5]; simp [setAt]; omega⟩
            unfold Instr.fill
            simp only [hvl, ne_eq, not_true_eq_false, decide_false, Bool.false_or]
            rw [if_neg (by simp; omega)]
            rw [← h3]
            congr 1
            rw [← Array.foldl_toList, Array.toList_zipIdx]
          · cases hf
        · cases hf
theorem RepL_junk (k : Nat) {vs : List Value} (h : vs.length = k) : RepL G w R n m (List.replicate k .junk) vs :=
  ⟨by simpa using h, fun i c hi => by
    rw [List.getElem?_replicate] at hi
    split at hi
    · rename_i hlt
      cases hi
      exact ⟨vs[i]'(by omega), List.getElem?_eq_getElem _, trivial⟩
    · cases hi⟩
theorem pvs_ok : ∀ {cs : List G.C} {ps : List G.P'} {vs : List Value}, pvs G cs = some ps → RepL G w R n m cs vs → vs.length = ps.length ∧ ∀ (j : Nat) (p : G.P'), ps[j]? = some p → ∃ x, vs[j]? = some x ∧ RepP G w R p x
  | [], ps, vs, h, hl => by cases h; exact ⟨hl.1, by simp⟩
  | c :: cs, ps, vs, h, hl => by
    unfold pvs at h
    split at h
    · rename_i he; cases he
    · rename_i p cs' he
      cases he
      split at h
      · rename_i ps' hps
        cases h
        cases vs with
        | nil => have := hl.1; simp at this
        | cons v vs =>
          have htl : RepL G w R n m cs vs := by have := hl.drop 1; simpa using this
          obtain ⟨h1, h2⟩ := pvs_ok hps htl
          refine ⟨by simp [h1], fun j p' hj => ?_⟩
          cases j with
          | zero =>
            cases hj
            obtain ⟨x, h3, h4⟩ := hl.2 0 _ rfl
            exact ⟨x, h3, h4⟩
          | succ j => exact h2 j p' hj
      · cases h
    · cases h
/-- Cells that read as the cells of an element. -/
theorem unrow_ok (hok : G.Ok) {u : G.U} {ps : List G.P'} {x : G.El u} {vs : List Value} (h : G.unrow u ps = some x) (h1 : vs.length = ps.length) (h2 : ∀ (j : Nat) (p : G.P'), ps[j]? = some p → ∃ x, vs[j]? = some x ∧ RepP G w R p x) :
    vs.length = G.sz u ∧ ∀ (j : Nat) (p : G.P'), (G.row u x)[j]? = some p → ∃ v, vs[j]? = some v ∧ RepP G w R p v := by
  obtain ⟨h3, h4⟩ := hok.unrow u ps x h
  refine ⟨by omega, fun j p hj => ?_⟩
  have hlt : j < ps.length := by
    have := (List.getElem?_eq_some_iff.1 hj).1
    rw [hok.row_sz] at this
    omega
  obtain ⟨q, h5, h6⟩ := h4 j _ (List.getElem?_eq_getElem hlt)
  rw [hj] at h5
  cases h5
  obtain ⟨v, h7, h8⟩ := h2 j _ (List.getElem?_eq_getElem hlt)
  exact ⟨v, h7, RepP.weak G h8 h6⟩
theorem rowsOf_ok (hok : G.Ok) {u : G.U} : ∀ {k : Nat} {cs : List G.C} {l : List (G.El u)} {vs : List Value}, rowsOf G u k cs = some l → cs.length = k * G.sz u → RepL G w R n m cs vs →
    l.length = k ∧ RowRep G w R u l vs ∧ ∀ x ∈ vs, x.oneCell' = true
  | 0, cs, l, vs, h, hc, hl => by
    cases h
    have : vs = [] := List.eq_nil_of_length_eq_zero (by have := hl.1; omega)
    subst this
    exact ⟨rfl, fun k x j p hk => by simp at hk, by simp⟩
  | k + 1, cs, l, vs, h, hc, hl => by
    have hpos := hok.pos u
    have hck : cs.length = k * G.sz u + G.sz u := by rw [hc, Nat.succ_mul]
    unfold rowsOf at h
    split at h
    · rename_i ps l' hps hl'
      split at h
      · rename_i x hx
        cases h
        obtain ⟨h1, h2⟩ := pvs_ok hps (hl.take (G.sz u))
        obtain ⟨h3, h4⟩ := unrow_ok hok hx h1 h2
        obtain ⟨h5, h6, h7⟩ := rowsOf_ok hok hl' (by rw [List.length_drop, hck]; omega) (hl.drop (G.sz u))
        refine ⟨by simp [h5], fun i y j p hi hj => ?_, fun y hy => ?_⟩
        · have hjs : j < G.sz u := by
            have := (List.getElem?_eq_some_iff.1 hj).1
            rw [hok.row_sz] at this
            exact this
          cases i with
          | zero =>
            cases hi
            obtain ⟨v, h8, h9⟩ := h4 j p hj
            rw [List.getElem?_take, if_pos hjs] at h8
            exact ⟨v, by simpa using h8, h9⟩
          | succ i =>
            obtain ⟨cv, h8, h9⟩ := h6 i y j p hi hj
            rw [List.getElem?_drop] at h8
            refine ⟨cv, ?_, h9⟩
            rw [← h8]
            congr 1
            rw [Nat.succ_mul]
            omega
        · rw [← List.take_append_drop (G.sz u) vs] at hy
          rcases List.mem_append.1 hy with hy | hy
          · obtain ⟨j, hj, rfl⟩ := List.mem_iff_getElem.1 hy
            have hjp : j < (G.row u x).length := by rw [hok.row_sz, ← h3]; exact hj
            obtain ⟨v, h8, h9⟩ := h4 j _ (List.getElem?_eq_getElem hjp)
            rw [List.getElem?_eq_getElem hj] at h8
            cases h8
            exact RepP.one G h9
          · exact h7 y hy
      · cases h
    · cases h

theorem buildSliceK_ok (hok : G.Ok) {t : TypeId} {k : Nat} {xs : List (Nat × G.T)} {vs : Array (Nat × Value)} {K : G.Hp → G.T → Option β} (hh : HRel G N hp m w) (hx : vs.toList.map (·.1) = xs.map (·.1))
    (hr : RepTs G w (Rof G hp m w) hp.length m (xs.map (·.2)) (vs.toList.map (·.2))) (h : buildSliceK G hp t k xs K = some r) : Made G N hp m w (Instr.buildSlice t k vs) K r := by
  unfold buildSliceK at h
  split at h
  · rename_i u hu
    split at h
    · rename_i hsz
      split at h
      · rename_i cs hcs
        split at h
        · rename_i l hl
          have hund := hok.elt t u hu
          obtain ⟨i, z, hi, hz, hisz, hzs, _, _, _⟩ := hok.info u
          have hpos := hok.pos u
          let Z : Array Value := (Array.range (k * G.sz u)).map ((if k * G.sz u = 0 then #[] else z.cells)[· % (if k * G.sz u = 0 then (#[] : Array Value) else z.cells).size]!)
          have hZ : Z.toList.length = k * G.sz u := by simp [Z]
          obtain ⟨ws, h1, h2, h3⟩ := fillR_ok (size := G.sz u) hx hr _ Z cs (RepL_junk _ hZ) hcs
          obtain ⟨h4, h5, h6⟩ := rowsOf_ok hok hl (by rw [h3]; simp) h2
          have hws : ws.size = k * G.sz u := by have := h2.1; rw [h3] at this; simpa using this
          have hk : k ≤ maxLen := by
            have : k ≤ k * G.sz u := Nat.le_mul_of_pos_right _ hpos
            unfold maxLen; omega
          have hown := World.ownsRow_lit (e := G.ty u) w ws k hh.base hk hws
          obtain ⟨h7, h8⟩ := new_row hh (by simp) (fun b hb => heap_alloc_old w _ hb) (by rw [h4]; exact hown) (fun b hb => by cases hb; exact Nat.le_refl _) h5 h6
          refine ⟨_, _, _, _, _, ?_, h7, h8, by simp, ⟨(Below.refl _ _).alloc hh.base _, fun b hb => heap_alloc_old w _ hb⟩, os_new _ rfl _, h⟩
          unfold Instr.buildSlice
          simp only [Sem.run_bind, run_underlying hund, Result.andThen_ok, sizeOf, typeInfo, run_program, hi, Sem.run_pure, hisz]
          rw [if_neg (by omega)]
          by_cases h0 : k * G.sz u = 0
          · rw [if_pos h0]
            simp only [Z, if_pos h0] at h1
            simp only [Sem.run_bind, Sem.run_pure, Result.andThen_ok]
            rw [h1]
            simp [newRow, newObj, Sem.run]
          · rw [if_neg h0]
            simp only [Z, if_neg h0] at h1
            simp only [Sem.run_bind, Sem.run_pure, Result.andThen_ok, zeroValue, typeInfo, run_program, hi, hz]
            rw [h1]
            simp [newRow, newObj, Sem.run]
        · cases h
      · cases h
    · cases h
  · cases h

theorem makeK_ok (hok : G.Ok) {t : TypeId} {a b : G.T} {va vb : Value} {same : Bool} {K : G.Hp → G.T → Option β} (hh : HRel G N hp m w) (ha : RepT G w (Rof G hp m w) hp.length m a va) (hb : RepT G w (Rof G hp m w) hp.length m b vb)
    (hs : same = true → va = vb) (h : makeK G hp t a b same K = some r) : Made G N hp m w (Instr.makeSlice t va vb) K r := by
  unfold makeK at h
  split at h
  · rename_i u k1 z1 k2 z2 hu h1 h2
    obtain ⟨rfl, _⟩ := valOf_rep h1 ha
    obtain ⟨rfl, _⟩ := valOf_rep h2 hb
    have hund := hok.elt t u hu
    obtain ⟨i, z, hi, hz, hisz, hzs, hby, hzr, hz1⟩ := hok.info u
    have hpos := hok.pos u
    split at h
    · split at h
      · rename_i hlim
        have he := hs rfl
        cases he
        obtain ⟨c, rfl⟩ : ∃ c : Nat, z1 = c := ⟨z1.toNat, by omega⟩
        rw [Int.toNat_natCast] at h
        have hc : c ≤ 16777216 := by omega
        have hbytes : i.bytes * c ≤ 281474976710656 := Nat.le_trans (Nat.mul_le_mul hby hc) (by decide)
        obtain ⟨w', h3, h4, h5⟩ := run_make_full (P := P) w N t (G.ty u) i z (G.sz u) hund hi hz hisz k1 k1 c hbytes (by unfold maxLen; omega) hh.base
        have hrow : RowRep G w (Rof G hp m w) u (List.replicate c (G.zero u)) (madeCells z.cells (c * G.sz u)).toList := by
          intro k x j p hk hj
          rw [List.getElem?_replicate] at hk
          split at hk
          · rename_i hkc
            cases hk
            have hjs := (List.getElem?_eq_some_iff.1 hj).1
            rw [hok.row_sz] at hjs
            have hlt : k * G.sz u + j < c * G.sz u := by
              have : (k + 1) * G.sz u ≤ c * G.sz u := Nat.mul_le_mul_right _ hkc
              rw [Nat.succ_mul] at this; omega
            obtain ⟨v, hv, hwk⟩ := hzr j p hj
            refine ⟨v, ?_, RepP.weak G (RepP.val v (hz1 v (List.mem_of_getElem? hv))) hwk⟩
            have hmod : (k * G.sz u + j) % z.cells.size = j := by
              rw [hzs, Nat.mul_comm, Nat.mul_add_mod, Nat.mod_eq_of_lt hjs]
            have hjz : j < z.cells.size := by omega
            simp only [madeCells, Array.toList_map, List.getElem?_map, Array.toList_range, List.getElem?_range hlt, Option.map_some, hmod]
            rw [getElem!_pos z.cells j hjz]
            rw [Array.getElem?_toList, Array.getElem?_eq_getElem hjz] at hv
            exact hv
          · cases hk
        have h1' : ∀ x ∈ (madeCells z.cells (c * G.sz u)).toList, x.oneCell' = true := by
          intro x hx
          simp only [madeCells, Array.toList_map, List.mem_map] at hx
          obtain ⟨q, _, rfl⟩ := hx
          have : q % z.cells.size < z.cells.size := Nat.mod_lt _ (by omega)
          rw [getElem!_pos z.cells _ this]
          exact hz1 _ (by simp)
        obtain ⟨h6, h7⟩ := new_row hh h5.size (fun b hb => h5.block b hb (by simp)) (l := List.replicate c (G.zero u)) (by rw [List.length_replicate]; exact h4) (fun b hb => by cases hb; exact Nat.le_refl _) hrow h1'
        exact ⟨_, _, _, _, _, h3, h6, h7, by simp, ⟨(Below.refl _ _).grown h5 hh.base (by simp), fun b hb => h5.block b hb (by simp)⟩, os_new _ rfl _, h⟩
      · cases h
    · split at h
      · rename_i hn
        subst hn
        split at h
        · rename_i hlim
          obtain ⟨c, rfl⟩ : ∃ c : Nat, z2 = c := ⟨z2.toNat, by omega⟩
          have hc : c ≤ 16777216 := by omega
          have hbytes : i.bytes * c ≤ 281474976710656 := Nat.le_trans (Nat.mul_le_mul hby hc) (by decide)
          obtain ⟨w', h3, h4, h5⟩ := run_make_own (P := P) w N t (G.ty u) i z (G.sz u) hund hi hz hisz k1 k2 c hbytes (by unfold maxLen; omega) hh.base
          obtain ⟨h6, h7⟩ := new_row hh h5.size (fun b hb => h5.block b hb (by simp)) (l := ([] : List (G.El u))) h4 (fun b hb => by cases hb; exact Nat.le_refl _) (by intro k x j p hk; simp at hk) (by simp)
          exact ⟨_, _, _, _, _, h3, h6, h7, by simp, ⟨(Below.refl _ _).grown h5 hh.base (by simp), fun b hb => h5.block b hb (by simp)⟩, os_new _ rfl _, h⟩
        · cases h
      · cases h
  · cases h
end
end Go.Proofs.Ytmdghocpelkcoaa
