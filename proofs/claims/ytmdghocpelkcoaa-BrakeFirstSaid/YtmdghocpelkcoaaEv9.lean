/- The typed reading: stores and appends. -/
import Derived.Test.YtmdghocpelkcoaaEv8
namespace Go.Proofs.Ytmdghocpelkcoaa
open Go.RowKit

variable {P : Program} (G : Sg P) {β : Type}
def sound' (cs : List G.C) : Bool := cs.all (fun c => match c with | .junk => false | _ => true)
def storeK (P : Program) (hp : G.Hp) (t : TypeId) (a x : G.T) (K : G.Hp → Option β) : Option β := match tcells G x, shapeP P t with
  | some xs, some s => if sound' G xs = true ∧ xs.length = s.2 then (match a with
    | .c (.ptr o off) => match hp[o]? with
      | some (.box cs) => if off + xs.length ≤ cs.length then K (hp.set o (.box (setAt cs off xs))) else none
      | _ => none
    | .c (.ep u o i j) => match hp[o]?, pvs G xs with
      | some (.row false u' l), some ps => if eqU G u' u then (if j + ps.length ≤ G.sz u' then (l[i]?).bind fun y => match G.unrow u' (setAt (G.row u' y) j ps) with
        | some y' => K (hp.set o (.row false u' (l.set i y')))
        | none => none else none) else none
      | _, _ => none
    | _ => none) else none
  | _, _ => none
def castL {u v : G.U} (l : List (G.El u)) : Option (List (G.El v)) := @dite _ (u = v) (G.deq u v) (fun h => some (h ▸ l)) (fun _ => none)
def rowRead (hp : G.Hp) (u : G.U) (x : G.T) : Option (List (G.El u)) := match x with
  | .c (.pv (.sl _ l)) => castL G l
  | .c (.os o) => match hp[o]? with
    | some (.row _ _ l) => castL G l
    | _ => none
  | .c (.pv (.val (.slice none 0 0))) => some []
  | _ => none
def refsD' : G.D → List Nat := refsD
def envFree (env : G.Env) (o : Nat) : Bool := env.all fun d => match d with
  | some d => !(refsD d).contains o
  | none => true
def appendK (env : G.Env) (fr : G.Fr) (hp : G.Hp) (t t2 : TypeId) (s x : G.T) (K : G.Fr → G.Hp → G.T → Option β) : Option β := match G.elt t with
  | some u => if t2 = t then (match rowRead G hp u x with
    | some l2 => match s with
      | .c (.os o) => match hp[o]? with
        | some (.row false _ l) => match castL G l with
          | some l1 => if envFree G env o = true ∧ hp.all (lockFree o) = true then
              (if l1.length + l2.length ≤ 2147483648 then K (fr.map (junkD G o)) ((hp.map (junkO o)).set o (.row false u (l1 ++ l2))) (.c (.os o)) else none) else none
          | none => none
        | _ => none
      | .c (.pv (.val (.slice none 0 0))) => if l2.length ≤ 2147483648 then K fr (hp ++ [.row false u l2]) (.c (.os hp.length)) else none
      | _ => none
    | none => none) else none
  | none => none

section
variable {G} {w w' : World} {R R' : Nat → Prop} {n n' : Nat} {m m' : Nat → Value} {r : β} {N : Nat} {hp : G.Hp}

theorem setRow_below (w : World) (g : Nat) (cs : Array Value) (h : N ≤ g) : Below N w (w.setRow g cs) :=
  ⟨rfl, rfl, rfl, by simp, fun k hk => setRow_other w g k cs (by omega)⟩
theorem setAt_mem {α : Type} {l xs : List α} {off : Nat} {x : α} (h : x ∈ setAt l off xs) : x ∈ l ∨ x ∈ xs := by
  unfold setAt at h
  simp only [List.mem_append] at h
  rcases h with (h | h) | h
  · exact .inl (List.mem_of_mem_take h)
  · exact .inr h
  · exact .inl (List.mem_of_mem_drop h)
theorem setAt_length {α : Type} (l xs : List α) (off : Nat) (h : off + xs.length ≤ l.length) : (setAt l off xs).length = l.length := by
  unfold setAt
  simp only [List.length_append, List.length_take, List.length_drop]
  omega
theorem setAt_take {α : Type} (l ys : List α) (off k : Nat) (h : off + ys.length ≤ k) : (setAt l off ys).take k = setAt (l.take k) off ys := by
  apply List.ext_getElem?
  intro q
  unfold setAt
  simp only [List.getElem?_append, List.length_append, List.length_take, List.getElem?_take, List.getElem?_drop]
  have e8 : min off (min k l.length) = min off l.length := by omega
  rw [e8]
  by_cases c0 : q < k
  · rw [if_pos c0]
    by_cases c1 : q < min off l.length + ys.length
    · rw [if_pos c1, if_pos c1]
      by_cases c2 : q < min off l.length
      · rw [if_pos c2, if_pos c2, if_pos (by omega), if_pos (by omega), if_pos c0]
      · rw [if_neg c2, if_neg c2]
    · rw [if_neg c1, if_neg c1]
      by_cases c3 : l.length < off
      · rw [List.getElem?_eq_none (by omega)]; simp
      · rw [if_pos (by omega)]
  · rw [if_neg c0, if_neg (by omega)]
    rw [if_neg (by omega)]
theorem storeVar_ok {t : TypeId} {s : Bool × Nat} (hs : shapeP P t = some s) {g o : Nat} {ty : TypeId} {cur : Array Value} {v : Value} (hg : w.heap[g]? = some (.cells cur ty (0, 0))) (hsz : v.cells.size = s.2)
    (hle : o + v.cells.toList.length ≤ cur.size) (h1 : ∀ x ∈ v.cells.toList, x.oneCell' = true) : (storeVar t ⟨g, o, none⟩ v).run P w = .ok () (w.setRow g (setAt cur.toList o v.cells.toList).toArray) := by
  obtain ⟨d, i, h2, h3, rfl⟩ := shapeP_some hs
  have hst := run_storeCells_at P g o ty v.cells.toList 0 cur w hg (by omega) h1
  unfold storeVar
  simp only [Sem.run_bind, sizeOf, typeInfo, run_program, Result.andThen_ok, h3, Sem.run_pure]
  rw [if_neg (by simp at hsz ⊢; exact hsz)]
  rw [hst]
  rfl

theorem map_id' (hp : G.Hp) : hp.map (fun x => x) = hp := List.map_id'' (fun _ => rfl) hp

theorem lk_set {o : Nat} {ob ob' : G.O} (ho : hp[o]? = some ob) (hl : ob.lockd = false) : ∀ (q : Nat) (x : G.O), hp[q]? = some x → x.lockd = true → (hp.set o ob')[q]? = some x := by
  intro q x hq hx
  rw [List.getElem?_set]
  by_cases he : o = q
  · subst he
    rw [ho] at hq
    cases hq
    rw [hl] at hx
    cases hx
  · rw [if_neg he]; exact hq
theorem mv_set {o : Nat} {ob ob' : G.O} (ho : hp[o]? = some ob) (hl : ob'.mov = ob.mov) : ∀ (q : Nat) (x : G.O), hp[q]? = some x → x.mov = false → ∃ y, (hp.set o ob')[q]? = some y ∧ y.mov = false := by
  intro q x hq hx
  rw [List.getElem?_set]
  by_cases he : o = q
  · subst he
    rw [ho] at hq
    cases hq
    rw [if_pos rfl, if_pos (List.getElem?_eq_some_iff.1 ho).1]
    exact ⟨_, rfl, hl.trans hx⟩
  · rw [if_neg he]; exact ⟨x, hq, hx⟩
theorem storeK_ok (hok : G.Ok) {t : TypeId} {a x : G.T} {va vx : Value} {K : G.Hp → Option β} (hh : HRel G N hp m w) (ha : RepT G w (Rof G hp m w) hp.length m a va) (hx : RepT G w (Rof G hp m w) hp.length m x vx)
    (h : storeK G P hp t a x K = some r) :
    ∃ w' hp', (Instr.storeAt t va vx).run P w = .ok () w' ∧ HRel G N hp' m w' ∧ Keep G hp m w hp' m w' ∧ hp'.length = hp.length ∧ Below N w w' ∧ K hp' = some r ∧ (∀ q off, a = .c (.ptr q off) → ∀ b, b < w.heap.size → blkOf (m q) ≠ some b → w'.heap[b]? = w.heap[b]?) := by
  unfold storeK at h
  split at h
  · rename_i xs s hxs hs
    split at h
    · rename_i hcond
      obtain ⟨hl, _⟩ := tcells_ok hx hxs
      have h1 := oneAll hcond.1 hl
      have hvs : vx.cells.size = s.2 := by have := hl.1; rw [Array.length_toList] at this; omega
      split at h
      · rename_i o off
        split at h
        · rename_i cs ho
          split at h
          · rename_i hle
            obtain ⟨b, ty, vs, e1, e2, e3, e4, e5⟩ := hh.obj o _ ho
            obtain ⟨_, b', e6, rfl⟩ := ha
            rw [e1] at e6
            cases e6
            have hvl : vx.cells.toList.length = xs.length := hl.1
            have hcl : vs.size = cs.length := by have := e4.1; rw [Array.length_toList] at this; exact this
            have hrun := storeVar_ok (P := P) hs (o := off) e3 hvs (by omega) h1
            have hro : ∀ c, Rof G hp m w c → Rof G ((hp.map fun x => x).set o (.box (setAt cs off xs))) m (w.setRow b (setAt vs.toList off vx.cells.toList).toArray) c :=
              rof_turn ho rfl (by simp) (fun _ _ => rfl) (fun b _ hb => .inl hb) (fun _ => rfl)
            have hb' : ∀ c, Rof G hp m w c → (w.setRow b (setAt vs.toList off vx.cells.toList).toArray).heap[c]? = w.heap[c]? := fun c hc =>
              setRow_other _ _ _ _ (fun e => hc.2 ⟨o, _, ho, rfl, by rw [e1, e]; rfl⟩)
            obtain ⟨h2, h3, h4⟩ := hh.turn (w' := w.setRow b (setAt vs.toList off vx.cells.toList).toArray) (m' := m) (ob' := .box (setAt cs off xs)) (f := fun x => x) ho rfl (by simp)
              (fun c hc hne => setRow_other _ _ _ _ (fun e => hne (by rw [e1, e]; rfl))) (fun _ _ => rfl) (fun b _ hb => .inl hb) (.inl ⟨fun _ => rfl, rfl⟩)
              ⟨b, ty, _, e1, e2, setRow_heap w b vs _ ty (0, 0) e3, (e4.setAt hl off (by omega)).mono hro hb' (Nat.le_refl _) (fun _ _ _ _ _ => rfl), fun x hx => by
                rcases setAt_mem hx with hx | hx
                · exact e5 x hx
                · exact h1 x hx⟩
            rw [map_id'] at h2 h3
            exact ⟨_, _, by simp [Instr.storeAt, Instr.sureAddr, hrun], h2, ⟨h3, h4, fun _ _ => rfl, lk_set ho rfl, mv_set ho rfl⟩, by simp, setRow_below w b _ e2, h, fun q off hq c _ hne => by
              cases hq
              exact setRow_other _ _ _ _ (fun e => hne (by rw [e1, e]; rfl))⟩
          · cases h
        · cases h
      · rename_i u o i j
        split at h
        · rename_i u' l ps ho hps
          split at h
          · rename_i heq
            obtain rfl := eqU_of heq
            split at h
            · rename_i hj
              rw [Option.bind_eq_some_iff] at h
              obtain ⟨y, hy, h⟩ := h
              split at h
              · rename_i y' hy'
                obtain ⟨ws, e1, e2, e3⟩ := hh.obj o _ ho
                obtain ⟨_, b, k, cap, e4, e5, rfl⟩ := ha
                rw [e4] at e1
                rcases e1.2 with ⟨e, _⟩ | ⟨g, cap', cur, e, f1, f2, f3, f4, f5, f6⟩
                · cases e
                cases e
                obtain ⟨p1, p2⟩ := pvs_ok hps hl
                have hi := (List.getElem?_eq_some_iff.1 hy).1
                have hrl := hok.row_sz u' y
                have hpos := hok.pos u'
                have hfit : i * G.sz u' + G.sz u' ≤ l.length * G.sz u' := by rw [← Nat.succ_mul]; exact Nat.mul_le_mul_right _ hi
                have hcap : l.length * G.sz u' ≤ cap * G.sz u' := Nat.mul_le_mul_right _ f3
                have hwl : ws.length = l.length * G.sz u' := e1.1
                have hrun := storeVar_ok (P := P) hs (o := i * G.sz u' + j) f2 hvs (by omega) h1
                -- the element's cells behind the store
                have hold : ∀ (q : Nat) (p : G.P'), (G.row u' y)[q]? = some p → ∃ v, ((ws.drop (i * G.sz u')).take (G.sz u'))[q]? = some v ∧ RepP G w (Rof G hp m w) p v := by
                  intro q p hq
                  have hlt := (List.getElem?_eq_some_iff.1 hq).1
                  obtain ⟨cv, c1, c2⟩ := e2 i y q p hy hq
                  exact ⟨cv, by rw [List.getElem?_take, if_pos (by omega), List.getElem?_drop]; exact c1, c2⟩
                have hrow : RepL G w (Rof G hp m w) hp.length m ((G.row u' y).map .pv) ((ws.drop (i * G.sz u')).take (G.sz u')) := RepL_pv (by rw [List.length_take, List.length_drop]; omega) hold
                have hnewl := hrow.setAt (RepL_pv p1 p2) j (by simp; omega)
                have hpvs : pvs G (setAt ((G.row u' y).map .pv) j (ps.map .pv)) = some (setAt (G.row u' y) j ps) := by
                  have : setAt ((G.row u' y).map (CV.pv (U := G.U) (El := G.El))) j (ps.map .pv) = (setAt (G.row u' y) j ps).map .pv := by
                    unfold setAt; simp [List.map_take, List.map_drop]
                  rw [this]
                  generalize setAt (G.row u' y) j ps = q
                  induction q with
                  | nil => rfl
                  | cons a q ih => simp only [List.map_cons, pvs, ih]
                obtain ⟨q1, q2⟩ := pvs_ok hpvs hnewl
                obtain ⟨q3, q4⟩ := unrow_ok hok hy' q1 q2
                have hcell : ∀ (q : Nat), q < G.sz u' → (setAt ws (i * G.sz u' + j) vx.cells.toList)[i * G.sz u' + q]? = (setAt ((ws.drop (i * G.sz u')).take (G.sz u')) j vx.cells.toList)[q]? := by
                  intro q hq
                  unfold setAt
                  simp only [List.getElem?_append, List.length_append, List.length_take, List.length_drop, List.getElem?_take, List.getElem?_drop]
                  have e7 : min (i * G.sz u' + j) ws.length = i * G.sz u' + j := by omega
                  have e8 : min j (min (G.sz u') (ws.length - i * G.sz u')) = j := by omega
                  rw [e7, e8]
                  by_cases c1 : q < j
                  · rw [if_pos (by omega), if_pos (by omega), if_pos (by omega), if_pos (by omega), if_pos c1, if_pos c1, if_pos (by omega)]
                  · by_cases c2 : q < j + vx.cells.toList.length
                    · rw [if_pos (by omega), if_neg (by omega), if_pos c2, if_neg c1]
                      congr 1; omega
                    · rw [if_neg (by omega), if_neg c2, if_pos (by omega)]
                      congr 1; omega
                have hcellO : ∀ (q : Nat), q < i * G.sz u' ∨ i * G.sz u' + G.sz u' ≤ q → (setAt ws (i * G.sz u' + j) vx.cells.toList)[q]? = ws[q]? := by
                  intro q hq
                  unfold setAt
                  simp only [List.getElem?_append, List.length_append, List.length_take, List.getElem?_take, List.getElem?_drop]
                  have e7 : min (i * G.sz u' + j) ws.length = i * G.sz u' + j := by omega
                  rw [e7]
                  have hjl : vx.cells.toList.length = ps.length := p1
                  rcases hq with hq | hq
                  · rw [if_pos (by omega), if_pos (by omega), if_pos (by omega)]
                  · rw [if_neg (by omega)]
                    congr 1; omega
                have hrowrep : RowRep G w (Rof G hp m w) u' (l.set i y') (setAt ws (i * G.sz u' + j) vx.cells.toList) := by
                  intro k z q p hk hq
                  have hqs := (List.getElem?_eq_some_iff.1 hq).1
                  rw [hok.row_sz] at hqs
                  rw [List.getElem?_set] at hk
                  by_cases hik : i = k
                  · subst hik
                    rw [if_pos rfl, if_pos hi] at hk
                    cases hk
                    obtain ⟨v, q5, q6⟩ := q4 q p hq
                    exact ⟨v, by rw [hcell q hqs]; exact q5, q6⟩
                  · rw [if_neg hik] at hk
                    obtain ⟨cv, c1, c2⟩ := e2 k z q p hk hq
                    refine ⟨cv, ?_, c2⟩
                    rw [hcellO _ ?_]
                    · exact c1
                    · rcases Nat.lt_or_ge k i with hlt | hge
                      · have : (k + 1) * G.sz u' ≤ i * G.sz u' := Nat.mul_le_mul_right _ hlt
                        rw [Nat.succ_mul] at this; omega
                      · have : (i + 1) * G.sz u' ≤ k * G.sz u' := Nat.mul_le_mul_right _ (by omega)
                        rw [Nat.succ_mul] at this; omega
                have hNb : N ≤ b := f1
                have hro : ∀ c, Rof G hp m w c → Rof G ((hp.map fun x => x).set o (.row false u' (l.set i y'))) m (w.setRow b (setAt cur.toList (i * G.sz u' + j) vx.cells.toList).toArray) c :=
                  rof_turn ho rfl (by simp) (fun _ _ => rfl) (fun b _ hb => .inl hb) (fun _ => rfl)
                have hb' : ∀ c, Rof G hp m w c → (w.setRow b (setAt cur.toList (i * G.sz u' + j) vx.cells.toList).toArray).heap[c]? = w.heap[c]? := fun c hc =>
                  setRow_other _ _ _ _ (fun e => hc.2 ⟨o, _, ho, rfl, by rw [e4, e]; rfl⟩)
                have hcl : cur.toList.length = cap * G.sz u' := by rw [Array.length_toList]; exact f5
                have hown' : (w.setRow b (setAt cur.toList (i * G.sz u' + j) vx.cells.toList).toArray).ownsRow N (G.ty u') (G.sz u') (m o) (l.set i y').length (setAt ws (i * G.sz u' + j) vx.cells.toList) := by
                  have hlv : vx.cells.toList.length = ps.length := p1
                  refine ⟨by rw [setAt_length _ _ _ (by omega), List.length_set]; exact hwl, .inr ⟨b, cap, _, by rw [e4, List.length_set], f1, setRow_heap w b cur _ _ _ f2, by rw [List.length_set]; exact f3, f4, by rw [List.size_toArray, setAt_length _ _ _ (by omega)]; exact hcl, ?_⟩⟩
                  rw [List.length_set, ← f6]
                  exact setAt_take _ _ _ _ (by omega)
                obtain ⟨h2, h3, h4⟩ := hh.turn (w' := w.setRow b (setAt cur.toList (i * G.sz u' + j) vx.cells.toList).toArray) (m' := m) (ob' := .row false u' (l.set i y')) (f := fun x => x) ho rfl (by simp)
                  (fun c hc hne => setRow_other _ _ _ _ (fun e => hne (by rw [e4, e]; rfl))) (fun _ _ => rfl) (fun b _ hb => .inl hb) (.inl ⟨fun _ => rfl, rfl⟩)
                  ⟨_, hown', hrowrep.mono hro hb', fun x hx => by
                    rcases setAt_mem hx with hx | hx
                    · exact e3 x hx
                    · exact h1 x hx⟩
                rw [map_id'] at h2 h3
                exact ⟨_, _, by simp [Instr.storeAt, Instr.sureAddr, hrun], h2, ⟨h3, h4, fun _ _ => rfl, lk_set ho rfl, mv_set ho rfl⟩, by simp, setRow_below w b _ hNb, h, fun q off hq => by cases hq⟩
              · cases h
            · cases h
          · cases h
        · cases h
      · cases h
    · cases h
  · cases h
end
end Go.Proofs.Ytmdghocpelkcoaa
