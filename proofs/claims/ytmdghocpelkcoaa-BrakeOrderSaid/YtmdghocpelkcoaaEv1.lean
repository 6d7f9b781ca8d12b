/- A typed reading of the machine: slots hold typed data, memory of the call's own is kept as plain lists. The relation to the real world. No program in sight. -/
import Derived.Test.YtmdghocpelkcoaaRows
import Derived.WalkKit
import Derived.Laws.MakeOwn
import Derived.Deep.Draws
import Derived.Calls
import Derived.Maps.OwnSet
namespace Go.Proofs.Ytmdghocpelkcoaa
open Go.RowKit

/-- A cell's value as plain data: one value, or a slice that reads as a list. -/
inductive PV (U : Type) (El : U → Type) : Type where
  | val (x : Value)
  | sl (u : U) (l : List (El u))
/-- What one cell may hold. -/
inductive CV (U : Type) (El : U → Type) : Type where
  | junk
  | pv (p : PV U El)
  | os (o : Nat)
  | ptr (o off : Nat)
  | rp (cells : List (PV U El))
  | ep (u : U) (o i j : Nat)
  | clo (f : Nat) (caps : List Nat)
  | fn (u r : U) (F : El u → Option (El r))
/-- What one variable may hold. -/
inductive TV (U : Type) (El : U → Type) : Type where
  | c (x : CV U El)
  | agg (cs : List (CV U El))
/-- What one slot may hold. -/
inductive DV (U : Type) (El : U → Type) : Type where
  | t (x : TV U El)
  | tup (vs : List (TV U El))
/-- An object of the call's own. -/
inductive OV (U : Type) (El : U → Type) : Type where
  | dead
  | box (cs : List (CV U El))
  | row (lk : Bool) (u : U) (l : List (El u))
  | lock (cs : List (CV U El))
  | map (lk : Bool) (t : TypeId) (b : Bool) (es : List (ByteArray × Bool))
  | pins (os : List Nat)
  | pend (zs : List Value)

/-- The types of a program's data. -/
structure Sg (P : Program) where
  U : Type
  deq : DecidableEq U
  El : U → Type
  row : (u : U) → El u → List (PV U El)
  unrow : (u : U) → List (PV U El) → Option (El u)
  zero : (u : U) → El u
  ty : U → TypeId
  sz : U → Nat
  ag : U → Bool
  elt : TypeId → Option U
  flat : U → Bool
  byref : FuncId → Bool

variable {P : Program} (G : Sg P)
abbrev Sg.P' := PV G.U G.El
abbrev Sg.C := CV G.U G.El
abbrev Sg.T := TV G.U G.El
abbrev Sg.D := DV G.U G.El
abbrev Sg.O := OV G.U G.El
abbrev Sg.Hp := List (OV G.U G.El)
/-- A cell weaker than another: nil is an empty slice. -/
def Weak (p q : G.P') : Prop := p = q ∨ (p = .val (.slice none 0 0) ∧ ∃ u, q = .sl u [])
structure Sg.Ok (G : Sg P) : Prop where
  mixed : P.follows .mixedOrders = true
  row_sz : ∀ u x, (G.row u x).length = G.sz u
  pos : ∀ u, 0 < G.sz u
  unrow : ∀ u (ps : List G.P') x, G.unrow u ps = some x → ps.length = G.sz u ∧ ∀ (j : Nat) (p : G.P'), ps[j]? = some p → ∃ q, (G.row u x)[j]? = some q ∧ Weak G p q
  info : ∀ u, ∃ i z, P.info? (G.ty u) = some i ∧ i.zero = some z ∧ i.size = G.sz u ∧ z.cells.size = G.sz u ∧ i.bytes ≤ 4096 ∧ (∀ (j : Nat) (p : G.P'), (G.row u (G.zero u))[j]? = some p → ∃ v, z.cells.toList[j]? = some v ∧ Weak G (.val v) p) ∧ ∀ v ∈ z.cells.toList, v.oneCell' = true
  elt : ∀ t u, G.elt t = some u → P.underlying t = some (.slice (G.ty u))
  ag : ∀ u, ∃ d, P.underlying (G.ty u) = some d ∧ (match d with | .struct _ | .array _ _ => true | _ => false) = G.ag u
  one : ∀ u, G.ag u = false → G.sz u = 1
  flat : ∀ u, G.flat u = true → ∀ x, ∀ p ∈ G.row u x, ∃ v, p = PV.val v

def blkOf : Value → Option Nat
  | .slice (some a) _ _ => some a.block
  | .pointer (some a) => some a.block
  | .map (some b) => some b
  | _ => none
/-- Maps from strings to bools (b) or to struct{}. -/
def elemR (b : Bool) (v : Value) : Option (DataW Unit × List MemPlace) := match b with
  | true => match v with
    | .bool x => some (.lit (.bool x), [])
    | _ => none
  | false => unitElem v
def keyLit (s : ByteArray) : Lit := .string s.data.toList
def findM (s : ByteArray) : List (ByteArray × Bool) → Option Bool
  | [] => none
  | p :: l => if s = p.1 then some p.2 else findM s l
def setM (s : ByteArray) (x : Bool) : List (ByteArray × Bool) → List (ByteArray × Bool)
  | [] => [(s, x)]
  | p :: l => if s = p.1 then (s, x) :: l else p :: setM s x l
def datM (b x : Bool) : DataW Unit := match b with
  | true => .lit (.bool x)
  | false => .agg []
structure MapRel (b : Bool) (D : DataW Unit) (es : List (ByteArray × Bool)) : Prop where
  size : Go.Maps.size D = es.length
  has : ∀ s, Go.Maps.has D (keyLit s) = (findM s es).isSome
  at_ : ∀ s d, D.atKey (keyLit s) d = ((findM s es).map (datM b)).getD d
def MapRep (P : Program) (w : World) (N : Nat) (v : Value) (t : TypeId) (b : Bool) (es : List (ByteArray × Bool)) : Prop :=
  ∃ bk D k e, v = .map (some bk) ∧ N ≤ bk ∧ P.underlying t = some (.map k e) ∧ P.underlying k = some .string ∧ w.ownsMap P k (elemR b) bk es.length D ∧ MapRel b D es
theorem MapRep.same {w w' : World} {N : Nat} {v : Value} {t : TypeId} {b : Bool} {es : List (ByteArray × Bool)} (h : MapRep P w N v t b es) (hb : ∀ b, blkOf v = some b → w'.heap[b]? = w.heap[b]?) : MapRep P w' N v t b es := by
  obtain ⟨bk, D, k, e, rfl, h1, h2, h3, h4, h5⟩ := h
  obtain ⟨es', clock, hh, r⟩ := h4
  exact ⟨bk, D, k, e, rfl, h1, h2, h3, ⟨es', clock, (hb bk rfl).trans hh, r⟩, h5⟩
theorem MapRep.blk {w : World} {N : Nat} {v : Value} {t : TypeId} {b : Bool} {es : List (ByteArray × Bool)} (h : MapRep P w N v t b es) {g : Nat} (hg : blkOf v = some g) : N ≤ g ∧ g < w.heap.size := by
  obtain ⟨bk, D, k, e, rfl, h1, h2, h3, h4, h5⟩ := h
  cases hg
  exact ⟨h1, h4.lt⟩
def OV.live {U : Type} {El : U → Type} : OV U El → Bool
  | .dead => false
  | .pins _ => false
  | _ => true

/-- May an append move it? -/
def OV.mov {U : Type} {El : U → Type} : OV U El → Bool
  | .row false _ _ => true
  | _ => false

inductive RepP (w : World) (R : Nat → Prop) : G.P' → Value → Prop where
  | val (x : Value) (h : x.oneCell' = true) : RepP w R (.val x) x
  | sl (u : G.U) (l : List (G.El u)) (A : Option Addr) (b off cap : Nat) (c : Nat → Nat → Value) (hcap : l.length ≤ cap)
      (ha : 0 < l.length → A = some ⟨b, off, none⟩ ∧ R b)
      (hc : ∀ (k : Nat) (x : G.El u) (j : Nat) (p : G.P'), l[k]? = some x → (G.row u x)[j]? = some p → w.cell? ⟨b, off + k * G.sz u + j, none⟩ = some (c k j))
      (hr : ∀ (k : Nat) (x : G.El u) (j : Nat) (p : G.P'), l[k]? = some x → (G.row u x)[j]? = some p → RepP w R p (c k j)) : RepP w R (.sl u l) (.slice A l.length cap)

theorem RepP.one {w : World} {R : Nat → Prop} {p : G.P'} {v : Value} (h : RepP G w R p v) : v.oneCell' = true := by
  cases h with
  | val _ h => exact h
  | sl => rfl

theorem cell_same {w w' : World} {b o : Nat} (h : w'.heap[b]? = w.heap[b]?) : w'.cell? ⟨b, o, none⟩ = w.cell? ⟨b, o, none⟩ := by
  unfold World.cell?; simp only [h]

theorem RepP.mono {w w' : World} {R R' : Nat → Prop} (h1 : ∀ b, R b → R' b) (h2 : ∀ b, R b → w'.heap[b]? = w.heap[b]?) {p : G.P'} {v : Value} (h : RepP G w R p v) : RepP G w' R' p v := by
  induction h with
  | val x h => exact .val x h
  | sl u l A b off cap c hcap ha hc hr ih =>
    refine .sl u l A b off cap c hcap (fun hp => ⟨(ha hp).1, h1 _ (ha hp).2⟩) (fun k x j p hk hj => ?_) ih
    have hp : 0 < l.length := by have := (List.getElem?_eq_some_iff.1 hk).1; omega
    rw [cell_same (h2 b (ha hp).2)]
    exact hc k x j p hk hj

theorem RepP.weak {w : World} {R : Nat → Prop} {p q : G.P'} {v : Value} (h : RepP G w R p v) (hw : Weak G p q) : RepP G w R q v := by
  rcases hw with rfl | ⟨rfl, u, rfl⟩
  · exact h
  · cases h with
    | val _ _ => exact .sl u [] none 0 0 0 (fun _ _ => undef) (by simp) (by simp) (by simp) (by simp)

/-- A variable's value, as plain data. -/
def RepU (w : World) (R : Nat → Prop) (u : G.U) (x : G.El u) (v : Value) : Prop :=
  ∃ vs : List Value, (match G.ag u with | true => v = .agg vs.toArray | false => vs = [v]) ∧ vs.length = G.sz u ∧ ∀ (j : Nat) (p : G.P'), (G.row u x)[j]? = some p → ∃ y, vs[j]? = some y ∧ RepP G w R p y
/-- A function value that answers as F does, in whatever world the foreign memory stands as it did. -/
def FnSpec (w : World) (R : Nat → Prop) (u r : G.U) (F : G.El u → Option (G.El r)) (v : Value) : Prop :=
  ∃ g, ∃ caps : List Value, v = .func (.func g) #[] caps.toArray ∧ (∃ fn, P.funcs[g]? = some fn ∧ fn.name ≠ "runtime.NumGoroutine" ∧ fn.body.isNone = false) ∧ G.flat r = true ∧ G.byref g = false ∧
    ∀ w' : World, (∀ b, R b → w'.heap[b]? = w.heap[b]?) → ∀ x y a, F x = some y → RepU G w' (fun b => b < w'.heap.size) u x a →
      Calls P g (a :: caps).toArray w' fun e w'' => ∃ v, e = .returned v ∧ Below w'.heap.size w' w'' ∧ RepU G w'' (fun _ => True) r y v
section
variable (w : World) (R : Nat → Prop) (n : Nat) (m : Nat → Value)
def RepC : G.C → Value → Prop
  | .junk, _ => True
  | .pv p, v => RepP G w R p v
  | .os o, v => o < n ∧ v = m o ∧ v.oneCell' = true
  | .ptr o off, v => o < n ∧ ∃ b, m o = .pointer (some ⟨b, 0, none⟩) ∧ v = .pointer (some ⟨b, off, none⟩)
  | .rp cells, v => ∃ b off, v = .pointer (some ⟨b, off, none⟩) ∧ R b ∧ ∀ (j : Nat) (p : G.P'), cells[j]? = some p → ∃ cv, w.cell? ⟨b, off + j, none⟩ = some cv ∧ RepP G w R p cv
  | .ep u o i j, v => o < n ∧ ∃ b k cap, m o = .slice (some ⟨b, 0, none⟩) k cap ∧ i < k ∧ v = .pointer (some ⟨b, i * G.sz u + j, none⟩)
  | .clo f caps, v => ∃ vs : List Value, v = .func (.func f) #[] vs.toArray ∧ vs.length = caps.length ∧ ∀ (i o : Nat), caps[i]? = some o → o < n ∧ ∃ b : Nat, m o = .pointer (some ⟨b, 0, none⟩) ∧ vs[i]? = some (Value.pointer (some ⟨b, 0, none⟩))
  | .fn u r F, v => FnSpec G w R u r F v
/-- A row of cells. -/
def RepL (cs : List G.C) (vs : List Value) : Prop := vs.length = cs.length ∧ ∀ (i : Nat) (c : G.C), cs[i]? = some c → ∃ x, vs[i]? = some x ∧ RepC G w R n m c x
def RepT : G.T → Value → Prop
  | .c x, v => RepC G w R n m x v
  | .agg cs, v => ∃ vs : List Value, v = .agg vs.toArray ∧ RepL G w R n m cs vs
def RepD : G.D → Value → Prop
  | .t x, v => RepT G w R n m x v
  | .tup ts, v => ∃ vs : List Value, v = .tuple vs.toArray ∧ vs.length = ts.length ∧ ∀ (i : Nat) (t : G.T), ts[i]? = some t → ∃ x, vs[i]? = some x ∧ RepT G w R n m t x
def RowRep (u : G.U) (l : List (G.El u)) (xs : List Value) : Prop := ∀ (k : Nat) (x : G.El u) (j : Nat) (p : G.P'), l[k]? = some x → (G.row u x)[j]? = some p → ∃ cv, xs[k * G.sz u + j]? = some cv ∧ RepP G w R p cv
def RepO (N : Nat) (o : Nat) : G.O → Prop
  | .dead => True
  | .pins _ => True
  | .pend zs => m o = .tuple #[] ∨ ∃ b t vs, m o = .pointer (some ⟨b, 0, none⟩) ∧ N ≤ b ∧ w.heap[b]? = some (.cells vs t (0, 0)) ∧ vs.toList = zs ∧ ∀ x ∈ zs, x.oneCell' = true
  | .box cs | .lock cs => ∃ b t vs, m o = .pointer (some ⟨b, 0, none⟩) ∧ N ≤ b ∧ w.heap[b]? = some (.cells vs t (0, 0)) ∧ RepL G w R n m cs vs.toList ∧ ∀ x ∈ vs.toList, x.oneCell' = true
  | .map _ t b es => MapRep P w N (m o) t b es ∧ (m o).oneCell' = true
  | .row _ u l => ∃ xs, w.ownsRow N (G.ty u) (G.sz u) (m o) l.length xs ∧ RowRep G w R u l xs ∧ ∀ x ∈ xs, x.oneCell' = true
end

def Own (hp : G.Hp) (m : Nat → Value) (b : Nat) : Prop := ∃ (o : Nat) (ob : G.O), hp[o]? = some ob ∧ ob.live = true ∧ blkOf (m o) = some b
def Rof (hp : G.Hp) (m : Nat → Value) (w : World) (b : Nat) : Prop := b < w.heap.size ∧ ¬ Own G hp m b
structure HRel (N : Nat) (hp : G.Hp) (m : Nat → Value) (w : World) : Prop where
  obj : ∀ (o : Nat) (ob : G.O), hp[o]? = some ob → RepO G w (Rof G hp m w) hp.length m N o ob
  sep : ∀ (o o' : Nat) (ob ob' : G.O) (b : Nat), hp[o]? = some ob → hp[o']? = some ob' → ob.live = true → ob'.live = true → blkOf (m o) = some b → blkOf (m o') = some b → o = o'
  base : N ≤ w.heap.size

def refs : G.C → List Nat
  | .os o => [o]
  | .ptr o _ => [o]
  | .ep _ o _ _ => [o]
  | .clo _ caps => caps
  | _ => []
def junkC (o : Nat) (c : G.C) : G.C := if (refs G c).contains o then .junk else c
def junkT (o : Nat) : G.T → G.T
  | .c x => .c (junkC G o x)
  | .agg cs => .agg (cs.map (junkC G o))
def junkD (o : Nat) : G.D → G.D
  | .t x => .t (junkT G o x)
  | .tup vs => .tup (vs.map (junkT G o))

section
variable {G} {w w' : World} {R R' : Nat → Prop} {n n' : Nat} {m m' : Nat → Value}
theorem RepC.mono (h1 : ∀ b, R b → R' b) (h2 : ∀ b, R b → w'.heap[b]? = w.heap[b]?) (hn : n ≤ n') {c : G.C} {v : Value} (hm : ∀ o ∈ refs G c, o < n → m' o = m o)
    (h : RepC G w R n m c v) : RepC G w' R' n' m' c v := by
  cases c with
  | junk => trivial
  | pv p => exact RepP.mono G h1 h2 h
  | os o => exact ⟨by have := h.1; omega, h.2.1.trans (hm o (by simp [refs]) h.1).symm, h.2.2⟩
  | ptr o f => obtain ⟨hl, b, e1, e2⟩ := h; exact ⟨by omega, b, (hm o (by simp [refs]) hl).trans e1, e2⟩
  | rp cells =>
    obtain ⟨b, off, e, hb, hc⟩ := h
    refine ⟨b, off, e, h1 b hb, fun j p hj => ?_⟩
    obtain ⟨cv, h3, h4⟩ := hc j p hj
    exact ⟨cv, (cell_same (h2 b hb)).trans h3, RepP.mono G h1 h2 h4⟩
  | ep u o i j => obtain ⟨hl, b, k, cap, e1, e2, e3⟩ := h; exact ⟨by omega, b, k, cap, (hm o (by simp [refs]) hl).trans e1, e2, e3⟩
  | clo f caps =>
    obtain ⟨vs, e1, e2, e3⟩ := h
    refine ⟨vs, e1, e2, fun i o hi => ?_⟩
    obtain ⟨hl, b, e4, e5⟩ := e3 i o hi
    exact ⟨by omega, b, (hm o (List.mem_of_getElem? hi) hl).trans e4, e5⟩
  | fn u r F =>
    obtain ⟨g, caps, e1, e2, e3, e4, e5⟩ := h
    exact ⟨g, caps, e1, e2, e3, e4, fun w'' hw => e5 w'' fun b hb => (hw b (h1 b hb)).trans (h2 b hb)⟩
theorem RepL.mono (h1 : ∀ b, R b → R' b) (h2 : ∀ b, R b → w'.heap[b]? = w.heap[b]?) (hn : n ≤ n') {cs : List G.C} {vs : List Value} (hm : ∀ c ∈ cs, ∀ o ∈ refs G c, o < n → m' o = m o)
    (h : RepL G w R n m cs vs) : RepL G w' R' n' m' cs vs :=
  ⟨h.1, fun i c hi => by
    obtain ⟨x, h3, h4⟩ := h.2 i c hi
    exact ⟨x, h3, h4.mono h1 h2 hn (hm c (List.mem_of_getElem? hi))⟩⟩
def refsT : G.T → List Nat
  | .c x => refs G x
  | .agg cs => cs.flatMap (refs G)
def refsD : G.D → List Nat
  | .t x => refsT x
  | .tup vs => vs.flatMap refsT
theorem RepT.mono (h1 : ∀ b, R b → R' b) (h2 : ∀ b, R b → w'.heap[b]? = w.heap[b]?) (hn : n ≤ n') {t : G.T} {v : Value} (hm : ∀ o ∈ refsT t, o < n → m' o = m o)
    (h : RepT G w R n m t v) : RepT G w' R' n' m' t v := by
  cases t with
  | c x => exact RepC.mono h1 h2 hn hm h
  | agg cs =>
    obtain ⟨vs, e, hl⟩ := h
    exact ⟨vs, e, hl.mono h1 h2 hn fun c hc o ho => hm o (List.mem_flatMap.2 ⟨c, hc, ho⟩)⟩
theorem RepD.mono (h1 : ∀ b, R b → R' b) (h2 : ∀ b, R b → w'.heap[b]? = w.heap[b]?) (hn : n ≤ n') {d : G.D} {v : Value} (hm : ∀ o ∈ refsD d, o < n → m' o = m o)
    (h : RepD G w R n m d v) : RepD G w' R' n' m' d v := by
  cases d with
  | t x => exact RepT.mono h1 h2 hn hm h
  | tup ts =>
    obtain ⟨vs, e, hl, hv⟩ := h
    refine ⟨vs, e, hl, fun i t hi => ?_⟩
    obtain ⟨x, h3, h4⟩ := hv i t hi
    exact ⟨x, h3, h4.mono h1 h2 hn fun o ho => hm o (List.mem_flatMap.2 ⟨t, List.mem_of_getElem? hi, ho⟩)⟩

theorem junkC_or (o : Nat) (c : G.C) : (junkC G o c = .junk) ∨ (junkC G o c = c ∧ o ∉ refs G c) := by
  unfold junkC
  by_cases h : (refs G c).contains o = true
  · rw [if_pos h]; exact .inl rfl
  · rw [if_neg h]; exact .inr ⟨rfl, by simpa using h⟩
theorem RepC.junk' (o : Nat) (h1 : ∀ b, R b → R' b) (h2 : ∀ b, R b → w'.heap[b]? = w.heap[b]?) (hn : n ≤ n') (hm : ∀ o', o' ≠ o → o' < n → m' o' = m o') {c : G.C} {v : Value}
    (h : RepC G w R n m c v) : RepC G w' R' n' m' (junkC G o c) v := by
  rcases junkC_or o c with e | ⟨e, hx⟩
  · rw [e]; trivial
  · rw [e]; exact h.mono h1 h2 hn fun o' ho' => hm o' (fun he => hx (he ▸ ho'))
theorem RepL.junk' (o : Nat) (h1 : ∀ b, R b → R' b) (h2 : ∀ b, R b → w'.heap[b]? = w.heap[b]?) (hn : n ≤ n') (hm : ∀ o', o' ≠ o → o' < n → m' o' = m o') {cs : List G.C} {vs : List Value}
    (h : RepL G w R n m cs vs) : RepL G w' R' n' m' (cs.map (junkC G o)) vs :=
  ⟨by simpa using h.1, fun i c hi => by
    rw [List.getElem?_map] at hi
    cases hc : cs[i]? with
    | none => rw [hc] at hi; cases hi
    | some c0 =>
      rw [hc] at hi; cases hi
      obtain ⟨x, h3, h4⟩ := h.2 i c0 hc
      exact ⟨x, h3, h4.junk' o h1 h2 hn hm⟩⟩
theorem RepT.junk' (o : Nat) (h1 : ∀ b, R b → R' b) (h2 : ∀ b, R b → w'.heap[b]? = w.heap[b]?) (hn : n ≤ n') (hm : ∀ o', o' ≠ o → o' < n → m' o' = m o') {t : G.T} {v : Value}
    (h : RepT G w R n m t v) : RepT G w' R' n' m' (junkT G o t) v := by
  cases t with
  | c x => exact RepC.junk' o h1 h2 hn hm h
  | agg cs => obtain ⟨vs, e, hl⟩ := h; exact ⟨vs, e, hl.junk' o h1 h2 hn hm⟩
theorem RepD.junk' (o : Nat) (h1 : ∀ b, R b → R' b) (h2 : ∀ b, R b → w'.heap[b]? = w.heap[b]?) (hn : n ≤ n') (hm : ∀ o', o' ≠ o → o' < n → m' o' = m o') {d : G.D} {v : Value}
    (h : RepD G w R n m d v) : RepD G w' R' n' m' (junkD G o d) v := by
  cases d with
  | t x => exact RepT.junk' o h1 h2 hn hm h
  | tup ts =>
    obtain ⟨vs, e, hl, hv⟩ := h
    refine ⟨vs, e, by simpa using hl, fun i t hi => ?_⟩
    rw [List.getElem?_map] at hi
    cases hc : ts[i]? with
    | none => rw [hc] at hi; cases hi
    | some t0 =>
      rw [hc] at hi; cases hi
      obtain ⟨x, h3, h4⟩ := hv i t0 hc
      exact ⟨x, h3, h4.junk' o h1 h2 hn hm⟩
end
end Go.Proofs.Ytmdghocpelkcoaa
