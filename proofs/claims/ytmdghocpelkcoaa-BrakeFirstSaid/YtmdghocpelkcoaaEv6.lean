/- The typed reading: what becomes of the objects when memory is made or written. -/
import Derived.Test.YtmdghocpelkcoaaEv5
namespace Go.Proofs.Ytmdghocpelkcoaa
open Go.RowKit

variable {P : Program} {G : Sg P} {β : Type}
section
variable {w w' : World} {R R' : Nat → Prop} {n n' : Nat} {m m' : Nat → Value} {r : β} {N : Nat} {hp : G.Hp}

theorem ownsRow_same {base : Nat} {e : TypeId} {size k : Nat} {v : Value} {xs : List Value} (h : w.ownsRow base e size v k xs) (hb : ∀ b, blkOf v = some b → w'.heap[b]? = w.heap[b]?) : w'.ownsRow base e size v k xs := by
  refine ⟨h.1, ?_⟩
  rcases h.2 with hn | ⟨g, cap, cur, rfl, h1, h2, rest⟩
  · exact .inl hn
  · exact .inr ⟨g, cap, cur, rfl, h1, (hb g rfl).trans h2, rest⟩
theorem RowRep.mono (h1 : ∀ b, R b → R' b) (h2 : ∀ b, R b → w'.heap[b]? = w.heap[b]?) {u : G.U} {l : List (G.El u)} {xs : List Value} (h : RowRep G w R u l xs) : RowRep G w' R' u l xs :=
  fun k x j p hk hj => by
    obtain ⟨cv, h3, h4⟩ := h k x j p hk hj
    exact ⟨cv, h3, RepP.mono G h1 h2 h4⟩
def refsO : G.O → List Nat
  | .box cs | .lock cs => cs.flatMap (refs G)
  | _ => []
theorem RepO.mono (h1 : ∀ b, R b → R' b) (h2 : ∀ b, R b → w'.heap[b]? = w.heap[b]?) (hn : n ≤ n') {o : Nat} {ob : G.O} (hm : ∀ o' ∈ refsO ob, o' < n → m' o' = m o') (ho : m' o = m o)
    (hb : ∀ b, ob.live = true → blkOf (m o) = some b → w'.heap[b]? = w.heap[b]?) (h : RepO G w R n m N o ob) : RepO G w' R' n' m' N o ob := by
  cases ob with
  | dead => trivial
  | pins _ => trivial
  | pend zs =>
    rcases h with h | ⟨b, t, vs, e1, e2, e3, e4⟩
    · exact .inl (ho.trans h)
    · exact .inr ⟨b, t, vs, ho.trans e1, e2, (hb b rfl (by rw [e1]; rfl)).trans e3, e4⟩
  | box cs =>
    obtain ⟨b, t, vs, e1, e2, e3, e4, e5⟩ := h
    exact ⟨b, t, vs, ho.trans e1, e2, (hb b rfl (by rw [e1]; rfl)).trans e3, e4.mono h1 h2 hn (fun c hc o ho => hm o (List.mem_flatMap.2 ⟨c, hc, ho⟩)), e5⟩
  | lock cs =>
    obtain ⟨b, t, vs, e1, e2, e3, e4, e5⟩ := h
    exact ⟨b, t, vs, ho.trans e1, e2, (hb b rfl (by rw [e1]; rfl)).trans e3, e4.mono h1 h2 hn (fun c hc o ho => hm o (List.mem_flatMap.2 ⟨c, hc, ho⟩)), e5⟩
  | row lk u l =>
    obtain ⟨xs, e1, e2, e3⟩ := h
    exact ⟨xs, by rw [ho]; exact ownsRow_same e1 (fun b => hb b rfl), e2.mono h1 h2, e3⟩
  | map lk t b es => exact ⟨by rw [ho]; exact h.1.same (fun b => hb b rfl), by rw [ho]; exact h.2⟩
/-- An object's block lies from N on, below the heap's end. -/
theorem RepO.blk {o : Nat} {ob : G.O} {b : Nat} (h : RepO G w R n m N o ob) (hl : ob.live = true) (hb : blkOf (m o) = some b) : N ≤ b ∧ b < w.heap.size := by
  have box : ∀ cs, RepO G w R n m N o (.box cs) → N ≤ b ∧ b < w.heap.size := by
    rintro cs ⟨b', t, vs, e1, e2, e3, _⟩
    rw [e1] at hb; cases hb
    exact ⟨e2, (Array.getElem?_eq_some_iff.1 e3).1⟩
  cases ob with
  | dead => cases hl
  | pins _ => cases hl
  | pend zs =>
    rcases h with h | ⟨b', t, vs, e1, e2, e3, _⟩
    · rw [h] at hb; cases hb
    · rw [e1] at hb; cases hb
      exact ⟨e2, (Array.getElem?_eq_some_iff.1 e3).1⟩
  | box cs => exact box cs h
  | lock cs => exact box cs h
  | row lk u l =>
    obtain ⟨xs, e1, _⟩ := h
    rcases e1.2 with ⟨e, _⟩ | ⟨g, cap, cur, e, h1, h2, _⟩
    · rw [e] at hb; cases hb
    · rw [e] at hb; cases hb
      exact ⟨h1, (Array.getElem?_eq_some_iff.1 h2).1⟩
  | map lk t b' es => exact h.1.blk hb

def OV.lockd {U : Type} {El : U → Type} : OV U El → Bool
  | .dead => true
  | .pins _ => true
  | .pend _ => true
  | .box _ => false
  | .lock _ => true
  | .row lk _ _ => lk
  | .map lk _ _ _ => lk
/-- What was known of older objects and of foreign memory holds on. -/
structure Keep (G : Sg P) (hp : G.Hp) (m : Nat → Value) (w : World) (hp' : G.Hp) (m' : Nat → Value) (w' : World) : Prop where
  ro : ∀ b, Rof G hp m w b → Rof G hp' m' w' b
  heap : ∀ b, Rof G hp m w b → w'.heap[b]? = w.heap[b]?
  map : ∀ o, o < hp.length → m' o = m o
  lk : ∀ (o : Nat) (ob : G.O), hp[o]? = some ob → ob.lockd = true → hp'[o]? = some ob
  mv : ∀ (o : Nat) (ob : G.O), hp[o]? = some ob → ob.mov = false → ∃ ob', hp'[o]? = some ob' ∧ ob'.mov = false
/-- What a step leaves of what was there: rows of the call's own may have moved. -/
structure Kp (G : Sg P) (hp : G.Hp) (m : Nat → Value) (w : World) (hp' : G.Hp) (m' : Nat → Value) (w' : World) : Prop where
  ro : ∀ b, Rof G hp m w b → Rof G hp' m' w' b
  heap : ∀ b, Rof G hp m w b → w'.heap[b]? = w.heap[b]?
  lk : ∀ (o : Nat) (ob : G.O), hp[o]? = some ob → ob.lockd = true → hp'[o]? = some ob
  mv : ∀ (o : Nat) (ob : G.O), hp[o]? = some ob → ob.mov = false → m' o = m o ∧ ∃ ob', hp'[o]? = some ob' ∧ ob'.mov = false
  len : hp.length ≤ hp'.length
  pn : ∀ (q : Nat) (os : List Nat) (o : Nat), hp[q]? = some (.pins os) → o ∈ os → o < hp.length → m' o = m o
theorem Kp.refl (hp : G.Hp) (m : Nat → Value) (w : World) : Kp G hp m w hp m w := ⟨fun _ h => h, fun _ _ => rfl, fun _ _ h _ => h, fun _ ob h hm => ⟨rfl, ob, h, hm⟩, Nat.le_refl _, fun _ _ _ _ _ _ => rfl⟩
theorem Kp.trans {hp1 hp2 hp3 : G.Hp} {m1 m2 m3 : Nat → Value} {w1 w2 w3 : World} (h : Kp G hp1 m1 w1 hp2 m2 w2) (k : Kp G hp2 m2 w2 hp3 m3 w3) : Kp G hp1 m1 w1 hp3 m3 w3 :=
  ⟨fun b hb => k.ro b (h.ro b hb), fun b hb => (k.heap b (h.ro b hb)).trans (h.heap b hb), fun o ob ho hl => k.lk o ob (h.lk o ob ho hl) hl, fun o ob ho hm => by
    obtain ⟨e1, ob1, h1, h2⟩ := h.mv o ob ho hm
    obtain ⟨e2, ob2, h3, h4⟩ := k.mv o ob1 h1 h2
    exact ⟨e2.trans e1, ob2, h3, h4⟩, Nat.le_trans h.len k.len, fun q os o hq ho hl => (k.pn q os o (h.lk q _ hq rfl) ho (Nat.lt_of_lt_of_le hl h.len)).trans (h.pn q os o hq ho hl)⟩
theorem Keep.kp {hp' : G.Hp} (k : Keep G hp m w hp' m' w') (hl : hp.length ≤ hp'.length) : Kp G hp m w hp' m' w' := ⟨k.ro, k.heap, k.lk, fun o ob ho hm => ⟨k.map o (List.getElem?_eq_some_iff.1 ho).1, k.mv o ob ho hm⟩, hl, fun _ _ o _ _ h => k.map o h⟩
theorem rof_ext (hsz : w.heap.size ≤ w'.heap.size) (news : G.Hp) (hm : ∀ o, o < hp.length → m' o = m o)
    (hblk : ∀ (i : Nat) (ob : G.O) (b : Nat), news[i]? = some ob → ob.live = true → blkOf (m' (hp.length + i)) = some b → w.heap.size ≤ b) : ∀ b, Rof G hp m w b → Rof G (hp ++ news) m' w' b := by
  rintro b ⟨h1, h2⟩
  refine ⟨by omega, ?_⟩
  rintro ⟨o, ob, ho, hl, hb⟩
  rcases Nat.lt_or_ge o hp.length with hlt | hge
  · rw [List.getElem?_append_left hlt] at ho
    rw [hm o hlt] at hb
    exact h2 ⟨o, ob, ho, hl, hb⟩
  · rw [List.getElem?_append_right hge] at ho
    have := hblk (o - hp.length) ob b ho hl (by rw [show hp.length + (o - hp.length) = o from by omega]; exact hb)
    omega
/-- New objects, and nothing older has turned. -/
theorem HRel.ext (hh : HRel G N hp m w) (hsz : w.heap.size ≤ w'.heap.size) (hold : ∀ b, b < w.heap.size → w'.heap[b]? = w.heap[b]?) (news : G.Hp) (hm : ∀ o, o < hp.length → m' o = m o)
    (hnew : ∀ (i : Nat) (ob : G.O), news[i]? = some ob → RepO G w' (Rof G (hp ++ news) m' w') (hp ++ news).length m' N (hp.length + i) ob)
    (hblk : ∀ (i : Nat) (ob : G.O) (b : Nat), news[i]? = some ob → ob.live = true → blkOf (m' (hp.length + i)) = some b → w.heap.size ≤ b)
    (hsep : ∀ (i j : Nat) (ob ob' : G.O) (b : Nat), news[i]? = some ob → news[j]? = some ob' → ob.live = true → ob'.live = true → blkOf (m' (hp.length + i)) = some b → blkOf (m' (hp.length + j)) = some b → i = j) :
    HRel G N (hp ++ news) m' w' ∧ Keep G hp m w (hp ++ news) m' w' := by
  have hOld : ∀ (o : Nat) (ob : G.O) (b : Nat), hp[o]? = some ob → ob.live = true → blkOf (m o) = some b → b < w.heap.size := fun o ob b ho hl hb => ((hh.obj o ob ho).blk hl hb).2
  have hro := rof_ext hsz news hm hblk
  have hsame : ∀ b, Rof G hp m w b → w'.heap[b]? = w.heap[b]? := fun b hb => hold b hb.1
  refine ⟨⟨fun o ob ho => ?_, fun o o' ob ob' b ho ho' hl hl' hb hb' => ?_, by have := hh.base; omega⟩, ⟨hro, hsame, hm, fun o ob ho _ => by rw [List.getElem?_append_left (List.getElem?_eq_some_iff.1 ho).1]; exact ho, fun o ob ho hm => ⟨ob, by rw [List.getElem?_append_left (List.getElem?_eq_some_iff.1 ho).1]; exact ho, hm⟩⟩⟩
  · rcases Nat.lt_or_ge o hp.length with hlt | hge
    · rw [List.getElem?_append_left hlt] at ho
      exact (hh.obj o ob ho).mono hro hsame (by simp) (fun o' _ h => hm o' h) (hm o hlt) (fun b hl hb => hold b (hOld o ob b ho hl hb))
    · rw [List.getElem?_append_right hge] at ho
      have := hnew (o - hp.length) ob ho
      rw [show hp.length + (o - hp.length) = o from by omega] at this
      exact this
  · rcases Nat.lt_or_ge o hp.length with hlt | hge <;> rcases Nat.lt_or_ge o' hp.length with hlt' | hge'
    · rw [List.getElem?_append_left hlt] at ho
      rw [List.getElem?_append_left hlt'] at ho'
      rw [hm o hlt] at hb
      rw [hm o' hlt'] at hb'
      exact hh.sep o o' ob ob' b ho ho' hl hl' hb hb'
    · rw [List.getElem?_append_left hlt] at ho
      rw [List.getElem?_append_right hge'] at ho'
      rw [hm o hlt] at hb
      have h1 := hOld o ob b ho hl hb
      have h2 := hblk (o' - hp.length) ob' b ho' hl' (by rw [show hp.length + (o' - hp.length) = o' from by omega]; exact hb')
      omega
    · rw [List.getElem?_append_right hge] at ho
      rw [List.getElem?_append_left hlt'] at ho'
      rw [hm o' hlt'] at hb'
      have h1 := hOld o' ob' b ho' hl' hb'
      have h2 := hblk (o - hp.length) ob b ho hl (by rw [show hp.length + (o - hp.length) = o from by omega]; exact hb)
      omega
    · rw [List.getElem?_append_right hge] at ho
      rw [List.getElem?_append_right hge'] at ho'
      have := hsep (o - hp.length) (o' - hp.length) ob ob' b ho ho' hl hl' (by rw [show hp.length + (o - hp.length) = o from by omega]; exact hb) (by rw [show hp.length + (o' - hp.length) = o' from by omega]; exact hb')
      omega

def junkO (o : Nat) : G.O → G.O
  | .box cs => .box (cs.map (junkC G o))
  | ob => ob
def lockFree (o : Nat) : G.O → Bool
  | .lock cs => !(cs.flatMap (refs G)).contains o
  | .pins os => !os.contains o
  | _ => true
theorem junkO_live (o : Nat) (ob : G.O) : (junkO o ob).live = ob.live := by cases ob <;> rfl
theorem RepO.junk' {o' : Nat} (h1 : ∀ b, R b → R' b) (h2 : ∀ b, R b → w'.heap[b]? = w.heap[b]?) (hn : n ≤ n') (hm : ∀ o, o ≠ o' → o < n → m' o = m o) {o : Nat} {ob : G.O} (hf : lockFree o' ob = true) (ho : m' o = m o)
    (hb : ∀ b, ob.live = true → blkOf (m o) = some b → w'.heap[b]? = w.heap[b]?) (h : RepO G w R n m N o ob) : RepO G w' R' n' m' N o (junkO o' ob) := by
  cases ob with
  | dead => trivial
  | pins _ => trivial
  | pend zs => exact RepO.mono (ob := .pend zs) h1 h2 hn (fun _ hx => by cases hx) ho hb h
  | row lk u l => exact RepO.mono (ob := .row lk u l) h1 h2 hn (fun _ hx => by cases hx) ho hb h
  | map lk t b es => exact RepO.mono (ob := .map lk t b es) h1 h2 hn (fun _ hx => by cases hx) ho hb h
  | lock cs =>
    refine h.mono h1 h2 hn (fun o hr hlt => hm o (fun e => ?_) hlt) ho hb
    subst e
    simp only [lockFree, Bool.not_eq_true', List.contains_eq_mem, decide_eq_false_iff_not] at hf
    exact hf hr
  | box cs =>
    obtain ⟨b, t, vs, e1, e2, e3, e4, e5⟩ := h
    exact ⟨b, t, vs, ho.trans e1, e2, (hb b rfl (by rw [e1]; rfl)).trans e3, e4.junk' o' h1 h2 hn hm, e5⟩

theorem rof_turn {o : Nat} {ob ob' : G.O} (ho : hp[o]? = some ob) (hlive : ob.live = true) (hsz : w.heap.size ≤ w'.heap.size) (hm : ∀ o', o' ≠ o → m' o' = m o')
    (hb' : ∀ b, ob'.live = true → blkOf (m' o) = some b → blkOf (m o) = some b ∨ w.heap.size ≤ b) {f : G.O → G.O} (flive : ∀ x : G.O, (f x).live = x.live) :
    ∀ b, Rof G hp m w b → Rof G ((hp.map f).set o ob') m' w' b := by
  have hget : ∀ (o' : Nat) (x : G.O), ((hp.map f).set o ob')[o']? = some x → (o' = o ∧ x = ob') ∨ (o' ≠ o ∧ ∃ y, hp[o']? = some y ∧ x = f y) := by
    intro o' x hx
    rw [List.getElem?_set] at hx
    by_cases he : o = o'
    · subst he
      rw [if_pos rfl] at hx
      split at hx
      · cases hx; exact .inl ⟨rfl, rfl⟩
      · cases hx
    · rw [if_neg he, List.getElem?_map] at hx
      cases hy : hp[o']? with
      | none => rw [hy] at hx; cases hx
      | some y => rw [hy] at hx; cases hx; exact .inr ⟨fun e => he e.symm, y, rfl, rfl⟩
  rintro b ⟨h1, h2⟩
  refine ⟨by omega, ?_⟩
  rintro ⟨o', x, hx, hl, hb⟩
  rcases hget o' x hx with ⟨rfl, rfl⟩ | ⟨hne, y, hy, rfl⟩
  · rcases hb' b hl hb with h3 | h3
    · exact h2 ⟨o', ob, ho, hlive, h3⟩
    · omega
  · rw [hm o' hne] at hb
    exact h2 ⟨o', y, hy, by rw [← flive]; exact hl, hb⟩
/-- One object is turned (its header too, where it moves): what refers to it is forgotten first where the header moves. -/
theorem HRel.turn (hh : HRel G N hp m w) {o : Nat} {ob ob' : G.O} (ho : hp[o]? = some ob) (hlive : ob.live = true) (hsz : w.heap.size ≤ w'.heap.size)
    (hold : ∀ b, b < w.heap.size → blkOf (m o) ≠ some b → w'.heap[b]? = w.heap[b]?) (hm : ∀ o', o' ≠ o → m' o' = m o')
    (hb' : ∀ b, ob'.live = true → blkOf (m' o) = some b → blkOf (m o) = some b ∨ w.heap.size ≤ b)
    {f : G.O → G.O} (hf : (∀ x, f x = x) ∧ m' o = m o ∨ (∀ x, f x = junkO o x) ∧ hp.all (lockFree o) = true)
    (hnew : RepO G w' (Rof G ((hp.map f).set o ob') m' w') hp.length m' N o ob') :
    HRel G N ((hp.map f).set o ob') m' w' ∧ (∀ b, Rof G hp m w b → Rof G ((hp.map f).set o ob') m' w' b) ∧ ∀ b, Rof G hp m w b → w'.heap[b]? = w.heap[b]? := by
  have hlt : o < hp.length := (List.getElem?_eq_some_iff.1 ho).1
  have flive : ∀ x : G.O, (f x).live = x.live := by
    intro x
    rcases hf with ⟨h, _⟩ | ⟨h, _⟩
    · rw [h]
    · rw [h, junkO_live]
  have hget : ∀ (o' : Nat) (x : G.O), ((hp.map f).set o ob')[o']? = some x → (o' = o ∧ x = ob') ∨ (o' ≠ o ∧ ∃ y, hp[o']? = some y ∧ x = f y) := by
    intro o' x hx
    rw [List.getElem?_set] at hx
    by_cases he : o = o'
    · subst he
      rw [if_pos rfl] at hx
      split at hx
      · cases hx; exact .inl ⟨rfl, rfl⟩
      · cases hx
    · rw [if_neg he, List.getElem?_map] at hx
      cases hy : hp[o']? with
      | none => rw [hy] at hx; cases hx
      | some y => rw [hy] at hx; cases hx; exact .inr ⟨fun e => he e.symm, y, rfl, rfl⟩
  have hro := rof_turn (w' := w') ho hlive hsz hm hb' flive
  have hsame : ∀ b, Rof G hp m w b → w'.heap[b]? = w.heap[b]? := fun b hb => hold b hb.1 fun e => hb.2 ⟨o, ob, ho, hlive, e⟩
  refine ⟨⟨fun o' x hx => ?_, fun o1 o2 x1 x2 b hx1 hx2 hl1 hl2 hb1 hb2 => ?_, by have := hh.base; omega⟩, hro, hsame⟩
  · have hlen : ((hp.map f).set o ob').length = hp.length := by simp
    rw [hlen]
    rcases hget o' x hx with ⟨rfl, rfl⟩ | ⟨hne, y, hy, rfl⟩
    · exact hnew
    · have hkeep : ∀ b, y.live = true → blkOf (m o') = some b → w'.heap[b]? = w.heap[b]? := fun b hl hb => hold b ((hh.obj o' y hy).blk hl hb).2 fun e => hne (hh.sep o' o y ob b hy ho hl hlive hb e)
      rcases hf with ⟨h, he⟩ | ⟨h, he⟩
      · rw [h]
        refine (hh.obj o' y hy).mono hro hsame (Nat.le_refl _) (fun q _ _ => ?_) (hm o' hne) hkeep
        by_cases hq : q = o
        · rw [hq]; exact he
        · exact hm q hq
      · rw [h]
        exact (hh.obj o' y hy).junk' hro hsame (Nat.le_refl _) (fun q hq _ => hm q hq) (List.all_eq_true.1 he y (List.mem_of_getElem? hy)) (hm o' hne) hkeep
  · rcases hget o1 x1 hx1 with ⟨rfl, rfl⟩ | ⟨hne1, y1, hy1, rfl⟩ <;> rcases hget o2 x2 hx2 with ⟨rfl, rfl⟩ | ⟨hne2, y2, hy2, rfl⟩
    · rfl
    · rw [flive] at hl2
      rw [hm o2 hne2] at hb2
      rcases hb' b hl1 hb1 with h3 | h3
      · exact hh.sep o1 o2 ob y2 b ho hy2 hlive hl2 h3 hb2
      · have := ((hh.obj o2 y2 hy2).blk hl2 hb2).2; omega
    · rw [flive] at hl1
      rw [hm o1 hne1] at hb1
      rcases hb' b hl2 hb2 with h3 | h3
      · exact hh.sep o1 o2 y1 ob b hy1 ho hl1 hlive hb1 h3
      · have := ((hh.obj o1 y1 hy1).blk hl1 hb1).2; omega
    · rw [flive] at hl1 hl2
      rw [hm o1 hne1] at hb1
      rw [hm o2 hne2] at hb2
      exact hh.sep o1 o2 y1 y2 b hy1 hy2 hl1 hl2 hb1 hb2
end
end Go.Proofs.Ytmdghocpelkcoaa
