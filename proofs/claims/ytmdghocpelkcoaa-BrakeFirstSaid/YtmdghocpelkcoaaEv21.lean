/- From the form's readings of the arguments to plain data: any type of the data, by value. -/
import Derived.Test.YtmdghocpelkcoaaEv20
import Derived.ProofKit
import Derived.Deep.Slices
import Derived.Deep.Fields
import Derived.ChangeSame
namespace Go.Proofs.Ytmdghocpelkcoaa
open Go.RowKit Go.ChangeShapes Go.WideShapes Go.Deep

def fieldsOf (P : Program) (t : TypeId) : Array Field := match P.underlying t with
  | some (.struct fs) => fs
  | _ => #[]
def fldOf (P : Program) (t : TypeId) (j : Nat) : Field := ((fieldsOf P t)[j]?).getD { name := "", type := 0, offset := 0, embedded := false, tag := "", pkgPath := "", byteOffset := 0 }
section
variable {P : Program} (G : Sg P)
def PRep (w : World) (cs : List Value) (ps : List G.P') : Prop := cs.length = ps.length ∧ ∀ (j : Nat) (p : G.P'), ps[j]? = some p → ∃ y, cs[j]? = some y ∧ RepP G w (AllRo w) p y
/-- What is read at type u is plain data of which W is known. -/
def Opens (u : G.U) (W : G.El u → Prop) : Prop := ∀ {H : Type} {enc : TypeId × Value → H} {w : World} {base : Nat} {spare : Nat → Bool} {held : Bool} {fuel : Nat} {cs : List Value} {x : DataW H × List MemPlace},
  DataW.trod enc P w base spare held fuel (G.ty u) cs = some x → ∃ a : G.El u, PRep G w cs (G.row u a) ∧ W a
variable {G}
theorem PRep.nil {w : World} : PRep G w [] [] := ⟨rfl, fun j p hj => by cases hj⟩
theorem PRep.val {w : World} {v : Value} (h : v.oneCell' = true) : PRep G w [v] [.val v] := ⟨rfl, fun j p hj => by
  cases j with
  | zero => cases hj; exact ⟨v, rfl, .val v h⟩
  | succ j => cases hj⟩
theorem PRep.part {w : World} {cs : List Value} {ps qs : List G.P'} {off n : Nat} (h : PRep G w ((cs.drop off).take n) ps) (hn : ps.length = n) (k : PRep G w (cs.drop (off + n)) qs) : PRep G w (cs.drop off) (ps ++ qs) := by
  have e1 := h.1
  have e2 := k.1
  rw [List.length_take, List.length_drop] at e1
  rw [List.length_drop] at e2
  refine ⟨by rw [List.length_drop, List.length_append]; omega, fun j p hj => ?_⟩
  rw [List.getElem?_append] at hj
  split at hj
  · rename_i hlt
    obtain ⟨y, h1, h2⟩ := h.2 j p hj
    rw [List.getElem?_take, if_pos (by omega)] at h1
    exact ⟨y, h1, h2⟩
  · rename_i hge
    obtain ⟨y, h1, h2⟩ := k.2 _ p hj
    rw [List.getElem?_drop] at h1 ⊢
    exact ⟨y, by rw [← h1]; congr 1; omega, h2⟩
theorem opens_int {u : G.U} {k : IntKind} (hu : P.underlying (G.ty u) = some (.int k)) (mk : Int → G.El u) (hrow : ∀ z, G.row u (mk z) = [.val (.int k z)]) {W : G.El u → Prop} (hW : ∀ z, (Lit.int k z).wf = true → W (mk z)) : Opens G u W := by
  intro H enc w base spare held fuel cs x h
  obtain ⟨z, rfl, _, hw⟩ := DataW.trod_int hu h
  exact ⟨mk z, by rw [hrow]; exact .val rfl, hW z hw⟩
theorem opens_bool {u : G.U} (hu : P.underlying (G.ty u) = some .bool) (mk : Bool → G.El u) (hrow : ∀ z, G.row u (mk z) = [.val (.bool z)]) {W : G.El u → Prop} (hW : ∀ z, W (mk z)) : Opens G u W := by
  intro H enc w base spare held fuel cs x h
  obtain ⟨z, rfl, _⟩ := DataW.trod_bool hu h
  exact ⟨mk z, by rw [hrow]; exact .val rfl, hW z⟩
theorem opens_str {u : G.U} (hu : P.underlying (G.ty u) = some .string) (mk : ByteArray → G.El u) (hrow : ∀ z, G.row u (mk z) = [.val (.string z)]) {W : G.El u → Prop} (hW : ∀ z : ByteArray, z.size ≤ maxLen → W (mk z)) : Opens G u W := by
  intro H enc w base spare held fuel cs x h
  obtain ⟨z, rfl, _, hw⟩ := DataW.trod_string hu h
  exact ⟨mk z, by rw [hrow]; exact .val rfl, hW z hw⟩
theorem cell_lt' {w : World} {a : Addr} {v : Value} (h : w.cell? a = some v) : a.block < w.heap.size := by
  unfold World.cell? at h
  rcases Nat.lt_or_ge a.block w.heap.size with h1 | h1
  · exact h1
  · rw [Array.getElem?_eq_none h1] at h; cases h
theorem opens_slice (hok : G.Ok) {u e : G.U} {te : TypeId} (hu : P.underlying (G.ty u) = some (.slice te)) (hte : te = G.ty e) (hC : P.cellsOf (G.ty e) = G.sz e) (mk : List (G.El e) → G.El u) (hrow : ∀ l, G.row u (mk l) = [.sl e l]) {We : G.El e → Prop} (he : Opens G e We)
    {W : G.El u → Prop} (hW : ∀ l, l.length ≤ maxLen → (∀ a ∈ l, We a) → W (mk l)) : Opens G u W := by
  intro H enc w base spare held fuel cs x h
  subst hte
  have hpos := hok.pos e
  rcases open_slice hu h with ⟨rfl, _⟩ | ⟨a, len, cap, m, n, D, Pl, rfl, hb, hl, hm, hmm, hx, hi⟩
  · refine ⟨mk [], ?_, hW [] (Nat.zero_le _) (by simp)⟩
    rw [hrow]
    refine ⟨rfl, fun j p hj => ?_⟩
    cases j with
    | zero => cases hj; exact ⟨_, rfl, .sl e [] none 0 0 0 (fun _ _ => undef) (by simp) (by simp) (by simp) (by simp)⟩
    | succ j => cases hj
  · have hlm : len ≤ m := by rw [hmm]; split <;> omega
    have hel : ∀ i, i < len → ∃ z : G.El e × List Value, We z.1 ∧ PRep G w z.2 (G.row e z.1) ∧ ∀ j v, z.2[j]? = some v → w.cell? (a.add (i * G.sz e + j)) = some v := by
      intro i hil
      obtain ⟨cs', hc, ht'⟩ := hi i (by omega)
      obtain ⟨z, hz, hwz⟩ := he ht'
      rw [hC] at hc
      obtain ⟨_, hcl, hat⟩ := World.cells?_some hc
      refine ⟨(z, cs'), hwz, hz, fun j v hj => ?_⟩
      have hjl : j < cs'.length := (List.getElem?_eq_some_iff.1 hj).1
      have := hat j (by omega)
      rw [← Go.Deep.add_add, this, hj]
    have hne : ∀ i, i < len → Nonempty (G.El e × List Value) := fun i hi => ⟨(hel i hi).choose⟩
    rcases Nat.eq_zero_or_pos len with h0 | h0
    · subst h0
      refine ⟨mk [], ?_, hW [] (Nat.zero_le _) (by simp)⟩
      rw [hrow]
      refine ⟨rfl, fun j p hj => ?_⟩
      cases j with
      | zero => cases hj; exact ⟨_, rfl, .sl e [] (some a) 0 0 cap (fun _ _ => undef) (by simp) (by simp) (by simp) (by simp)⟩
      | succ j => cases hj
    · haveI : Inhabited (G.El e × List Value) := ⟨(hel 0 h0).choose⟩
      obtain ⟨f, hf⟩ := choose_lt hel
      have hlen : ((List.range len).map fun i => (f i).1).length = len := by simp
      refine ⟨mk ((List.range len).map fun i => (f i).1), ?_, hW _ (by rw [hlen]; omega) fun z hz => ?_⟩
      · rw [hrow]
        refine ⟨rfl, fun j p hj => ?_⟩
        cases j with
        | succ j => cases hj
        | zero =>
          cases hj
          refine ⟨_, rfl, ?_⟩
          have hg : ∀ i, i < len → ∀ (j : Nat) (p : G.P'), (G.row e (f i).1)[j]? = some p → ∃ y, (f i).2[j]? = some y ∧ RepP G w (AllRo w) p y ∧ w.cell? (a.add (i * G.sz e + j)) = some y := fun i hi j p hj => by
            obtain ⟨_, h1, h2⟩ := hf i hi
            obtain ⟨y, h3, h4⟩ := h1.2 j p hj
            exact ⟨y, h3, h4, h2 j y h3⟩
          have hrow0 : 0 < (G.row e (f 0).1).length := by rw [hok.row_sz]; exact hpos
          obtain ⟨y0, _, _, hc0⟩ := hg 0 h0 0 _ (List.getElem?_eq_getElem hrow0)
          have hs := World.cell?_spot hc0
          have hlt := cell_lt' hc0
          have hsp : a.spot = none := by simpa [Addr.add] using hs
          obtain ⟨b, off, spot⟩ := a
          simp only at hsp
          subst hsp
          have hget : ∀ (k : Nat) (z : G.El e), ((List.range len).map fun i => (f i).1)[k]? = some z → k < len ∧ z = (f k).1 := by
            intro k z hz
            have hk := (List.getElem?_eq_some_iff.1 hz).1
            rw [hlen] at hk
            rw [List.getElem?_map, List.getElem?_range hk] at hz
            cases hz
            exact ⟨hk, rfl⟩
          have := RepP.sl (G := G) (w := w) (R := AllRo w) e ((List.range len).map fun i => (f i).1) (some ⟨b, off, none⟩) b off cap (fun k j => ((f k).2[j]?).getD undef) (by rw [hlen]; exact hl)
            (fun _ => ⟨rfl, show b < w.heap.size by simpa [Addr.add] using hlt⟩) (fun k z j p hz hj => by
              obtain ⟨hk, rfl⟩ := hget k z hz
              obtain ⟨y, h1, h2, h3⟩ := hg k hk j p hj
              rw [Addr.add_lit] at h3
              rw [h1, Nat.add_assoc]
              exact h3) (fun k z j p hz hj => by
              obtain ⟨hk, rfl⟩ := hget k z hz
              obtain ⟨y, h1, h2, h3⟩ := hg k hk j p hj
              show RepP G w (AllRo w) p (((f k).2[j]?).getD undef)
              rw [h1]
              exact h2)
          rw [hlen] at this
          exact this
      · obtain ⟨i, hi, rfl⟩ := List.mem_map.1 hz
        exact (hf i (List.mem_range.1 hi)).1
/-- A field of a struct that was read. -/
theorem field_at {H : Type} {enc : TypeId × Value → H} {w : World} {base : Nat} {spare : Nat → Bool} {held : Bool} {n : Nat} {cs : List Value} {xs : List (DataW H × List MemPlace)} {fs : Array Field} (hlen : xs.length = fs.size)
    (hf : ∀ (i : Nat) (f : Field), fs[i]? = some f → DataW.trod enc P w base spare held n f.type ((cs.drop f.offset).take (P.cellsOf f.type)) = xs[i]?) {i : Nat} {f : Field} (hi : fs[i]? = some f) {u : G.U} {W : G.El u → Prop} {off : Nat} (ho : f.offset = off) (ht : f.type = G.ty u) (hC : P.cellsOf (G.ty u) = G.sz u) (he : Opens G u W) :
    ∃ a : G.El u, PRep G w ((cs.drop off).take (G.sz u)) (G.row u a) ∧ W a := by
  have h := hf i f hi
  have hlt := (Array.getElem?_eq_some_iff.1 hi).1
  rw [List.getElem?_eq_getElem (by omega), ho, ht, hC] at h
  exact he h
theorem open_arg (hok : G.Ok) {u : G.U} {W : G.El u → Prop} (he : Opens G u W) {H : Type} {enc : TypeId × Value → H} {w : World} {base : Nat} {spare : Nat → Bool} {held : Bool} {v : Value} {d : DataW H} {p : List MemPlace}
    (hv : G.ag u = true → ∃ cs : List Value, v = .agg cs.toArray) (hv' : G.ag u = false → v.cells = #[v]) (h : DataW.Trod enc P w base spare held (G.ty u) v d p) : ∃ x : G.El u, RepU G w (AllRo w) u x v ∧ W x := by
  obtain ⟨fuel, hf⟩ := h
  obtain ⟨a, h1, h2⟩ := he hf
  refine ⟨a, ?_, h2⟩
  have h3 := h1.1
  rw [hok.row_sz] at h3
  cases hag : G.ag u with
  | true =>
    obtain ⟨cs, rfl⟩ := hv hag
    exact ⟨cs, by rw [hag], by simpa [Value.cells] using h3, fun j p hj => by simpa [Value.cells] using h1.2 j p hj⟩
  | false =>
    rw [hv' hag] at h1 h3
    exact ⟨[v], by rw [hag], h3, h1.2⟩
theorem args_nil {w : World} : Args G w (argT G [] ()) [] := .nil
theorem args_v (hok : G.Ok) {w : World} {u : G.U} {ps : List (Pk G.U)} {x : G.El u} {y : TyP G ps} {v : Value} {vs : List Value} (h : RepU G w (AllRo w) u x v) (k : Args G w (argT G ps y) vs) : Args G w (argT G (.v u :: ps) (x, y)) (v :: vs) := .cons (RepU.toT hok h) k
end
end Go.Proofs.Ytmdghocpelkcoaa
