/- From the form's readings to plain data: lists and items as arguments. -/
import Derived.Test.YtlaplbkekfnldaaLaw
import Derived.OpenShut
namespace Go.Proofs.Ytlaplbkekfnldaa
open Go.RowKit Go.ChangeShapes Go.WideShapes Go.Deep
section
variable {H : Type} {enc : TypeId × Value → H} {w : World} {base : Nat} {spare : Nat → Bool} {held : Bool}
theorem open_ints_arg {r : Reach} {b0 : Nat} {v : Value} {d : DataW H} {p : List MemPlace} (hv : Value.okWide Try.prog w r b0 22 v) (h : DataW.Trod enc Try.prog w base spare held 22 v d p) :
    ∃ (A : Option Addr) (cap : Nat) (l : List Int), v = .slice A l.length cap ∧ IntsAt w w.heap.size A l ∧ l.length ≤ cap ∧ cap ≤ maxLen ∧ ∀ z, z ∈ l → (Lit.int .i64 z).wf = true := by
  obtain ⟨a0, len, cap, rfl⟩ := okWide_slice Try.underlying22 hv
  obtain ⟨fuel, hf⟩ := h
  obtain ⟨A, c, l, e, h1, h2, h3, h4⟩ := open_intlist Try.underlying22 Try.underlying3 (by kernel_rfl) hf
  have e' : Value.slice a0 len cap = .slice A l.length c := by simpa [Value.cells] using e
  exact ⟨A, c, l, e', h1, h2, h3, h4⟩
theorem open_bricks_arg {r : Reach} {b0 : Nat} {v : Value} {d : DataW H} {p : List MemPlace} (hv : Value.okWide Try.prog w r b0 24 v) (h : DataW.Trod enc Try.prog w base spare held 24 v d p) :
    ∃ (A : Option Addr) (cap : Nat) (l : List Brick), v = .slice A l.length cap ∧ BricksAt w w.heap.size A l ∧ l.length ≤ cap ∧ cap ≤ maxLen ∧ ∀ z, z ∈ l → BrickFits z := by
  obtain ⟨a0, len, cap, rfl⟩ := okWide_slice Try.underlying24 hv
  obtain ⟨fuel, hf⟩ := h
  obtain ⟨A, c, l, e, h1, h2, h3, h4⟩ := open_bricks hf
  have e' : Value.slice a0 len cap = .slice A l.length c := by simpa [Value.cells] using e
  exact ⟨A, c, l, e', h1, h2, h3, h4⟩
theorem open_item_arg {r : Reach} {b0 : Nat} {v : Value} {d : DataW H} {p : List MemPlace} (hv : Value.okWide Try.prog w r b0 56 v) (h : DataW.Trod enc Try.prog w base spare held 56 v d p) : ∃ x : Item, v = x.val ∧ ItemFits x := by
  obtain ⟨cs, rfl, hsz, hg⟩ := open_fields Try.underlying56 (by kernel_rfl) (by kernel_rfl) hv h
  match cs, hsz with
  | [c0, c1, c2, c3, c4, c5, c6], _ =>
      obtain ⟨_, _, g0⟩ := hg 0 _ rfl
      obtain ⟨_, _, g1⟩ := hg 1 _ rfl
      obtain ⟨_, _, g2⟩ := hg 2 _ rfl
      obtain ⟨_, _, g3⟩ := hg 3 _ rfl
      obtain ⟨_, _, g4⟩ := hg 4 _ rfl
      obtain ⟨_, _, g5⟩ := hg 5 _ rfl
      obtain ⟨_, _, g6⟩ := hg 6 _ rfl
      obtain ⟨s, rfl, w0⟩ := str_of (v := c0) g0
      obtain ⟨z1, rfl, w1⟩ := int_of (v := c1) g1
      obtain ⟨z2, rfl, w2⟩ := int_of (v := c2) g2
      obtain ⟨z3, rfl, w3⟩ := int_of (v := c3) g3
      obtain ⟨z4, rfl, w4⟩ := int_of (v := c4) g4
      obtain ⟨z5, rfl, w5⟩ := int_of (v := c5) g5
      obtain ⟨z6, rfl, w6⟩ := int_of (v := c6) g6
      exact ⟨⟨s, z1, z2, z3, z4, z5, z6⟩, rfl, ⟨w0, w1, w2, w3, w4, w5, w6⟩⟩
end
end Go.Proofs.Ytlaplbkekfnldaa
