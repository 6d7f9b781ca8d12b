/- Contracts of slices.IndexFunc and slices.ContainsFunc at the program's element types, for whatever function that answers a bool. -/
import Derived.Test.YtlaplbkekfnldaaDef
namespace Go.Proofs.Ytlaplbkekfnldaa
open Go.RowKit

def IdxPost (b : Bool) (w : World) (e : Ending) (w' : World) : Prop := ∃ n : Int, e = .returned (.int .i64 n) ∧ decide (0 ≤ n) = b ∧ Below w.heap.size w w'

theorem any_take_succ {α : Type} (l : List α) (p : α → Bool) (k : Nat) (h : k < l.length) (h0 : (l.take k).any p = false) (h1 : p l[k] = false) : (l.take (k + 1)).any p = false := by
  rw [List.take_succ_eq_append_getElem h, List.any_append, h0]; simp [h1]
theorem any_at {α : Type} (l : List α) (p : α → Bool) (k : Nat) (h : k < l.length) (h1 : p l[k] = true) : l.any p = true := List.any_eq_true.2 ⟨l[k], List.getElem_mem h, h1⟩

set_option maxHeartbeats 400000 in
theorem index_bricks (g : FuncId) (hg : ∀ (xs : Array Value) (w : World), Sem.run Try.prog (callFunc g xs) w = .ok (.enter g xs) w) (caps : Array Value) (p : Brick → Bool) (A : Option Addr) (n c : Nat) (l : List Brick) (w : World) (hnl : n = l.length)
    (hl : BricksAt w w.heap.size A l) (hn : l.length ≤ maxLen)
    (hcall : ∀ (k : Nat) (h : k < l.length) (w1 : World), Below w.heap.size w w1 → Calls Try.prog g (#[l[k].val] ++ caps) w1 fun e w2 => e = .returned (.bool (p l[k])) ∧ Below w1.heap.size w1 w2) :
    Calls Try.prog 73 #[.slice A n c, .func (.func g) #[] caps] w (IdxPost (l.any p) w) := by
  subst hnl
  unfold maxLen at hn
  have HC := Lib.hid hcall; clear hcall
  have HL := Lib.hid hl; clear hl
  go_enter Try.func73, Try.ntmps73
  go_wp2_with fail
  go_loopw [8] (fun i wr => ∃ k : Nat, k ≤ l.length ∧ i = .int .i64 k ∧ Hid ((l.take k).any p = false) ∧ Below w.heap.size w wr) (fun i _ => l.length - (intOf i).toNat)
  case atStart => exact ⟨0, Nat.zero_le _, rfl, by simp [Hid], Below.refl _ _⟩
  case round =>
    obtain ⟨k, hk, rfl, hall, hb⟩ := hrel
    by_cases hlt : k < l.length
    · obtain ⟨b, off, rfl, hbb, c0, c1, c2⟩ := (HL.out.below hb).at_ hlt
      go_wp2_with fail
      refine (HC.out k hlt _ hb).mono ?_
      rintro e w1 ⟨rfl, hb1⟩
      by_cases hp : p l[k] = true
      · go_wp2_with fail
        go_ret
        exact ⟨k, rfl, by rw [any_at l p k hlt hp]; simp, hb.trans (hb1.mono hb.size)⟩
      · have hp := Bool.eq_false_iff.2 hp
        go_wp2_with fail
        exact ⟨⟨k + 1, by omega, by go_num, any_take_succ l p k hlt hall.out hp, hb.trans (hb1.mono hb.size)⟩, by simp [intOf]; omega⟩
    · have hk2 : k = l.length := by omega
      have hall2 : Hid (l.any p = false) := by have := hall.out; rw [hk2, List.take_length] at this; exact this
      clear hall hk2
      go_wp2_with fail
      go_ret
      exact ⟨-1, rfl, by rw [hall2.out]; rfl, hb⟩
set_option maxHeartbeats 400000 in
theorem contains_bricks (g : FuncId) (hg : ∀ (xs : Array Value) (w : World), Sem.run Try.prog (callFunc g xs) w = .ok (.enter g xs) w) (caps : Array Value) (p : Brick → Bool) (A : Option Addr) (n c : Nat) (l : List Brick) (w : World) (hnl : n = l.length)
    (hl : BricksAt w w.heap.size A l) (hn : l.length ≤ maxLen)
    (hcall : ∀ (k : Nat) (h : k < l.length) (w1 : World), Below w.heap.size w w1 → Calls Try.prog g (#[l[k].val] ++ caps) w1 fun e w2 => e = .returned (.bool (p l[k])) ∧ Below w1.heap.size w1 w2) :
    Calls Try.prog 51 #[.slice A n c, .func (.func g) #[] caps] w fun e w' => e = .returned (.bool (l.any p)) ∧ Below w.heap.size w w' := by
  have H := Lib.hid (index_bricks g hg caps p A n c l w hnl hl hn hcall)
  clear hl hcall hn hg hnl
  go_enter Try.func51, Try.ntmps51
  go_wp2_with fail
  refine H.out.mono ?_
  rintro e w1 ⟨n, rfl, hn, hb⟩
  have HN := Lib.hid hn; clear hn
  go_wp2_with fail
  go_ret
  exact ⟨ret_bool HN.out, hb⟩
set_option maxHeartbeats 400000 in
theorem index_items (g : FuncId) (hg : ∀ (xs : Array Value) (w : World), Sem.run Try.prog (callFunc g xs) w = .ok (.enter g xs) w) (caps : Array Value) (p : Item → Bool) (A : Option Addr) (n c : Nat) (l : List Item) (w : World) (hnl : n = l.length)
    (hl : ItemsAt w w.heap.size A l) (hn : l.length ≤ maxLen)
    (hcall : ∀ (k : Nat) (h : k < l.length) (w1 : World), Below w.heap.size w w1 → Calls Try.prog g (#[l[k].val] ++ caps) w1 fun e w2 => e = .returned (.bool (p l[k])) ∧ Below w1.heap.size w1 w2) :
    Calls Try.prog 76 #[.slice A n c, .func (.func g) #[] caps] w (IdxPost (l.any p) w) := by
  subst hnl
  unfold maxLen at hn
  have HC := Lib.hid hcall; clear hcall
  have HL := Lib.hid hl; clear hl
  go_enter Try.func76, Try.ntmps76
  go_wp2_with fail
  go_loopw [8] (fun i wr => ∃ k : Nat, k ≤ l.length ∧ i = .int .i64 k ∧ Hid ((l.take k).any p = false) ∧ Below w.heap.size w wr) (fun i _ => l.length - (intOf i).toNat)
  case atStart => exact ⟨0, Nat.zero_le _, rfl, by simp [Hid], Below.refl _ _⟩
  case round =>
    obtain ⟨k, hk, rfl, hall, hb⟩ := hrel
    by_cases hlt : k < l.length
    · obtain ⟨b, off, rfl, hbb, c0, c1, c2, c3, c4, c5, c6⟩ := (HL.out.below hb).at_ hlt
      go_wp2_with fail
      refine (HC.out k hlt _ hb).mono ?_
      rintro e w1 ⟨rfl, hb1⟩
      by_cases hp : p l[k] = true
      · go_wp2_with fail
        go_ret
        exact ⟨k, rfl, by rw [any_at l p k hlt hp]; simp, hb.trans (hb1.mono hb.size)⟩
      · have hp := Bool.eq_false_iff.2 hp
        go_wp2_with fail
        exact ⟨⟨k + 1, by omega, by go_num, any_take_succ l p k hlt hall.out hp, hb.trans (hb1.mono hb.size)⟩, by simp [intOf]; omega⟩
    · have hk2 : k = l.length := by omega
      have hall2 : Hid (l.any p = false) := by have := hall.out; rw [hk2, List.take_length] at this; exact this
      clear hall hk2
      go_wp2_with fail
      go_ret
      exact ⟨-1, rfl, by rw [hall2.out]; rfl, hb⟩
set_option maxHeartbeats 400000 in
theorem contains_items (g : FuncId) (hg : ∀ (xs : Array Value) (w : World), Sem.run Try.prog (callFunc g xs) w = .ok (.enter g xs) w) (caps : Array Value) (p : Item → Bool) (A : Option Addr) (n c : Nat) (l : List Item) (w : World) (hnl : n = l.length)
    (hl : ItemsAt w w.heap.size A l) (hn : l.length ≤ maxLen)
    (hcall : ∀ (k : Nat) (h : k < l.length) (w1 : World), Below w.heap.size w w1 → Calls Try.prog g (#[l[k].val] ++ caps) w1 fun e w2 => e = .returned (.bool (p l[k])) ∧ Below w1.heap.size w1 w2) :
    Calls Try.prog 55 #[.slice A n c, .func (.func g) #[] caps] w fun e w' => e = .returned (.bool (l.any p)) ∧ Below w.heap.size w w' := by
  have H := Lib.hid (index_items g hg caps p A n c l w hnl hl hn hcall)
  clear hl hcall hn hg hnl
  go_enter Try.func55, Try.ntmps55
  go_wp2_with fail
  refine H.out.mono ?_
  rintro e w1 ⟨n, rfl, hn, hb⟩
  have HN := Lib.hid hn; clear hn
  go_wp2_with fail
  go_ret
  exact ⟨ret_bool HN.out, hb⟩
set_option maxHeartbeats 400000 in
theorem index_ints (g : FuncId) (hg : ∀ (xs : Array Value) (w : World), Sem.run Try.prog (callFunc g xs) w = .ok (.enter g xs) w) (caps : Array Value) (p : Int → Bool) (A : Option Addr) (n c : Nat) (l : List Int) (w : World) (hnl : n = l.length)
    (hl : IntsAt w w.heap.size A l) (hn : l.length ≤ maxLen)
    (hcall : ∀ (k : Nat) (h : k < l.length) (w1 : World), Below w.heap.size w w1 → Calls Try.prog g (#[.int .i64 l[k]] ++ caps) w1 fun e w2 => e = .returned (.bool (p l[k])) ∧ Below w1.heap.size w1 w2) :
    Calls Try.prog 72 #[.slice A n c, .func (.func g) #[] caps] w (IdxPost (l.any p) w) := by
  subst hnl
  unfold maxLen at hn
  have HC := Lib.hid hcall; clear hcall
  have HL := Lib.hid hl; clear hl
  go_enter Try.func72, Try.ntmps72
  go_wp2_with fail
  go_loopw [8] (fun i wr => ∃ k : Nat, k ≤ l.length ∧ i = .int .i64 k ∧ Hid ((l.take k).any p = false) ∧ Below w.heap.size w wr) (fun i _ => l.length - (intOf i).toNat)
  case atStart => exact ⟨0, Nat.zero_le _, rfl, by simp [Hid], Below.refl _ _⟩
  case round =>
    obtain ⟨k, hk, rfl, hall, hb⟩ := hrel
    by_cases hlt : k < l.length
    · obtain ⟨b, off, rfl, hbb, c0⟩ := (HL.out.below hb).at_ hlt
      go_wp2_with fail
      refine (HC.out k hlt _ hb).mono ?_
      rintro e w1 ⟨rfl, hb1⟩
      by_cases hp : p l[k] = true
      · go_wp2_with fail
        go_ret
        exact ⟨k, rfl, by rw [any_at l p k hlt hp]; simp, hb.trans (hb1.mono hb.size)⟩
      · have hp := Bool.eq_false_iff.2 hp
        go_wp2_with fail
        exact ⟨⟨k + 1, by omega, by go_num, any_take_succ l p k hlt hall.out hp, hb.trans (hb1.mono hb.size)⟩, by simp [intOf]; omega⟩
    · have hk2 : k = l.length := by omega
      have hall2 : Hid (l.any p = false) := by have := hall.out; rw [hk2, List.take_length] at this; exact this
      clear hall hk2
      go_wp2_with fail
      go_ret
      exact ⟨-1, rfl, by rw [hall2.out]; rfl, hb⟩
set_option maxHeartbeats 400000 in
theorem contains_ints (g : FuncId) (hg : ∀ (xs : Array Value) (w : World), Sem.run Try.prog (callFunc g xs) w = .ok (.enter g xs) w) (caps : Array Value) (p : Int → Bool) (A : Option Addr) (n c : Nat) (l : List Int) (w : World) (hnl : n = l.length)
    (hl : IntsAt w w.heap.size A l) (hn : l.length ≤ maxLen)
    (hcall : ∀ (k : Nat) (h : k < l.length) (w1 : World), Below w.heap.size w w1 → Calls Try.prog g (#[.int .i64 l[k]] ++ caps) w1 fun e w2 => e = .returned (.bool (p l[k])) ∧ Below w1.heap.size w1 w2) :
    Calls Try.prog 47 #[.slice A n c, .func (.func g) #[] caps] w fun e w' => e = .returned (.bool (l.any p)) ∧ Below w.heap.size w w' := by
  have H := Lib.hid (index_ints g hg caps p A n c l w hnl hl hn hcall)
  clear hl hcall hn hg hnl
  go_enter Try.func47, Try.ntmps47
  go_wp2_with fail
  refine H.out.mono ?_
  rintro e w1 ⟨n, rfl, hn, hb⟩
  have HN := Lib.hid hn; clear hn
  go_wp2_with fail
  go_ret
  exact ⟨ret_bool HN.out, hb⟩
end Go.Proofs.Ytlaplbkekfnldaa
