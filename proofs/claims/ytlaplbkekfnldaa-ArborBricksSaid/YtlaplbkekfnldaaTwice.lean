/- Contracts of batten.twice at items and at bricks: whether two elements have one name. -/
import Derived.Test.YtlaplbkekfnldaaDef
import Derived.Maps.OwnSet
namespace Go.Proofs.Ytlaplbkekfnldaa
open Go.RowKit Go.Maps Go.WideMaps

theorem addKeys_len : ∀ (ks acc : List Lit), (∀ x ∈ ks, WideAt.IsKeyLit x) → (ks.foldl addKey acc).length ≤ acc.length + ks.length ∧
    ((ks.foldl addKey acc).length = acc.length + ks.length ↔ (∀ x ∈ ks, x ∉ acc) ∧ ks.Nodup)
  | [], acc, _ => by simp
  | x :: r, acc, h => by
    have hr : ∀ y ∈ r, WideAt.IsKeyLit y := fun y hy => h y (by simp [hy])
    have hin : acc.any (fun y => y.sameKey x) = true ↔ x ∈ acc := by
      rw [List.any_eq_true]
      constructor
      · rintro ⟨y, hy, e⟩
        rw [← WideAt.sameKey_eq e]
        exact hy
      · exact fun hx => ⟨x, hx, WideAt.sameKey_self (h x (by simp))⟩
    rw [List.foldl_cons]
    by_cases hx : x ∈ acc
    · rw [show addKey acc x = acc from if_pos (hin.2 hx)]
      obtain ⟨h1, _⟩ := addKeys_len r acc hr
      refine ⟨by simp; omega, ⟨fun e => ?_, fun e => absurd hx (e.1 x (by simp))⟩⟩
      simp at e
      omega
    · rw [show addKey acc x = acc ++ [x] from if_neg (fun e => hx (hin.1 e))]
      obtain ⟨h1, h2⟩ := addKeys_len r (acc ++ [x]) hr
      refine ⟨by simp at h1 ⊢; omega, ?_⟩
      have e1 : (r.foldl addKey (acc ++ [x])).length = acc.length + (x :: r).length ↔ (r.foldl addKey (acc ++ [x])).length = (acc ++ [x]).length + r.length := by simp; omega
      rw [e1, h2, List.nodup_cons]
      constructor
      · rintro ⟨a1, a2⟩
        refine ⟨fun y hy => ?_, fun hxr => a1 x hxr (by simp), a2⟩
        rcases List.mem_cons.1 hy with rfl | hy
        · exact hx
        · exact fun hya => a1 y hy (by simp [hya])
      · rintro ⟨a1, a2, a3⟩
        refine ⟨fun y hy hya => ?_, a3⟩
        rcases List.mem_append.1 hya with h3 | h3
        · exact a1 y (by simp [hy]) h3
        · rw [List.mem_singleton] at h3
          exact a2 (h3 ▸ hy)

def keyOfName (s : ByteArray) : Lit := .string s.data.toList
def keysTo {α : Type} (f : α → ByteArray) (l : List α) (k : Nat) : List Lit := (l.take k).map fun x => keyOfName (f x)
def seenTo {α : Type} (f : α → ByteArray) (l : List α) (k : Nat) : DataW Unit := setOf (.agg []) (keysTo f l k)
theorem seenTo_zero {α : Type} (f : α → ByteArray) (l : List α) : seenTo f l 0 = .map [] := rfl
theorem seenTo_succ {α : Type} (f : α → ByteArray) (l : List α) (k : Nat) (h : k < l.length) : seenTo f l (k + 1) = (seenTo f l k).put (keyOfName (f l[k])) (.agg []) := by
  unfold seenTo keysTo
  rw [List.take_succ_eq_append_getElem h, List.map_append, List.map_singleton, setOf_snoc]
theorem seen_size {α : Type} (f : α → ByteArray) (l : List α) : decide (size (seenTo f l l.length) < l.length) = !pairsB (fun _ => true) (fun x y => !sameName (f x) (f y)) l := by
  have hk : ∀ x ∈ keysTo f l l.length, WideAt.IsKeyLit x := by
    intro x hx
    obtain ⟨y, _, rfl⟩ := List.mem_map.1 hx
    exact trivial
  have hlen : (keysTo f l l.length).length = l.length := by simp [keysTo]
  obtain ⟨h1, h2⟩ := addKeys_len (keysTo f l l.length) [] hk
  rw [← size_setOf (H := Unit) (.agg []) _ hk] at h1 h2
  rw [hlen, List.length_nil, Nat.zero_add] at h1 h2
  have h3 : (keysTo f l l.length).Nodup ↔ pairsB (fun _ => true) (fun x y => !sameName (f x) (f y)) l = true := by
    rw [pairs_iff, List.nodup_iff_pairwise_ne, List.pairwise_iff_getElem]
    have hg : ∀ i (h : i < l.length), (keysTo f l l.length)[i]'(by rw [hlen]; exact h) = keyOfName (f l[i]) := by
      intro i h
      simp [keysTo]
    have hne : ∀ a b : ByteArray, keyOfName a ≠ keyOfName b ↔ (!sameName a b) = true := by
      intro a b
      rw [Bool.not_eq_true', Bool.eq_false_iff, Ne, Ne, not_congr]
      rw [sameName_iff]
      unfold keyOfName
      constructor
      · intro e
        injection e with e
        exact ByteArray.ext (Array.toList_inj.1 e)
      · rintro rfl
        rfl
    constructor
    · intro e i hi
      refine ⟨rfl, fun k hk => ?_⟩
      have := e k i (by rw [hlen]; omega) (by rw [hlen]; omega) hk
      rw [hg k (by omega), hg i hi] at this
      exact (hne _ _).1 this
    · intro e i j hi hj hij
      rw [hlen] at hi hj
      rw [hg i hi, hg j hj]
      exact (hne _ _).2 ((e j hj).2 i hij)
  have h4 : (∀ x ∈ keysTo f l l.length, x ∉ ([] : List Lit)) := fun _ _ => by simp
  change size (seenTo f l l.length) ≤ l.length at h1
  change size (seenTo f l l.length) = l.length ↔ _ at h2
  by_cases hp : pairsB (fun _ => true) (fun x y => !sameName (f x) (f y)) l = true
  · rw [hp, h2.2 ⟨h4, h3.2 hp⟩]; simp
  · have hp' := Bool.eq_false_iff.2 hp
    rw [hp']
    have : size (seenTo f l l.length) ≠ l.length := fun e => hp (h3.1 (h2.1 e).2)
    simp
    omega

theorem map_below {P : Program} {k : TypeId} {R : Value → Option (DataW Unit × List MemPlace)} {w w' : World} {b n B : Nat} {D : DataW Unit} (h : w.ownsMap P k R b n D) (hb : Below B w w') (hB : b < B) : w'.ownsMap P k R b n D := by
  obtain ⟨es, clock, hh, r⟩ := h
  exact ⟨es, clock, (hb.block b hB).trans hh, r⟩
theorem strKey : Keyed Try.prog 9 := string_keyed Try.underlying9

set_option maxHeartbeats 400000 in
theorem twice_items (g : FuncId) (hg : ∀ (xs : Array Value) (w : World), Sem.run Try.prog (callFunc g xs) w = .ok (.enter g xs) w) (A : Option Addr) (c : Nat) (l : List Item) (w : World)
    (hl : ItemsAt w w.heap.size A l) (hn : l.length < maxLen) (hs : ∀ x, x ∈ l → x.name.size ≤ maxLen)
    (hcall : ∀ (x : Item) (w1 : World), Calls Try.prog g #[x.val] w1 fun e w2 => e = .returned (.string x.name) ∧ Below w1.heap.size w1 w2) :
    Calls Try.prog 77 #[.slice A l.length c, .func (.func g) #[] #[]] w fun e w' => e = .returned (.bool (!pairsB (fun _ => true) (fun x y => !sameName x.name y.name) l)) ∧ Below w.heap.size w w' := by
  have hn' := hn
  unfold maxLen at hn
  have HC := Lib.hid hcall; clear hcall
  have HL := Lib.hid hl; clear hl
  have HF := Lib.hid (seen_size Item.name l)
  have HS := Lib.hid hs; clear hs
  have hmm := @run_makeMap Try.prog
  go_enter Try.func77, Try.ntmps77
  go_wp2_with fail
  go_loopw [7, 11] (fun _ i wr => ∃ k : Nat, k ≤ l.length ∧ i = .int .i64 k ∧ wr.ownsMap Try.prog 9 unitElem w.heap.size k (seenTo Item.name l k) ∧ Below w.heap.size w wr) (fun _ i _ => l.length - (intOf i).toNat)
  case atStart => exact ⟨0, Nat.zero_le _, rfl, World.ownsMap_made _ _ _ _, below_box _ _⟩
  case round =>
    obtain ⟨k, hk, rfl, hown, hb⟩ := hrel
    have hz := hown.lt
    by_cases hlt : k < l.length
    · obtain ⟨b, off, rfl, hbb, c0, c1, c2, c3, c4, c5, c6⟩ := (HL.out.below hb).at_ hlt
      have HK := Lib.hid (seenTo_succ Item.name l k hlt)
      have hkey : keyOf Try.prog 9 (.string l[k].name) = some (keyOfName l[k].name) := keyOf_string_mk Try.underlying9 (HS.out _ (List.getElem_mem hlt))
      have HKEY := Lib.hid hkey; clear hkey
      go_wp2_with fail
      refine (HC.out l[k] _).mono ?_
      rintro e w1 ⟨rfl, hb1⟩
      have hb2 := bpast hb1
      have hown1 := map_below hown hb2 hz
      go_wp2_with (at_mapUpdate; refine wpList_mapUpdate_own _ rfl _ _ _ 89 rfl 9 90 strKey Try.underlying89 unitElem w.heap.size k _ rfl hown1 (by omega) _ _ _ rfl rfl HKEY.out _ [] unitElem_mk ?_; intro w2 hown2 hgrow2)
      go_roundw
      case rel => exact ⟨k + 1, by omega, by go_num, HK.out.symm ▸ hown2, (hb.trans (hb2.mono hb.size)).grown hgrow2 (hb.trans (hb2.mono hb.size)).size (fun j hj => by cases hj; exact Nat.le_refl _)⟩
      case measure => simp [intOf]; omega
    · have hk2 : k = l.length := by omega
      have HK := Lib.hid hk2; clear hk2
      go_wp2_with (at_len; refine wpList_len_own _ rfl _ 89 rfl 9 90 Try.underlying89 _ w.heap.size k _ rfl hown ?_)
      go_ret
      exact ⟨ret_bool (by rw [HK.out]; exact HF.out), hb⟩
set_option maxHeartbeats 400000 in
theorem twice_bricks (g : FuncId) (hg : ∀ (xs : Array Value) (w : World), Sem.run Try.prog (callFunc g xs) w = .ok (.enter g xs) w) (A : Option Addr) (c : Nat) (l : List Brick) (w : World)
    (hl : BricksAt w w.heap.size A l) (hn : l.length < maxLen) (hs : ∀ x, x ∈ l → x.name.size ≤ maxLen)
    (hcall : ∀ (x : Brick) (w1 : World), Calls Try.prog g #[x.val] w1 fun e w2 => e = .returned (.string x.name) ∧ Below w1.heap.size w1 w2) :
    Calls Try.prog 80 #[.slice A l.length c, .func (.func g) #[] #[]] w fun e w' => e = .returned (.bool (!pairsB (fun _ => true) (fun x y => !sameName x.name y.name) l)) ∧ Below w.heap.size w w' := by
  have hn' := hn
  unfold maxLen at hn
  have HC := Lib.hid hcall; clear hcall
  have HL := Lib.hid hl; clear hl
  have HF := Lib.hid (seen_size Brick.name l)
  have HS := Lib.hid hs; clear hs
  have hmm := @run_makeMap Try.prog
  go_enter Try.func80, Try.ntmps80
  go_wp2_with fail
  go_loopw [7, 11] (fun _ i wr => ∃ k : Nat, k ≤ l.length ∧ i = .int .i64 k ∧ wr.ownsMap Try.prog 9 unitElem w.heap.size k (seenTo Brick.name l k) ∧ Below w.heap.size w wr) (fun _ i _ => l.length - (intOf i).toNat)
  case atStart => exact ⟨0, Nat.zero_le _, rfl, World.ownsMap_made _ _ _ _, below_box _ _⟩
  case round =>
    obtain ⟨k, hk, rfl, hown, hb⟩ := hrel
    have hz := hown.lt
    by_cases hlt : k < l.length
    · obtain ⟨b, off, rfl, hbb, c0, c1, c2⟩ := (HL.out.below hb).at_ hlt
      have HK := Lib.hid (seenTo_succ Brick.name l k hlt)
      have hkey : keyOf Try.prog 9 (.string l[k].name) = some (keyOfName l[k].name) := keyOf_string_mk Try.underlying9 (HS.out _ (List.getElem_mem hlt))
      have HKEY := Lib.hid hkey; clear hkey
      go_wp2_with fail
      refine (HC.out l[k] _).mono ?_
      rintro e w1 ⟨rfl, hb1⟩
      have hb2 := bpast hb1
      have hown1 := map_below hown hb2 hz
      go_wp2_with (at_mapUpdate; refine wpList_mapUpdate_own _ rfl _ _ _ 89 rfl 9 90 strKey Try.underlying89 unitElem w.heap.size k _ rfl hown1 (by omega) _ _ _ rfl rfl HKEY.out _ [] unitElem_mk ?_; intro w2 hown2 hgrow2)
      go_roundw
      case rel => exact ⟨k + 1, by omega, by go_num, HK.out.symm ▸ hown2, (hb.trans (hb2.mono hb.size)).grown hgrow2 (hb.trans (hb2.mono hb.size)).size (fun j hj => by cases hj; exact Nat.le_refl _)⟩
      case measure => simp [intOf]; omega
    · have hk2 : k = l.length := by omega
      have HK := Lib.hid hk2; clear hk2
      go_wp2_with (at_len; refine wpList_len_own _ rfl _ 89 rfl 9 90 Try.underlying89 _ w.heap.size k _ rfl hown ?_)
      go_ret
      exact ⟨ret_bool (by rw [HK.out]; exact HF.out), hb⟩
end Go.Proofs.Ytlaplbkekfnldaa
