/- batten.twice: whether two elements have one name (a map as a set). -/
import Derived.Test.YtmdghocpelkcoaaPl5
namespace Go.Proofs.Ytmdghocpelkcoaa

def keysM {α : Type} (f : α → ByteArray) (l : List α) : List (ByteArray × Bool) := l.foldl (fun m x => setM (f x) true m) []
theorem keysM_snoc {α : Type} (f : α → ByteArray) (l : List α) (x : α) : keysM f (l ++ [x]) = setM (f x) true (keysM f l) := by unfold keysM; rw [List.foldl_append]; rfl
theorem keysM_find {α : Type} (f : α → ByteArray) (s : ByteArray) (l : List α) (k : Nat) (hk : k ≤ l.length) : (findM s (keysM f (l.take k))).isSome = true ↔ ∃ x ∈ l.take k, f x = s := by
  induction k with
  | zero => simp [keysM, findM]
  | succ k ih =>
    have ih := ih (by omega)
    rw [List.take_succ_eq_append_getElem (by omega), keysM_snoc]
    by_cases h : s = f l[k]
    · subst h
      rw [find_set_same]
      exact ⟨fun _ => ⟨l[k], List.mem_append_right _ (List.mem_singleton.2 rfl), rfl⟩, fun _ => rfl⟩
    · rw [find_set_other h, ih]
      constructor
      · rintro ⟨x, hx, e⟩
        exact ⟨x, List.mem_append_left _ hx, e⟩
      · rintro ⟨x, hx, e⟩
        rcases List.mem_append.1 hx with hx | hx
        · exact ⟨x, hx, e⟩
        · rw [List.mem_singleton] at hx
          subst hx
          exact absurd e.symm h
theorem keysM_length {α : Type} (f : α → ByteArray) (l : List α) (k : Nat) (hk : k ≤ l.length) : (keysM f (l.take k)).length ≤ k ∧ ((keysM f (l.take k)).length = k ↔ ∀ i (hi : i < k) j (hj : j < i), f (l[j]'(by omega)) ≠ f (l[i]'(by omega))) := by
  induction k with
  | zero => exact ⟨by simp [keysM], by simp [keysM]⟩
  | succ k ih =>
    obtain ⟨h1, h2⟩ := ih (by omega)
    have hfind := keysM_find f (f l[k]) l k (by omega)
    have hlen := length_set (f l[k]) true (keysM f (l.take k))
    rw [List.take_succ_eq_append_getElem (by omega), keysM_snoc, hlen]
    by_cases hs : (findM (f l[k]) (keysM f (l.take k))).isSome = true
    · rw [if_pos hs]
      refine ⟨by omega, ⟨fun e => by omega, fun e => ?_⟩⟩
      obtain ⟨x, hx, he⟩ := hfind.1 hs
      obtain ⟨j, hj, rfl⟩ := List.mem_take_iff_getElem.1 hx
      exact absurd he (e k (by omega) j (by omega))
    · rw [if_neg hs]
      refine ⟨by omega, ⟨fun e i hi j hj => ?_, fun e => ?_⟩⟩
      · by_cases hik : i < k
        · exact h2.1 (by omega) i hik j hj
        · obtain rfl : i = k := by omega
          intro he
          exact hs (hfind.2 ⟨l[j]'(by omega), List.mem_take_iff_getElem.2 ⟨j, by omega, rfl⟩, he⟩)
      · have := h2.2 (fun i hi j hj => e i (by omega) j hj)
        omega
theorem keysM_twice {α : Type} (f : α → ByteArray) (l : List α) : decide ((((keysM f l).length : Nat) : Int) < ((l.length : Nat) : Int)) = !pairsB (fun _ => true) (fun x y => !sameName (f x) (f y)) l := by
  obtain ⟨h1, h2⟩ := keysM_length f l l.length (Nat.le_refl _)
  rw [List.take_length] at h1 h2
  have h3 : (keysM f l).length = l.length ↔ pairsB (fun _ => true) (fun x y => !sameName (f x) (f y)) l = true := by
    rw [h2, pairs_iff]
    constructor
    · intro e i hi
      refine ⟨rfl, fun k hk => ?_⟩
      rw [Bool.not_eq_true', Bool.eq_false_iff, Ne, sameName_iff]
      exact e i hi k hk
    · intro e i hi j hj
      have := (e i hi).2 j hj
      rw [Bool.not_eq_true', Bool.eq_false_iff, Ne, sameName_iff] at this
      exact this
  cases hp : pairsB (fun _ => true) (fun x y => !sameName (f x) (f y)) l with
  | true => exact decide_eq_false (by have := h3.2 hp; omega)
  | false => exact decide_eq_true (by
      have : (keysM f l).length ≠ l.length := fun e => by rw [h3.1 e] at hp; cases hp
      omega)
theorem f_batten_twice_api_Item (l : List TItem) (hl : l.length ≤ 2147483648) (name : TItem → Option ByteArray) (f : TItem → ByteArray) (hf : ∀ x ∈ l, name x = some (f x) ∧ (f x).size ≤ 2147483648) :
    F_batten_twice_api_Item l name = some (!pairsB (fun _ => true) (fun x y => !sameName (f x) (f y)) l) := by
  unfold F_batten_twice_api_Item
  obtain ⟨r, h1, h2⟩ := iter_inv (F := fun s5 : Int × List (ByteArray × Bool) × Unit => (bif (decide (s5.1 < ((l.length : Nat) : Int))) then (idx l s5.1).bind fun x6 => (name x6).bind fun r7 => (if r7.size ≤ 2147483648 ∧ s5.2.1.length ≤ 2147483648 then some (.inl ((IntKind.i64.wrap (s5.1 + 1)), (setM r7 true s5.2.1), ())) else none) else some (.inr (s5.2.1, ())) : Option ((Int × List (ByteArray × Bool) × Unit) ⊕ (List (ByteArray × Bool) × Unit))))
    (Q := fun r => r = (keysM f l, ())) (fun k s => s = ((k : Int), keysM f (l.take k), ())) l.length (by unfold big; omega) (fun k s hk hs => by
      subst hs
      by_cases hlt : k < l.length
      · have hd : decide ((k : Int) < ((l.length : Nat) : Int)) = true := decide_eq_true (by omega)
        obtain ⟨g1, g2⟩ := hf l[k] (List.getElem_mem hlt)
        have g3 := (keysM_length f l k (by omega)).1
        simp only [hd, cond_true, idx_at hlt, Option.bind_some, g1]
        rw [if_pos ⟨g2, by omega⟩, wrap64 (by omega) (by omega)]
        exact .inl ⟨_, rfl, hlt, by rw [List.take_succ_eq_append_getElem hlt, keysM_snoc]; rfl⟩
      · obtain rfl : k = l.length := by omega
        have hd : decide (((l.length : Nat) : Int) < ((l.length : Nat) : Int)) = false := decide_eq_false (by omega)
        simp only [hd, cond_false]
        exact .inr ⟨_, rfl, by rw [List.take_length]⟩) (s := (0, ([] : List (ByteArray × Bool)), ())) rfl
  rw [h1, h2, Option.bind_some, keysM_twice]
theorem f_batten_twice_api_Brick (l : List TBrick) (hl : l.length ≤ 2147483648) (name : TBrick → Option ByteArray) (f : TBrick → ByteArray) (hf : ∀ x ∈ l, name x = some (f x) ∧ (f x).size ≤ 2147483648) :
    F_batten_twice_api_Brick l name = some (!pairsB (fun _ => true) (fun x y => !sameName (f x) (f y)) l) := by
  unfold F_batten_twice_api_Brick
  obtain ⟨r, h1, h2⟩ := iter_inv (F := fun s5 : Int × List (ByteArray × Bool) × Unit => (bif (decide (s5.1 < ((l.length : Nat) : Int))) then (idx l s5.1).bind fun x6 => (name x6).bind fun r7 => (if r7.size ≤ 2147483648 ∧ s5.2.1.length ≤ 2147483648 then some (.inl ((IntKind.i64.wrap (s5.1 + 1)), (setM r7 true s5.2.1), ())) else none) else some (.inr (s5.2.1, ())) : Option ((Int × List (ByteArray × Bool) × Unit) ⊕ (List (ByteArray × Bool) × Unit))))
    (Q := fun r => r = (keysM f l, ())) (fun k s => s = ((k : Int), keysM f (l.take k), ())) l.length (by unfold big; omega) (fun k s hk hs => by
      subst hs
      by_cases hlt : k < l.length
      · have hd : decide ((k : Int) < ((l.length : Nat) : Int)) = true := decide_eq_true (by omega)
        obtain ⟨g1, g2⟩ := hf l[k] (List.getElem_mem hlt)
        have g3 := (keysM_length f l k (by omega)).1
        simp only [hd, cond_true, idx_at hlt, Option.bind_some, g1]
        rw [if_pos ⟨g2, by omega⟩, wrap64 (by omega) (by omega)]
        exact .inl ⟨_, rfl, hlt, by rw [List.take_succ_eq_append_getElem hlt, keysM_snoc]; rfl⟩
      · obtain rfl : k = l.length := by omega
        have hd : decide (((l.length : Nat) : Int) < ((l.length : Nat) : Int)) = false := decide_eq_false (by omega)
        simp only [hd, cond_false]
        exact .inr ⟨_, rfl, by rw [List.take_length]⟩) (s := (0, ([] : List (ByteArray × Bool)), ())) rfl
  rw [h1, h2, Option.bind_some, keysM_twice]
end Go.Proofs.Ytmdghocpelkcoaa
