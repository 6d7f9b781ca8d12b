/- batten.items: what the items' check comes to. -/
import Derived.Test.YtmdghocpelkcoaaPl6
namespace Go.Proofs.Ytmdghocpelkcoaa

theorem inside_sum {x : TItem} {len : Int} (h : insideB x len = true) (hl : len ≤ 4611686018427387904) : -4611686018427387904 ≤ x.at_ + x.width ∧ x.at_ + x.width ≤ 4611686018427387904 := by
  simp only [insideB, betweenB, Bool.and_eq_true, decide_eq_true_iff] at h
  omega
theorem f_items (l : List TItem) (len : Int) (hl : l.length ≤ 2147483648) (hn : ∀ x ∈ l, x.name.size ≤ 2147483648) (h1 : -4611686018427387904 ≤ len) (h2 : len ≤ 4611686018427387904) : F_batten_items l len = some (itemsB l len) := by
  unfold F_batten_items itemsB
  rw [f_batten_twice_api_Item l hl (fun z3 => F_batten_items_1 z3) (fun x => x.name) (fun x hx => ⟨rfl, hn x hx⟩)]
  by_cases h40 : l.length ≤ 40
  · have e1 : decide (((l.length : Nat) : Int) > 40) = false := decide_eq_false (by omega)
    rw [e1, decide_eq_true h40]
    cases hp : pairsB (fun _ => true) (fun x y : TItem => !sameName x.name y.name) l with
    | false => simp only [cond_false, Option.bind_some, Bool.not_false, cond_true, Bool.and_false]
    | true =>
      simp only [cond_false, Option.bind_some, Bool.not_true, Bool.and_true, Bool.true_and]
      obtain ⟨r, g1, g2⟩ := iter_inv (F := fun s16 : Int × Unit => (bif (decide (s16.1 < ((l.length : Nat) : Int))) then (idx l s16.1).bind fun x17 => ((F_batten_alone x17).bind fun r18 => (bif (!r18) then some (true, ()) else (F_batten_inside x17 len).bind fun r19 => (bif (!r19) then some (true, ()) else (if 0 ≤ (0 : Int) ∧ (0 : Int) ≤ s16.1 ∧ s16.1 ≤ ((l.length : Nat) : Int) then (F_slices_ContainsFunc_api_Item ((l.take (Int.toNat s16.1)).drop (Int.toNat (0 : Int))) (fun z20 => F_batten_items_2 z20 x17)).bind fun r21 => some (r21, ()) else none))) : Option (Bool × Unit)).bind fun y22 => (bif y22.1 then some (.inr (.inl (false, ()))) else some (.inl ((IntKind.i64.wrap (s16.1 + 1)), ()))) else some (.inr (.inr ((())))) : Option ((Int × Unit) ⊕ ((Bool × Unit) ⊕ Unit))))
        (Q := fun r => r = (bif pairsB (fun x => aloneB x && insideB x len) apartB l then .inr () else .inl (false, ()))) (fun k s => s = ((k : Int), ()) ∧ okTo (fun x => aloneB x && insideB x len) apartB l k) l.length (by unfold big; omega) (fun k s hk hs => by
          obtain ⟨rfl, hok⟩ := hs
          by_cases hlt : k < l.length
          · have hd : decide ((k : Int) < ((l.length : Nat) : Int)) = true := decide_eq_true (by omega)
            have hna := hn l[k] (List.getElem_mem hlt)
            simp only [hd, cond_true, idx_at hlt, Option.bind_some, f_alone l[k] (by omega), f_inside l[k] len h1 h2]
            have hat := okAt_eq (one := fun x => aloneB x && insideB x len) (two := apartB) hlt
            have hno : ∀ b, okAt (fun x => aloneB x && insideB x len) apartB l k = false → b = (Sum.inl (false, ()) : (Bool × Unit) ⊕ Unit) → b = (bif pairsB (fun x => aloneB x && insideB x len) apartB l then .inr () else .inl (false, ())) := fun b h hb => by rw [pairs_no hlt h, hb]; rfl
            cases ha : aloneB l[k] with
            | false => exact .inr ⟨_, rfl, hno _ (by rw [hat, ha]; rfl) rfl⟩
            | true =>
              cases hi : insideB l[k] len with
              | false => exact .inr ⟨_, rfl, hno _ (by rw [hat, ha, hi]; rfl) rfl⟩
              | true =>
                simp only [Bool.not_true, cond_false]
                rw [if_pos ⟨by omega, by omega, by omega⟩, Int.toNat_natCast]
                have hxs := inside_sum hi h2
                rw [f_slices_ContainsFunc_api_Item ((l.take k).drop (Int.toNat 0)) (by simp; omega) _ (fun z => !apartB l[k] z) (fun z hz => by
                  have hz' : z ∈ l.take k := by simpa using hz
                  obtain ⟨j, hj, rfl⟩ := List.mem_take_iff_getElem.1 hz'
                  have hjk : j < k := by omega
                  have := hok j hjk
                  rw [okAt_eq (by omega)] at this
                  simp only [Bool.and_eq_true] at this
                  unfold F_batten_items_2
                  rw [f_apart _ _ hxs (inside_sum this.1.2 h2)]
                  rfl)]
                have hdr : (l.take k).drop (Int.toNat 0) = l.take k := by simp
                rw [hdr]
                simp only [Option.bind_some]
                have hall : ((l.take k).any fun z => !apartB l[k] z) = !(l.take k).all fun y => apartB y l[k] := by
                  rw [List.not_all_eq_any_not]
                  congr 1
                  funext z
                  rw [apart_comm]
                rw [hall]
                cases hq : (l.take k).all fun y => apartB y l[k] with
                | false => exact .inr ⟨_, rfl, hno _ (by rw [hat, ha, hi, hq]; rfl) rfl⟩
                | true =>
                  refine .inl ⟨((k : Int) + 1, ()), ?_, hlt, rfl, okTo_succ hok (by rw [hat, ha, hi, hq]; rfl)⟩
                  simp only [Bool.not_true, cond_false]
                  rw [wrap64 (by omega) (by omega)]
          · obtain rfl : k = l.length := by omega
            have hd : decide (((l.length : Nat) : Int) < ((l.length : Nat) : Int)) = false := decide_eq_false (by omega)
            simp only [hd, cond_false]
            exact .inr ⟨_, rfl, by rw [pairs_yes hok]; rfl⟩) (s := (0, ())) ⟨rfl, okTo_zero⟩
      rw [g1, g2]
      cases pairsB (fun x => aloneB x && insideB x len) apartB l <;> rfl
  · have e1 : decide (((l.length : Nat) : Int) > 40) = true := decide_eq_true (by omega)
    rw [e1, decide_eq_false h40]
    rfl
end Go.Proofs.Ytmdghocpelkcoaa
