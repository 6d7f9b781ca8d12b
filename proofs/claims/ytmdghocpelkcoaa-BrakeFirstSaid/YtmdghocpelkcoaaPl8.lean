/- batten.bricks: what the bricks' check comes to. -/
import Derived.Test.YtmdghocpelkcoaaPl7
namespace Go.Proofs.Ytmdghocpelkcoaa

theorem f_bricks (l : List TBrick) (hl : l.length ≤ 2147483648) (hn : ∀ x ∈ l, x.name.size ≤ 2147483648) : F_batten_bricks l = some (bricksB l) := by
  unfold F_batten_bricks bricksB
  rw [f_batten_twice_api_Brick l hl (fun z3 => F_batten_bricks_1 z3) (fun x => x.name) (fun x hx => ⟨rfl, hn x hx⟩), pairs_split (one := brickB)]
  by_cases h8 : l.length ≤ 8
  · have e1 : decide (((l.length : Nat) : Int) > 8) = false := decide_eq_false (by omega)
    rw [e1, decide_eq_true h8]
    cases hp : pairsB (fun _ => true) (fun x y : TBrick => !sameName x.name y.name) l with
    | false => simp only [cond_false, Option.bind_some, Bool.not_false, cond_true, Bool.and_false, Bool.false_and]
    | true =>
      simp only [cond_false, Option.bind_some, Bool.not_true, Bool.and_true, Bool.true_and]
      obtain ⟨r, g1, g2⟩ := iter_inv (F := fun s14 : Int × Int × Unit => (bif (decide (s14.2.1 < ((l.length : Nat) : Int))) then (idx l s14.2.1).bind fun x15 => ((F_decimal_IsName x15.name).bind fun r16 => (bif (!r16) then some (true, ()) else (F_batten_between x15.weight 1 1048576).bind fun r17 => (bif (!r17) then some (true, ()) else (F_batten_between x15.count 0 60).bind fun r18 => some ((!r18), ()))) : Option (Bool × Unit)).bind fun y19 => (bif y19.1 then some (.inr (.inl (false, ()))) else some (.inl ((IntKind.i64.wrap (s14.1 + x15.count)), (IntKind.i64.wrap (s14.2.1 + 1)), ()))) else some (.inr (.inr ((s14.1, ())))) : Option ((Int × Int × Unit) ⊕ ((Bool × Unit) ⊕ (Int × Unit)))))
        (Q := fun r => r = (bif l.all brickB then .inr (sumTo (·.count) l l.length, ()) else .inl (false, ()))) (fun k s => s = (sumTo (·.count) l k, (k : Int), ()) ∧ (l.take k).all brickB = true) l.length (by unfold big; omega) (fun k s hk hs => by
          obtain ⟨rfl, hok⟩ := hs
          by_cases hlt : k < l.length
          · have hd : decide ((k : Int) < ((l.length : Nat) : Int)) = true := decide_eq_true (by omega)
            have hna := hn l[k] (List.getElem_mem hlt)
            simp only [hd, cond_true, idx_at hlt, Option.bind_some, f_name l[k].name (by omega), f_between]
            cases hb : brickB l[k] with
            | false =>
              refine .inr ⟨.inl (false, ()), ?_, by rw [all_no l brickB k hlt hb]; rfl⟩
              unfold brickB at hb
              cases ha : nameB l[k].name <;> cases hc : betweenB l[k].weight 1 1048576 <;> cases hd' : betweenB l[k].count 0 60 <;> first | rfl | (rw [ha, hc, hd'] at hb; cases hb)
            | true =>
              have hg := GoodBrick.of hb
              have hsum := sumTo_bound (·.count) (l.take k) 60 (fun x hx => by
                have := GoodBrick.of (List.all_eq_true.1 hok x hx)
                exact ⟨this.c0, this.c1⟩) k (by simp; omega)
              have hsk : sumTo (·.count) (l.take k) k = sumTo (·.count) l k := by unfold sumTo; rw [List.take_take, Nat.min_self]
              rw [hsk] at hsum
              refine .inl ⟨(sumTo (·.count) l k + l[k].count, (k : Int) + 1, ()), ?_, hlt, by rw [sumTo_succ _ _ _ hlt]; rfl, all_take_succ l brickB k hlt hok hb⟩
              have hc0 := hg.c0
              have hc1 := hg.c1
              unfold brickB at hb
              simp only [Bool.and_eq_true] at hb
              rw [hb.1, hb.2.1, hb.2.2, wrap64 (by omega) (by omega), wrap64 (by omega) (by omega)]
              rfl
          · obtain rfl : k = l.length := by omega
            have hd : decide (((l.length : Nat) : Int) < ((l.length : Nat) : Int)) = false := decide_eq_false (by omega)
            simp only [hd, cond_false]
            rw [List.take_length] at hok
            exact .inr ⟨_, rfl, by rw [hok]; rfl⟩) (s := (0, 0, ())) ⟨rfl, by simp⟩
      rw [g1, g2]
      cases l.all brickB <;> rfl
  · have e1 : decide (((l.length : Nat) : Int) > 8) = true := decide_eq_true (by omega)
    rw [e1, decide_eq_false h8]
    rfl
end Go.Proofs.Ytmdghocpelkcoaa
