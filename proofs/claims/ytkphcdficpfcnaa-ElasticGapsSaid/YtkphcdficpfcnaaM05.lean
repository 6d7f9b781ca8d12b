/- Joined by merge.py: Pl1, Fn, PlR1, Rp, EF, PlR2, PlR3, PlR4, PlR5, PlR6, PlR7, PlR8, PlR9, PlR10, PlR11, PlR12, PlR13, PlR14, PlR15, PlV1, PlV2, PlV3, PlV4, Pl2, Pl3, Pl4, Pl5, Pl6, Pl7, Pl8, Pl9, Pl10, Pl11, Pl12, Pl13, PlE1, PlE2, PlE3, PlE4, PlE5, PlE6, PlE7, PlE8, PlE9, PlE10, PlE11, PlE12, PlE13, PlRev, PlE14, PlGo, PlE15. -/
import Derived.Test.YtkphcdficpfcnaaM04
import Derived.Shelf.RegionOpenPlain
import Derived.WalkKit
import Derived.Lib.Walk
import Derived.Lib.Hide
import Derived.Lib.SliceRun
import Derived.Laws.OwnMore
import Derived.OwnWalk
import Derived.Laws.IdiomCopy
import Derived.Deep.RegionLaw
import Derived.WalkSpells
/- Plain lemmas on loops, indices and wrapped integers. No program in sight. -/
namespace Go.Proofs.Ytkphcdficpfcnaa

theorem wrap64 {n : Int} (h1 : -9223372036854775808 ≤ n) (h2 : n ≤ 9223372036854775807) : IntKind.i64.wrap n = n := by
  simp only [IntKind.wrap, IntKind.bits, IntKind.signed, Bool.true_and]
  split
  · rename_i h
    have h := of_decide_eq_true h
    omega
  · rename_i h
    have h := of_decide_eq_false (by simpa using h : decide (n % 2 ^ 64 ≥ 2 ^ (64 - 1)) = false)
    omega
theorem iter_inv {σ ρ : Type} {F : σ → Option (σ ⊕ ρ)} {Q : ρ → Prop} (I : Nat → σ → Prop) (n : Nat) (hn : n < big)
    (step : ∀ k s, k ≤ n → I k s → (∃ s', F s = some (.inl s') ∧ k < n ∧ I (k + 1) s') ∨ ∃ r, F s = some (.inr r) ∧ Q r) {s : σ} (h : I 0 s) : ∃ r, iterF F big s = some r ∧ Q r := by
  have go : ∀ (fuel k : Nat) (s : σ), k ≤ n → n - k < fuel → I k s → ∃ r, iterF F fuel s = some r ∧ Q r := by
    intro fuel
    induction fuel with
    | zero => intro k s _ h; omega
    | succ fuel ih =>
      intro k s hk hf hi
      unfold iterF
      rcases step k s hk hi with ⟨s', h1, h2, h3⟩ | ⟨r, h1, h2⟩
      · rw [h1]
        exact ih (k + 1) s' h2 (by omega) h3
      · rw [h1]
        exact ⟨r, rfl, h2⟩
  exact go big 0 s (Nat.zero_le _) (by omega) h
theorem idx_at {α : Type} {l : List α} {k : Nat} (h : k < l.length) : idx l (k : Int) = some l[k] := by
  unfold idx
  rw [if_pos (by omega), Int.toNat_natCast, List.getElem?_eq_getElem h]
theorem idxB_at {s : ByteArray} {k : Nat} (h : k < s.size) : idxB s (k : Int) = some s[k] := by
  unfold idxB
  rw [if_pos (by omega), Int.toNat_natCast]
  exact getElem?_pos s k h
/-- A loop over a list that stops at the first element that says so. -/
theorem iter_find {α ρ : Type} {F : Int × Unit → Option ((Int × Unit) ⊕ ρ)} (l : List α) (hl : l.length < 9223372036854775807) (p : Nat → α → Option ρ) (d : ρ)
    (hin : ∀ (k : Nat) (h : k < l.length), F ((k : Int), ()) = match p k l[k] with | some r => some (.inr r) | none => some (.inl ((k : Int) + 1, ()))) (hout : F ((l.length : Int), ()) = some (.inr d)) :
    iterF F big (0, ()) = some (((l.zipIdx.findSome? fun x => p x.2 x.1)).getD d) := by
  have hb : l.length < big := by unfold big; omega
  obtain ⟨r, h1, h2⟩ := iter_inv (F := F) (Q := fun r => r = ((l.zipIdx.findSome? fun x => p x.2 x.1)).getD d) (fun k s => s = ((k : Int), ()) ∧ ((l.take k).zipIdx.findSome? fun x => p x.2 x.1) = none) l.length hb (fun k s hk hi => by
    obtain ⟨rfl, hi⟩ := hi
    by_cases hlt : k < l.length
    · have h := hin k hlt
      have htk : (l.take (k + 1)).zipIdx = (l.take k).zipIdx ++ [(l[k], k)] := by
        rw [List.take_succ_eq_append_getElem hlt, List.zipIdx_append]
        simp; omega
      cases hp : p k l[k] with
      | none =>
        rw [hp] at h
        exact .inl ⟨_, h, hlt, rfl, by rw [htk, List.findSome?_append, hi]; simp [hp]⟩
      | some r =>
        rw [hp] at h
        refine .inr ⟨r, h, ?_⟩
        have hall : l.zipIdx = (l.take (k + 1)).zipIdx ++ (l.drop (k + 1)).zipIdx (k + 1) := by
          have e : l.zipIdx = (l.take (k + 1) ++ l.drop (k + 1)).zipIdx := by rw [List.take_append_drop]
          rw [e, List.zipIdx_append, Nat.zero_add, List.length_take, Nat.min_eq_left (by omega)]
        rw [hall, htk, List.findSome?_append, List.findSome?_append, hi]
        simp [hp]
    · obtain rfl : k = l.length := by omega
      rw [List.take_length] at hi
      exact .inr ⟨d, hout, by rw [hi]; rfl⟩) (s := (0, ())) ⟨rfl, by simp⟩
  rw [h1, h2]
end Go.Proofs.Ytkphcdficpfcnaa

/- Exact numbers: the common divisor, sizes, products of two words. -/
namespace Go.Proofs.Ytkphcdficpfcnaa

theorem wrapu (n : Int) : IntKind.u64.wrap n = n % 18446744073709551616 := by
  simp only [IntKind.wrap, IntKind.bits, IntKind.signed, Bool.false_and, Bool.false_eq_true, if_false]
  rfl
theorem f_gcd (a b : Nat) (hb : b < big) : F_ratio_gcd a b = some (Nat.gcd a b : Int) := by
  unfold F_ratio_gcd
  have go : ∀ (fuel b a : Nat), b < fuel → iterF (σ := Int × Int × Unit) (ρ := Int × Unit) (fun s1 => (bif (s1.2.1 != 0) then (if s1.2.1 = 0 then none else some (.inl (s1.2.1, (s1.1.tmod s1.2.1), ()))) else some (.inr (s1.1, ())))) fuel (a, b, ()) = some ((Nat.gcd a b : Int), ()) := by
    intro fuel
    induction fuel with
    | zero => intro b a h; omega
    | succ fuel ih =>
      intro b a h
      unfold iterF
      rcases Nat.eq_zero_or_pos b with rfl | hp
      · simp
      · have h1 : ((b : Int) != 0) = true := by simp; omega
        rw [h1, cond_true, if_neg (by simp; omega)]
        simp only [show ((a : Int).tmod b) = ((a % b : Nat) : Int) from by rw [Int.tmod_eq_emod_of_nonneg (by omega)]; rfl]
        simp only [Option.bind_some]
        rw [ih (a % b) b (by have := Nat.mod_lt a hp; omega), Nat.gcd_comm a b, Nat.gcd_rec b a, Nat.gcd_comm]
  rw [go big b a hb]
  rfl
theorem f_size {n : Int} (h : -9223372036854775808 ≤ n) (h2 : n ≤ 9223372036854775807) : F_ratio_size n = some (n.natAbs : Int) := by
  unfold F_ratio_size
  rw [wrapu, wrapu]
  by_cases hn : n < 0
  · rw [decide_eq_true hn, cond_true]; congr 1; omega
  · rw [decide_eq_false hn, cond_false]; congr 1; omega
theorem sh32 (x : Int) : x.fdiv (2 ^ min (Int.toNat 32) IntKind.u64.bits) = x / 4294967296 := by
  rw [show (2 ^ min (Int.toNat 32) IntKind.u64.bits : Int) = 4294967296 from by decide, Int.fdiv_eq_ediv_of_nonneg _ (by omega)]
theorem lo32 {x : Int} (h : 0 ≤ x) : bitsOf .and .u64 x 4294967295 = x % 4294967296 := by
  obtain ⟨n, rfl⟩ := Int.eq_ofNat_of_zero_le h
  show IntKind.u64.wrap (((BitVec.ofInt 64 (n : Int) &&& BitVec.ofInt 64 4294967295).toNat : Nat) : Int) = _
  rw [wrapu, BitVec.toNat_and, show (4294967295 : Int) = ((2 ^ 32 - 1 : Nat) : Int) from rfl, BitVec.ofInt_natCast, BitVec.ofInt_natCast, BitVec.toNat_ofNat, BitVec.toNat_ofNat, Nat.mod_eq_of_lt (show 2 ^ 32 - 1 < 2 ^ 64 by decide), Nat.and_two_pow_sub_one_eq_mod]
  omega
theorem f_mul64 {x y : Int} (hx : 0 ≤ x) (hx2 : x < 18446744073709551616) (hy : 0 ≤ y) (hy2 : y < 18446744073709551616) :
    F_math_bits_Mul64 x y = some (x * y / 18446744073709551616, x * y % 18446744073709551616) := by
  unfold F_math_bits_Mul64
  simp only [sh32, lo32 hx, lo32 hy, wrapu]
  have ex : x = 4294967296 * (x / 4294967296) + x % 4294967296 := by omega
  have ey : y = 4294967296 * (y / 4294967296) + y % 4294967296 := by omega
  have a0 : 0 ≤ x / 4294967296 := by omega
  have a1 : x / 4294967296 ≤ 4294967295 := by omega
  have b0 : 0 ≤ x % 4294967296 := by omega
  have b1 : x % 4294967296 ≤ 4294967295 := by omega
  have c0 : 0 ≤ y / 4294967296 := by omega
  have c1 : y / 4294967296 ≤ 4294967295 := by omega
  have d0 : 0 ≤ y % 4294967296 := by omega
  have d1 : y % 4294967296 ≤ 4294967295 := by omega
  generalize x / 4294967296 = a at *
  generalize x % 4294967296 = b at *
  generalize y / 4294967296 = c at *
  generalize y % 4294967296 = d at *
  have exy : x * y = 18446744073709551616 * (a * c) + 4294967296 * (a * d + b * c) + b * d := by rw [ex, ey]; grind
  have bd (u v : Int) (u0 : 0 ≤ u) (u1 : u ≤ 4294967295) (v0 : 0 ≤ v) (v1 : v ≤ 4294967295) : 0 ≤ u * v ∧ u * v ≤ 18446744065119617025 :=
    ⟨Int.mul_nonneg u0 v0, Int.le_trans (Int.mul_le_mul u1 v1 v0 (by omega)) (by omega)⟩
  have p := bd a c a0 a1 c0 c1
  have q := bd a d a0 a1 d0 d1
  have r := bd b c b0 b1 c0 c1
  have t := bd b d b0 b1 d0 d1
  rw [exy]
  generalize a * c = A at *
  generalize a * d = B at *
  generalize b * c = C at *
  generalize b * d = D at *
  have e1 : D % 18446744073709551616 = D := by omega
  have e2 : B % 18446744073709551616 = B := by omega
  have e3 : C % 18446744073709551616 = C := by omega
  have e4 : A % 18446744073709551616 = A := by omega
  rw [e1, e2, e3, e4]
  have e5 : (B + D / 4294967296) % 18446744073709551616 = B + D / 4294967296 := by omega
  rw [e5, lo32 (by omega)]
  congr 2
  omega
theorem f_product {x y : Int} (hx : 0 ≤ x) (hx2 : x < 18446744073709551616) (hy : 0 ≤ y) (hy2 : y < 18446744073709551616) :
    F_ratio_product x y = some ⟨x * y / 18446744073709551616, x * y % 18446744073709551616⟩ := by
  unfold F_ratio_product
  rw [f_mul64 hx hx2 hy hy2]
  rfl
def wv (w : Twide) : Int := w.hi * 18446744073709551616 + w.lo
structure WOk (w : Twide) : Prop where
  h0 : 0 ≤ w.hi
  h1 : w.hi < 18446744073709551616
  l0 : 0 ≤ w.lo
  l1 : w.lo < 18446744073709551616
def ofV (v : Int) : Twide := ⟨v / 18446744073709551616, v % 18446744073709551616⟩
theorem wok_of {v : Int} (h : 0 ≤ v) (h2 : v < 340282366920938463463374607431768211456) : WOk (ofV v) := ⟨by unfold ofV; dsimp only; omega, by unfold ofV; dsimp only; omega, by unfold ofV; dsimp only; omega, by unfold ofV; dsimp only; omega⟩
theorem wv_of (v : Int) : wv (ofV v) = v := by unfold wv ofV; dsimp only; omega
theorem f_plus {a b : Twide} (ha : WOk a) (hb : WOk b) (h : wv a + wv b < 340282366920938463463374607431768211456) : F_ratio_plus a b = some (ofV (wv a + wv b)) := by
  obtain ⟨h0, h1, l0, l1⟩ := ha
  obtain ⟨g0, g1, m0, m1⟩ := hb
  unfold wv at *
  unfold F_ratio_plus u64M ofV
  rw [if_pos (by omega), if_pos (by omega)]
  congr 2 <;> omega
theorem f_minus {a b : Twide} (ha : WOk a) (hb : WOk b) (h : wv b ≤ wv a) : F_ratio_minus a b = some (ofV (wv a - wv b)) := by
  obtain ⟨h0, h1, l0, l1⟩ := ha
  obtain ⟨g0, g1, m0, m1⟩ := hb
  unfold wv at *
  unfold F_ratio_minus u64M ofV
  rw [if_pos (by omega), if_pos (by omega)]
  congr 2 <;> omega
theorem f_less {a b : Twide} (ha : WOk a) (hb : WOk b) : F_ratio_less a b = some (decide (wv a < wv b)) := by
  obtain ⟨h0, h1, l0, l1⟩ := ha
  obtain ⟨g0, g1, m0, m1⟩ := hb
  unfold wv F_ratio_less
  by_cases h : a.hi < b.hi
  · rw [decide_eq_true h]
    simp only [cond_true, Option.bind_some]
    congr 1; symm; apply decide_eq_true; omega
  · rw [decide_eq_false h]
    by_cases h2 : a.hi = b.hi
    · simp only [cond_true, cond_false, h2, beq_self_eq_true, Option.bind_some]
      congr 1; apply decide_eq_decide.mpr; omega
    · simp only [cond_false, beq_eq_false_iff_ne.mpr h2, Option.bind_some]
      congr 1; symm; apply decide_eq_false; omega
theorem f_signed {n : Bool} {x y : Int} (hx : 0 ≤ x) (hx2 : x < 18446744073709551616) (hy : 0 ≤ y) (hy2 : y < 18446744073709551616) :
    F_ratio_signed n x y = some (if x ≤ 1152921504606846976 ∧ y ≤ 1152921504606846976 then (⟨if n then -x else x, y⟩, 0) else (⟨0, 0⟩, 5)) := by
  unfold F_ratio_signed
  by_cases h : x ≤ 1152921504606846976
  · by_cases h2 : y ≤ 1152921504606846976
    · rw [if_pos ⟨h, h2⟩]
      rw [wrap64 (n := x) (by omega) (by omega), wrap64 (n := y) (by omega) (by omega), wrap64 (n := 0 - x) (by omega) (by omega)]
      cases n <;> simp [show ¬ x > 1152921504606846976 from by omega, show ¬ y > 1152921504606846976 from by omega]
    · rw [if_neg (by omega)]
      simp [show ¬ x > 1152921504606846976 from by omega, show y > 1152921504606846976 from by omega]
  · rw [if_neg (by omega)]
    simp [show x > 1152921504606846976 from by omega]
end Go.Proofs.Ytkphcdficpfcnaa

/- slices.Repeat of one element: its contract. -/
namespace Go.Proofs.Ytkphcdficpfcnaa
set_option linter.unusedVariables false
set_option linter.unusedSimpArgs false
open Go.RowKit Go.Lib

theorem step_copy_runR {P : Program} {ops : Array Oper} {o : Oper} {a : Act} {w : World} {K : Act → World → Prop} {Q : Exit → Act → World → Prop} {E : Prop}
    (hg : o.guard = none) (d x : Operand) (dT sT : TypeId) (hop : o.op = Op.call { callee := Callee.builtin Builtin.copy, args := #[d, x], argTypes := #[dT, sT] })
    (v u : Value) (hd : a.eval d = v) (hx : a.eval x = u) {v' : Value} {w' : World} (hr : (Builtin.copy_ #[dT, sT] o.type #[v, u]).run P w = .ok v' w') (hK : K (a.put o.dst v') w') :
    if Region.wanted o (yielded ops a.tmps) = true then Oper.wp P o a w K Q else E := by
  have hw : Region.wanted o (yielded ops a.tmps) = true := by simp [Region.wanted, hg]
  rw [if_pos hw]
  unfold Oper.wp
  simp [execOp, hop, resolve, invoke, builtin, hd, hx, hr, Result.andThen]
  exact hK
theorem bits_one {n : Nat} (hn : n ≤ 1000000) : F_math_bits_Mul 1 (n : Int) = some (0, (n : Int)) := by
  unfold F_math_bits_Mul
  rw [f_mul64 (by omega) (by omega) (by omega) (by omega)]
  have e1 : (1 : Int) * (n : Int) / 18446744073709551616 = 0 := by rw [Int.one_mul]; omega
  have e2 : (1 : Int) * (n : Int) % 18446744073709551616 = (n : Int) := by rw [Int.one_mul]; omega
  rw [e1, e2]; rfl
theorem mul_call (n : Nat) (hn : n ≤ 1000000) (w : World) : Calls Try.prog 78 #[.int .u64 1, .int .u64 n] w fun e w' => e = .returned (.tuple #[.int .u64 0, .int .u64 n]) ∧ Below w.heap.size w w' := by
  have hF : fe_math_bits_Mul.fn ((1 : Int), ((n : Int), ())) = some ((0 : Int), (n : Int)) := bits_one hn
  have ha : Args G w (argT G fe_math_bits_Mul.ps ((1 : Int), ((n : Int), ()))) [.int .u64 1, .int .u64 n] := .cons (RepP.val _ rfl) (.cons (RepP.val _ rfl) .nil)
  refine (ok_math_bits_Mul.ok (by kernel_rfl) _ _ hF w _ ha).mono ?_
  rintro e w' ⟨v, rfl, hb, hret⟩
  obtain ⟨m', _, _, h3⟩ := hret held0 w.heap.size [] (fun _ => undef) ⟨fun o ob ho => by simp at ho, fun o o' ob ob' b ho => by simp at ho, Nat.le_refl _, fun _ h => h.elim⟩
  refine ⟨?_, hb⟩
  have h4 : RepD G w' (Rof G ([] : G.Hp) m' w') 0 m' (.tup [.c (.pv (.val (.int .u64 0))), .c (.pv (.val (.int .u64 (n : Int))))]) v := h3
  obtain ⟨vs, rfl, hl, hv⟩ := h4
  obtain ⟨x0, e0, r0⟩ := hv 0 _ rfl
  obtain ⟨x1, e1, r1⟩ := hv 1 _ rfl
  have r0' : RepP G w' _ (.val (.int .u64 0)) x0 := r0
  have r1' : RepP G w' _ (.val (.int .u64 (n : Int))) x1 := r1
  cases r0'
  cases r1'
  match vs, hl, e0, e1 with
  | [a, b], _, e0, e1 => cases e0; cases e1; rfl
theorem copy_row {P : Program} (w : World) (dT sT ty elem : TypeId) (g o dLen dCap : Nat) (a : Addr) (sLen sCap m : Nat) (cur : Array Value) (x : Value)
    (hu : P.underlying dT = some (.slice elem)) (hs : (P.info? elem).map (·.size) = some 1)
    (hg : w.heap[g]? = some (.cells cur elem (0, 0))) (hn : m = Nat.min sLen dLen)
    (hsrc : ∀ j, j < m → w.cell? (a.add j) = some x) (hfit : o + m ≤ cur.size) (h1 : x.oneCell' = true) :
    (Builtin.copy_ #[dT, sT] ty #[.slice (some ⟨g, o, none⟩) dLen dCap, .slice (some a) sLen sCap]).run P w =
      .ok (.int .i64 m) (w.setRow g (cur.toList.take o ++ List.replicate m x ++ cur.toList.drop (o + m)).toArray) := by
  have := run_copy_row (P := P) w dT sT ty elem g o dLen dCap a sLen sCap cur elem (List.replicate m x) hu hs hg (by rw [List.length_replicate]; exact hn) (fun j v hj => by
    rw [List.getElem?_replicate] at hj
    split at hj
    · cases hj; exact hsrc j (by assumption)
    · cases hj) (by rw [List.length_replicate]; exact hfit) (fun v hv => by rw [(List.mem_replicate.1 hv).2]; exact h1)
  rw [this, List.length_replicate]
  rfl
structure RepI (w : World) (g n : Nat) (x : Value) (m : Nat) (wr : World) : Prop where
  row : ∃ row : Array Value, wr.heap[g]? = some (.cells row 3 (0, 0)) ∧ row.size = n ∧ row.toList.take m = List.replicate m x
  le : m ≤ n
  pos : n = 0 ∨ 1 ≤ m
  bel : Below w.heap.size w wr
theorem grown_row (w : World) (g : Nat) (row : Array Value) : w.grownBy (w.setRow g row) (some g) :=
  ⟨rfl, rfl, rfl, by rw [size_setRow]; exact Nat.le_refl _, fun k _ hk => setRow_other w g k _ (fun e => hk (by rw [e]))⟩
set_option maxHeartbeats 4000000 in
set_option maxRecDepth 1000000 in
theorem rep_walk (A : Addr) (cap n : Nat) (x : Value) (w : World) (hx : w.cell? A = some x) (h1 : x.oneCell' = true) (hn : n ≤ 1000000) (hnb : A.block < w.heap.size) (hsp : A.spot = none) :
    Calls Try.prog 43 #[.slice (some A) 1 cap, .int .i64 n] w fun e w' => ∃ g row, w.heap.size ≤ g ∧ e = .returned (.slice (some ⟨g, 0, none⟩) n n) ∧ Below w.heap.size w w' ∧ w'.heap[g]? = some (.cells row 3 (0, 0)) ∧ row.toList = List.replicate n x := by
  obtain ⟨i0, hi0, hz0, hz1, hz2⟩ := info_parts (show (Try.prog.info? 3).map (fun i => (i.zero, i.size, i.bytes)) = some (some (.int .i64 0), 1, 8) from by kernel_rfl)
  have hs1 : (Try.prog.info? 3).map (·.size) = some 1 := by rw [hi0]; simp [hz1]
  have hwu : IntKind.u64.wrap (n : Int) = (n : Int) := by rw [wrapu]; omega
  have hwi : IntKind.i64.wrap (n : Int) = (n : Int) := by rw [IntKind.wrap_i64]; omega
  have hn0 : ¬ ((n : Int) < 0) := by omega
  have hng : ¬ (9223372036854775807 < (n : Int)) := by omega
  go_enter Try.func43, Try.ntmps43
  go_wp2_with (first
    | (go_at_call 78; refine (mul_call n hn _).mono ?_; rintro e w1 ⟨rfl, hb1⟩)
    | (at_make; refine wpList_make_full _ rfl _ _ 23 rfl w.heap.size 3 i0 _ 1 Try.underlying23 hi0 hz0 hz1 _ _ _ _ n rfl rfl rfl rfl (by rw [hz2]; omega) (by unfold maxLen; omega) hb1.size ?_))
  intro w2 hown hgr
  obtain ⟨g, hg⟩ : ∃ g, g = w1.heap.size := ⟨_, rfl⟩
  rw [← hg] at hown ⊢
  obtain ⟨row0, hg2, hsz0⟩ : ∃ row0 : Array Value, w2.heap[g]? = some (.cells row0 3 (0, 0)) ∧ row0.size = n := by
    rcases hown.2 with ⟨e, _⟩ | ⟨g', cap', cur, e, _, hh, _, _, hcs, _⟩
    · cases e
    · cases e
      exact ⟨cur, hh, by rw [hcs]; omega⟩
  have hb2 : Below w.heap.size w w2 := hb1.grown hgr hb1.size (fun k hk => by cases hk)
  have hgw : w.heap.size ≤ g := by rw [hg]; exact hb1.size
  have hA0 : A.add 0 = A := by
    obtain ⟨b, o, s⟩ := A
    cases hsp
    rw [Addr.add_lit]; rfl
  have hxb : ∀ wr, Below w.heap.size w wr → wr.cell? A = some x := fun wr hb => (hb.cell hnb).trans hx
  have hcp0 : (Builtin.copy_ #[23, 23] 3 #[.slice (some ⟨g, 0, none⟩) n n, .slice (some A) 1 cap]).run Try.prog w2 = .ok (.int .i64 (Nat.min 1 n : Nat)) (w2.setRow g (row0.toList.take 0 ++ List.replicate (Nat.min 1 n) x ++ row0.toList.drop (0 + Nat.min 1 n)).toArray) :=
    copy_row w2 23 23 3 3 g 0 n n A 1 cap (Nat.min 1 n) row0 x Try.underlying23 hs1 hg2 rfl (fun j hj => by
      have : j = 0 := by have h5 : Nat.min 1 n ≤ 1 := Nat.min_le_left 1 n; omega
      subst this
      rw [hA0]
      exact hxb w2 hb2) (by have h5 : Nat.min 1 n ≤ n := Nat.min_le_right 1 n; show 0 + Nat.min 1 n ≤ _; rw [hsz0]; omega) h1
  obtain ⟨w3, hw3⟩ : ∃ w3, w3 = w2.setRow g (row0.toList.take 0 ++ List.replicate (Nat.min 1 n) x ++ row0.toList.drop (0 + Nat.min 1 n)).toArray := ⟨_, rfl⟩
  rw [← hw3] at hcp0
  obtain ⟨m0, hm0⟩ : ∃ m0, m0 = Nat.min 1 n := ⟨_, rfl⟩
  rw [← hm0] at hcp0 hw3
  have hm0n : m0 ≤ n ∧ (n = 0 ∨ 1 ≤ m0) := by
    rw [hm0]
    rcases Nat.eq_zero_or_pos n with h | h
    · subst h; exact ⟨Nat.le_refl _, .inl rfl⟩
    · have h5 : Nat.min 1 n = 1 := Nat.min_eq_left h
      rw [h5]; exact ⟨h, .inr (Nat.le_refl _)⟩
  have hI0 : RepI w g n x m0 w3 := by
    refine ⟨⟨_, by rw [hw3]; exact setRow_heap w2 g row0 _ _ (0, 0) hg2, ?_, ?_⟩, hm0n.1, hm0n.2, ?_⟩
    · simp; omega
    · simp
    · rw [hw3]
      exact hb2.grown (grown_row w2 g _) hb2.size (fun k hk => by cases hk; exact hgw)
  have HCP := Lib.hid hcp0
  have HI := Lib.hid hI0
  clear hcp0 hI0 hw3 hm0 hm0n hg2 hsz0 hown hgr hg hb1 hb2 hx
  have hcq := HCP.out
  go_wp2_with fail
  go_loopw [8] (fun i wr => ∃ m : Nat, i = .int .i64 m ∧ RepI w g n x m wr) (fun i _ => n - (Go.RowKit.intOf i).toNat)
  case atStart => exact ⟨m0, rfl, HI.out⟩
  case round =>
    obtain ⟨m, rfl, hI⟩ := hrel
    obtain ⟨⟨row, q1, q2, q3⟩, q4, q5, q6⟩ := hI
    by_cases hlt : m < n
    · have hm1 : 1 ≤ m := by omega
      have hcp : Hid (∀ ty dc sc, (Builtin.copy_ #[23, 23] ty #[.slice (some ⟨g, m, none⟩) (n - m) dc, .slice (some ⟨g, 0, none⟩) m sc]).run Try.prog wr.drew = .ok (.int .i64 (Nat.min m (n - m) : Nat)) (wr.drew.setRow g (row.toList.take m ++ List.replicate (Nat.min m (n - m)) x ++ row.toList.drop (m + Nat.min m (n - m))).toArray)) := fun ty dc sc =>
        copy_row wr.drew 23 23 ty 3 g m (n - m) dc ⟨g, 0, none⟩ m sc (Nat.min m (n - m)) row x Try.underlying23 hs1 q1 rfl (fun j hj => by
          have hj2 : j < m := Nat.lt_of_lt_of_le hj (Nat.min_le_left _ _)
          rw [Addr.add_lit, cell_of_row wr.drew g _ row _ (0, 0) q1, Nat.zero_add]
          have : (row.toList.take m)[j]? = some x := by rw [q3, List.getElem?_replicate, if_pos hj2]
          rw [List.getElem?_take, if_pos hj2] at this
          rwa [Array.getElem?_toList] at this) (by have h5 : Nat.min m (n - m) ≤ n - m := Nat.min_le_right m (n - m); show m + Nat.min m (n - m) ≤ _; omega) h1
      obtain ⟨c, hc⟩ : ∃ c, c = Nat.min m (n - m) := ⟨_, rfl⟩
      have hc1 : 1 ≤ c ∧ m + c ≤ n := by
        rw [hc]
        have h5 := Nat.min_le_right m (n - m)
        have h6 : 1 ≤ Nat.min m (n - m) := Nat.le_min.2 ⟨hm1, by omega⟩
        have h7 : Nat.min m (n - m) ≤ n - m := h5
        omega
      rw [← hc] at hcp
      obtain ⟨w4, hw4⟩ : ∃ w4, w4 = wr.drew.setRow g (row.toList.take m ++ List.replicate c x ++ row.toList.drop (m + c)).toArray := ⟨_, rfl⟩
      rw [← hw4] at hcp
      have hI2 : RepI w g n x (m + c) w4 := by
        refine ⟨⟨_, by rw [hw4]; exact setRow_heap wr.drew g row _ _ (0, 0) q1, ?_, ?_⟩, hc1.2, .inr (by omega), ?_⟩
        · simp; omega
        · have e1 : (row.toList.take m ++ List.replicate c x).length = m + c := by simp; omega
          show List.take (m + c) (_ ++ _ ++ _) = _
          rw [List.take_append_of_le_length (by omega), List.take_of_length_le (by omega), q3, List.replicate_append_replicate]
        · rw [hw4]
          exact q6.drew.grown (grown_row wr.drew g _) q6.size (fun k hk => by cases hk; exact hgw)
      have HI2 := Lib.hid hI2
      have hmn : ¬ (n = m) := by omega
      have hw8 : IntKind.i64.wrap ((m : Int) + (c : Int)) = (m : Int) + (c : Int) := by rw [IntKind.wrap_i64]; omega
      clear hI2 hw4 hc q1 q2 q3
      go_wp2_with fail
      go_region_law (refine step_copy_runR rfl _ _ 23 23 rfl (.slice (some ⟨g, m, none⟩) (n - m) (n - m)) (.slice (some ⟨g, 0, none⟩) m n) (by simp [Act.eval, Act.put]) (by simp [Act.eval, Act.put]) (hcp.out 3 (n - m) n) ?_)
      go_wp2
      refine ⟨⟨.int .i64 ((m : Int) + (c : Int)), _, _, _, _, _, _, _, _, _, _, _, _, _, ⟨m + c, by rw [Int.natCast_add], HI2.out⟩, rfl⟩, ?_⟩
      show n - (Go.RowKit.intOf (.int .i64 ((m : Int) + (c : Int)))).toNat < n - (Go.RowKit.intOf (.int .i64 (m : Int))).toNat
      show n - ((m : Int) + (c : Int)).toNat < n - ((m : Int)).toNat
      omega
    · have hmn : m = n := by omega
      subst hmn
      have HF := Lib.hid (show w.heap.size ≤ g ∧ Below w.heap.size w wr ∧ wr.heap[g]? = some (.cells row 3 (0, 0)) ∧ row.toList = List.replicate m x from ⟨hgw, q6, q1, by rw [List.take_of_length_le (by rw [Array.length_toList]; omega)] at q3; exact q3⟩)
      clear q1 q2 q3
      go_wp2_with fail
      go_ret
      exact ⟨g, row, HF.out.1, rfl, HF.out.2⟩
/-- What slices.Repeat makes of one number. -/
def F_slices_Repeat_int (x : List Int) (count : Int) : Option (List Int) := if x.length = 1 ∧ 0 ≤ count ∧ count ≤ 1000000 then some (List.replicate count.toNat (x.headD 0)) else none
def fe_slices_Repeat_int : Fe G := ⟨[.v .l_int1, .v .int1], [.l_int1], fun x => F_slices_Repeat_int x.1 x.2.1⟩
theorem ok_slices_Repeat_int : FnOk G 43 fe_slices_Repeat_int := by
  refine ⟨⟨_, Try.func43, by decide, by kernel_rfl⟩, fun _ x y hy w vs ha => ?_, fun h => absurd h (by decide)⟩
  obtain ⟨l, k, ⟨⟩⟩ := x
  have hy' : F_slices_Repeat_int l k = some y := hy
  unfold F_slices_Repeat_int at hy'
  split at hy'
  rotate_left
  · cases hy'
  rename_i hc
  obtain ⟨hl1, hk0, hk1⟩ := hc
  cases hy'
  obtain ⟨a, rfl⟩ : ∃ a, l = [a] := List.length_eq_one_iff.1 hl1
  obtain ⟨n, rfl⟩ : ∃ n : Nat, k = (n : Int) := ⟨Int.toNat k, (Int.toNat_of_nonneg hk0).symm⟩
  have ha' : RepTs G w (AllRo w) 0 (fun _ => undef) [.c (.pv (.sl .int1 [a])), .c (.pv (.val (.int .i64 (n : Int))))] vs := ha
  cases ha' with
  | cons hx hr =>
    cases hr with
    | cons hn hnil =>
      cases hnil
      rename_i v0 v1
      have hx' : RepP G w (AllRo w) (.sl .int1 [a]) v0 := hx
      have hn' : RepP G w (AllRo w) (.val (.int .i64 (n : Int))) v1 := hn
      cases hn'
      cases hx' with
      | sl _ _ A b off cap c hcap hcell hcc hr =>
        obtain ⟨rfl, hbw⟩ := hcell (Nat.lt_succ_self 0)
        have hcell0 := hcc 0 a 0 (.val (.int .i64 a)) rfl rfl
        have hval := hr 0 a 0 (.val (.int .i64 a)) rfl rfl
        have hv : c 0 0 = .int .i64 a := (fun v (h : RepP G w (AllRo w) (.val (.int .i64 a)) v) => (by cases h; rfl : v = .int .i64 a)) _ hval
        rw [hv] at hcell0
        refine (rep_walk ⟨b, off, none⟩ cap n (.int .i64 a) w ?_ rfl (by omega) hbw rfl).mono ?_
        · have ea : (⟨b, off + 0 * G.sz .int1 + 0, none⟩ : Addr) = ⟨b, off, none⟩ := by rw [Nat.zero_mul]; rfl
          rw [ea] at hcell0
          exact hcell0
        rintro e w' ⟨g, row, hgw, rfl, hb, hrow, hlist⟩
        refine ⟨_, rfl, hb, fun _ N hp m hh => ?_⟩
        have hlen : row.size = n := by rw [← Array.length_toList, hlist, List.length_replicate]
        have hown : w'.ownsRow N (G.ty .int1) (G.sz .int1) (.slice (some ⟨g, 0, none⟩) n n) (List.replicate (Int.toNat (n : Int)) a).length (List.replicate n (.int .i64 a)) := by
          rw [Int.toNat_natCast, List.length_replicate]
          refine ⟨by rw [List.length_replicate]; exact (Nat.mul_one n).symm, .inr ⟨g, n, row, rfl, Nat.le_trans hh.base hgw, hrow, Nat.le_refl _, by unfold maxLen; omega, by rw [hlen]; exact (Nat.mul_one n).symm, ?_⟩⟩
          show row.toList.take (n * 1) = _
          rw [hlist, Nat.mul_one, List.take_of_length_le (by rw [List.length_replicate]; exact Nat.le_refl _)]
        obtain ⟨k1, k2⟩ := new_row (u := .int1) (l := (List.replicate (Int.toNat (n : Int)) a : List (G.El .int1))) hh hb.size (fun b hlt => hb.block b hlt) hown (fun b hb => by cases hb; exact hgw) (fun k x j p hk hj => by
            have hk2 : (List.replicate (Int.toNat (n : Int)) a)[k]? = some x := hk
            rw [Int.toNat_natCast, List.getElem?_replicate] at hk2
            split at hk2
            · rename_i hkn
              cases hk2
              have hj2 : ([.val (.int .i64 a)] : List G.P')[j]? = some p := hj
              cases j with
              | zero =>
                cases hj2
                refine ⟨.int .i64 a, ?_, RepP.val _ rfl⟩
                show (List.replicate n (Value.int .i64 a))[k * 1 + 0]? = _
                rw [Nat.mul_one, Nat.add_zero, List.getElem?_replicate, if_pos hkn]
              | succ j => cases hj2
            · cases hk2) (fun x hx => by rw [(List.mem_replicate.1 hx).2]; rfl)
        exact ⟨_, k1, k2, by show hp.length < (hp ++ [_]).length; rw [List.length_append]; exact Nat.lt_succ_self _, by rw [mAt_same], rfl⟩
end Go.Proofs.Ytkphcdficpfcnaa

/- The functions that repeat a number, as plain data. Printed by mkev.py. -/
namespace Go.Proofs.Ytkphcdficpfcnaa
open Go.RowKit
set_option linter.unusedVariables false
set_option linter.unusedSimpArgs false
noncomputable section

def F_law17_ElasticGaps (weight : Int) (l : List TSpring) (gaps : List Int) (gap : Int) : Option (Bool) :=
  (F_law17_awake).bind fun r1 => (bif (!r1) then some false else ((F_law17_large l).bind fun r3 => (bif r3 then some (true, ()) else some ((decide (((gaps.length : Nat) : Int) > 20)), ())) : Option (Bool × Unit)).bind fun y4 => (bif y4.1 then some true else (F_slices_Repeat_int ([(IntKind.i64.wrap gap)] : List Int) ((l.length : Nat) : Int)).bind fun r5 => (F_elastic_Slack weight l r5).bind fun r6 => (F_elastic_Share weight l).bind fun r7 => ((bif (r6.2 != r7.2) then some (true, ()) else (F_slices_Equal_api_Frac r6.1 r7.1).bind fun r9 => some ((!r9), ())) : Option (Bool × Unit)).bind fun y10 => (bif y10.1 then some false else (F_elastic_Slack weight l gaps).bind fun r11 => (bif (r11.2 != 0) then some (((r11.1.length : Nat) : Int) == 0) else (F_law17_sum r11.1).bind fun r12 => ((bif (((r11.1.length : Nat) : Int) != ((l.length : Nat) : Int)) then some (true, ()) else (bif r12.2 then (F_law17_f weight).bind fun r14 => some ((!((r12.1.num == r14.num) && (r12.1.den == r14.den))), ()) else some (false, ()))) : Option (Bool × Unit)).bind fun y15 => (bif y15.1 then some false else (iterF (σ := Int × TFrac × Unit) (ρ := (Bool × TFrac × Unit) ⊕ (TFrac × Unit)) (fun s55 => (bif (decide (s55.1 < ((r11.1.length : Nat) : Int))) then ((idx r11.1 s55.1).bind fun _x56 => (r11.1[(Int.toNat s55.1)]?).bind fun x57 => (bif (decide (x57.num ≤ 0)) then (bif (decide (x57.num < 0)) then some (.inl (false, s55.2.1, ())) else some (.inr ((s55.2.1, ())))) else (idx l s55.1).bind fun x58 => (F_law17_f x58.stiff).bind fun r59 => (F_ratio_Div x57 r59).bind fun r60 => (bif (r60.2 != 0) then some (.inl (true, s55.2.1, ())) else (idx gaps s55.1).bind fun x61 => (F_law17_f x61).bind fun r62 => (F_ratio_Add r60.1 r62).bind fun r63 => (bif (r63.2 != 0) then some (.inl (true, s55.2.1, ())) else ((bif (!((s55.2.1.num == 0) && (s55.2.1.den == 0))) then some ((!((r63.1.num == s55.2.1.num) && (r63.1.den == s55.2.1.den))), ()) else some (false, ())) : Option (Bool × Unit)).bind fun y64 => (bif y64.1 then some (.inl (false, s55.2.1, ())) else some (.inr ((r63.1, ()))))))) : Option ((Bool × TFrac × Unit) ⊕ (TFrac × Unit))).bind fun y65 => (match y65 with | .inl y66 => some (.inr (.inl (y66.1, y66.2.1, ()))) | .inr y67 => some (.inl ((IntKind.i64.wrap (s55.1 + 1)), y67.1, ()))) else some (.inr (.inr ((s55.2.1, ())))))) big (0, (TFrac.mk 0 0), ())).bind fun y68 => (match y68 with | .inl y69 => some y69.1 | .inr y70 => (iterF (σ := Int × Unit) (ρ := (Bool × Unit) ⊕ (Unit)) (fun s77 => (bif (decide (s77.1 < ((r11.1.length : Nat) : Int))) then (idx r11.1 s77.1).bind fun _x78 => (r11.1[(Int.toNat s77.1)]?).bind fun x79 => (idx gaps s77.1).bind fun x80 => (F_law17_f x80).bind fun r81 => (F_ratio_Cmp r81 y70.1).bind fun r82 => ((bif (x79.num == 0) then (bif (r82.2 == 0) then some ((decide (r82.1 < 0)), ()) else some (false, ())) else some (false, ())) : Option (Bool × Unit)).bind fun y83 => (bif y83.1 then some (.inr (.inl (false, ()))) else some (.inl ((IntKind.i64.wrap (s77.1 + 1)), ()))) else some (.inr (.inr ((())))))) big (0, ())).bind fun y84 => (match y84 with | .inl y85 => some y85.1 | .inr y86 => ((bif (weight == 0) then some (true, ()) else some ((!((y70.1.num == 0) && (y70.1.den == 0))), ())) : Option (Bool × Unit)).bind fun y87 => some y87.1)))))))
def an_law17_ElasticGaps : An U := (.node none .nil (.node none .nil (.node none (.node (some ⟨[0, 1, 2, 3, 8], [], ⟨[], []⟩, [(.normal, ⟨[(33, .tv .bool)], []⟩)]⟩) .nil .nil) (.node none .nil (.node none .nil (.node none .nil (.node none (.node (some ⟨[0, 1, 2, 8], [], ⟨[], []⟩, [(.normal, ⟨[(61, .tv .bool)], []⟩)]⟩) .nil .nil) (.node none .nil (.node none .nil (.node none (.node none .nil (.node (some ⟨[0, 1, 2, 8, 10], [], ⟨[], []⟩, [(.normal, ⟨[(92, .tv .bool)], []⟩)]⟩) .nil .nil)) (.node none .nil (.node none (.node none .nil (.node none (.node (some ⟨[0, 1, 2, 10, 16, 93, 94], [6], ⟨[(95, .tv .int)], [(6, .bx .Frac [])]⟩, [(.ret, ⟨[(8, .tv .bool)], [(6, .bx .Frac [])]⟩), (.exit 0, ⟨[], [(6, .bx .Frac [])]⟩)]⟩) (.node none .nil (.node none .nil (.node (some ⟨[95], [6], ⟨[], []⟩, [(.ret, ⟨[(8, .tv .bool)], [(6, .bx .Frac [])]⟩), (.normal, ⟨[], [(6, .bx .Frac [])]⟩)]⟩) (.node none (.node none .nil (.node none .nil (.node none .nil (.node none .nil (.node none .nil (.node none (.node (some ⟨[19], [], ⟨[], []⟩, [(.normal, ⟨[(138, .tv .bool)], []⟩)]⟩) .nil .nil) .nil)))))) .nil) .nil))) .nil) .nil)) (.node none (.node none .nil (.node none (.node (some ⟨[0, 2, 16, 141, 142], [], ⟨[(143, .tv .int)], []⟩, [(.ret, ⟨[(8, .tv .bool)], []⟩), (.exit 2, ⟨[], []⟩)]⟩) (.node none .nil (.node none .nil (.node none (.node none (.node none .nil (.node none .nil (.node (some ⟨[143], [], ⟨[], []⟩, [(.normal, ⟨[(168, .tv .bool)], []⟩)]⟩) .nil .nil))) .nil) .nil))) .nil) .nil)) (.node (some ⟨[], [], ⟨[], []⟩, [(.normal, ⟨[(8, .tv .bool)], []⟩)]⟩) .nil .nil))))))))))))))
def fe_law17_ElasticGaps : Fe G := ⟨[.v .int1, .v .l_Spring, .v .l_int1, .v .u16], [.bool], fun x => F_law17_ElasticGaps x.1 x.2.1 x.2.2.1 x.2.2.2.1⟩
def tb_law17_ElasticGaps : List (FuncId × Fe G) := [(10, fe_law17_awake), (11, fe_law17_large), (13, fe_elastic_Slack), (18, fe_slices_Equal_api_Frac), (20, fe_elastic_Share), (27, fe_law17_f), (34, fe_law17_sum), (36, fe_ratio_Add), (38, fe_ratio_Cmp), (42, fe_ratio_Div), (43, fe_slices_Repeat_int)]
theorem ev_law17_ElasticGaps (x : TyP G fe_law17_ElasticGaps.ps) : evF G (lstK G tb_law17_ElasticGaps) (bodyOf Try.f9) an_law17_ElasticGaps 177 [.tmp 8] fe_law17_ElasticGaps.rs (argT G fe_law17_ElasticGaps.ps x) = fe_law17_ElasticGaps.fn x := by kernel_rfl
theorem ok_law17_ElasticGaps : FnOk G 9 fe_law17_ElasticGaps := fnOk_of G_ok (lstK_ok G_ok (lcons ok_law17_awake (lcons ok_law17_large (lcons ok_elastic_Slack (lcons ok_slices_Equal_api_Frac (lcons ok_elastic_Share (lcons ok_law17_f (lcons ok_law17_sum (lcons ok_ratio_Add (lcons ok_ratio_Cmp (lcons ok_ratio_Div (lcons ok_slices_Repeat_int (lnil))))))))))))) Try.func9 (by kernel_rfl) (by kernel_rfl) (by kernel_rfl) (by kernel_rfl) (by kernel_rfl) ev_law17_ElasticGaps
end
end Go.Proofs.Ytkphcdficpfcnaa

/- The length of a word, and a double word over a word (the long division by halves of words). -/
namespace Go.Proofs.Ytkphcdficpfcnaa

def lenTab : ByteArray := ⟨#[0, 1, 2, 2, 3, 3, 3, 3, 4, 4, 4, 4, 4, 4, 4, 4, 5, 5, 5, 5, 5, 5, 5, 5, 5, 5, 5, 5, 5, 5, 5, 5, 6, 6, 6, 6, 6, 6, 6, 6, 6, 6, 6, 6, 6, 6, 6, 6, 6, 6, 6, 6, 6, 6, 6, 6, 6, 6, 6, 6, 6, 6, 6, 6, 7, 7, 7, 7, 7, 7, 7, 7, 7, 7, 7, 7, 7, 7, 7, 7, 7, 7, 7, 7, 7, 7, 7, 7, 7, 7, 7, 7, 7, 7, 7, 7, 7, 7, 7, 7, 7, 7, 7, 7, 7, 7, 7, 7, 7, 7, 7, 7, 7, 7, 7, 7, 7, 7, 7, 7, 7, 7, 7, 7, 7, 7, 7, 7, 8, 8, 8, 8, 8, 8, 8, 8, 8, 8, 8, 8, 8, 8, 8, 8, 8, 8, 8, 8, 8, 8, 8, 8, 8, 8, 8, 8, 8, 8, 8, 8, 8, 8, 8, 8, 8, 8, 8, 8, 8, 8, 8, 8, 8, 8, 8, 8, 8, 8, 8, 8, 8, 8, 8, 8, 8, 8, 8, 8, 8, 8, 8, 8, 8, 8, 8, 8, 8, 8, 8, 8, 8, 8, 8, 8, 8, 8, 8, 8, 8, 8, 8, 8, 8, 8, 8, 8, 8, 8, 8, 8, 8, 8, 8, 8, 8, 8, 8, 8, 8, 8, 8, 8, 8, 8, 8, 8, 8, 8, 8, 8, 8, 8, 8, 8, 8, 8, 8, 8, 8, 8, 8, 8, 8, 8, 8, 8]⟩
theorem tab8 : ∀ k : Fin 256, 0 < k.val → ∃ t : Fin 9, 1 ≤ t.val ∧ idxB lenTab (k.val : Int) = some (UInt8.ofNat t.val) ∧ 2 ^ (t.val - 1) ≤ k.val ∧ k.val < 2 ^ t.val := by decide +kernel
theorem tab8i {x : Int} (h0 : 0 < x) (h1 : x < 256) : ∃ t : Nat, 1 ≤ t ∧ t ≤ 8 ∧ idxB lenTab x = some (UInt8.ofNat t) ∧ 2 ^ (t - 1) ≤ x.toNat ∧ x.toNat < 2 ^ t := by
  obtain ⟨n, rfl⟩ := Int.eq_ofNat_of_zero_le (Int.le_of_lt h0)
  obtain ⟨t, h2, h3, h4, h5⟩ := tab8 ⟨n, by omega⟩ (by simpa using h0)
  exact ⟨t.val, h2, by have := t.isLt; omega, h3, h4, h5⟩
theorem wrap8 {x : Int} (h0 : 0 ≤ x) (h1 : x < 256) : IntKind.u8.wrap x = x := by
  simp only [IntKind.wrap, IntKind.bits, IntKind.signed, Bool.false_and, Bool.false_eq_true, if_false]
  rw [show ((2 : Int) ^ 8) = 256 from rfl]
  omega
theorem len_end {y x : Int} {n : Nat} (hn : n ≤ 56) (h0 : 0 < x) (h1 : x < 256) (hl : x * 2 ^ n ≤ y) (hu : y < (x + 1) * 2 ^ n) :
    ∃ s : Nat, s ≤ 63 ∧ ((idxB lenTab (IntKind.u8.wrap x)).bind fun b4 => some (IntKind.i64.wrap ((n : Int) + (IntKind.i64.wrap ((b4.toNat : Nat) : Int))))) = some (64 - (s : Int)) ∧ 9223372036854775808 ≤ y * 2 ^ s ∧ y * 2 ^ s < 18446744073709551616 := by
  obtain ⟨t, t1, t8, e, l, u⟩ := tab8i h0 h1
  have et : (UInt8.ofNat t).toNat = t := by rw [UInt8.toNat_ofNat']; omega
  rw [wrap8 (by omega) h1, e]
  simp only [Option.bind_some]
  rw [et, wrap64 (n := (t : Int)) (by omega) (by omega), wrap64 (by omega) (by omega)]
  refine ⟨64 - (n + t), by omega, by congr 1; omega, ?_, ?_⟩
  · have h2 : (2 : Int) ^ (t - 1) ≤ x := by
      have : ((2 ^ (t - 1) : Nat) : Int) = (2 : Int) ^ (t - 1) := Int.natCast_pow 2 _
      omega
    have h3 : (2 : Int) ^ (t - 1) * 2 ^ n * 2 ^ (64 - (n + t)) ≤ y * 2 ^ (64 - (n + t)) :=
      Int.mul_le_mul_of_nonneg_right (Int.le_trans (Int.mul_le_mul_of_nonneg_right h2 (Int.le_of_lt (Int.pow_pos (by decide)))) hl) (Int.le_of_lt (Int.pow_pos (by decide)))
    have h4 : (2 : Int) ^ (t - 1) * 2 ^ n * 2 ^ (64 - (n + t)) = 9223372036854775808 := by
      rw [← Int.pow_add, ← Int.pow_add, show t - 1 + n + (64 - (n + t)) = 63 from by omega]
      rfl
    omega
  · have h2 : x + 1 ≤ (2 : Int) ^ t := by
      have : ((2 ^ t : Nat) : Int) = (2 : Int) ^ t := Int.natCast_pow 2 _
      omega
    have h3 : y * 2 ^ (64 - (n + t)) < (2 : Int) ^ t * 2 ^ n * 2 ^ (64 - (n + t)) :=
      Int.mul_lt_mul_of_pos_right (Int.lt_of_lt_of_le hu (Int.mul_le_mul_of_nonneg_right h2 (Int.le_of_lt (Int.pow_pos (by decide))))) (Int.pow_pos (by decide))
    have h4 : (2 : Int) ^ t * 2 ^ n * 2 ^ (64 - (n + t)) = 18446744073709551616 := by
      rw [← Int.pow_add, ← Int.pow_add, show t + n + (64 - (n + t)) = 64 from by omega]
      rfl
    omega
theorem sh16 (x : Int) : x.fdiv (2 ^ min (Int.toNat 16) IntKind.u64.bits) = x / 65536 := by
  rw [show (2 ^ min (Int.toNat 16) IntKind.u64.bits : Int) = 65536 from by decide, Int.fdiv_eq_ediv_of_nonneg _ (by omega)]
theorem sh8 (x : Int) : x.fdiv (2 ^ min (Int.toNat 8) IntKind.u64.bits) = x / 256 := by
  rw [show (2 ^ min (Int.toNat 8) IntKind.u64.bits : Int) = 256 from by decide, Int.fdiv_eq_ediv_of_nonneg _ (by omega)]
theorem len_eq (x : Int) : F_math_bits_Len64 x = (((bif (decide (x ≥ 4294967296)) then some ((x.fdiv (2 ^ min (Int.toNat 32) IntKind.u64.bits)), 32, ()) else some (x, 0, ())) : Option (Int × Int × Unit)).bind fun y1 => ((bif (decide (y1.1 ≥ 65536)) then some ((y1.1.fdiv (2 ^ min (Int.toNat 16) IntKind.u64.bits)), (IntKind.i64.wrap (y1.2.1 + 16)), ()) else some (y1.1, y1.2.1, ())) : Option (Int × Int × Unit)).bind fun y2 => ((bif (decide (y2.1 ≥ 256)) then some ((y2.1.fdiv (2 ^ min (Int.toNat 8) IntKind.u64.bits)), (IntKind.i64.wrap (y2.2.1 + 8)), ()) else some (y2.1, y2.2.1, ())) : Option (Int × Int × Unit)).bind fun y3 => (idxB lenTab (IntKind.u8.wrap y3.1)).bind fun b4 => some (IntKind.i64.wrap (y3.2.1 + (IntKind.i64.wrap ((b4.toNat : Nat) : Int))))) := by kernel_rfl
theorem f_len64 {y : Int} (h0 : 0 < y) (h1 : y < 18446744073709551616) : ∃ s : Nat, s ≤ 63 ∧ F_math_bits_Len64 y = some (64 - (s : Int)) ∧ 9223372036854775808 ≤ y * 2 ^ s ∧ y * 2 ^ s < 18446744073709551616 := by
  rw [len_eq]
  simp only [sh32, sh16, sh8]
  have fin : ∀ (x : Int) (n : Nat) (k : Int), (n : Int) = k → n ≤ 56 → 0 < x → x < 256 → x * 2 ^ n ≤ y → y < (x + 1) * 2 ^ n → ∃ s : Nat, s ≤ 63 ∧ ((idxB lenTab (IntKind.u8.wrap x)).bind fun b4 => some (IntKind.i64.wrap (k + (IntKind.i64.wrap ((b4.toNat : Nat) : Int))))) = some (64 - (s : Int)) ∧ 9223372036854775808 ≤ y * 2 ^ s ∧ y * 2 ^ s < 18446744073709551616 := by
    rintro x n k rfl hn hx hx2 hl hu
    exact len_end hn hx hx2 hl hu
  by_cases c1 : y ≥ 4294967296
  · rw [decide_eq_true c1]
    simp only [cond_true, Option.bind_some]
    by_cases c2 : y / 4294967296 ≥ 65536
    · rw [decide_eq_true c2]
      simp only [cond_true, Option.bind_some]
      by_cases c3 : y / 4294967296 / 65536 ≥ 256
      · rw [decide_eq_true c3]
        simp only [cond_true, Option.bind_some]
        exact fin _ 56 _ (by rfl) (by omega) (by omega) (by omega) (by omega) (by omega)
      · rw [decide_eq_false c3]
        simp only [cond_false, Option.bind_some]
        exact fin _ 48 _ (by rfl) (by omega) (by omega) (by omega) (by omega) (by omega)
    · rw [decide_eq_false c2]
      simp only [cond_false, Option.bind_some]
      by_cases c3 : y / 4294967296 ≥ 256
      · rw [decide_eq_true c3]
        simp only [cond_true, Option.bind_some]
        exact fin _ 40 _ (by rfl) (by omega) (by omega) (by omega) (by omega) (by omega)
      · rw [decide_eq_false c3]
        simp only [cond_false, Option.bind_some]
        exact fin _ 32 _ (by rfl) (by omega) (by omega) (by omega) (by omega) (by omega)
  · rw [decide_eq_false c1]
    simp only [cond_false, Option.bind_some]
    by_cases c2 : y ≥ 65536
    · rw [decide_eq_true c2]
      simp only [cond_true, Option.bind_some]
      by_cases c3 : y / 65536 ≥ 256
      · rw [decide_eq_true c3]
        simp only [cond_true, Option.bind_some]
        exact fin _ 24 _ (by rfl) (by omega) (by omega) (by omega) (by omega) (by omega)
      · rw [decide_eq_false c3]
        simp only [cond_false, Option.bind_some]
        exact fin _ 16 _ (by rfl) (by omega) (by omega) (by omega) (by omega) (by omega)
    · rw [decide_eq_false c2]
      simp only [cond_false, Option.bind_some]
      by_cases c3 : y ≥ 256
      · rw [decide_eq_true c3]
        simp only [cond_true, Option.bind_some]
        exact fin _ 8 _ (by rfl) (by omega) (by omega) (by omega) (by omega) (by omega)
      · rw [decide_eq_false c3]
        simp only [cond_false, Option.bind_some]
        exact fin _ 0 _ (by rfl) (by omega) (by omega) (by omega) (by omega) (by omega)
end Go.Proofs.Ytkphcdficpfcnaa

/- A double word over a word: the long division by halves of words. -/
namespace Go.Proofs.Ytkphcdficpfcnaa

/-- One digit of the long division: the estimate q comes down to the digit. `st` puts the estimate and the rest into the loop's state. -/
theorem knuth {σ : Type} (st : Int → Int → σ) {F : σ → Option (σ ⊕ (Int × Unit))} {D U u1 a b : Int} (hD : D = a * 4294967296 + b) (ha : 2147483648 ≤ a) (ha2 : a < 4294967296) (hb : 0 ≤ b) (hb2 : b < 4294967296)
    (hU : 0 ≤ U) (hU2 : U < D) (hu : 0 ≤ u1) (hu2 : u1 < 4294967296)
    (hF : ∀ q r, 0 ≤ q → q ≤ 4294967297 → 0 ≤ r → r < 4294967296 → F (st q r) =
      if q ≥ 4294967296 ∨ q * b > 4294967296 * r + u1 then (if r + a ≥ 4294967296 then some (.inr ((q - 1) % 18446744073709551616, ())) else some (.inl (st ((q - 1) % 18446744073709551616) (r + a)))) else some (.inr (q, ()))) :
    iterF F big (st (U / a) (U % a)) = some ((U * 4294967296 + u1) / D, ()) := by
  have hDp : 0 < D := by omega
  generalize hQ : (U * 4294967296 + u1) / D = Q
  have hQ1 : Q * D ≤ U * 4294967296 + u1 := by rw [← hQ, Int.mul_comm]; exact Int.mul_ediv_self_le (by omega)
  have hQ2 : U * 4294967296 + u1 < (Q + 1) * D := by rw [← hQ]; have := Int.lt_mul_ediv_self_add (x := U * 4294967296 + u1) hDp; rw [Int.add_mul, Int.one_mul, Int.mul_comm _ D]; exact this
  have hQ0 : 0 ≤ Q := by rw [← hQ]; exact Int.ediv_nonneg (by omega) (by omega)
  have hQB : Q < 4294967296 := by
    rw [← hQ]
    apply Int.ediv_lt_of_lt_mul hDp
    omega
  have go : ∀ (fuel : Nat) (q r : Int), (q - Q).toNat < fuel → Q ≤ q → q ≤ 4294967297 → 0 ≤ r → r < 4294967296 → q * a + r = U → iterF F fuel (st q r) = some (Q, ()) := by
    intro fuel
    induction fuel with
    | zero => intro q r h; omega
    | succ fuel ih =>
      intro q r hf hq hq2 hr hr2 he
      unfold iterF
      rw [hF q r (by omega) hq2 hr hr2]
      have hqD : q * D = (U - r) * 4294967296 + q * b := by rw [hD, ← he]; grind
      by_cases c : q ≥ 4294967296 ∨ q * b > 4294967296 * r + u1
      · rw [if_pos c]
        have hlt : Q < q := by
          rcases c with c | c
          · omega
          · apply Int.lt_of_not_ge
            intro h
            have : q = Q := by omega
            subst this
            omega
        by_cases c2 : r + a ≥ 4294967296
        · rw [if_pos c2]
          simp only [Option.bind_some]
          have h1 : (q - 1) * D ≤ U * 4294967296 + u1 := by
            have e : (q - 1) * D = (U - (r + a)) * 4294967296 + (q - 1) * b := by rw [hD, ← he]; grind
            have : (q - 1) * b ≤ 4294967296 * 4294967295 := Int.mul_le_mul (by omega) (by omega) hb (by omega)
            omega
          have h2 : q - 1 < Q + 1 := Int.lt_of_mul_lt_mul_right (Int.lt_of_le_of_lt h1 hQ2) (by omega)
          congr 2
          omega
        · rw [if_neg c2]
          simp only [Option.bind_some]
          rw [show (q - 1) % 18446744073709551616 = q - 1 from by omega]
          exact ih _ _ (by omega) (by omega) (by omega) (by omega) (by omega) (by rw [← he]; grind)
      · rw [if_neg c]
        simp only [Option.bind_some]
        have h1 : q * D ≤ U * 4294967296 + u1 := by omega
        have h2 : q < Q + 1 := Int.lt_of_mul_lt_mul_right (Int.lt_of_le_of_lt h1 hQ2) (by omega)
        congr 2
        omega
  have hm := Int.emod_nonneg U (b := a) (by omega)
  have hm2 := Int.emod_lt_of_pos U (b := a) (by omega)
  have hd : U / a * a + U % a = U := by rw [Int.mul_comm]; exact Int.mul_ediv_add_emod U a
  have hle : U / a ≤ 4294967297 := by
    have : U / a < 4294967298 := by
      apply Int.ediv_lt_of_lt_mul (by omega)
      omega
    omega
  refine go big _ _ (by unfold big; omega) ?_ hle hm (by omega) hd
  have : Q * a ≤ U := by
    have h : Q * D = Q * a * 4294967296 + Q * b := by rw [hD]; grind
    have h2 : 0 ≤ Q * b := Int.mul_nonneg hQ0 hb
    omega
  exact Int.le_ediv_of_mul_le (by omega) this
end Go.Proofs.Ytkphcdficpfcnaa

/- A double word over a word, continued. -/
namespace Go.Proofs.Ytkphcdficpfcnaa

def divR (D a b R u0 q1 r3 : Int) : Option (Int × Int) := (if a = 0 then none else (iterF (σ := Int × Int × Unit) (ρ := Int × Unit) (fun s9 => ((bif (decide (s9.2.1 ≥ 4294967296)) then some (true, ()) else some ((decide ((IntKind.u64.wrap (s9.2.1 * b)) > (IntKind.u64.wrap ((IntKind.u64.wrap (4294967296 * s9.1)) + u0)))), ())) : Option (Bool × Unit)).bind fun y10 => (bif y10.1 then (bif (decide ((IntKind.u64.wrap (s9.1 + a)) ≥ 4294967296)) then some (.inr ((IntKind.u64.wrap (s9.2.1 - 1)), ())) else some (.inl ((IntKind.u64.wrap (s9.1 + a)), (IntKind.u64.wrap (s9.2.1 - 1)), ()))) else some (.inr (s9.2.1, ())))) big ((IntKind.u64.wrap (R - (IntKind.u64.wrap ((IntKind.u64.wrap (R.tdiv a)) * a)))), (IntKind.u64.wrap (R.tdiv a)), ())).bind fun y11 => (if (IntKind.u64.wrap r3) < 0 then none else some ((IntKind.u64.wrap ((IntKind.u64.wrap (q1 * 4294967296)) + y11.1)), ((IntKind.u64.wrap ((IntKind.u64.wrap ((IntKind.u64.wrap (R * 4294967296)) + u0)) - (IntKind.u64.wrap (y11.1 * D)))).fdiv (2 ^ min (Int.toNat (IntKind.u64.wrap r3)) IntKind.u64.bits)))))
def divL (D a b U u1 u0 r3 : Int) : Option (Int × Int) := (if a = 0 then none else (iterF (σ := Int × Int × Unit) (ρ := Int × Unit) (fun s5 => ((bif (decide (s5.1 ≥ 4294967296)) then some (true, ()) else some ((decide ((IntKind.u64.wrap (s5.1 * b)) > (IntKind.u64.wrap ((IntKind.u64.wrap (4294967296 * s5.2.1)) + u1)))), ())) : Option (Bool × Unit)).bind fun y6 => (bif y6.1 then (bif (decide ((IntKind.u64.wrap (s5.2.1 + a)) ≥ 4294967296)) then some (.inr ((IntKind.u64.wrap (s5.1 - 1)), ())) else some (.inl ((IntKind.u64.wrap (s5.1 - 1)), (IntKind.u64.wrap (s5.2.1 + a)), ()))) else some (.inr (s5.1, ())))) big ((IntKind.u64.wrap (U.tdiv a)), (IntKind.u64.wrap (U - (IntKind.u64.wrap ((IntKind.u64.wrap (U.tdiv a)) * a)))), ())).bind fun y7 => divR D a b (IntKind.u64.wrap ((IntKind.u64.wrap ((IntKind.u64.wrap (U * 4294967296)) + u1)) - (IntKind.u64.wrap (y7.1 * D)))) u0 y7.1 r3)
theorem div_eq (hi lo y : Int) : F_math_bits_Div64 hi lo y = (((bif (y == 0) then none else some (())) : Option (Unit)).bind fun _ => ((bif (decide (y ≤ hi)) then none else some (())) : Option (Unit)).bind fun _ => (bif (hi == 0) then (if y = 0 then none else (if y = 0 then none else some ((IntKind.u64.wrap (lo.tdiv y)), (lo.tmod y)))) else (F_math_bits_LeadingZeros64 y).bind fun r3 => (if (IntKind.u64.wrap r3) < 0 then none else (if (IntKind.u64.wrap r3) < 0 then none else (if (IntKind.u64.wrap (64 - (IntKind.u64.wrap r3))) < 0 then none else (if (IntKind.u64.wrap r3) < 0 then none else divL (IntKind.u64.wrap (y * 2 ^ min (Int.toNat (IntKind.u64.wrap r3)) IntKind.u64.bits)) ((IntKind.u64.wrap (y * 2 ^ min (Int.toNat (IntKind.u64.wrap r3)) IntKind.u64.bits)).fdiv (2 ^ min (Int.toNat 32) IntKind.u64.bits)) (bitsOf .and .u64 (IntKind.u64.wrap (y * 2 ^ min (Int.toNat (IntKind.u64.wrap r3)) IntKind.u64.bits)) 4294967295) (bitsOf .or .u64 (IntKind.u64.wrap (hi * 2 ^ min (Int.toNat (IntKind.u64.wrap r3)) IntKind.u64.bits)) (lo.fdiv (2 ^ min (Int.toNat (IntKind.u64.wrap (64 - (IntKind.u64.wrap r3)))) IntKind.u64.bits))) ((IntKind.u64.wrap (lo * 2 ^ min (Int.toNat (IntKind.u64.wrap r3)) IntKind.u64.bits)).fdiv (2 ^ min (Int.toNat 32) IntKind.u64.bits)) (bitsOf .and .u64 (IntKind.u64.wrap (lo * 2 ^ min (Int.toNat (IntKind.u64.wrap r3)) IntKind.u64.bits)) 4294967295) r3)))))) := by kernel_rfl
end Go.Proofs.Ytkphcdficpfcnaa

/- A double word over a word, ended. -/
namespace Go.Proofs.Ytkphcdficpfcnaa

theorem f_divR {D U u0 a b q1 : Int} {s : Nat} (hs : s ≤ 63) (hD : D = a * 4294967296 + b) (ha : 2147483648 ≤ a) (ha2 : a < 4294967296) (hb : 0 ≤ b) (hb2 : b < 4294967296)
    (hU : 0 ≤ U) (hU2 : U < D) (hu : 0 ≤ u0) (hu2 : u0 < 4294967296) (hq : 0 ≤ q1) (hq2 : q1 < 4294967296) :
    divR D a b U u0 q1 s = some (q1 * 4294967296 + (U * 4294967296 + u0) / D, ((U * 4294967296 + u0) % D) / 2 ^ s) := by
  have hDp : 0 < D := by omega
  have hm := Int.emod_nonneg U (b := a) (by omega)
  have hm2 := Int.emod_lt_of_pos U (b := a) (by omega)
  have hd : U / a * a + U % a = U := by rw [Int.mul_comm]; exact Int.mul_ediv_add_emod U a
  have hd0 : 0 ≤ U / a := Int.ediv_nonneg hU (by omega)
  have hle : U / a ≤ 4294967297 := by
    have : U / a < 4294967298 := by
      apply Int.ediv_lt_of_lt_mul (by omega)
      omega
    omega
  have hua : 0 ≤ U / a * a := Int.mul_nonneg hd0 (by omega)
  unfold divR
  simp only [wrapu]
  rw [if_neg (by omega), Int.tdiv_eq_ediv_of_nonneg hU]
  rw [show (U / a) % 18446744073709551616 = U / a from by omega, show (U / a * a) % 18446744073709551616 = U / a * a from by omega, show (U - U / a * a) % 18446744073709551616 = U % a from by omega]
  have hk := knuth (fun q r => (r, q, ())) (F := fun s9 => ((bif (decide (s9.2.1 ≥ 4294967296)) then some (true, ()) else some ((decide (((s9.2.1 * b) % 18446744073709551616) > ((((4294967296 * s9.1) % 18446744073709551616) + u0) % 18446744073709551616))), ())) : Option (Bool × Unit)).bind fun y10 => (bif y10.1 then (bif (decide (((s9.1 + a) % 18446744073709551616) ≥ 4294967296)) then some (.inr (((s9.2.1 - 1) % 18446744073709551616), ())) else some (.inl (((s9.1 + a) % 18446744073709551616), ((s9.2.1 - 1) % 18446744073709551616), ()))) else some (.inr (s9.2.1, ())))) hD ha ha2 hb hb2 hU hU2 hu hu2 (by
    intro q r h0 h1 h2 h3
    dsimp only
    rw [show (4294967296 * r) % 18446744073709551616 = 4294967296 * r from by omega, show (4294967296 * r + u0) % 18446744073709551616 = 4294967296 * r + u0 from by omega, show (r + a) % 18446744073709551616 = r + a from by omega]
    by_cases c : q ≥ 4294967296
    · rw [decide_eq_true c, if_pos (Or.inl c)]
      simp only [cond_true, Option.bind_some]
      by_cases c2 : r + a ≥ 4294967296
      · rw [decide_eq_true c2, if_pos c2, cond_true]
      · rw [decide_eq_false c2, if_neg c2, cond_false]
    · rw [decide_eq_false c]
      have hqb : 0 ≤ q * b := Int.mul_nonneg h0 hb
      have hqb2 : q * b ≤ 4294967295 * 4294967295 := Int.mul_le_mul (by omega) (by omega) hb (by omega)
      rw [show (q * b) % 18446744073709551616 = q * b from by omega]
      simp only [cond_false, Option.bind_some]
      by_cases c1 : q * b > 4294967296 * r + u0
      · rw [decide_eq_true c1, if_pos (Or.inr c1)]
        simp only [cond_true]
        by_cases c2 : r + a ≥ 4294967296
        · rw [decide_eq_true c2, if_pos c2, cond_true]
        · rw [decide_eq_false c2, if_neg c2, cond_false]
      · rw [decide_eq_false c1, if_neg (by omega), cond_false])
  rw [hk]
  simp only [Option.bind_some]
  have hQ0 : 0 ≤ (U * 4294967296 + u0) / D := Int.ediv_nonneg (by omega) (by omega)
  have hQB : (U * 4294967296 + u0) / D < 4294967296 := by
    apply Int.ediv_lt_of_lt_mul hDp
    omega
  have hr := Int.emod_nonneg (U * 4294967296 + u0) (b := D) (by omega)
  have hr2 := Int.emod_lt_of_pos (U * 4294967296 + u0) (b := D) hDp
  have hrd : (U * 4294967296 + u0) / D * D + (U * 4294967296 + u0) % D = U * 4294967296 + u0 := by rw [Int.mul_comm]; exact Int.mul_ediv_add_emod _ D
  generalize (U * 4294967296 + u0) / D = Q at *
  generalize (U * 4294967296 + u0) % D = R at *
  generalize Q * D = QD at *
  rw [if_neg (by omega), show ((s : Int) % 18446744073709551616) = (s : Int) from by omega, Int.toNat_natCast, show min s IntKind.u64.bits = s from Nat.min_eq_left (by show s ≤ 64; omega)]
  rw [Int.fdiv_eq_ediv_of_nonneg _ (Int.le_of_lt (Int.pow_pos (by decide)))]
  rw [show (q1 * 4294967296 % 18446744073709551616 + Q) % 18446744073709551616 = q1 * 4294967296 + Q from by omega]
  rw [show ((U * 4294967296 % 18446744073709551616 + u0) % 18446744073709551616 - QD % 18446744073709551616) % 18446744073709551616 = R from by omega]
theorem f_divL {D U u1 u0 a b : Int} {s : Nat} (hs : s ≤ 63) (hD : D = a * 4294967296 + b) (ha : 2147483648 ≤ a) (ha2 : a < 4294967296) (hb : 0 ≤ b) (hb2 : b < 4294967296)
    (hU : 0 ≤ U) (hU2 : U < D) (hu1 : 0 ≤ u1) (hu12 : u1 < 4294967296) (hu : 0 ≤ u0) (hu2 : u0 < 4294967296) :
    divL D a b U u1 u0 s = some ((U * 18446744073709551616 + (u1 * 4294967296 + u0)) / D, ((U * 18446744073709551616 + (u1 * 4294967296 + u0)) % D) / 2 ^ s) := by
  have hDp : 0 < D := by omega
  have hm := Int.emod_nonneg U (b := a) (by omega)
  have hm2 := Int.emod_lt_of_pos U (b := a) (by omega)
  have hd : U / a * a + U % a = U := by rw [Int.mul_comm]; exact Int.mul_ediv_add_emod U a
  have hd0 : 0 ≤ U / a := Int.ediv_nonneg hU (by omega)
  have hle : U / a ≤ 4294967297 := by
    have : U / a < 4294967298 := by
      apply Int.ediv_lt_of_lt_mul (by omega)
      omega
    omega
  have hua : 0 ≤ U / a * a := Int.mul_nonneg hd0 (by omega)
  unfold divL
  simp only [wrapu]
  rw [if_neg (by omega), Int.tdiv_eq_ediv_of_nonneg hU]
  rw [show (U / a) % 18446744073709551616 = U / a from by omega, show (U / a * a) % 18446744073709551616 = U / a * a from by omega, show (U - U / a * a) % 18446744073709551616 = U % a from by omega]
  have hk := knuth (fun q r => (q, r, ())) (F := fun s5 => ((bif (decide (s5.1 ≥ 4294967296)) then some (true, ()) else some ((decide (((s5.1 * b) % 18446744073709551616) > ((((4294967296 * s5.2.1) % 18446744073709551616) + u1) % 18446744073709551616))), ())) : Option (Bool × Unit)).bind fun y6 => (bif y6.1 then (bif (decide (((s5.2.1 + a) % 18446744073709551616) ≥ 4294967296)) then some (.inr (((s5.1 - 1) % 18446744073709551616), ())) else some (.inl (((s5.1 - 1) % 18446744073709551616), ((s5.2.1 + a) % 18446744073709551616), ()))) else some (.inr (s5.1, ())))) hD ha ha2 hb hb2 hU hU2 hu1 hu12 (by
    intro q r h0 h1 h2 h3
    dsimp only
    rw [show (4294967296 * r) % 18446744073709551616 = 4294967296 * r from by omega, show (4294967296 * r + u1) % 18446744073709551616 = 4294967296 * r + u1 from by omega, show (r + a) % 18446744073709551616 = r + a from by omega]
    by_cases c : q ≥ 4294967296
    · rw [decide_eq_true c, if_pos (Or.inl c)]
      simp only [cond_true, Option.bind_some]
      by_cases c2 : r + a ≥ 4294967296
      · rw [decide_eq_true c2, if_pos c2, cond_true]
      · rw [decide_eq_false c2, if_neg c2, cond_false]
    · rw [decide_eq_false c]
      have hqb : 0 ≤ q * b := Int.mul_nonneg h0 hb
      have hqb2 : q * b ≤ 4294967295 * 4294967295 := Int.mul_le_mul (by omega) (by omega) hb (by omega)
      rw [show (q * b) % 18446744073709551616 = q * b from by omega]
      simp only [cond_false, Option.bind_some]
      by_cases c1 : q * b > 4294967296 * r + u1
      · rw [decide_eq_true c1, if_pos (Or.inr c1)]
        simp only [cond_true]
        by_cases c2 : r + a ≥ 4294967296
        · rw [decide_eq_true c2, if_pos c2, cond_true]
        · rw [decide_eq_false c2, if_neg c2, cond_false]
      · rw [decide_eq_false c1, if_neg (by omega), cond_false])
  rw [hk]
  simp only [Option.bind_some]
  have hQ0 : 0 ≤ (U * 4294967296 + u1) / D := Int.ediv_nonneg (by omega) (by omega)
  have hQB : (U * 4294967296 + u1) / D < 4294967296 := by
    apply Int.ediv_lt_of_lt_mul hDp
    omega
  have hr := Int.emod_nonneg (U * 4294967296 + u1) (b := D) (by omega)
  have hr2 := Int.emod_lt_of_pos (U * 4294967296 + u1) (b := D) hDp
  have hrd : (U * 4294967296 + u1) / D * D + (U * 4294967296 + u1) % D = U * 4294967296 + u1 := by rw [Int.mul_comm]; exact Int.mul_ediv_add_emod _ D
  generalize (U * 4294967296 + u1) / D = Q at *
  generalize (U * 4294967296 + u1) % D = R at *
  rw [show ((U * 4294967296 % 18446744073709551616 + u1) % 18446744073709551616 - Q * D % 18446744073709551616) % 18446744073709551616 = R from by omega]
  rw [f_divR hs hD ha ha2 hb hb2 hr hr2 hu hu2 hQ0 hQB]
  have e : U * 18446744073709551616 + (u1 * 4294967296 + u0) = (R * 4294967296 + u0) + D * (Q * 4294967296) := by
    have : D * (Q * 4294967296) = Q * D * 4294967296 := by grind
    omega
  rw [e, Int.add_mul_ediv_left _ _ (by omega), Int.add_mul_emod_self_left, Int.add_comm (_ / D)]
end Go.Proofs.Ytkphcdficpfcnaa

/- A double word over a word: Div64, and a wide number over a word. -/
namespace Go.Proofs.Ytkphcdficpfcnaa

theorem f_lz {y : Int} (h0 : 0 < y) (h1 : y < 18446744073709551616) : ∃ s : Nat, s ≤ 63 ∧ F_math_bits_LeadingZeros64 y = some (s : Int) ∧ 9223372036854775808 ≤ y * 2 ^ s ∧ y * 2 ^ s < 18446744073709551616 := by
  obtain ⟨s, h2, h3, h4⟩ := f_len64 h0 h1
  refine ⟨s, h2, ?_, h4⟩
  unfold F_math_bits_LeadingZeros64
  rw [h3, Option.bind_some, show (64 : Int) - (64 - (s : Int)) = s from by omega, wrap64 (by omega) (by omega)]
theorem or_add {h l : Int} {s : Nat} (hh : 0 ≤ h) (hl : 0 ≤ l) (hl2 : l < 2 ^ s) (hb : h * 2 ^ s + l < 18446744073709551616) : bitsOf .or .u64 (h * 2 ^ s) l = h * 2 ^ s + l := by
  obtain ⟨m, rfl⟩ := Int.eq_ofNat_of_zero_le hh
  obtain ⟨n, rfl⟩ := Int.eq_ofNat_of_zero_le hl
  have e : (m : Int) * 2 ^ s = ((2 ^ s * m : Nat) : Int) := by rw [Int.natCast_mul, Int.natCast_pow, Int.mul_comm]; rfl
  have hn : n < 2 ^ s := by
    have : ((2 ^ s : Nat) : Int) = (2 : Int) ^ s := Int.natCast_pow 2 _
    omega
  rw [e] at hb ⊢
  show IntKind.u64.wrap (((BitVec.ofInt 64 ((2 ^ s * m : Nat) : Int) ||| BitVec.ofInt 64 (n : Int)).toNat : Nat) : Int) = _
  rw [wrapu, BitVec.toNat_or, BitVec.ofInt_natCast, BitVec.ofInt_natCast, BitVec.toNat_ofNat, BitVec.toNat_ofNat, Nat.mod_eq_of_lt (show 2 ^ s * m < 2 ^ 64 by omega), Nat.mod_eq_of_lt (show n < 2 ^ 64 by omega), ← Nat.two_pow_add_eq_or_of_lt hn]
  omega
theorem mem_mul (n y : Int) {t : Int} (h : 0 < t) : (n * t) % (y * t) = (n % y) * t := by rw [Int.mul_comm n, Int.mul_comm y, Int.mul_emod_mul_of_pos _ _ h, Int.mul_comm]
theorem f_div64 {hi lo y : Int} (h0 : 0 ≤ hi) (h1 : hi < y) (y1 : y < 18446744073709551616) (l0 : 0 ≤ lo) (l1 : lo < 18446744073709551616) :
    F_math_bits_Div64 hi lo y = some ((hi * 18446744073709551616 + lo) / y, (hi * 18446744073709551616 + lo) % y) := by
  rw [div_eq]
  rw [beq_eq_false_iff_ne.mpr (show y ≠ 0 by omega), decide_eq_false (show ¬ y ≤ hi by omega)]
  simp only [cond_false, Option.bind_some]
  by_cases hz : hi = 0
  · subst hz
    rw [beq_self_eq_true, cond_true, if_neg (by omega), if_neg (by omega), Int.tdiv_eq_ediv_of_nonneg l0, Int.tmod_eq_emod_of_nonneg l0, wrapu, Int.zero_mul, Int.zero_add]
    have : lo / y ≤ lo := Int.ediv_le_self _ l0
    have h2 : 0 ≤ lo / y := Int.ediv_nonneg l0 (by omega)
    rw [show lo / y % 18446744073709551616 = lo / y from by omega]
  · rw [beq_eq_false_iff_ne.mpr hz, cond_false]
    obtain ⟨s, hs, e, d1, d2⟩ := f_lz (show 0 < y by omega) y1
    rw [e, Option.bind_some]
    have es : IntKind.u64.wrap (s : Int) = (s : Int) := by rw [wrapu]; omega
    have et : IntKind.u64.wrap (64 - (s : Int)) = ((64 - s : Nat) : Int) := by rw [wrapu]; omega
    have em : min s IntKind.u64.bits = s := Nat.min_eq_left (by show s ≤ 64; omega)
    have em2 : min (64 - s) IntKind.u64.bits = 64 - s := Nat.min_eq_left (by show 64 - s ≤ 64; omega)
    simp only [es, et, Int.toNat_natCast, em, em2, sh32]
    rw [if_neg (by omega), if_neg (by omega), if_neg (by omega), if_neg (by omega)]
    have hTS : (2 : Int) ^ s * 2 ^ (64 - s) = 18446744073709551616 := by
      rw [← Int.pow_add, show s + (64 - s) = 64 from by omega]
      rfl
    have hT : (0 : Int) < 2 ^ s := Int.pow_pos (by decide)
    have hS : (0 : Int) < 2 ^ (64 - s) := Int.pow_pos (by decide)
    rw [Int.fdiv_eq_ediv_of_nonneg _ (Int.le_of_lt hS)]
    have la : 0 ≤ lo / 2 ^ (64 - s) := Int.ediv_nonneg l0 (by omega)
    have lb : lo / 2 ^ (64 - s) < 2 ^ s := by
      apply Int.ediv_lt_of_lt_mul hS
      rw [hTS]; exact l1
    have lm := Int.emod_nonneg lo (b := 2 ^ (64 - s)) (by omega)
    have lm2 := Int.emod_lt_of_pos lo (b := 2 ^ (64 - s)) hS
    have hU2 : hi * 2 ^ s + lo / 2 ^ (64 - s) < y * 2 ^ s := by
      have : (hi + 1) * 2 ^ s ≤ y * 2 ^ s := Int.mul_le_mul_of_nonneg_right (by omega) (by omega)
      rw [Int.add_mul, Int.one_mul] at this
      omega
    have hh0 : 0 ≤ hi * 2 ^ s := Int.mul_nonneg h0 (by omega)
    have elo : lo * 2 ^ s = lo / 2 ^ (64 - s) * 18446744073709551616 + lo % 2 ^ (64 - s) * 2 ^ s := by
      have := Int.mul_ediv_add_emod lo (2 ^ (64 - s))
      rw [← hTS]
      grind
    have hv0 : 0 ≤ lo % 2 ^ (64 - s) * 2 ^ s := Int.mul_nonneg lm (by omega)
    have hv1 : lo % 2 ^ (64 - s) * 2 ^ s < 18446744073709551616 := by
      rw [← hTS, Int.mul_comm ((2 : Int) ^ s)]
      exact Int.mul_lt_mul_of_pos_right lm2 hT
    have w1 : IntKind.u64.wrap (y * 2 ^ s) = y * 2 ^ s := by rw [wrapu]; omega
    have w2 : IntKind.u64.wrap (hi * 2 ^ s) = hi * 2 ^ s := by rw [wrapu]; omega
    have w3 : IntKind.u64.wrap (lo * 2 ^ s) = lo % 2 ^ (64 - s) * 2 ^ s := by rw [wrapu]; omega
    rw [w1, w2, w3, or_add h0 la lb (by omega), lo32 (by omega), lo32 hv0]
    rw [f_divL hs (by omega) (by omega) (by omega) (by omega) (by omega) (by omega) hU2 (by omega) (by omega) (by omega) (by omega)]
    have eN : (hi * 2 ^ s + lo / 2 ^ (64 - s)) * 18446744073709551616 + (lo % 2 ^ (64 - s) * 2 ^ s / 4294967296 * 4294967296 + lo % 2 ^ (64 - s) * 2 ^ s % 4294967296) = (hi * 18446744073709551616 + lo) * 2 ^ s := by
      rw [Int.mul_comm (lo % 2 ^ (64 - s) * 2 ^ s / 4294967296), Int.mul_ediv_add_emod, Int.add_mul, Int.add_mul, elo]
      grind
    rw [eN, Int.mul_ediv_mul_of_pos_left _ _ hT, mem_mul _ _ hT, Int.mul_ediv_cancel _ (by omega)]
theorem f_over {w : Twide} (hw : WOk w) {b : Int} (h0 : 0 < b) (h1 : b < 18446744073709551616) : F_ratio_over w b = some (ofV (wv w / b), wv w % b) := by
  obtain ⟨g0, g1, m0, m1⟩ := hw
  unfold F_ratio_over
  have r0 := Int.emod_nonneg w.hi (b := b) (by omega)
  have r1 := Int.emod_lt_of_pos w.hi h0
  rw [if_neg (by omega), Int.tmod_eq_emod_of_nonneg g0, f_div64 r0 r1 h1 m0 m1]
  simp only [Option.bind_some]
  rw [if_neg (by omega), Int.tdiv_eq_ediv_of_nonneg g0, wrapu]
  have q0 : 0 ≤ w.hi / b := Int.ediv_nonneg g0 (by omega)
  have q1 : w.hi / b ≤ w.hi := Int.ediv_le_self _ g0
  have e : wv w = (w.hi % b * 18446744073709551616 + w.lo) + b * (w.hi / b * 18446744073709551616) := by
    unfold wv
    have := Int.mul_ediv_add_emod w.hi b
    grind
  rw [e, Int.add_mul_ediv_left _ _ (by omega), Int.add_mul_emod_self_left]
  have hr2 : (w.hi % b * 18446744073709551616 + w.lo) / b < 18446744073709551616 := by
    apply Int.ediv_lt_of_lt_mul h0
    omega
  have hr0 : 0 ≤ (w.hi % b * 18446744073709551616 + w.lo) / b := Int.ediv_nonneg (by omega) (by omega)
  unfold ofV
  congr 3 <;> omega
end Go.Proofs.Ytkphcdficpfcnaa

/- Exact numbers as rational numbers: Valid, Make. -/
namespace Go.Proofs.Ytkphcdficpfcnaa

structure RV (a : TFrac) : Prop where
  d0 : 1 ≤ a.den
  d1 : a.den ≤ 1152921504606846976
  n0 : -1152921504606846976 ≤ a.num
  n1 : a.num ≤ 1152921504606846976
  cop : Nat.gcd a.num.natAbs a.den.toNat = 1
structure RW (a : TFrac) : Prop where
  d0 : -9223372036854775808 ≤ a.den
  d1 : a.den ≤ 9223372036854775807
  n0 : -9223372036854775808 ≤ a.num
  n1 : a.num ≤ 9223372036854775807
def qOf (a : TFrac) : Rat := mkRat a.num a.den.toNat
def fitQ (q : Rat) : Prop := q.num.natAbs ≤ 1152921504606846976 ∧ q.den ≤ 1152921504606846976
instance (q : Rat) : Decidable (fitQ q) := inferInstanceAs (Decidable (_ ∧ _))
def outQ (q : Rat) : TFrac × Int := if fitQ q then (⟨q.num, q.den⟩, 0) else (⟨0, 0⟩, 5)
theorem mk_num {n : Int} {d : Nat} (hd : d ≠ 0) (c : Nat.gcd n.natAbs d = 1) : mkRat n d = ⟨n, d, hd, c⟩ := by
  rw [Rat.mk_eq_mkRat]
theorem out_of {n : Int} {d : Nat} (hd : d ≠ 0) (c : Nat.gcd n.natAbs d = 1) : outQ (mkRat n d) = if n.natAbs ≤ 1152921504606846976 ∧ d ≤ 1152921504606846976 then (⟨n, d⟩, 0) else (⟨0, 0⟩, 5) := by
  rw [mk_num hd c]
  rfl
theorem q_num {a : TFrac} (h : RV a) : (qOf a).num = a.num ∧ ((qOf a).den : Int) = a.den := by
  unfold qOf
  have := h.d0
  rw [mk_num (by omega) h.cop]
  exact ⟨rfl, by show ((a.den.toNat : Nat) : Int) = _; omega⟩
theorem f_qvalid {a : TFrac} (w : RW a) : ∃ v : Bool, F_ratio_Valid a = some v ∧ (v = true ↔ RV a) := by
  obtain ⟨w0, w1, w2, w3⟩ := w
  unfold F_ratio_Valid
  by_cases c1 : a.den ≥ 1
  · rw [decide_eq_true c1, cond_true]
    by_cases c2 : a.den ≤ 1152921504606846976
    · rw [decide_eq_true c2, cond_true]
      by_cases c3 : a.num ≥ -1152921504606846976
      · rw [decide_eq_true c3, cond_true]
        by_cases c4 : a.num ≤ 1152921504606846976
        · rw [decide_eq_true c4, cond_true, f_size (by omega) (by omega), wrapu, show a.den % 18446744073709551616 = ((a.den.toNat : Nat) : Int) from by omega]
          simp only [Option.bind_some]
          rw [f_gcd _ _ (by unfold big; omega)]
          simp only [Option.bind_some]
          refine ⟨_, rfl, ?_⟩
          rw [beq_iff_eq]
          exact ⟨fun h => ⟨c1, c2, c3, c4, by omega⟩, fun h => by have := h.cop; omega⟩
        · rw [decide_eq_false c4]
          exact ⟨false, rfl, by simp, fun h => absurd h.n1 c4⟩
      · rw [decide_eq_false c3]
        exact ⟨false, rfl, by simp, fun h => absurd h.n0 c3⟩
    · rw [decide_eq_false c2]
      exact ⟨false, rfl, by simp, fun h => absurd h.d1 c2⟩
  · rw [decide_eq_false c1]
    exact ⟨false, rfl, by simp, fun h => absurd h.d0 c1⟩
theorem out_red {n : Int} {d g : Nat} (hd : d ≠ 0) (hg : Nat.gcd n.natAbs d = g) : outQ (mkRat n d) = if n.natAbs / g ≤ 1152921504606846976 ∧ d / g ≤ 1152921504606846976 then (⟨if n < 0 then -((n.natAbs / g : Nat) : Int) else ((n.natAbs / g : Nat) : Int), ((d / g : Nat) : Int)⟩, 0) else (⟨0, 0⟩, 5) := by
  have hgp : 0 < g := by rw [← hg]; exact Nat.gcd_pos_of_pos_right _ (by omega)
  have hgn : g ∣ n.natAbs := by rw [← hg]; exact Nat.gcd_dvd_left _ _
  have hgd : g ∣ d := by rw [← hg]; exact Nat.gcd_dvd_right _ _
  obtain ⟨a, ha⟩ := hgn
  obtain ⟨b, hb⟩ := hgd
  have hna : n.natAbs / g = a := by rw [ha, Nat.mul_div_cancel_left _ hgp]
  have hdb : d / g = b := by rw [hb, Nat.mul_div_cancel_left _ hgp]
  have hcop : Nat.gcd a b = 1 := by
    have := Nat.gcd_div_gcd_div_gcd_of_pos_right (n := n.natAbs) (m := d) (by omega)
    rw [hg, hna, hdb] at this
    exact this
  rw [hna, hdb]
  have hb0 : b ≠ 0 := by rintro rfl; omega
  have e : mkRat n d = mkRat (if n < 0 then -(a : Int) else a) b := by
    have : n = (if n < 0 then -(a : Int) else a) * g := by
      have h2 : ((n.natAbs : Nat) : Int) = (g : Int) * a := by rw [ha]; exact Int.natCast_mul _ _
      split
      · rw [Int.neg_mul, Int.mul_comm]; omega
      · rw [Int.mul_comm]; omega
    rw [hb, Nat.mul_comm g b]
    conv => lhs; rw [this]
    exact Rat.mkRat_mul_right (by omega)
  rw [e, out_of hb0 (by split <;> simpa using hcop)]
  congr 1
  rw [show (if n < 0 then -(a : Int) else a).natAbs = a from by split <;> omega]
end Go.Proofs.Ytkphcdficpfcnaa

/- Exact numbers: Make. -/
namespace Go.Proofs.Ytkphcdficpfcnaa

theorem f_rmake {n d : Int} (n0 : -9223372036854775808 ≤ n) (n1 : n ≤ 9223372036854775807) (d0 : -9223372036854775808 ≤ d) (d1 : d ≤ 9223372036854775807) :
    F_ratio_Make n d = some (if d = 0 then (⟨0, 0⟩, 16) else outQ (mkRat (if d < 0 then -n else n) d.natAbs)) := by
  unfold F_ratio_Make
  by_cases hd : d = 0
  · rw [if_pos hd, hd]; rfl
  · rw [if_neg hd, beq_eq_false_iff_ne.mpr hd, cond_false, f_size n0 n1, f_size d0 d1]
    simp only [Option.bind_some]
    rw [f_gcd _ _ (by unfold big; omega)]
    simp only [Option.bind_some]
    have hgp : 0 < Nat.gcd n.natAbs d.natAbs := Nat.gcd_pos_of_pos_right _ (by omega)
    have hnn : (if d < 0 then -n else n).natAbs = n.natAbs := by split <;> omega
    rw [out_red (n := if d < 0 then -n else n) (d := d.natAbs) (g := Nat.gcd n.natAbs d.natAbs) (by omega) (by rw [hnn]), hnn]
    generalize Nat.gcd n.natAbs d.natAbs = g at *
    have ha : n.natAbs / g ≤ n.natAbs := Nat.div_le_self _ _
    have hb : d.natAbs / g ≤ d.natAbs := Nat.div_le_self _ _
    have t1 : IntKind.u64.wrap ((n.natAbs : Int).tdiv (g : Int)) = ((n.natAbs / g : Nat) : Int) := by
      rw [Int.tdiv_eq_ediv_of_nonneg (by omega), wrapu, ← Int.natCast_ediv]; generalize n.natAbs / g = k at ha ⊢; omega
    have t2 : IntKind.u64.wrap ((d.natAbs : Int).tdiv (g : Int)) = ((d.natAbs / g : Nat) : Int) := by
      rw [Int.tdiv_eq_ediv_of_nonneg (by omega), wrapu, ← Int.natCast_ediv]; generalize d.natAbs / g = k at hb ⊢; omega
    rw [t1, t2]
    have hz : n = 0 → n.natAbs / g = 0 := by rintro rfl; simp
    generalize n.natAbs / g = a at *
    generalize d.natAbs / g = b at *
    have hg0 : (g : Int) ≠ 0 := by omega
    rw [if_neg hg0, if_neg hg0, if_neg hg0, if_neg hg0]
    rw [f_signed (by omega) (by omega) (by omega) (by omega), f_signed (by omega) (by omega) (by omega) (by omega)]
    have hcond : ((a : Int) ≤ 1152921504606846976 ∧ (b : Int) ≤ 1152921504606846976) ↔ (a ≤ 1152921504606846976 ∧ b ≤ 1152921504606846976) := by omega
    by_cases h0 : n = 0
    · obtain rfl := hz h0
      subst h0
      simp only [bne_self_eq_false, cond_false, Option.bind_some, hcond, Bool.false_eq_true, if_false]
      rw [show (if (if d < 0 then -(0 : Int) else 0) < 0 then -((0 : Nat) : Int) else ((0 : Nat) : Int)) = ((0 : Nat) : Int) from by split <;> rfl]
    · have h0' : (n != 0) = true := by simp [h0]
      rw [h0']
      simp only [cond_true, Option.bind_some, hcond]
      rw [show (if (!decide (n < 0) == decide (d < 0)) = true then -(a : Int) else (a : Int)) = (if (if d < 0 then -n else n) < 0 then -(a : Int) else (a : Int)) from by
        by_cases c1 : n < 0 <;> by_cases c2 : d < 0 <;> simp [c1, c2] <;> omega]
end Go.Proofs.Ytkphcdficpfcnaa

/- Exact numbers: the product is in its lowest terms. -/
namespace Go.Proofs.Ytkphcdficpfcnaa

theorem cop_mul {n1 d1 n2 d2 : Nat} (h1 : Nat.gcd n1 d1 = 1) (h2 : Nat.gcd n2 d2 = 1) (p1 : 0 < d1) (p2 : 0 < d2) :
    Nat.gcd ((n1 / Nat.gcd n1 d2) * (n2 / Nat.gcd n2 d1)) ((d1 / Nat.gcd n2 d1) * (d2 / Nat.gcd n1 d2)) = 1 := by
  have a1 : Nat.Coprime (n1 / Nat.gcd n1 d2) (d2 / Nat.gcd n1 d2) := Nat.gcd_div_gcd_div_gcd_of_pos_right p2
  have a2 : Nat.Coprime (n2 / Nat.gcd n2 d1) (d1 / Nat.gcd n2 d1) := Nat.gcd_div_gcd_div_gcd_of_pos_right p1
  have a3 : Nat.Coprime (n1 / Nat.gcd n1 d2) (d1 / Nat.gcd n2 d1) := Nat.Coprime.coprime_dvd_left (Nat.div_dvd_of_dvd (Nat.gcd_dvd_left _ _)) (Nat.Coprime.coprime_dvd_right (Nat.div_dvd_of_dvd (Nat.gcd_dvd_right _ _)) h1)
  have a4 : Nat.Coprime (n2 / Nat.gcd n2 d1) (d2 / Nat.gcd n1 d2) := Nat.Coprime.coprime_dvd_left (Nat.div_dvd_of_dvd (Nat.gcd_dvd_left _ _)) (Nat.Coprime.coprime_dvd_right (Nat.div_dvd_of_dvd (Nat.gcd_dvd_right _ _)) h2)
  exact Nat.Coprime.mul_left (Nat.Coprime.mul_right a3 a1) (Nat.Coprime.mul_right a2 a4)
theorem mul_red {n1 n2 : Int} {d1 d2 : Nat} (p1 : 0 < d1) (p2 : 0 < d2) (h1 : Nat.gcd n1.natAbs d1 = 1) (h2 : Nat.gcd n2.natAbs d2 = 1) {p q : Nat}
    (hp : p = (n1.natAbs / Nat.gcd n1.natAbs d2) * (n2.natAbs / Nat.gcd n2.natAbs d1)) (hq : q = (d1 / Nat.gcd n2.natAbs d1) * (d2 / Nat.gcd n1.natAbs d2)) :
    Nat.gcd (n1 * n2).natAbs (d1 * d2) = Nat.gcd n1.natAbs d2 * Nat.gcd n2.natAbs d1 ∧ (n1 * n2).natAbs / (Nat.gcd n1.natAbs d2 * Nat.gcd n2.natAbs d1) = p ∧ d1 * d2 / (Nat.gcd n1.natAbs d2 * Nat.gcd n2.natAbs d1) = q := by
  have hc := cop_mul h1 h2 p1 p2
  have g1 : 0 < Nat.gcd n1.natAbs d2 := Nat.gcd_pos_of_pos_right _ p2
  have g2 : 0 < Nat.gcd n2.natAbs d1 := Nat.gcd_pos_of_pos_right _ p1
  have e1 := Nat.div_mul_cancel (Nat.gcd_dvd_left n1.natAbs d2)
  have e2 := Nat.div_mul_cancel (Nat.gcd_dvd_left n2.natAbs d1)
  have e3 := Nat.div_mul_cancel (Nat.gcd_dvd_right n1.natAbs d2)
  have e4 := Nat.div_mul_cancel (Nat.gcd_dvd_right n2.natAbs d1)
  rw [← hp, ← hq] at hc
  have en : (n1 * n2).natAbs = p * (Nat.gcd n1.natAbs d2 * Nat.gcd n2.natAbs d1) := by
    rw [Int.natAbs_mul, hp]
    generalize Nat.gcd n1.natAbs d2 = u at *
    generalize Nat.gcd n2.natAbs d1 = v at *
    conv => lhs; rw [← e1, ← e2]
    grind
  have ed : d1 * d2 = q * (Nat.gcd n1.natAbs d2 * Nat.gcd n2.natAbs d1) := by
    rw [hq]
    generalize Nat.gcd n1.natAbs d2 = u at *
    generalize Nat.gcd n2.natAbs d1 = v at *
    conv => lhs; rw [← e3, ← e4]
    grind
  have gg := Nat.mul_pos g1 g2
  rw [en, ed]
  refine ⟨?_, Nat.mul_div_cancel _ gg, Nat.mul_div_cancel _ gg⟩
  rw [Nat.gcd_mul_right, hc, Nat.one_mul]
end Go.Proofs.Ytkphcdficpfcnaa

/- Exact numbers: Mul. -/
namespace Go.Proofs.Ytkphcdficpfcnaa

theorem RV.w {a : TFrac} (h : RV a) : RW a := ⟨by have := h.d0; omega, by have := h.d1; omega, by have := h.n0; omega, by have := h.n1; omega⟩
theorem rv_true {a : TFrac} (h : RV a) : F_ratio_Valid a = some true := by
  obtain ⟨v, e, i⟩ := f_qvalid h.w
  rw [e, i.mpr h]
theorem rv_false {a : TFrac} (w : RW a) (h : ¬ RV a) : F_ratio_Valid a = some false := by
  obtain ⟨v, e, i⟩ := f_qvalid w
  cases v
  · exact e
  · exact absurd (i.mp rfl) h
theorem f_rmul {a b : TFrac} (ha : RV a) (hb : RV b) : F_ratio_Mul a b = some (outQ (qOf a * qOf b)) := by
  obtain ⟨an, ad⟩ := a
  obtain ⟨bn, bd⟩ := b
  obtain ⟨x0, x1, x2, x3, x4⟩ := id ha
  obtain ⟨y0, y1, y2, y3, y4⟩ := id hb
  dsimp only at *
  obtain ⟨d1, rfl⟩ := Int.eq_ofNat_of_zero_le (show 0 ≤ ad by omega)
  obtain ⟨d2, rfl⟩ := Int.eq_ofNat_of_zero_le (show 0 ≤ bd by omega)
  rw [Int.toNat_natCast] at x4 y4
  unfold F_ratio_Mul
  rw [rv_true ha, rv_true hb]
  simp only [Option.bind_some, Bool.not_true, cond_false]
  rw [f_size (by omega) (by omega), f_size (by omega) (by omega)]
  simp only [Option.bind_some, wrapu]
  rw [show (d2 : Int) % 18446744073709551616 = d2 from by omega, show (d1 : Int) % 18446744073709551616 = d1 from by omega, f_gcd _ _ (by unfold big; omega), f_gcd _ _ (by unfold big; omega)]
  simp only [Option.bind_some]
  have g1 : 0 < Nat.gcd an.natAbs d2 := Nat.gcd_pos_of_pos_right _ (by omega)
  have g2 : 0 < Nat.gcd bn.natAbs d1 := Nat.gcd_pos_of_pos_right _ (by omega)
  obtain ⟨hg, hp, hq⟩ := mul_red (n1 := an) (n2 := bn) (d1 := d1) (d2 := d2) (by omega) (by omega) x4 y4 rfl rfl
  have hout := out_red (n := an * bn) (d := d1 * d2) (Nat.ne_of_gt (Nat.mul_pos (by omega) (by omega))) hg
  rw [hp, hq] at hout
  rw [show qOf ⟨an, d1⟩ * qOf ⟨bn, d2⟩ = mkRat (an * bn) (d1 * d2) from by unfold qOf; exact Rat.mkRat_mul_mkRat _ _ _ _, hout]
  have dv (u v w : Nat) (hw : u ≤ w) : u / v ≤ w := Nat.le_trans (Nat.div_le_self _ _) hw
  have k1 := dv an.natAbs (Nat.gcd an.natAbs d2) 1152921504606846976 (by omega)
  have k2 := dv bn.natAbs (Nat.gcd bn.natAbs d1) 1152921504606846976 (by omega)
  have k3 := dv d1 (Nat.gcd bn.natAbs d1) 1152921504606846976 (by omega)
  have k4 := dv d2 (Nat.gcd an.natAbs d2) 1152921504606846976 (by omega)
  have tm (u v : Nat) : (u : Int).tdiv (v : Int) = ((u / v : Nat) : Int) := by rw [Int.tdiv_eq_ediv_of_nonneg (by omega), Int.natCast_ediv]
  simp only [tm]
  have hz : an * bn = 0 ↔ an.natAbs / Nat.gcd an.natAbs d2 * (bn.natAbs / Nat.gcd bn.natAbs d1) = 0 := by
    have e := Nat.div_mul_cancel (show Nat.gcd an.natAbs d2 * Nat.gcd bn.natAbs d1 ∣ (an * bn).natAbs from by rw [← hg]; exact Nat.gcd_dvd_left _ _)
    rw [hp] at e
    rw [← Int.natAbs_eq_zero, ← e]
    simp [Nat.mul_eq_zero, Nat.ne_of_gt g1, Nat.ne_of_gt g2]
  generalize an.natAbs / Nat.gcd an.natAbs d2 = A at *
  generalize bn.natAbs / Nat.gcd bn.natAbs d1 = B at *
  generalize d1 / Nat.gcd bn.natAbs d1 = C at *
  generalize d2 / Nat.gcd an.natAbs d2 = E at *
  have i1 : ((Nat.gcd an.natAbs d2 : Nat) : Int) ≠ 0 := by omega
  have i2 : ((Nat.gcd bn.natAbs d1 : Nat) : Int) ≠ 0 := by omega
  rw [if_neg i2, if_neg i1, if_neg i1, if_neg i2]
  rw [show (A : Int) % 18446744073709551616 = A from by omega, show (B : Int) % 18446744073709551616 = B from by omega, show (C : Int) % 18446744073709551616 = C from by omega, show (E : Int) % 18446744073709551616 = E from by omega]
  rw [f_product (by omega) (by omega) (by omega) (by omega), f_product (by omega) (by omega) (by omega) (by omega)]
  simp only [Option.bind_some]
  rw [← Int.natCast_mul, ← Int.natCast_mul]
  have hs : an * bn ≠ 0 → (!((decide (an < 0)) == (decide (bn < 0)))) = decide (an * bn < 0) := by
    intro h
    have h1 : an ≠ 0 := by rintro rfl; simp at h
    have h2 : bn ≠ 0 := by rintro rfl; simp at h
    by_cases c1 : an < 0 <;> by_cases c2 : bn < 0
    · have := Int.mul_pos_of_neg_of_neg c1 c2; simp [c1, c2]; omega
    · have := Int.mul_neg_of_neg_of_pos c1 (show 0 < bn by omega); simp [c1, c2, this]
    · have := Int.mul_neg_of_pos_of_neg (show 0 < an by omega) c2; simp [c1, c2, this]
    · have := Int.mul_pos (show 0 < an by omega) (show 0 < bn by omega); simp [c1, c2]; omega
  generalize A * B = p at *
  generalize C * E = q at *
  by_cases c1 : (p : Int) / 18446744073709551616 > 0
  · rw [decide_eq_true c1, if_neg (by omega)]
    simp only [cond_true, Option.bind_some]
  · rw [decide_eq_false c1]
    simp only [cond_false, Option.bind_some]
    by_cases c2 : (q : Int) / 18446744073709551616 > 0
    · rw [decide_eq_true c2, if_neg (by omega)]
      simp only [cond_true]
    · rw [decide_eq_false c2, cond_false, show (p : Int) % 18446744073709551616 = p from by omega, show (q : Int) % 18446744073709551616 = q from by omega]
      rw [f_signed (by omega) (by omega) (by omega) (by omega), f_signed (by omega) (by omega) (by omega) (by omega)]
      have hcond : ((p : Int) ≤ 1152921504606846976 ∧ (q : Int) ≤ 1152921504606846976) ↔ (p ≤ 1152921504606846976 ∧ q ≤ 1152921504606846976) := by omega
      by_cases h0 : (p : Int) > 0
      · rw [decide_eq_true h0, hs (by intro h; have := hz.mp h; omega)]
        simp only [cond_true, Option.bind_some, hcond, decide_eq_true_eq]
      · obtain rfl : p = 0 := by omega
        rw [decide_eq_false h0, hz.mpr rfl]
        simp only [cond_false, Option.bind_some, hcond]
        rfl
end Go.Proofs.Ytkphcdficpfcnaa

/- Exact numbers: Div. -/
namespace Go.Proofs.Ytkphcdficpfcnaa

theorem q_inv {b c : TFrac} (hb : RV b) (hc : c.den = b.num ∧ c.num = b.den ∧ 0 < b.num ∨ c.den = -b.num ∧ c.num = -b.den ∧ b.num < 0) : RV c ∧ qOf c = (qOf b)⁻¹ := by
  obtain ⟨n, d⟩ := b
  obtain ⟨x, y⟩ := c
  obtain ⟨y0, y1, y2, y3, y4⟩ := id hb
  dsimp only at *
  have e : (qOf ⟨n, d⟩)⁻¹ = Rat.divInt d n := by
    unfold qOf
    rw [← Rat.divInt_ofNat, Rat.inv_divInt]
    congr 1
    show ((d.toNat : Nat) : Int) = d
    omega
  rw [e]
  rcases hc with ⟨rfl, rfl, h⟩ | ⟨rfl, rfl, h⟩
  · refine ⟨⟨by dsimp only; omega, by dsimp only; omega, by dsimp only; omega, by dsimp only; omega, ?_⟩, ?_⟩
    · dsimp only
      rw [Nat.gcd_comm, show y.toNat = y.natAbs from by omega, show x.natAbs = x.toNat from by omega]; exact y4
    · unfold qOf
      rw [← Rat.divInt_ofNat]
      congr 1
      show ((y.toNat : Nat) : Int) = y
      omega
  · refine ⟨⟨by dsimp only; omega, by dsimp only; omega, by dsimp only; omega, by dsimp only; omega, ?_⟩, ?_⟩
    · dsimp only
      rw [Nat.gcd_comm, show (-n).toNat = n.natAbs from by omega, show (-d).natAbs = d.toNat from by omega]; exact y4
    · unfold qOf
      rw [← Rat.divInt_ofNat, ← Rat.neg_divInt_neg d n]
      congr 1
      show (((-n).toNat : Nat) : Int) = -n
      omega
theorem f_rdiv {a b : TFrac} (ha : RV a) (hb : RV b) : F_ratio_Div a b = some (if b.num = 0 then (⟨0, 0⟩, 16) else outQ (qOf a / qOf b)) := by
  have y0 := hb.d0
  have y1 := hb.d1
  have y2 := hb.n0
  have y3 := hb.n1
  unfold F_ratio_Div
  rw [rv_true ha, rv_true hb]
  simp only [Option.bind_some, Bool.not_true, cond_false]
  rw [Rat.div_def]
  by_cases h0 : b.num = 0
  · rw [if_pos h0, h0]; rfl
  · rw [if_neg h0, beq_eq_false_iff_ne.mpr h0, cond_false]
    by_cases h1 : b.num < 0
    · rw [decide_eq_true h1, cond_true, wrap64 (n := 0 - b.den) (by omega) (by omega), wrap64 (by omega) (by omega)]
      obtain ⟨r, e⟩ := q_inv (c := ⟨0 - b.den, 0 - b.num⟩) hb (.inr ⟨by dsimp only; omega, by dsimp only; omega, h1⟩)
      rw [f_rmul ha r, e]
      rfl
    · rw [decide_eq_false h1, cond_false]
      obtain ⟨r, e⟩ := q_inv (c := ⟨b.den, b.num⟩) hb (.inl ⟨rfl, rfl, by omega⟩)
      rw [f_rmul ha r, e]
      rfl
end Go.Proofs.Ytkphcdficpfcnaa

/- Exact numbers: Cmp. -/
namespace Go.Proofs.Ytkphcdficpfcnaa

theorem q_lt {a b : TFrac} (ha : RV a) (hb : RV b) : qOf a < qOf b ↔ a.num * b.den < b.num * a.den := by
  rw [Rat.lt_iff, (q_num ha).1, (q_num ha).2, (q_num hb).1, (q_num hb).2]
theorem wok_prod {x y : Int} (hx : 0 ≤ x) (hx2 : x < 18446744073709551616) (hy : 0 ≤ y) (hy2 : y < 18446744073709551616) : F_ratio_product x y = some (ofV (x * y)) ∧ WOk (ofV (x * y)) := by
  refine ⟨f_product hx hx2 hy hy2, wok_of (Int.mul_nonneg hx hy) ?_⟩
  have : x * y ≤ 18446744073709551615 * 18446744073709551615 := Int.mul_le_mul (by omega) (by omega) hy (by omega)
  omega
theorem f_rcmp {a b : TFrac} (ha : RV a) (hb : RV b) : F_ratio_Cmp a b = some (if qOf a < qOf b then -1 else if qOf b < qOf a then 1 else 0, 0) := by
  obtain ⟨x0, x1, x2, x3, _⟩ := id ha
  obtain ⟨y0, y1, y2, y3, _⟩ := id hb
  simp only [q_lt ha hb, q_lt hb ha]
  unfold F_ratio_Cmp
  rw [rv_true ha, rv_true hb]
  simp only [Option.bind_some, Bool.not_true, cond_false]
  rw [f_size (by omega) (by omega), f_size (by omega) (by omega)]
  simp only [Option.bind_some, wrapu]
  rw [show b.den % 18446744073709551616 = b.den from by omega, show a.den % 18446744073709551616 = a.den from by omega]
  obtain ⟨e1, k1⟩ := wok_prod (x := (a.num.natAbs : Int)) (y := b.den) (by omega) (by omega) (by omega) (by omega)
  obtain ⟨e2, k2⟩ := wok_prod (x := (b.num.natAbs : Int)) (y := a.den) (by omega) (by omega) (by omega) (by omega)
  rw [e1, e2]
  simp only [Option.bind_some]
  by_cases c1 : a.num < 0 <;> by_cases c2 : b.num < 0
  · rw [decide_eq_true c1, decide_eq_true c2]
    simp only [beq_self_eq_true, Bool.not_true, cond_false, cond_true, Option.bind_some]
    rw [f_less k2 k1, f_less k1 k2, wv_of, wv_of, show (a.num.natAbs : Int) = -a.num from by omega, show (b.num.natAbs : Int) = -b.num from by omega, Int.neg_mul, Int.neg_mul]
    generalize a.num * b.den = u
    generalize b.num * a.den = v
    by_cases d1 : u < v
    · simp [d1, show -v < -u from by omega]
    · by_cases d2 : v < u <;> simp [d1, d2, show ¬ -v < -u from by omega] <;> omega
  · have h1 : a.num * b.den < 0 := Int.mul_neg_of_neg_of_pos c1 (by omega)
    have h2 : 0 ≤ b.num * a.den := Int.mul_nonneg (by omega) (by omega)
    rw [decide_eq_true c1, decide_eq_false c2, if_pos (by omega)]
    rfl
  · have h1 : b.num * a.den < 0 := Int.mul_neg_of_neg_of_pos c2 (by omega)
    have h2 : 0 ≤ a.num * b.den := Int.mul_nonneg (by omega) (by omega)
    rw [decide_eq_false c1, decide_eq_true c2, if_neg (by omega), if_pos (by omega)]
    rfl
  · rw [decide_eq_false c1, decide_eq_false c2]
    simp only [beq_self_eq_true, Bool.not_true, cond_false, Option.bind_some]
    rw [f_less k1 k2, f_less k2 k1, wv_of, wv_of, show (a.num.natAbs : Int) = a.num from by omega, show (b.num.natAbs : Int) = b.num from by omega]
    generalize a.num * b.den = u
    generalize b.num * a.den = v
    by_cases d1 : u < v
    · simp [d1]
    · by_cases d2 : v < u <;> simp [d1, d2]
end Go.Proofs.Ytkphcdficpfcnaa

/- Exact numbers: the sum in its lowest terms. -/
namespace Go.Proofs.Ytkphcdficpfcnaa

theorem int_gcd_add {n1 n2 : Int} {e1 e2 : Nat} (h1 : Nat.gcd n1.natAbs e1 = 1) (h : Nat.gcd e2 e1 = 1) : Nat.gcd (n1 * e2 + n2 * e1).natAbs e1 = 1 := by
  have e : Int.gcd (n1 * e2 + n2 * e1) e1 = Int.gcd (n1 * e2) e1 := by
    rw [Int.gcd_add_mul_right_left]
  have e2' : Int.gcd (n1 * e2) e1 = Nat.gcd (n1.natAbs * e2) e1 := by
    show Nat.gcd (n1 * e2).natAbs e1 = _
    rw [Int.natAbs_mul]; rfl
  show Int.gcd (n1 * e2 + n2 * e1) e1 = 1
  rw [e, e2']
  exact Nat.Coprime.mul_left h1 h
theorem add_red {n1 n2 : Int} {e1 e2 g : Nat} (p1 : 0 < e1) (p2 : 0 < e2) (hg : 0 < g) (h1 : Nat.gcd n1.natAbs (e1 * g) = 1) (h2 : Nat.gcd n2.natAbs (e2 * g) = 1) (hc : Nat.gcd e1 e2 = 1) :
    mkRat n1 (e1 * g) + mkRat n2 (e2 * g) = mkRat (n1 * e2 + n2 * e1) (e1 * e2 * g) ∧ Nat.gcd (n1 * e2 + n2 * e1).natAbs (e1 * e2 * g) = Nat.gcd (n1 * e2 + n2 * e1).natAbs g := by
  constructor
  · rw [Rat.mkRat_add_mkRat _ _ (Nat.ne_of_gt (Nat.mul_pos p1 hg)) (Nat.ne_of_gt (Nat.mul_pos p2 hg))]
    rw [show n1 * ((e2 * g : Nat) : Int) + n2 * ((e1 * g : Nat) : Int) = (n1 * e2 + n2 * e1) * (g : Int) from by rw [Int.natCast_mul, Int.natCast_mul]; grind, show e1 * g * (e2 * g) = e1 * e2 * g * g from by grind]
    exact Rat.mkRat_mul_right (by omega)
  · have a1 : Nat.Coprime n1.natAbs e1 := Nat.Coprime.coprime_dvd_right (Nat.dvd_mul_right _ _) h1
    have a2 : Nat.Coprime n2.natAbs e2 := Nat.Coprime.coprime_dvd_right (Nat.dvd_mul_right _ _) h2
    have b1 : Nat.Coprime (n1 * e2 + n2 * e1).natAbs e1 := int_gcd_add a1 (by rw [Nat.gcd_comm]; exact hc)
    have b2 : Nat.Coprime (n1 * e2 + n2 * e1).natAbs e2 := by rw [Int.add_comm]; exact int_gcd_add a2 hc
    exact Nat.Coprime.gcd_mul_left_cancel_right _ (Nat.Coprime.mul_right b1 b2).symm
end Go.Proofs.Ytkphcdficpfcnaa

/- Exact numbers: Add. -/
namespace Go.Proofs.Ytkphcdficpfcnaa

/-- The sign and the size of a sum of two numbers given by sign and size. -/
theorem sum_sign {x y : Int} {p q : Twide} (hp : WOk p) (hq : WOk q) (ep : wv p = x.natAbs) (eq : wv q = y.natAbs) (hb : (x.natAbs : Int) + y.natAbs < 340282366920938463463374607431768211456)
    {u v : Bool} (hu : x ≠ 0 → u = decide (x < 0)) (hv : y ≠ 0 → v = decide (y < 0)) :
    ∃ n : Bool, (((bif (u == v) then (F_ratio_plus p q).bind fun r16 => some (u, r16, ()) else (F_ratio_less p q).bind fun r17 => (bif r17 then (F_ratio_minus q p).bind fun r18 => some ((!u), r18, ()) else (F_ratio_minus p q).bind fun r19 => some (u, r19, ()))) : Option (Bool × Twide × Unit))) = some (n, ofV ((x + y).natAbs : Int), ()) ∧ (x + y ≠ 0 → n = decide (x + y < 0)) := by
  rw [f_less hp hq, ep, eq]
  by_cases huv : u = v
  · subst huv
    rw [beq_self_eq_true, cond_true, f_plus hp hq (by rw [ep, eq]; exact hb), ep, eq]
    by_cases hx : x = 0
    · subst hx
      exact ⟨u, by rw [show ((0 : Int).natAbs : Int) + y.natAbs = ((0 + y).natAbs : Int) from by omega]; rfl, fun h => by rw [hv (by omega)]; simp⟩
    · have hu := hu hx
      by_cases hy : y = 0
      · subst hy
        exact ⟨u, by rw [show (x.natAbs : Int) + (0 : Int).natAbs = ((x + 0).natAbs : Int) from by omega]; rfl, fun h => by rw [hu]; simp⟩
      · have hv := hv hy
        have hs : decide (x < 0) = decide (y < 0) := by rw [← hu, hv]
        have hs := decide_eq_decide.mp hs
        refine ⟨u, by rw [show (x.natAbs : Int) + y.natAbs = ((x + y).natAbs : Int) from by omega]; rfl, fun h => ?_⟩
        rw [hu]
        apply decide_eq_decide.mpr
        omega
  · rw [beq_eq_false_iff_ne.mpr huv, cond_false, Option.bind_some]
    by_cases hl : (x.natAbs : Int) < y.natAbs
    · rw [decide_eq_true hl, cond_true, f_minus hq hp (by rw [ep, eq]; omega), ep, eq]
      have hv := hv (by omega)
      have hnu : (!u) = v := by cases u <;> cases v <;> simp at huv ⊢
      by_cases hx : x = 0
      · subst hx
        refine ⟨!u, by rw [show (y.natAbs : Int) - (0 : Int).natAbs = ((0 + y).natAbs : Int) from by omega]; rfl, fun h => ?_⟩
        rw [hnu, hv]; simp
      · have hu := hu hx
        have hs : (!decide (x < 0)) = decide (y < 0) := by rw [← hu, ← hv]; exact hnu
        have hs : ¬ x < 0 ↔ y < 0 := by rw [← decide_not] at hs; exact decide_eq_decide.mp hs
        refine ⟨!u, by rw [show (y.natAbs : Int) - x.natAbs = ((x + y).natAbs : Int) from by omega]; rfl, fun h => ?_⟩
        rw [hnu, hv]
        apply decide_eq_decide.mpr
        omega
    · rw [decide_eq_false hl, cond_false, f_minus hp hq (by rw [ep, eq]; omega), ep, eq]
      by_cases hx : x = 0
      · subst hx
        have : y = 0 := by omega
        subst this
        exact ⟨u, rfl, fun h => absurd rfl h⟩
      · have hu := hu hx
        by_cases hy : y = 0
        · subst hy
          exact ⟨u, by rw [show (x.natAbs : Int) - (0 : Int).natAbs = ((x + 0).natAbs : Int) from by omega]; rfl, fun h => by rw [hu]; simp⟩
        · have hv := hv hy
          have hnu : (!u) = v := by cases u <;> cases v <;> simp at huv ⊢
          have hs : (!decide (x < 0)) = decide (y < 0) := by rw [← hu, ← hv]; exact hnu
          have hs : ¬ x < 0 ↔ y < 0 := by rw [← decide_not] at hs; exact decide_eq_decide.mp hs
          refine ⟨u, by rw [show (x.natAbs : Int) - y.natAbs = ((x + y).natAbs : Int) from by omega]; rfl, fun h => ?_⟩
          rw [hu]
          apply decide_eq_decide.mpr
          omega
end Go.Proofs.Ytkphcdficpfcnaa

/- Exact numbers: Add, Sub. -/
namespace Go.Proofs.Ytkphcdficpfcnaa

theorem ofv_nat (n : Nat) : ofV (n : Int) = ⟨((n / 18446744073709551616 : Nat) : Int), ((n % 18446744073709551616 : Nat) : Int)⟩ := by
  unfold ofV
  congr 1
theorem f_radd {a b : TFrac} (ha : RV a) (hb : RV b) : F_ratio_Add a b = some (outQ (qOf a + qOf b)) := by
  obtain ⟨n1, ad⟩ := a
  obtain ⟨n2, bd⟩ := b
  obtain ⟨x0, x1, x2, x3, x4⟩ := id ha
  obtain ⟨y0, y1, y2, y3, y4⟩ := id hb
  dsimp only at *
  obtain ⟨d1, rfl⟩ := Int.eq_ofNat_of_zero_le (show 0 ≤ ad by omega)
  obtain ⟨d2, rfl⟩ := Int.eq_ofNat_of_zero_le (show 0 ≤ bd by omega)
  rw [Int.toNat_natCast] at x4 y4
  unfold F_ratio_Add
  rw [rv_true ha, rv_true hb]
  simp only [Option.bind_some, Bool.not_true, cond_false, wrapu]
  rw [show (d2 : Int) % 18446744073709551616 = d2 from by omega, show (d1 : Int) % 18446744073709551616 = d1 from by omega, f_gcd _ _ (by unfold big; omega)]
  simp only [Option.bind_some]
  have hg : 0 < Nat.gcd d1 d2 := Nat.gcd_pos_of_pos_right _ (by omega)
  have hc : Nat.gcd (d1 / Nat.gcd d1 d2) (d2 / Nat.gcd d1 d2) = 1 := Nat.gcd_div_gcd_div_gcd_of_pos_right (by omega)
  have hd1 := Nat.div_mul_cancel (Nat.gcd_dvd_left d1 d2)
  have hd2 := Nat.div_mul_cancel (Nat.gcd_dvd_right d1 d2)
  have hq1 := Nat.div_le_self d1 (Nat.gcd d1 d2)
  have hq2 := Nat.div_le_self d2 (Nat.gcd d1 d2)
  have hgle : Nat.gcd d1 d2 ≤ d1 := Nat.gcd_le_left _ (by omega)
  have tm (u v : Nat) : (u : Int).tdiv (v : Int) = ((u / v : Nat) : Int) := by rw [Int.tdiv_eq_ediv_of_nonneg (by omega), Int.natCast_ediv]
  have hp1 : 0 < d1 / Nat.gcd d1 d2 := Nat.div_pos hgle hg
  have hp2 : 0 < d2 / Nat.gcd d1 d2 := Nat.div_pos (Nat.gcd_le_right _ (by omega)) hg
  have ea : qOf ⟨n1, d1⟩ + qOf ⟨n2, d2⟩ = mkRat n1 d1 + mkRat n2 d2 := rfl
  rw [ea]
  simp only [tm]
  generalize Nat.gcd d1 d2 = g at *
  generalize he1 : d1 / g = e1 at *
  generalize he2 : d2 / g = e2 at *
  have hi : ((g : Nat) : Int) ≠ 0 := by omega
  simp only [if_neg hi]
  rw [f_size (by omega) (by omega), f_size (by omega) (by omega)]
  simp only [Option.bind_some]
  rw [show (e1 : Int) % 18446744073709551616 = e1 from by omega, show (e2 : Int) % 18446744073709551616 = e2 from by omega]
  obtain ⟨p1, k1⟩ := wok_prod (x := (n1.natAbs : Int)) (y := (e2 : Int)) (by omega) (by omega) (by omega) (by omega)
  obtain ⟨p2, k2⟩ := wok_prod (x := (n2.natAbs : Int)) (y := (e1 : Int)) (by omega) (by omega) (by omega) (by omega)
  rw [p1, p2]
  simp only [Option.bind_some]
  rw [← hd1] at x4
  rw [← hd2] at y4
  obtain ⟨es, eg⟩ := add_red (n1 := n1) (n2 := n2) hp1 hp2 hg x4 y4 hc
  rw [show mkRat n1 d1 + mkRat n2 d2 = mkRat (n1 * e2 + n2 * e1) (e1 * e2 * g) from by rw [← hd1, ← hd2]; exact es]
  have ab1 : ((n1.natAbs : Int) * (e2 : Int)) = ((n1 * e2).natAbs : Int) := by rw [Int.natAbs_mul]; rfl
  have ab2 : ((n2.natAbs : Int) * (e1 : Int)) = ((n2 * e1).natAbs : Int) := by rw [Int.natAbs_mul]; rfl
  have b1 : ((n1 * e2).natAbs : Int) ≤ 1329227995784915872903807060280344576 := by
    rw [← ab1]; exact Int.le_trans (Int.mul_le_mul (show (n1.natAbs : Int) ≤ 1152921504606846976 by omega) (show (e2 : Int) ≤ 1152921504606846976 by omega) (by omega) (by omega)) (by decide)
  have b2 : ((n2 * e1).natAbs : Int) ≤ 1329227995784915872903807060280344576 := by
    rw [← ab2]; exact Int.le_trans (Int.mul_le_mul (show (n2.natAbs : Int) ≤ 1152921504606846976 by omega) (show (e1 : Int) ≤ 1152921504606846976 by omega) (by omega) (by omega)) (by decide)
  have sg (n : Int) (e : Nat) (he : 0 < e) : decide (n < 0) = decide (n * e < 0) := by
    apply decide_eq_decide.mpr
    constructor
    · intro h; exact Int.mul_neg_of_neg_of_pos h (by omega)
    · intro h
      rcases Int.lt_or_le n 0 with h1 | h1
      · exact h1
      · have := Int.mul_nonneg h1 (show (0 : Int) ≤ e by omega); omega
  obtain ⟨n, hsum, hn⟩ := sum_sign (x := n1 * e2) (y := n2 * e1) k1 k2 (by rw [wv_of, ab1]) (by rw [wv_of, ab2]) (by omega) (u := decide (n1 < 0)) (v := decide (n2 < 0)) (fun _ => sg n1 e2 hp2) (fun _ => sg n2 e1 hp1)
  rw [hsum]
  simp only [Option.bind_some]
  have hg18 : g ≤ 1152921504606846976 := by omega
  have hM : ((n1 * e2 + n2 * e1).natAbs : Int) ≤ 2658455991569831745807614120560689152 := by omega
  by_cases h0 : n1 * e2 + n2 * e1 = 0
  · rw [h0]
    rw [show (((ofV ((0 : Int).natAbs : Int)).hi == 0) && ((ofV ((0 : Int).natAbs : Int)).lo == 0)) = true from by decide, cond_true, Rat.zero_mkRat]
    rfl
  · have hMp : 0 < (n1 * e2 + n2 * e1).natAbs := by omega
    have hn' := hn h0
    subst hn'
    rw [out_red (n := n1 * e2 + n2 * e1) (d := e1 * e2 * g) (g := Nat.gcd (n1 * e2 + n2 * e1).natAbs g) (Nat.ne_of_gt (Nat.mul_pos (Nat.mul_pos hp1 hp2) hg)) eg]
    have hcg : Nat.gcd (n1 * e2 + n2 * e1).natAbs g ∣ g := Nat.gcd_dvd_right _ _
    have hcp : 0 < Nat.gcd (n1 * e2 + n2 * e1).natAbs g := Nat.gcd_pos_of_pos_right _ hg
    have hcle := Nat.le_of_dvd hg hcg
    have hrec : Nat.gcd g ((n1 * e2 + n2 * e1).natAbs % g) = Nat.gcd (n1 * e2 + n2 * e1).natAbs g := by
      rw [Nat.gcd_comm g, ← Nat.gcd_rec, Nat.gcd_comm]
    generalize hMd : (n1 * e2 + n2 * e1).natAbs = M at *
    generalize hC : Nat.gcd M g = c at *
    have hnz : (((ofV (M : Int)).hi == 0) && ((ofV (M : Int)).lo == 0)) = false := by
      rw [ofv_nat]
      simp only [Bool.and_eq_false_iff, beq_eq_false_iff_ne]
      omega
    rw [hnz, cond_false, f_over (wok_of (by omega) (by omega)) (by omega) (by omega), wv_of]
    simp only [Option.bind_some]
    rw [show (M : Int) % (g : Int) = ((M % g : Nat) : Int) from (Int.natCast_emod _ _).symm, f_gcd _ _ (by have := Nat.mod_lt M hg; unfold big; omega), hrec]
    simp only [Option.bind_some]
    rw [f_over (wok_of (by omega) (by omega)) (by omega) (by omega), wv_of]
    simp only [Option.bind_some]
    have hcI : ((c : Nat) : Int) ≠ 0 := by omega
    rw [if_neg hcI]
    have hd2c : d2 / c ≤ d2 := Nat.div_le_self _ _
    have hden : e1 * e2 * g / c = e1 * (d2 / c) := by
      rw [Nat.mul_assoc, hd2, Nat.mul_div_assoc]
      exact Nat.dvd_trans hcg ⟨e2, by rw [← hd2, Nat.mul_comm]⟩
    rw [tm, hden]
    generalize d2 / c = q at *
    rw [show ((q : Nat) : Int) % 18446744073709551616 = ((q : Nat) : Int) from by omega]
    rw [f_product (by omega) (by omega) (by omega) (by omega)]
    simp only [Option.bind_some]
    rw [show (M : Int) / (c : Int) = ((M / c : Nat) : Int) from (Int.natCast_ediv _ _).symm, ← Int.natCast_mul, ofv_nat]
    generalize M / c = u at *
    generalize e1 * q = v at *
    by_cases c1 : ((u / 18446744073709551616 : Nat) : Int) > 0
    · rw [decide_eq_true c1, if_neg (by omega)]
      simp only [cond_true, Option.bind_some]
    · rw [decide_eq_false c1]
      simp only [cond_false, Option.bind_some]
      by_cases c2 : (v : Int) / 18446744073709551616 > 0
      · rw [decide_eq_true c2, if_neg (by omega)]
        simp only [cond_true]
      · rw [decide_eq_false c2, cond_false, f_signed (by omega) (by omega) (by omega) (by omega)]
        rw [show ((u % 18446744073709551616 : Nat) : Int) = u from by omega, show (v : Int) % 18446744073709551616 = v from by omega]
        have hcond : ((u : Int) ≤ 1152921504606846976 ∧ (v : Int) ≤ 1152921504606846976) ↔ (u ≤ 1152921504606846976 ∧ v ≤ 1152921504606846976) := by omega
        simp only [Option.bind_some, hcond, decide_eq_true_eq]
end Go.Proofs.Ytkphcdficpfcnaa

/- Exact numbers of the reference: magnitudes of two words. -/
namespace Go.Proofs.Ytkphcdficpfcnaa
set_option linter.unusedSimpArgs false
set_option linter.unusedVariables false

theorem iter_run_inv {σ ρ : Type} {F : σ → Option (σ ⊕ ρ)} {Q : ρ → Prop} (I : Nat → σ → Prop) (n : Nat) (hn : n < big)
    (step : ∀ k s, I k s → (∃ s', F s = some (.inl s') ∧ k < n ∧ I (k + 1) s') ∨ ∃ r, F s = some (.inr r) ∧ Q r) {s : σ} (h : I 0 s) : ∃ r, iterF F big s = some r ∧ Q r :=
  iter_inv I n hn (fun k s _ hi => step k s hi) h
end Go.Proofs.Ytkphcdficpfcnaa

/- What a valid line set is, as a function on plain data, and plain lemmas about it. No program in sight. -/
namespace Go.Proofs.Ytkphcdficpfcnaa
open Go.RowKit

def letterB (c : Int) : Bool := decide (97 ≤ c ∧ c ≤ 122 ∨ 65 ≤ c ∧ c ≤ 90)
def digitB (c : Int) : Bool := decide (48 ≤ c ∧ c ≤ 57)
def wcB (c : UInt8) : Bool := letterB c.toNat || (digitB c.toNat || ((c.toNat : Int) == 95))
def wordN (s : ByteArray) : Nat := (s.data.toList.takeWhile wcB).length
def nameB (s : ByteArray) : Bool := match s.data.toList with | [] => false | c :: l => decide (l.length < 20) && (letterB c.toNat && (c :: l).all wcB)
/-- Each element is right by itself, and with each one before it. -/
def okAt {α : Type} (one : α → Bool) (two : α → α → Bool) (l : List α) (i : Nat) : Bool := match l[i]? with | none => true | some x => one x && (l.take i).all fun y => two y x
def pairsB {α : Type} (one : α → Bool) (two : α → α → Bool) (l : List α) : Bool := (List.range l.length).all (okAt one two l)
def okTo {α : Type} (one : α → Bool) (two : α → α → Bool) (l : List α) (k : Nat) : Prop := ∀ i, i < k → okAt one two l i = true
section
variable {α : Type} {one one' : α → Bool} {two two' : α → α → Bool} {l : List α}
theorem okAt_eq {i : Nat} (h : i < l.length) : okAt one two l i = (one l[i] && (l.take i).all fun y => two y l[i]) := by unfold okAt; rw [List.getElem?_eq_getElem h]
theorem okTo_zero : okTo one two l 0 := fun _ h => absurd h (by omega)
theorem okTo_succ {k : Nat} (h : okTo one two l k) (h1 : okAt one two l k = true) : okTo one two l (k + 1) := fun i hi => by
  rcases Nat.lt_or_ge i k with h2 | h2
  · exact h i h2
  · obtain rfl : i = k := by omega
    exact h1
theorem pairs_yes (h : okTo one two l l.length) : pairsB one two l = true := List.all_eq_true.2 fun i hi => h i (List.mem_range.1 hi)
theorem pairs_no {k : Nat} (hk : k < l.length) (h : okAt one two l k = false) : pairsB one two l = false := by
  rw [Bool.eq_false_iff]
  intro e
  have := List.all_eq_true.1 e k (List.mem_range.2 hk)
  rw [h] at this
  cases this
theorem pairs_iff : pairsB one two l = true ↔ ∀ i (h : i < l.length), one l[i] = true ∧ ∀ k (hk : k < i), two (l[k]'(Nat.lt_trans hk h)) l[i] = true := by
  constructor
  · intro e i h
    have := List.all_eq_true.1 e i (List.mem_range.2 h)
    rw [okAt_eq h, Bool.and_eq_true, List.all_eq_true] at this
    refine ⟨this.1, fun k hk => this.2 _ ?_⟩
    rw [List.mem_take_iff_getElem]
    exact ⟨k, by omega, rfl⟩
  · intro e
    refine List.all_eq_true.2 fun i hi => ?_
    have h := List.mem_range.1 hi
    obtain ⟨e1, e2⟩ := e i h
    rw [okAt_eq h, Bool.and_eq_true, List.all_eq_true]
    refine ⟨e1, fun y hy => ?_⟩
    rw [List.mem_take_iff_getElem] at hy
    obtain ⟨k, hk, rfl⟩ := hy
    exact e2 k (by omega)
end

def sameName (a b : ByteArray) : Bool := a.toList == b.toList
def sumTo {α : Type} (f : α → Int) (l : List α) (k : Nat) : Int := ((l.take k).map f).sum
theorem sumTo_zero {α : Type} (f : α → Int) (l : List α) : sumTo f l 0 = 0 := rfl
theorem sumTo_succ {α : Type} (f : α → Int) (l : List α) (k : Nat) (h : k < l.length) : sumTo f l (k + 1) = sumTo f l k + f l[k] := by
  unfold sumTo; rw [List.take_succ_eq_append_getElem h, List.map_append, List.sum_append_int]; simp
theorem sumTo_bound {α : Type} (f : α → Int) (l : List α) (M : Int) (h : ∀ x, x ∈ l → 0 ≤ f x ∧ f x ≤ M) : ∀ k, k ≤ l.length → 0 ≤ sumTo f l k ∧ sumTo f l k ≤ k * M := by
  intro k
  induction k with
  | zero => intro _; rw [sumTo_zero]; omega
  | succ k ih =>
    intro hk
    have h1 := ih (by omega)
    have h2 := h l[k] (List.getElem_mem (by omega))
    rw [sumTo_succ f l k (by omega)]
    have e : ((k + 1 : Nat) : Int) * M = (k : Int) * M + M := by rw [Int.natCast_add, Int.add_mul]; simp
    omega
theorem pairs_one {α : Type} {one : α → Bool} {two : α → α → Bool} {l : List α} (h : pairsB one two l = true) (x : α) (hx : x ∈ l) : one x = true := by
  rw [pairs_iff] at h
  obtain ⟨i, hi, rfl⟩ := List.mem_iff_getElem.1 hx
  exact (h i hi).1
end Go.Proofs.Ytkphcdficpfcnaa

/- What the small functions come to, in plain terms. -/
namespace Go.Proofs.Ytkphcdficpfcnaa
set_option linter.unusedSimpArgs false

theorem f_slices_IndexFunc_int (s : List Int) (hs : s.length < 9223372036854775807) (f : Int → Option Bool) (g : Int → Bool) (hf : ∀ x ∈ s, f x = some (g x)) : F_slices_IndexFunc_int s f = some (match s.findIdx? g with | some i => (i : Int) | none => -1) := by
  unfold F_slices_IndexFunc_int
  rw [iter_find s hs (fun k x => bif g x then some (Sum.inl ((k : Int), ())) else none) (.inr ()) ?hin ?hout]
  · have e : ∀ (l : List Int) (j : Nat), ((l.zipIdx j).findSome? fun x => bif g x.1 then some (Sum.inl ((x.2 : Int), ()) : (Int × Unit) ⊕ Unit) else none) = (l.findIdx? g).map fun i => .inl (((i + j : Nat) : Int), ()) := by
      intro l
      induction l with
      | nil => intro j; rfl
      | cons x l ih =>
        intro j
        rw [List.zipIdx_cons, List.findSome?_cons, List.findIdx?_cons]
        cases hg : g x with
        | true => simp
        | false =>
          simp only [cond_false]
          rw [ih (j + 1)]
          cases l.findIdx? g with
          | none => rfl
          | some i => simp; omega
    rw [e s 0]
    cases s.findIdx? g with
    | none => rfl
    | some i => rfl
  case hin =>
    intro k hk
    have hlt : decide ((k : Int) < ((s.length : Nat) : Int)) = true := decide_eq_true (by omega)
    simp only [hlt, cond_true, idx_at hk, Option.bind_some, hf _ (List.getElem_mem hk)]
    cases g s[k] with
    | true => rfl
    | false => simp only [cond_false]; rw [wrap64 (by omega) (by omega)]
  case hout =>
    have hlt : decide (((s.length : Nat) : Int) < ((s.length : Nat) : Int)) = false := decide_eq_false (by omega)
    simp only [hlt, cond_false]
theorem f_slices_ContainsFunc_int (s : List Int) (hs : s.length < 9223372036854775807) (f : Int → Option Bool) (g : Int → Bool) (hf : ∀ x ∈ s, f x = some (g x)) : F_slices_ContainsFunc_int s f = some (s.any g) := by
  unfold F_slices_ContainsFunc_int
  rw [f_slices_IndexFunc_int s hs f g hf, Option.bind_some]
  congr 1
  cases h : s.findIdx? g with
  | none =>
    rw [List.findIdx?_eq_none_iff] at h
    have : s.any g = false := by rw [List.any_eq_false]; intro x hx; rw [h x hx]; simp
    rw [this]; rfl
  | some i =>
    obtain ⟨hi, hg, _⟩ := List.findIdx?_eq_some_iff_getElem.1 h
    have : s.any g = true := List.any_eq_true.2 ⟨_, List.getElem_mem hi, hg⟩
    rw [this]
    exact decide_eq_true (by show (i : Int) ≥ 0; omega)
theorem f_slices_IndexFunc_api_Spring (s : List TSpring) (hs : s.length < 9223372036854775807) (f : TSpring → Option Bool) (g : TSpring → Bool) (hf : ∀ x ∈ s, f x = some (g x)) : F_slices_IndexFunc_api_Spring s f = some (match s.findIdx? g with | some i => (i : Int) | none => -1) := by
  unfold F_slices_IndexFunc_api_Spring
  rw [iter_find s hs (fun k x => bif g x then some (Sum.inl ((k : Int), ())) else none) (.inr ()) ?hin ?hout]
  · have e : ∀ (l : List TSpring) (j : Nat), ((l.zipIdx j).findSome? fun x => bif g x.1 then some (Sum.inl ((x.2 : Int), ()) : (Int × Unit) ⊕ Unit) else none) = (l.findIdx? g).map fun i => .inl (((i + j : Nat) : Int), ()) := by
      intro l
      induction l with
      | nil => intro j; rfl
      | cons x l ih =>
        intro j
        rw [List.zipIdx_cons, List.findSome?_cons, List.findIdx?_cons]
        cases hg : g x with
        | true => simp
        | false =>
          simp only [cond_false]
          rw [ih (j + 1)]
          cases l.findIdx? g with
          | none => rfl
          | some i => simp; omega
    rw [e s 0]
    cases s.findIdx? g with
    | none => rfl
    | some i => rfl
  case hin =>
    intro k hk
    have hlt : decide ((k : Int) < ((s.length : Nat) : Int)) = true := decide_eq_true (by omega)
    simp only [hlt, cond_true, idx_at hk, Option.bind_some, hf _ (List.getElem_mem hk)]
    cases g s[k] with
    | true => rfl
    | false => simp only [cond_false]; rw [wrap64 (by omega) (by omega)]
  case hout =>
    have hlt : decide (((s.length : Nat) : Int) < ((s.length : Nat) : Int)) = false := decide_eq_false (by omega)
    simp only [hlt, cond_false]
theorem f_slices_ContainsFunc_api_Spring (s : List TSpring) (hs : s.length < 9223372036854775807) (f : TSpring → Option Bool) (g : TSpring → Bool) (hf : ∀ x ∈ s, f x = some (g x)) : F_slices_ContainsFunc_api_Spring s f = some (s.any g) := by
  unfold F_slices_ContainsFunc_api_Spring
  rw [f_slices_IndexFunc_api_Spring s hs f g hf, Option.bind_some]
  congr 1
  cases h : s.findIdx? g with
  | none =>
    rw [List.findIdx?_eq_none_iff] at h
    have : s.any g = false := by rw [List.any_eq_false]; intro x hx; rw [h x hx]; simp
    rw [this]; rfl
  | some i =>
    obtain ⟨hi, hg, _⟩ := List.findIdx?_eq_some_iff_getElem.1 h
    have : s.any g = true := List.any_eq_true.2 ⟨_, List.getElem_mem hi, hg⟩
    rw [this]
    exact decide_eq_true (by show (i : Int) ≥ 0; omega)
theorem f_slices_IndexFunc_api_Frac (s : List TFrac) (hs : s.length < 9223372036854775807) (f : TFrac → Option Bool) (g : TFrac → Bool) (hf : ∀ x ∈ s, f x = some (g x)) : F_slices_IndexFunc_api_Frac s f = some (match s.findIdx? g with | some i => (i : Int) | none => -1) := by
  unfold F_slices_IndexFunc_api_Frac
  rw [iter_find s hs (fun k x => bif g x then some (Sum.inl ((k : Int), ())) else none) (.inr ()) ?hin ?hout]
  · have e : ∀ (l : List TFrac) (j : Nat), ((l.zipIdx j).findSome? fun x => bif g x.1 then some (Sum.inl ((x.2 : Int), ()) : (Int × Unit) ⊕ Unit) else none) = (l.findIdx? g).map fun i => .inl (((i + j : Nat) : Int), ()) := by
      intro l
      induction l with
      | nil => intro j; rfl
      | cons x l ih =>
        intro j
        rw [List.zipIdx_cons, List.findSome?_cons, List.findIdx?_cons]
        cases hg : g x with
        | true => simp
        | false =>
          simp only [cond_false]
          rw [ih (j + 1)]
          cases l.findIdx? g with
          | none => rfl
          | some i => simp; omega
    rw [e s 0]
    cases s.findIdx? g with
    | none => rfl
    | some i => rfl
  case hin =>
    intro k hk
    have hlt : decide ((k : Int) < ((s.length : Nat) : Int)) = true := decide_eq_true (by omega)
    simp only [hlt, cond_true, idx_at hk, Option.bind_some, hf _ (List.getElem_mem hk)]
    cases g s[k] with
    | true => rfl
    | false => simp only [cond_false]; rw [wrap64 (by omega) (by omega)]
  case hout =>
    have hlt : decide (((s.length : Nat) : Int) < ((s.length : Nat) : Int)) = false := decide_eq_false (by omega)
    simp only [hlt, cond_false]
theorem f_slices_ContainsFunc_api_Frac (s : List TFrac) (hs : s.length < 9223372036854775807) (f : TFrac → Option Bool) (g : TFrac → Bool) (hf : ∀ x ∈ s, f x = some (g x)) : F_slices_ContainsFunc_api_Frac s f = some (s.any g) := by
  unfold F_slices_ContainsFunc_api_Frac
  rw [f_slices_IndexFunc_api_Frac s hs f g hf, Option.bind_some]
  congr 1
  cases h : s.findIdx? g with
  | none =>
    rw [List.findIdx?_eq_none_iff] at h
    have : s.any g = false := by rw [List.any_eq_false]; intro x hx; rw [h x hx]; simp
    rw [this]; rfl
  | some i =>
    obtain ⟨hi, hg, _⟩ := List.findIdx?_eq_some_iff_getElem.1 h
    have : s.any g = true := List.any_eq_true.2 ⟨_, List.getElem_mem hi, hg⟩
    rw [this]
    exact decide_eq_true (by show (i : Int) ≥ 0; omega)
end Go.Proofs.Ytkphcdficpfcnaa

/- Names: what the two readers of names come to. -/
namespace Go.Proofs.Ytkphcdficpfcnaa

theorem takeWhile_len {α : Type} (p : α → Bool) : ∀ (l : List α) (k : Nat), k ≤ l.length → (∀ i (h : i < l.length), i < k → p l[i] = true) → (∀ h : k < l.length, p l[k] = false) → (l.takeWhile p).length = k
  | [], k, hk, _, _ => by simp at hk; subst hk; rfl
  | x :: l, 0, _, _, h2 => by
    have := h2 (by simp)
    rw [List.takeWhile_cons]
    simp only [List.getElem_cons_zero] at this
    rw [this]; rfl
  | x :: l, k + 1, hk, h1, h2 => by
    have hx := h1 0 (by simp) (by omega)
    simp only [List.getElem_cons_zero] at hx
    rw [List.takeWhile_cons, hx]
    simp only [if_true, List.length_cons]
    rw [takeWhile_len p l k (by simpa using hk) (fun i h hi => by have := h1 (i + 1) (by simpa using h) (by omega); simpa using this) (fun h => by have := h2 (by simpa using h); simpa using this)]
theorem f_letter (c : Int) : F_decimal_letter c = some (letterB c) := by
  unfold F_decimal_letter letterB
  by_cases h1 : c ≥ 97 <;> by_cases h2 : c ≤ 122 <;> by_cases h3 : c ≥ 65 <;> by_cases h4 : c ≤ 90 <;> simp [h1, h2, h3, h4] <;> omega
theorem f_digit (c : Int) : F_decimal_digit c = some (digitB c) := by
  unfold F_decimal_digit digitB
  by_cases h1 : c ≥ 48 <;> by_cases h2 : c ≤ 57 <;> simp [h1, h2] <;> omega
theorem f_word (s : ByteArray) (hs : s.size ≤ 9223372036854775806) : F_decimal_word s = some (wordN s : Int) := by
  unfold F_decimal_word
  have hlen : s.data.toList.length = s.size := rfl
  obtain ⟨r, h1, h2⟩ := iter_inv (F := fun s12 : Int × Unit => (((bif (decide (s12.1 < ((s.size : Nat) : Int))) then (idxB s s12.1).bind fun b13 => (F_decimal_letter ((b13.toNat : Nat) : Int)).bind fun r14 => (bif r14 then some (true, ()) else (idxB s s12.1).bind fun b15 => (F_decimal_digit ((b15.toNat : Nat) : Int)).bind fun r16 => (bif r16 then some (true, ()) else (idxB s s12.1).bind fun b17 => some ((((b17.toNat : Nat) : Int) == 95), ()))) else some (false, ())) : Option (Bool × Unit)).bind fun y18 => (bif y18.1 then some (.inl ((IntKind.i64.wrap (s12.1 + 1)), ())) else some (.inr (s12.1, ()))) : Option ((Int × Unit) ⊕ (Int × Unit))))
    (Q := fun r => r = ((wordN s : Int), ())) (fun k x => x = ((k : Int), ()) ∧ ∀ i (h : i < s.data.toList.length), i < k → wcB s.data.toList[i] = true) s.size (by unfold big; omega) (fun k x hk hi => by
      obtain ⟨rfl, hi⟩ := hi
      by_cases hlt : k < s.size
      · have hd : decide ((k : Int) < ((s.size : Nat) : Int)) = true := decide_eq_true (by omega)
        simp only [hd, cond_true, idxB_at hlt, Option.bind_some, f_letter, f_digit]
        rw [wrap64 (by omega) (by omega)]
        have hsel : (((bif letterB ((s[k].toNat : Nat) : Int) then some (true, ()) else (bif digitB ((s[k].toNat : Nat) : Int) then some (true, ()) else some ((((s[k].toNat : Nat) : Int) == 95), ()))) : Option (Bool × Unit))) = some (wcB s[k], ()) := by
          unfold wcB
          cases letterB s[k].toNat <;> cases digitB s[k].toNat <;> rfl
        rw [hsel]
        simp only [Option.bind_some]
        cases hw : wcB s[k] with
        | true =>
          refine .inl ⟨((k : Int) + 1, ()), rfl, hlt, rfl, fun i h hik => ?_⟩
          by_cases hik' : i < k
          · exact hi i h hik'
          · obtain rfl : i = k := by omega
            exact hw
        | false =>
          refine .inr ⟨((k : Int), ()), rfl, ?_⟩
          have := takeWhile_len wcB s.data.toList k (by omega) hi (fun _ => hw)
          unfold wordN
          rw [this]
      · obtain rfl : k = s.size := by omega
        have hd : decide (((s.size : Nat) : Int) < ((s.size : Nat) : Int)) = false := decide_eq_false (by omega)
        simp only [hd, cond_false, Option.bind_some]
        refine .inr ⟨_, rfl, ?_⟩
        have := takeWhile_len wcB s.data.toList s.size (by omega) hi (fun h => by omega)
        unfold wordN
        rw [this]) (s := (0, ())) ⟨rfl, fun i _ h => by omega⟩
  rw [h1, h2]
  rfl
theorem takeWhile_all {α : Type} (p : α → Bool) : ∀ (l : List α), ((l.takeWhile p).length == l.length) = l.all p
  | [] => rfl
  | x :: l => by
    rw [List.takeWhile_cons, List.all_cons]
    cases p x with
    | true =>
      simp only [if_true, List.length_cons, Bool.true_and]
      rw [← takeWhile_all p l]
      rw [Bool.eq_iff_iff, beq_iff_eq, beq_iff_eq]
      omega
    | false => simp
theorem f_name (s : ByteArray) (hs : s.size ≤ 9223372036854775806) : F_decimal_IsName s = some (nameB s) := by
  unfold F_decimal_IsName nameB
  have hlen : s.data.toList.length = s.size := rfl
  have hw : ∀ (c : UInt8) (l : List UInt8), s.data.toList = c :: l → ((wordN s : Int) == ((s.size : Nat) : Int)) = (c :: l).all wcB := by
    intro c l h
    rw [← h, ← takeWhile_all, hlen]
    unfold wordN
    rw [Bool.eq_iff_iff, beq_iff_eq, beq_iff_eq]
    omega
  simp only [f_word s hs, ByteArray.toList_eq]
  show Option.bind (bif (!(s.data.toList == [])) then _ else _) _ = _
  cases hl : s.data.toList with
  | nil => rfl
  | cons c l =>
    rw [hl] at hlen
    have h0 : idxB s 0 = some c := by
      have h1 : 0 < s.size := by rw [← hlen]; simp
      have := idxB_at (s := s) (k := 0) h1
      have e : s[0] = s.data.toList[0]'(by rw [hl]; simp) := rfl
      rw [e] at this
      simp only [hl, List.getElem_cons_zero] at this
      exact this
    have h1 : (!(c :: l == ([] : List UInt8))) = true := rfl
    simp only [h1, cond_true, h0, Option.bind_some, f_letter]
    have h2 : decide (((s.size : Nat) : Int) ≤ 20) = decide (l.length < 20) := by
      rw [← hlen]
      simp only [List.length_cons]
      by_cases h : l.length < 20
      · rw [decide_eq_true h]; exact decide_eq_true (by omega)
      · rw [decide_eq_false h]; exact decide_eq_false (by omega)
    rw [h2, hw c l hl]
    cases decide (l.length < 20) <;> cases letterB ((c.toNat : Nat) : Int) <;> rfl
end Go.Proofs.Ytkphcdficpfcnaa

/- batten.lines: what the lines' check comes to. -/
namespace Go.Proofs.Ytkphcdficpfcnaa

def AscTo (l : List Int) (k : Nat) : Prop := ∀ i (h : i < l.length), 1 ≤ i → i < k → l[i - 1]'(by omega) < l[i]
theorem AscTo.succ {l : List Int} {k : Nat} (h : AscTo l k) (hk : k < l.length) (h1 : l[k - 1]'(by omega) < l[k]) : AscTo l (k + 1) := fun i hi hi1 hik => by
  rcases Nat.lt_or_ge i k with h2 | h2
  · exact h i hi hi1 h2
  · obtain rfl : i = k := by omega
    exact h1
end Go.Proofs.Ytkphcdficpfcnaa

/- Loops over lists as recursion over the list; small sets; counts. -/
namespace Go.Proofs.Ytkphcdficpfcnaa

/-- A loop over a list: it goes on with a new state, or stops. -/
def runL {α τ ρ : Type} (step : τ → α → τ ⊕ ρ) (fin : τ → ρ) : List α → τ → ρ
  | [], t => fin t
  | x :: l, t => match step t x with
    | .inl t => runL step fin l t
    | .inr r => r
theorem iter_run {σ τ ρ α : Type} {F : σ → Option (σ ⊕ ρ)} (enc : τ → Int → σ) (l : List α) (hl : l.length < 9223372036854775807) (step : τ → α → τ ⊕ ρ) (fin : τ → ρ) (I : Nat → τ → Prop)
    (hin : ∀ (k : Nat) (h : k < l.length) (t : τ), I k t → F (enc t (k : Int)) = some (match step t l[k] with | .inl t' => .inl (enc t' ((k : Int) + 1)) | .inr r => .inr r) ∧ ∀ t', step t l[k] = .inl t' → I (k + 1) t')
    (hout : ∀ t : τ, I l.length t → F (enc t (l.length : Int)) = some (.inr (fin t))) (t0 : τ) (h0 : I 0 t0) : iterF F big (enc t0 0) = some (runL step fin l t0) := by
  have hb : l.length < big := by unfold big; omega
  obtain ⟨r, h1, h2⟩ := iter_inv (F := F) (Q := fun r => r = runL step fin l t0) (fun k s => ∃ t, s = enc t (k : Int) ∧ I k t ∧ runL step fin l t0 = runL step fin (l.drop k) t) l.length hb (fun k s hk hi => by
    obtain ⟨t, rfl, hI, hr⟩ := hi
    by_cases hlt : k < l.length
    · obtain ⟨h, hn⟩ := hin k hlt t hI
      rw [List.drop_eq_getElem_cons hlt] at hr
      cases hs : step t l[k] with
      | inl t' =>
        rw [hs] at h
        refine .inl ⟨_, h, hlt, t', rfl, hn t' hs, ?_⟩
        rw [hr]; simp only [runL, hs]
      | inr r =>
        rw [hs] at h
        refine .inr ⟨r, h, ?_⟩
        rw [hr]; simp only [runL, hs]
    · obtain rfl : k = l.length := by omega
      refine .inr ⟨_, hout t hI, ?_⟩
      rw [hr, List.drop_length]; rfl) (s := enc t0 0) ⟨t0, rfl, h0, by rw [List.drop_zero]⟩
  rw [h1, h2]
theorem iter_ka {τ ρ α : Type} {F : Int × τ × Unit → Option ((Int × τ × Unit) ⊕ ρ)} (l : List α) (hl : l.length < 9223372036854775807) (step : τ → α → τ ⊕ ρ) (fin : τ → ρ) (I : Nat → τ → Prop) (t0 : τ) (h0 : I 0 t0)
    (hin : ∀ (k : Nat) (h : k < l.length) (t : τ), I k t → F ((k : Int), t, ()) = some (match step t l[k] with | .inl t' => .inl ((k : Int) + 1, t', ()) | .inr r => .inr r) ∧ ∀ t', step t l[k] = .inl t' → I (k + 1) t')
    (hout : ∀ t : τ, I l.length t → F ((l.length : Int), t, ()) = some (.inr (fin t))) : iterF F big (0, t0, ()) = some (runL step fin l t0) :=
  iter_run (fun t k => (k, t, ())) l hl step fin I hin hout t0 h0
theorem lt_yes {k n : Nat} (h : k < n) : decide ((k : Int) < ((n : Nat) : Int)) = true := decide_eq_true (by omega)
theorem lt_no (n : Nat) : decide (((n : Nat) : Int) < ((n : Nat) : Int)) = false := decide_eq_false (by omega)

end Go.Proofs.Ytkphcdficpfcnaa

/- The reference's check of a set comes to the same. -/
namespace Go.Proofs.Ytkphcdficpfcnaa
set_option linter.unusedSimpArgs false
set_option linter.unusedVariables false

theorem iter_pairs0 {α ρ : Type} {F : Int × Unit → Option ((Int × Unit) ⊕ ρ)} (one : α → Bool) (two : α → α → Bool) (l : List α) (hl : l.length < 9223372036854775807) (bad fin : ρ)
    (hin : ∀ (k : Nat) (h : k < l.length), okTo one two l k → F ((k : Int), ()) = some (bif okAt one two l k then .inl ((k : Int) + 1, ()) else .inr bad))
    (hout : okTo one two l l.length → F ((l.length : Int), ()) = some (.inr fin)) :
    iterF F big (0, ()) = some (bif pairsB one two l then fin else bad) := by
  obtain ⟨r, h1, h2⟩ := iter_inv (F := F) (Q := fun r => r = (bif pairsB one two l then fin else bad)) (fun k s => s = ((k : Int), ()) ∧ okTo one two l k) l.length (by unfold big; omega) (fun k s hk hs => by
    obtain ⟨rfl, hok⟩ := hs
    by_cases hlt : k < l.length
    · have h := hin k hlt hok
      cases ho : okAt one two l k with
      | true =>
        rw [ho] at h
        exact .inl ⟨_, h, hlt, rfl, okTo_succ hok ho⟩
      | false =>
        rw [ho] at h
        exact .inr ⟨_, h, by rw [pairs_no hlt ho]; rfl⟩
    · obtain rfl : k = l.length := by omega
      exact .inr ⟨_, hout hok, by rw [pairs_yes hok]; rfl⟩) (s := (0, ())) ⟨rfl, okTo_zero⟩
  rw [h1, h2]
end Go.Proofs.Ytkphcdficpfcnaa

/- Springs: valid ones, the sum of their stiffnesses, the errors. -/
namespace Go.Proofs.Ytkphcdficpfcnaa
set_option linter.unusedSimpArgs false

def springB (x : TSpring) : Bool := nameB x.name && (decide (1 ≤ x.stiff) && decide (x.stiff ≤ 10000))
def springsB (l : List TSpring) : Bool := decide (1 ≤ l.length ∧ l.length ≤ 10) && pairsB springB (fun x y => !sameName x.name y.name) l
theorem len_110 (l : List TSpring) : (((bif (decide (((l.length : Nat) : Int) < 1)) then some (true, ()) else some ((decide (((l.length : Nat) : Int) > 10)), ())) : Option (Bool × Unit))) = some (!decide (1 ≤ l.length ∧ l.length ≤ 10), ()) := by
  by_cases h1 : ((l.length : Nat) : Int) < 1
  · rw [decide_eq_true h1, decide_eq_false (show ¬ (1 ≤ l.length ∧ l.length ≤ 10) by omega)]; rfl
  · rw [decide_eq_false h1, cond_false]
    congr 2
    rw [← decide_not]
    apply decide_eq_decide.mpr
    omega
theorem f_evalid (l : List TSpring) (hl : l.length ≤ 2147483648) (hn : ∀ x ∈ l, x.name.size ≤ 2147483648) : F_elastic_valid l = some (springsB l) := by
  unfold F_elastic_valid springsB
  rw [len_110]
  simp only [Option.bind_some]
  cases hd : decide (1 ≤ l.length ∧ l.length ≤ 10) with
  | false => rfl
  | true =>
    simp only [Bool.not_true, cond_false, Bool.true_and]
    rw [iter_pairs0 springB (fun x y => !sameName x.name y.name) l (by omega) (.inl (false, ())) (.inr ()) ?hin ?hout]
    · cases pairsB springB (fun x y => !sameName x.name y.name) l <;> rfl
    case hout => intro _; simp only [lt_no, cond_false]
    case hin =>
      intro k hk hok
      have hna := hn l[k] (List.getElem_mem hk)
      simp only [lt_yes hk, cond_true, idx_at hk, Option.bind_some, f_name l[k].name (by omega)]
      rw [okAt_eq hk]
      unfold springB
      cases hb : nameB l[k].name with
      | false => rfl
      | true =>
        simp only [Bool.not_true, cond_false, Bool.true_and]
        by_cases h1 : l[k].stiff < 1
        · rw [decide_eq_true h1, decide_eq_false (show ¬ 1 ≤ l[k].stiff by omega)]; rfl
        · rw [decide_eq_false h1, decide_eq_true (show 1 ≤ l[k].stiff by omega)]
          simp only [cond_false, Bool.true_and]
          by_cases h2 : l[k].stiff > 10000
          · rw [decide_eq_true h2, decide_eq_false (show ¬ l[k].stiff ≤ 10000 by omega)]; rfl
          · rw [decide_eq_false h2, decide_eq_true (show l[k].stiff ≤ 10000 by omega)]
            simp only [cond_false, Bool.true_and]
            rw [if_pos (by omega), Int.toNat_natCast, show Int.toNat 0 = 0 from rfl, List.drop_zero, f_slices_ContainsFunc_api_Spring (l.take k) (by rw [List.length_take]; omega) (fun z16 => F_elastic_valid_1 z16 l[k]) (fun y => sameName y.name l[k].name) (fun y _ => rfl)]
            simp only [Option.bind_some]
            have hany : (l.take k).any (fun y => sameName y.name l[k].name) = !(l.take k).all (fun y => !sameName y.name l[k].name) := by
              rw [List.all_eq_not_any_not]; simp
            rw [hany]
            cases (l.take k).all (fun y => !sameName y.name l[k].name) with
            | false => rfl
            | true => simp only [Bool.not_true, cond_false, cond_true]; rw [wrap64 (by omega) (by omega)]
structure Spr (l : List TSpring) : Prop where
  n1 : 1 ≤ l.length
  n10 : l.length ≤ 10
  k1 : ∀ x ∈ l, 1 ≤ x.stiff
  k2 : ∀ x ∈ l, x.stiff ≤ 10000
theorem Spr.of {l : List TSpring} (h : springsB l = true) : Spr l := by
  unfold springsB at h
  rw [Bool.and_eq_true, decide_eq_true_iff] at h
  refine ⟨h.1.1, h.1.2, fun x hx => ?_, fun x hx => ?_⟩
  · have := pairs_one h.2 x hx
    simp only [springB, Bool.and_eq_true, decide_eq_true_iff] at this
    exact this.2.1
  · have := pairs_one h.2 x hx
    simp only [springB, Bool.and_eq_true, decide_eq_true_iff] at this
    exact this.2.2
def stiffI (l : List TSpring) : Int := sumTo (·.stiff) l l.length
theorem stiff_bound {l : List TSpring} (h : Spr l) (k : Nat) (hk : k ≤ l.length) : (k : Int) ≤ sumTo (·.stiff) l k ∧ sumTo (·.stiff) l k ≤ 100000 := by
  have h2 := sumTo_bound (·.stiff) l 10000 (fun x hx => ⟨by have := h.k1 x hx; omega, h.k2 x hx⟩) k hk
  have := h.n10
  refine ⟨?_, by omega⟩
  clear h2
  induction k with
  | zero => rw [sumTo_zero]; omega
  | succ k ih =>
    have h1 := ih (by omega)
    have h2 := h.k1 l[k] (List.getElem_mem (by omega))
    rw [sumTo_succ _ l k (by omega)]
    omega
def givenP (w : Int) (l : List TSpring) : Int := bif !springsB l then 1 else bif decide (0 ≤ w ∧ w ≤ 67108864) then 0 else 2
theorem f_egiven (w : Int) (l : List TSpring) (hl : l.length ≤ 2147483648) (hn : ∀ x ∈ l, x.name.size ≤ 2147483648) : F_elastic_given w l = some (givenP w l) := by
  unfold F_elastic_given givenP
  rw [f_evalid l hl hn]
  simp only [Option.bind_some]
  cases springsB l with
  | false => rfl
  | true =>
    simp only [Bool.not_true, cond_false]
    by_cases h1 : w < 0
    · rw [decide_eq_true h1, decide_eq_false (show ¬ (0 ≤ w ∧ w ≤ 67108864) by omega)]; rfl
    · rw [decide_eq_false h1]
      by_cases h2 : w > 67108864
      · rw [decide_eq_true h2, decide_eq_false (show ¬ (0 ≤ w ∧ w ≤ 67108864) by omega)]; rfl
      · rw [decide_eq_false h2, decide_eq_true (show 0 ≤ w ∧ w ≤ 67108864 by omega)]; rfl
theorem given_ok {w : Int} {l : List TSpring} (h : givenP w l = 0) : Spr l ∧ springsB l = true ∧ 0 ≤ w ∧ w ≤ 67108864 := by
  unfold givenP at h
  cases hv : springsB l with
  | false => rw [hv] at h; cases h
  | true =>
    rw [hv] at h
    simp only [Bool.not_true, cond_false] at h
    by_cases h1 : 0 ≤ w ∧ w ≤ 67108864
    · exact ⟨.of hv, rfl, h1.1, h1.2⟩
    · rw [decide_eq_false h1] at h; cases h
end Go.Proofs.Ytkphcdficpfcnaa

/- Sorting by insertion, as the library does it with few elements. -/
namespace Go.Proofs.Ytkphcdficpfcnaa
set_option linter.unusedVariables false
set_option linter.unusedSimpArgs false

section
variable {α : Type} (key : α → Int)
def SortK (L : List α) : Prop := L.Pairwise fun a b => key a ≤ key b
/-- The inner loop. -/
theorem ins_inner {F : Int × List α × Unit → Option ((Int × List α × Unit) ⊕ (List α × Unit))} (V : α → Prop)
    (hstop : ∀ (x : α) (R : List α), F (0, x :: R, ()) = some (.inr (x :: R, ())))
    (hstep : ∀ (A : List α) (y x : α) (R : List α), V y → V x → A.length + 2 + R.length ≤ 1000000 → F (((A.length + 1 : Nat) : Int), A ++ y :: x :: R, ()) = some (if key x < key y then .inl ((A.length : Int), A ++ x :: y :: R, ()) else .inr (A ++ y :: x :: R, ())))
    (L : List α) (x : α) (C : List α) (hs : SortK key L) (hV : ∀ z ∈ L ++ [x], V z) (hlen : L.length + 1 + C.length ≤ 1000000) :
    ∃ L', iterF F big ((L.length : Int), L ++ x :: C, ()) = some (L' ++ C, ()) ∧ SortK key L' ∧ L'.Perm (L ++ [x]) := by
  obtain ⟨r, e, L', rfl, h1, h2⟩ := iter_run_inv (F := F) (Q := fun r => ∃ L', r = (L' ++ C, ()) ∧ SortK key L' ∧ L'.Perm (L ++ [x]))
    (fun j s => ∃ A B : List α, s = ((A.length : Int), A ++ x :: (B ++ C), ()) ∧ A.length + j = L.length ∧ A ++ B = L ∧ ∀ b ∈ B, key x < key b) L.length (by unfold big; omega) (by
    rintro j s ⟨A, B, rfl, hj, hAB, hB⟩
    rcases List.eq_nil_or_concat A with rfl | ⟨A', y, rfl⟩
    · refine .inr ⟨_, hstop _ _, x :: B, rfl, ?_, ?_⟩
      · simp only [List.nil_append] at hAB
        subst hAB
        exact List.pairwise_cons.2 ⟨fun b hb => Int.le_of_lt (hB b hb), hs⟩
      · simp only [List.nil_append] at hAB
        subst hAB
        exact (List.perm_append_comm (l₁ := [x]) (l₂ := B))
    · rw [List.concat_eq_append] at *
      have hVy : V y := hV y (by rw [← hAB]; simp)
      have hVx : V x := hV x (by simp)
      have hl : A'.length + 1 + B.length = L.length := by rw [← hAB]; simp; omega
      have hst := hstep A' y x (B ++ C) hVy hVx (by rw [List.length_append]; omega)
      have e1 : (A' ++ [y]) ++ x :: (B ++ C) = A' ++ y :: x :: (B ++ C) := by simp
      have e2 : (((A' ++ [y]).length : Nat) : Int) = ((A'.length + 1 : Nat) : Int) := by simp
      rw [e1, e2, hst]
      by_cases hc : key x < key y
      · rw [if_pos hc]
        refine .inl ⟨_, rfl, by simp at hj; omega, A', y :: B, rfl, by simp at hj; omega, by rw [← hAB]; simp, ?_⟩
        intro b hb
        rcases List.mem_cons.1 hb with rfl | hb
        · exact hc
        · exact hB b hb
      · rw [if_neg hc]
        have hs' := hs
        rw [← hAB] at hs'
        have hperm : (A' ++ [y] ++ x :: B).Perm (L ++ [x]) := by
          rw [← hAB]
          exact (List.perm_middle.trans (List.perm_append_comm (l₁ := [x]) (l₂ := A' ++ [y] ++ B)))
        refine .inr ⟨_, rfl, (A' ++ [y]) ++ x :: B, by simp, ?_, hperm⟩
        unfold SortK at *
        rw [List.pairwise_append] at hs'
        obtain ⟨p1, p2, p3⟩ := hs'
        rw [List.pairwise_append]
        refine ⟨p1, List.pairwise_cons.2 ⟨fun b hb => Int.le_of_lt (hB b hb), p2⟩, fun a ha b hb => ?_⟩
        rcases List.mem_cons.1 hb with rfl | hb
        · rcases List.mem_append.1 ha with ha | ha
          · have := (List.pairwise_append.1 p1).2.2 a ha y (by simp)
            omega
          · obtain rfl := List.mem_singleton.1 ha
            omega
        · exact p3 a ha b hb) (s := ((L.length : Int), L ++ x :: C, ())) ⟨L, [], rfl, rfl, by simp, by simp⟩
  exact ⟨L', e, h1, h2⟩
/-- The outer loop, from the second element on. -/
theorem ins_outer {G : Int × List α × Unit → Option ((Int × List α × Unit) ⊕ (List α × Unit))} (V : α → Prop) (P : List α) (hP : P.length ≤ 1000000) (hp0 : 1 ≤ P.length)
    (hin : ∀ (L : List α) (x : α) (C : List α), L.length + 1 + C.length = P.length → SortK key L → (∀ z ∈ L ++ [x], V z) → ∃ L', G ((L.length : Int), L ++ x :: C, ()) = some (.inl (((L.length + 1 : Nat) : Int), L' ++ C, ())) ∧ SortK key L' ∧ L'.Perm (L ++ [x]))
    (hout : ∀ L : List α, L.length = P.length → G ((P.length : Int), L, ()) = some (.inr (L, ()))) (hV : ∀ z ∈ P, V z) :
    ∃ L, iterF G big (1, P, ()) = some (L, ()) ∧ SortK key L ∧ L.Perm P := by
  obtain ⟨r, e, L, rfl, h1, h2⟩ := iter_run_inv (F := G) (Q := fun r => ∃ L, r = (L, ()) ∧ SortK key L ∧ L.Perm P)
    (fun j s => j + 1 ≤ P.length ∧ ∃ L, s = (((j + 1 : Nat) : Int), L ++ P.drop (j + 1), ()) ∧ SortK key L ∧ L.Perm (P.take (j + 1))) P.length (by unfold big; omega) (by
    rintro j s ⟨hj, L, rfl, hs, hp⟩
    have hl : L.length = j + 1 := by have := hp.length_eq; rw [List.length_take] at this; omega
    by_cases hlt : j + 1 < P.length
    · rw [List.drop_eq_getElem_cons hlt]
      obtain ⟨L', e1, e2, e3⟩ := hin L (P[j + 1]) (P.drop (j + 1 + 1)) (by rw [List.length_drop]; omega) hs (by
        intro z hz
        rcases List.mem_append.1 hz with hz | hz
        · exact hV z (List.mem_of_mem_take (hp.mem_iff.1 hz))
        · obtain rfl := List.mem_singleton.1 hz
          exact hV _ (List.getElem_mem _))
      rw [hl] at e1
      rw [e1]
      refine .inl ⟨_, rfl, by omega, by omega, L', rfl, e2, e3.trans ?_⟩
      rw [List.take_succ_eq_append_getElem hlt]
      exact hp.append_right _
    · have hje : j + 1 = P.length := by omega
      rw [hje, List.drop_length, List.append_nil, hout L (by omega)]
      refine .inr ⟨_, rfl, L, rfl, hs, ?_⟩
      rw [hje, List.take_length] at hp
      exact hp) (s := (1, P, ())) ⟨hp0, P.take 1, by rw [List.take_append_drop]; rfl, by
        cases P with
        | nil => exact .nil
        | cons a P => simp [SortK], .refl _⟩
  exact ⟨L, e, h1, h2⟩
end
end Go.Proofs.Ytkphcdficpfcnaa

/- Springs that pull at one depth: the plain law. No program in sight. -/
namespace Go.Proofs.Ytkphcdficpfcnaa
set_option linter.unusedVariables false
set_option linter.unusedSimpArgs false

def posQ (q : Rat) : Rat := if 0 ≤ q then q else 0
def plQ (d : Rat) : List (Int × Int) → Rat
  | [] => 0
  | p :: ps => (p.1 : Rat) * posQ (d - p.2) + plQ d ps
def skI : List (Int × Int) → Int
  | [] => 0
  | p :: ps => p.1 + skI ps
def sgI : List (Int × Int) → Int
  | [] => 0
  | p :: ps => p.1 * p.2 + sgI ps
theorem pos_nonneg (q : Rat) : 0 ≤ posQ q := by unfold posQ; split <;> grind
theorem pos_ge {q : Rat} (h : 0 ≤ q) : posQ q = q := if_pos h
theorem pos_le {q : Rat} (h : q ≤ 0) : posQ q = 0 := by unfold posQ; split <;> grind
theorem pl_append (d : Rat) (ps qs : List (Int × Int)) : plQ d (ps ++ qs) = plQ d ps + plQ d qs := by
  induction ps with
  | nil => simp [plQ]; grind
  | cons p ps ih => simp only [List.cons_append, plQ, ih]; grind
theorem pl_perm (d : Rat) {ps qs : List (Int × Int)} (h : ps.Perm qs) : plQ d ps = plQ d qs := by
  induction h with
  | nil => rfl
  | cons x _ ih => simp only [plQ, ih]
  | swap x y l => simp only [plQ]; grind
  | trans _ _ ih1 ih2 => exact ih1.trans ih2
theorem pl_ge {d : Rat} : ∀ {ps : List (Int × Int)}, (∀ p ∈ ps, (p.2 : Rat) ≤ d) → plQ d ps = d * (skI ps : Rat) - (sgI ps : Rat)
  | [], _ => by simp [plQ, skI, sgI]; grind
  | p :: ps, h => by
    have h1 := pl_ge fun q hq => h q (List.mem_cons_of_mem _ hq)
    have h2 := h p List.mem_cons_self
    simp only [plQ, skI, sgI, h1, pos_ge (show (0 : Rat) ≤ d - p.2 by grind), Rat.intCast_add, Rat.intCast_mul]
    grind
theorem pl_le {d : Rat} : ∀ {ps : List (Int × Int)}, (∀ p ∈ ps, d ≤ (p.2 : Rat)) → plQ d ps = 0
  | [], _ => rfl
  | p :: ps, h => by
    have h1 := pl_le fun q hq => h q (List.mem_cons_of_mem _ hq)
    have h2 := h p List.mem_cons_self
    simp only [plQ, h1, pos_le (show d - (p.2 : Rat) ≤ 0 by grind)]
    grind
theorem sk_pos : ∀ {ps : List (Int × Int)}, (∀ p ∈ ps, 1 ≤ p.1) → (ps.length : Int) ≤ skI ps
  | [], _ => by simp [skI]
  | p :: ps, h => by
    have h1 := sk_pos fun q hq => h q (List.mem_cons_of_mem _ hq)
    have h2 := h p List.mem_cons_self
    simp only [skI, List.length_cons]
    omega
theorem sk_append (ps qs : List (Int × Int)) : skI (ps ++ qs) = skI ps + skI qs := by
  induction ps with
  | nil => simp [skI]
  | cons p ps ih => simp only [List.cons_append, skI, ih]; omega
theorem sg_append (ps qs : List (Int × Int)) : sgI (ps ++ qs) = sgI ps + sgI qs := by
  induction ps with
  | nil => simp [sgI]
  | cons p ps ih => simp only [List.cons_append, sgI, ih]; omega
theorem cast_pos {d : Int} (hd : 0 < d) : (0 : Rat) < (d : Rat) := by
  have : ((0 : Int) : Rat) < (d : Rat) := Rat.intCast_lt_intCast.2 hd
  simpa using this
theorem div_mul' {n d : Int} (hd : 0 < d) : (n : Rat) / (d : Rat) * (d : Rat) = (n : Rat) := by
  have := cast_pos hd
  exact Rat.div_mul_cancel (by grind)
/-- num / den as a number, against an integer. -/
theorem div_le' {n d g : Int} (hd : 0 < d) : (g : Rat) ≤ (n : Rat) / (d : Rat) ↔ g * d ≤ n := by
  have h0 := cast_pos hd
  rw [← Rat.intCast_le_intCast, Rat.intCast_mul]
  have e := div_mul' (n := n) hd
  generalize (n : Rat) / (d : Rat) = x at *
  rw [← e]
  refine ⟨fun h => Rat.mul_le_mul_of_nonneg_right h (Rat.le_of_lt h0), fun h => ?_⟩
  refine Classical.byContradiction fun hn => ?_
  have := Rat.mul_lt_mul_of_pos_right (Rat.not_le.1 hn) h0
  grind
theorem div_ge' {n d g : Int} (hd : 0 < d) : (n : Rat) / (d : Rat) ≤ (g : Rat) ↔ n ≤ g * d := by
  have h0 := cast_pos hd
  rw [← Rat.intCast_le_intCast, Rat.intCast_mul]
  have e := div_mul' (n := n) hd
  generalize (n : Rat) / (d : Rat) = x at *
  rw [← e]
  refine ⟨fun h => Rat.mul_le_mul_of_nonneg_right h (Rat.le_of_lt h0), fun h => ?_⟩
  refine Classical.byContradiction fun hn => ?_
  have := Rat.mul_lt_mul_of_pos_right (Rat.not_le.1 hn) h0
  grind
def stepE (t p : Int × Int) : (Int × Int) ⊕ (Int × Int) := if 0 < t.2 ∧ t.1 ≤ p.2 * t.2 then .inr t else .inl (t.1 + p.1 * p.2, t.2 + p.1)
/-- The depth that the springs reach, one after the other in the order of their gaps. -/
theorem run_depth (W : Int) : ∀ (qs P : List (Int × Int)) (t : Int × Int), P ++ qs ≠ [] → (∀ p ∈ P ++ qs, 1 ≤ p.1) → t.2 = skI P → t.1 = W + sgI P → (∀ p ∈ P, p.2 * t.2 ≤ t.1) →
    qs.Pairwise (fun a b => a.2 ≤ b.2) → (∀ p ∈ P, ∀ q ∈ qs, p.2 ≤ q.2) → 0 ≤ W →
    0 < (runL stepE id qs t).2 ∧ plQ (((runL stepE id qs t).1 : Rat) / ((runL stepE id qs t).2 : Rat)) (P ++ qs) = (W : Rat) ∧ ∃ X Y, P ++ qs = X ++ Y ∧ (runL stepE id qs t).2 = skI X ∧ (runL stepE id qs t).1 = W + sgI X
  | [], P, t, hne, hk, e2, e1, hle, _, _, hW => by
    simp only [List.append_nil] at *
    have hp : 0 < t.2 := by
      rw [e2]
      have := sk_pos hk
      have : 0 < P.length := List.length_pos_iff.2 hne
      omega
    refine ⟨hp, ?_, P, [], by simp, e2, e1⟩
    show plQ ((t.1 : Rat) / (t.2 : Rat)) P = W
    rw [pl_ge fun p hpp => (div_le' hp).2 (hle p hpp), ← e2, div_mul' hp, e1, Rat.intCast_add]
    grind
  | q :: qs, P, t, hne, hk, e2, e1, hle, hs, hPq, hW => by
    obtain ⟨hq, hs'⟩ := List.pairwise_cons.1 hs
    by_cases hc : 0 < t.2 ∧ t.1 ≤ q.2 * t.2
    · have hr : runL stepE id (q :: qs) t = t := by unfold runL stepE; rw [if_pos hc]
      rw [hr]
      refine ⟨hc.1, ?_, P, q :: qs, rfl, e2, e1⟩
      rw [pl_append, pl_ge fun p hpp => (div_le' hc.1).2 (hle p hpp), ← e2, div_mul' hc.1, e1, Rat.intCast_add, pl_le (ps := q :: qs)]
      · grind
      · intro p hp
        have hgt : q.2 ≤ p.2 := by
          rcases List.mem_cons.1 hp with rfl | hp
          · exact Int.le_refl _
          · exact hq p hp
        rw [← Rat.intCast_add, ← e1]
        exact (div_ge' hc.1).2 (Int.le_trans hc.2 (Int.mul_le_mul_of_nonneg_right hgt (Int.le_of_lt hc.1)))
    · have hr : runL stepE id (q :: qs) t = runL stepE id qs (t.1 + q.1 * q.2, t.2 + q.1) := by
        have h : stepE t q = .inl (t.1 + q.1 * q.2, t.2 + q.1) := if_neg hc
        simp only [runL, h]
      rw [hr]
      have hk1 : 1 ≤ q.1 := hk q (by simp)
      have ht2 : 0 ≤ t.2 := by rw [e2]; have := sk_pos fun p hp => hk p (List.mem_append_left _ hp); omega
      have hstep : ∀ g, g ≤ q.2 → g * (t.2 + q.1) ≤ t.1 + q.1 * q.2 := by
        intro g hg
        have h1 : g * (t.2 + q.1) ≤ q.2 * (t.2 + q.1) := Int.mul_le_mul_of_nonneg_right hg (by omega)
        have h2 : q.2 * t.2 ≤ t.1 := by
          rcases Int.lt_or_le 0 t.2 with h | h
          · have : ¬ t.1 ≤ q.2 * t.2 := fun h' => hc ⟨h, h'⟩
            omega
          · have h0 : t.2 = 0 := by omega
            have hP : P = [] := by
              rcases List.eq_nil_or_concat P with h | ⟨A, y, h⟩
              · exact h
              · have := sk_pos fun p hp => hk p (List.mem_append_left _ hp)
                rw [← e2, h0, h] at this
                simp at this
                omega
            rw [h0, e1, hP]
            simp [sgI]
            exact hW
        have h3 : q.2 * (t.2 + q.1) = q.2 * t.2 + q.1 * q.2 := by rw [Int.mul_add, Int.mul_comm q.2 q.1]
        omega
      have key := run_depth W qs (P ++ [q]) (t.1 + q.1 * q.2, t.2 + q.1) (by simp) (by simpa using hk) (by rw [sk_append, ← e2]; simp [skI]) (by rw [sg_append]; simp only [sgI]; omega) (fun p hp => by
        rcases List.mem_append.1 hp with hp | hp
        · exact hstep _ (hPq p hp q List.mem_cons_self)
        · obtain rfl := List.mem_singleton.1 hp
          exact hstep _ (Int.le_refl _)) hs' (fun p hp r hr => by
        rcases List.mem_append.1 hp with hp | hp
        · exact hPq p hp r (List.mem_cons_of_mem _ hr)
        · rw [List.mem_singleton.1 hp]
          exact hq r hr) hW
      rw [List.append_assoc] at key
      exact key
end Go.Proofs.Ytkphcdficpfcnaa

/- Slack: what each spring pulls, by the depth. -/
namespace Go.Proofs.Ytkphcdficpfcnaa
set_option linter.unusedVariables false
set_option linter.unusedSimpArgs false

theorem bindT {α β : Type} {a : Option α} {K : α → Option β} {Q : α → Prop} {T : Option β → Prop} (h : ∃ r, a = some r ∧ Q r) (h2 : ∀ r, Q r → T (K r)) : T (a.bind K) := by
  obtain ⟨r, rfl, hq⟩ := h
  exact h2 r hq
theorem iter_one {σ ρ : Type} {F : σ → Option (σ ⊕ ρ)} {Q : ρ → Prop} {s : σ} (h : ∃ r, F s = some (.inr r) ∧ Q r) : ∃ r, iterF F big s = some r ∧ Q r :=
  iter_run_inv (fun _ x => x = s) 1 (by unfold big; omega) (fun _ x hx => by subst hx; exact .inr h) rfl
def fracQ (q : Rat) : TFrac := ⟨q.num, q.den⟩
def zipS (l : List TSpring) (gaps : List Int) : List (Int × Int) := (l.map (·.stiff)).zip gaps
def badG (g : Int) : Bool := decide (g < 0) || decide (g > 1048576)
structure Dep (w : Int) (ps : List (Int × Int)) (nd : Int × Int) : Prop where
  d0 : 0 < nd.2
  d1 : nd.2 ≤ 100000
  n0 : 0 ≤ nd.1
  n1 : nd.1 ≤ 110000000000
  eq : plQ ((nd.1 : Rat) / (nd.2 : Rat)) ps = (w : Rat)
def slackT (w : Int) (ps : List (Int × Int)) (o : Option (List TFrac × Int)) : Prop := ∃ nd, Dep w ps nd ∧ o = some (ps.map (fun p => fracQ (p.1 * posQ ((nd.1 : Rat) / (nd.2 : Rat) - p.2))), 0)
theorem f_len_ok {n : Nat} (h : 0 < n) (h2 : n ≤ 1000) : ∃ r, F_math_bits_Len (IntKind.u64.wrap ((n : Nat) : Int)) = some r ∧ True := by
  unfold F_math_bits_Len
  rw [wrapu, show ((n : Nat) : Int) % 18446744073709551616 = n from by omega]
  obtain ⟨s, _, e, _⟩ := f_len64 (y := (n : Int)) (by omega) (by omega)
  rw [e]
  exact ⟨_, rfl, trivial⟩
theorem rep_len (n : Nat) : (List.replicate (Int.toNat ((n : Nat) : Int)) (0 : Int)).length = n := by simp
def keyG (gaps : List Int) (z : Int) : Int := (gaps[z.toNat]?).getD 0
def validG (gaps : List Int) (z : Int) : Prop := ∃ m : Nat, z = m ∧ m < gaps.length
theorem idx_key {gaps : List Int} {z : Int} (h : validG gaps z) : idx gaps z = some (keyG gaps z) := by
  obtain ⟨m, rfl, hm⟩ := h
  unfold keyG
  rw [idx_at hm, Int.toNat_natCast, List.getElem?_eq_getElem hm]
  rfl
theorem key_mem {gaps : List Int} {z : Int} (h : validG gaps z) : keyG gaps z ∈ gaps := by
  obtain ⟨m, rfl, hm⟩ := h
  unfold keyG
  rw [Int.toNat_natCast, List.getElem?_eq_getElem hm]
  exact List.getElem_mem hm
theorem app_idx {α : Type} (A R : List α) (x : α) : idx (A ++ x :: R) (A.length : Int) = some x := by
  rw [idx_at (by simp)]
  simp
theorem app_at {α : Type} (A R : List α) (x : α) : (A ++ x :: R)[Int.toNat (A.length : Int)]? = some x := by simp
theorem app_set {α : Type} (A R : List α) (x y : α) : (A ++ x :: R).set (Int.toNat (A.length : Int)) y = A ++ y :: R := by simp
/-- One step of the inner loop, on the printed text. -/
theorem ins_step {gaps : List Int} (hb : ∀ g ∈ gaps, 0 ≤ g ∧ g ≤ 1048576) (A : List Int) (y x : Int) (R : List Int) (hy : validG gaps y) (hx : validG gaps x) (hl : A.length + 2 + R.length ≤ 1000000) :
    (((bif (decide (((A.length + 1 : Nat) : Int) > 0)) then (idx (A ++ y :: x :: R) ((A.length + 1 : Nat) : Int)).bind fun _x118 => ((A ++ y :: x :: R)[(Int.toNat ((A.length + 1 : Nat) : Int))]?).bind fun x119 => (idx (A ++ y :: x :: R) (IntKind.i64.wrap (((A.length + 1 : Nat) : Int) - 1))).bind fun _x120 => ((A ++ y :: x :: R)[(Int.toNat (IntKind.i64.wrap (((A.length + 1 : Nat) : Int) - 1)))]?).bind fun x121 => (F_elastic_Slack_2 x119 x121 gaps).bind fun r122 => some ((decide (r122 < 0)), ()) else some (false, ())) : Option (Bool × Unit)).bind fun y123 => (bif y123.1 then (idx (A ++ y :: x :: R) (IntKind.i64.wrap (((A.length + 1 : Nat) : Int) - 1))).bind fun _x124 => ((A ++ y :: x :: R)[(Int.toNat (IntKind.i64.wrap (((A.length + 1 : Nat) : Int) - 1)))]?).bind fun x125 => (idx (A ++ y :: x :: R) ((A.length + 1 : Nat) : Int)).bind fun _x126 => ((A ++ y :: x :: R)[(Int.toNat ((A.length + 1 : Nat) : Int))]?).bind fun x127 => (idx (A ++ y :: x :: R) ((A.length + 1 : Nat) : Int)).bind fun _x128 => ((A ++ y :: x :: R)[(Int.toNat ((A.length + 1 : Nat) : Int))]?).bind fun x129 => (idx ((A ++ y :: x :: R).set (Int.toNat ((A.length + 1 : Nat) : Int)) x125) (IntKind.i64.wrap (((A.length + 1 : Nat) : Int) - 1))).bind fun _x130 => (((A ++ y :: x :: R).set (Int.toNat ((A.length + 1 : Nat) : Int)) x125)[(Int.toNat (IntKind.i64.wrap (((A.length + 1 : Nat) : Int) - 1)))]?).bind fun x131 => some (.inl ((IntKind.i64.wrap (((A.length + 1 : Nat) : Int) - 1)), (((A ++ y :: x :: R).set (Int.toNat ((A.length + 1 : Nat) : Int)) x125).set (Int.toNat (IntKind.i64.wrap (((A.length + 1 : Nat) : Int) - 1))) x127), ())) else some (.inr ((A ++ y :: x :: R), ()))) : Option ((Int × List Int × Unit) ⊕ (List Int × Unit))) =
    some (if keyG gaps x < keyG gaps y then .inl ((A.length : Int), A ++ x :: y :: R, ()) else .inr (A ++ y :: x :: R, ())) := by
  have e1 : A ++ y :: x :: R = (A ++ [y]) ++ x :: R := by simp
  have e2 : ((A.length + 1 : Nat) : Int) = ((A ++ [y]).length : Int) := by simp
  have i1 : idx (A ++ y :: x :: R) ((A.length + 1 : Nat) : Int) = some x := by rw [e1, e2, app_idx]
  have i2 : (A ++ y :: x :: R)[Int.toNat ((A.length + 1 : Nat) : Int)]? = some x := by rw [e1, e2, app_at]
  have i3 : (A ++ y :: x :: R).set (Int.toNat ((A.length + 1 : Nat) : Int)) y = A ++ y :: y :: R := by rw [e1, e2, app_set]; simp
  have kx := hb _ (key_mem hx)
  have ky := hb _ (key_mem hy)
  rw [decide_eq_true (show ((A.length + 1 : Nat) : Int) > 0 by omega), i1, i2]
  rw [show IntKind.i64.wrap (((A.length + 1 : Nat) : Int) - 1) = (A.length : Int) from by rw [wrap64 (by omega) (by omega)]; omega]
  simp only [cond_true, Option.bind_some, app_idx, app_at]
  unfold F_elastic_Slack_2
  rw [idx_key hx, idx_key hy]
  simp only [Option.bind_some]
  rw [wrap64 (by omega) (by omega)]
  by_cases hc : keyG gaps x < keyG gaps y
  · rw [decide_eq_true (show keyG gaps x - keyG gaps y < 0 by omega), if_pos hc, cond_true, i3, app_idx, app_at]
    simp only [Option.bind_some, app_set]
  · rw [decide_eq_false (show ¬ keyG gaps x - keyG gaps y < 0 by omega), if_neg hc, cond_false]
def stG (l : List TSpring) (z : Int) : Int := match l[z.toNat]? with
  | some x => x.stiff
  | none => 0
def intsN (n : Nat) : List Int := (List.range n).map fun m : Nat => (m : Int)
theorem zip_key (l : List TSpring) (gaps : List Int) (hg : gaps.length = l.length) : zipS l gaps = (intsN l.length).map fun z => (stG l z, keyG gaps z) := by
  apply List.ext_getElem
  · simp [zipS, hg, intsN]
  · intro i h1 h2
    have hi : i < l.length := by simpa [intsN] using h2
    simp [zipS, keyG, stG, intsN, hi, hg]
theorem ints_valid {n : Nat} {gaps : List Int} (h : gaps.length = n) : ∀ z ∈ intsN n, validG gaps z := by
  intro z hz
  obtain ⟨m, hm, rfl⟩ := List.mem_map.1 hz
  exact ⟨m, rfl, by rw [h]; exact List.mem_range.1 hm⟩
/-- The row of the indices. -/
theorem ints_loop (n : Nat) (hn : n ≤ 1000) : ∃ r, iterF (σ := Int × List Int × Unit) (ρ := List Int × Unit) (fun s8 => (bif (decide (s8.1 < (((List.replicate (Int.toNat ((n : Nat) : Int)) (0 : Int)).length : Nat) : Int))) then (idx s8.2.1 s8.1).bind fun _x9 => (s8.2.1[(Int.toNat s8.1)]?).bind fun x10 => some (.inl ((IntKind.i64.wrap (s8.1 + 1)), (s8.2.1.set (Int.toNat s8.1) s8.1), ())) else some (.inr (s8.2.1, ())))) big (0, (List.replicate (Int.toNat ((n : Nat) : Int)) (0 : Int)), ()) = some r ∧ r = (intsN n, ()) := by
  rw [rep_len]
  refine iter_run_inv (fun k s => k ≤ n ∧ s = ((k : Int), intsN k ++ List.replicate (n - k) 0, ())) n (by unfold big; omega) ?_ ⟨by omega, by simp [intsN]⟩
  rintro k s ⟨hk, rfl⟩
  have hlen : (intsN k).length = k := by simp [intsN]
  dsimp only
  by_cases hlt : k < n
  · rw [lt_yes hlt, show n - k = (n - (k + 1)) + 1 from by omega, List.replicate_succ]
    have h1 := app_idx (intsN k) (List.replicate (n - (k + 1)) 0) 0
    have h2 := app_at (intsN k) (List.replicate (n - (k + 1)) 0) 0
    have h3 := app_set (intsN k) (List.replicate (n - (k + 1)) 0) 0 (k : Int)
    rw [hlen] at h1 h2 h3
    rw [h1, h2, h3]
    simp only [cond_true, Option.bind_some]
    refine .inl ⟨_, rfl, hlt, hlt, ?_⟩
    rw [wrap64 (by omega) (by omega)]
    congr 2
    simp [intsN, List.range_succ]
  · obtain rfl : k = n := by omega
    rw [lt_no, cond_false]
    refine .inr ⟨_, rfl, ?_⟩
    simp
end Go.Proofs.Ytkphcdficpfcnaa

/- Slack, on the printed text. -/
namespace Go.Proofs.Ytkphcdficpfcnaa
set_option linter.unusedVariables false
set_option linter.unusedSimpArgs false

section
variable {α : Type} (key : α → Int)
theorem ins_inner' {F : Int × List α × Unit → Option ((Int × List α × Unit) ⊕ (List α × Unit))} (V : α → Prop)
    (hstop : ∀ (x : α) (R : List α), F (0, x :: R, ()) = some (.inr (x :: R, ())))
    (hstep : ∀ (A : List α) (y x : α) (R : List α), V y → V x → A.length + 2 + R.length ≤ 1000000 → F (((A.length + 1 : Nat) : Int), A ++ y :: x :: R, ()) = some (if key x < key y then .inl ((A.length : Int), A ++ x :: y :: R, ()) else .inr (A ++ y :: x :: R, ())))
    (L : List α) (x : α) (C : List α) (hs : SortK key L) (hV : ∀ z ∈ L ++ [x], V z) (hlen : L.length + 1 + C.length ≤ 1000000) :
    ∃ r, iterF F big ((L.length : Int), L ++ x :: C, ()) = some r ∧ ∃ L', r = (L' ++ C, ()) ∧ SortK key L' ∧ L'.Perm (L ++ [x]) := by
  obtain ⟨L', e, h⟩ := ins_inner key V hstop hstep L x C hs hV hlen
  exact ⟨_, e, L', rfl, h⟩
theorem ins_outer' {G : Int × List α × Unit → Option ((Int × List α × Unit) ⊕ (List α × Unit))} (V : α → Prop) (P : List α) (hP : P.length ≤ 1000000) (hp0 : 1 ≤ P.length) (hV : ∀ z ∈ P, V z)
    (hin : ∀ (L : List α) (x : α) (C : List α), L.length + 1 + C.length = P.length → SortK key L → (∀ z ∈ L ++ [x], V z) → ∃ L', G ((L.length : Int), L ++ x :: C, ()) = some (.inl (((L.length + 1 : Nat) : Int), L' ++ C, ())) ∧ SortK key L' ∧ L'.Perm (L ++ [x]))
    (hout : ∀ L : List α, L.length = P.length → G ((P.length : Int), L, ()) = some (.inr (L, ()))) :
    ∃ r, iterF G big (1, P, ()) = some r ∧ ∃ L, r = (L, ()) ∧ SortK key L ∧ L.Perm P := by
  obtain ⟨L, e, h⟩ := ins_outer key V P hP hp0 hin hout hV
  exact ⟨_, e, L, rfl, h⟩
end
theorem bind_eq' {α β : Type} {a : Option α} {x : α} {K : α → Option β} {R : Option β} (h : a = some x) (h2 : K x = R) : a.bind K = R := by rw [h]; exact h2
theorem fit_mk {v : Int} {d : Nat} (hv : v.natAbs ≤ 1152921504606846976) (hd0 : d ≠ 0) (hd : d ≤ 1152921504606846976) : fitQ (mkRat v d) := by
  have h1 : (mkRat v d).den ≤ d := by
    rw [Rat.den_mkRat]
    split
    · omega
    · exact Nat.div_le_self _ _
  have h2 : (mkRat v d).num.natAbs ≤ v.natAbs := by
    rw [Rat.num_mkRat, if_neg hd0, Int.natAbs_ediv_of_dvd (Int.natAbs_dvd_natAbs.1 (by rw [Int.natAbs_natCast]; exact Nat.gcd_dvd_right _ _))]
    exact Nat.div_le_self _ _
  exact ⟨by omega, by omega⟩
theorem ints_len (n : Nat) : (intsN n).length = n := by simp [intsN]
theorem valid_st {l : List TSpring} {gaps : List Int} (hg : gaps.length = l.length) {z : Int} (h : validG gaps z) : ∃ x, idx l z = some x ∧ x ∈ l ∧ x.stiff = stG l z := by
  obtain ⟨m, rfl, hm⟩ := h
  rw [hg] at hm
  refine ⟨l[m], idx_at hm, List.getElem_mem hm, ?_⟩
  unfold stG
  rw [Int.toNat_natCast, List.getElem?_eq_getElem hm]
theorem sg_bd {qs : List (Int × Int)} (h : ∀ p ∈ qs, 1 ≤ p.1 ∧ p.1 ≤ 10000 ∧ 0 ≤ p.2 ∧ p.2 ≤ 1048576) : 0 ≤ sgI qs ∧ sgI qs ≤ qs.length * 10485760000 ∧ 0 ≤ skI qs ∧ skI qs ≤ qs.length * 10000 := by
  induction qs with
  | nil => simp [sgI, skI]
  | cons p ps ih =>
    have h1 := ih fun q hq => h q (List.mem_cons_of_mem _ hq)
    obtain ⟨a, b, c, d⟩ := h p List.mem_cons_self
    have e1 : p.1 * p.2 ≤ 10000 * 1048576 := Int.mul_le_mul b d c (by omega)
    have e2 : 0 ≤ p.1 * p.2 := Int.mul_nonneg (by omega) c
    simp only [sgI, skI, List.length_cons]
    omega
theorem mk_pos {k num g den : Int} (hk : 1 ≤ k) (hd : 0 < den) : mkRat (k * maxZ 0 (num - g * den)) den.toNat = (k : Rat) * posQ ((num : Rat) / (den : Rat) - (g : Rat)) := by
  have hc := cast_pos hd
  have e : mkRat (k * maxZ 0 (num - g * den)) den.toNat = ((k * maxZ 0 (num - g * den) : Int) : Rat) / (den : Rat) := by
    rw [Rat.mkRat_eq_div]
    congr 1
    rw [← Rat.intCast_natCast]
    congr 1
    omega
  have hx := div_mul' (n := num) hd
  rw [e, Rat.intCast_mul]
  unfold maxZ
  by_cases h : num - g * den > 0
  · rw [if_pos h, pos_ge]
    · rw [Rat.intCast_sub, Rat.intCast_mul, Rat.div_def]
      generalize (num : Rat) / (den : Rat) = x at *
      rw [← hx]
      have : (den : Rat) * (den : Rat)⁻¹ = 1 := Rat.mul_inv_cancel _ (by grind)
      grind
    · have := (div_le' (n := num) (g := g) hd).2 (by omega)
      grind
  · rw [if_neg h, pos_le]
    · rw [Rat.div_def]
      simp
    · have := (div_ge' (n := num) (g := g) hd).2 (by omega)
      grind
theorem slack_core {w : Int} {l : List TSpring} {gaps : List Int} (hv : givenP w l = 0) (hl : l.length ≤ 2147483648) (hn : ∀ x ∈ l, x.name.size ≤ 2147483648) (hg : gaps.length = l.length) (hb : ∀ g ∈ gaps, 0 ≤ g ∧ g ≤ 1048576) :
    slackT w (zipS l gaps) (F_elastic_Slack w l gaps) := by
  obtain ⟨hs, _, w0, w1⟩ := given_ok hv
  have n1 := hs.n1
  have n10 := hs.n10
  unfold F_elastic_Slack
  rw [f_egiven w l hl hn, hv]
  simp only [Option.bind_some, bne_self_eq_false, cond_false, hg]
  have hany : gaps.any badG = false := by
    rw [List.any_eq_false]
    intro g hgm
    have := hb g hgm
    unfold badG
    simp
    omega
  rw [f_slices_ContainsFunc_int gaps (by omega) (fun z3 => F_elastic_Slack_1 z3) badG (fun g _ => by
    unfold F_elastic_Slack_1 badG
    cases decide (g < 0) <;> rfl), hany]
  simp only [Option.bind_some, cond_false]
  rw [if_pos (by omega)]
  refine bindT (ints_loop l.length (by omega)) ?_
  rintro r rfl
  dsimp only
  rw [ints_len]
  refine bindT (f_len_ok (n := l.length) (by omega) (by omega)) ?_
  intro r12 _
  refine bindT (Q := fun r => ∃ L, r = (L, ()) ∧ SortK (keyG gaps) L ∧ L.Perm (intsN l.length)) (iter_one ?_) ?_
  · dsimp only
    rw [show decide (IntKind.i64.wrap (((l.length : Nat) : Int) - 0) ≤ 12) = true from by rw [wrap64 (by omega) (by omega)]; exact decide_eq_true (by omega), show IntKind.i64.wrap ((0 : Int) + 1) = 1 from by decide]
    simp only [cond_true]
    refine bindT (T := fun o : Option ((Int × Int × Int × Bool × Bool × List Int × Unit) ⊕ (List Int × Unit)) => ∃ r, o = some (.inr r) ∧ ∃ L, r = (L, ()) ∧ SortK (keyG gaps) L ∧ L.Perm (intsN l.length)) (Q := fun r => ∃ L, r = (L, ()) ∧ SortK (keyG gaps) L ∧ L.Perm (intsN l.length)) ?_ ?_
    · refine ins_outer' (keyG gaps) (validG gaps) (intsN l.length) (by rw [ints_len]; omega) (by rw [ints_len]; omega) (ints_valid hg) ?_ ?_
      · intro L x C hlen hsort hval
        rw [ints_len] at hlen
        dsimp only
        rw [lt_yes (show L.length < l.length by omega)]
        simp only [cond_true]
        refine bindT (T := fun o : Option ((Int × List Int × Unit) ⊕ (List Int × Unit)) => ∃ L', o = some (.inl (((L.length + 1 : Nat) : Int), L' ++ C, ())) ∧ SortK (keyG gaps) L' ∧ L'.Perm (L ++ [x])) (Q := fun r => ∃ L', r = (L' ++ C, ()) ∧ SortK (keyG gaps) L' ∧ L'.Perm (L ++ [x])) ?_ ?_
        · refine ins_inner' (keyG gaps) (validG gaps) ?_ ?_ L x C hsort hval (by omega)
          · intro x R; rfl
          · intro A y x R hy hx hl2
            exact ins_step hb A y x R hy hx hl2
        · rintro r ⟨L', rfl, h1, h2⟩
          refine ⟨L', ?_, h1, h2⟩
          rw [wrap64 (by omega) (by omega)]
          rfl
      · intro L hL
        rw [ints_len]
        dsimp only
        rw [lt_no, cond_false]
    · rintro r ⟨L, rfl, h1, h2⟩
      exact ⟨_, rfl, L, rfl, h1, h2⟩
  · rintro r ⟨L, rfl, hsort, hperm⟩
    dsimp only
    have hLlen : L.length = l.length := by rw [hperm.length_eq, ints_len]
    have hLv : ∀ z ∈ L, validG gaps z := fun z hz => ints_valid hg z (hperm.mem_iff.1 hz)
    have hqs : (L.map fun z => (stG l z, keyG gaps z)).Perm (zipS l gaps) := by rw [zip_key l gaps hg]; exact hperm.map _
    have hst : ∀ z ∈ L, 1 ≤ stG l z ∧ stG l z ≤ 10000 ∧ 0 ≤ keyG gaps z ∧ keyG gaps z ≤ 1048576 := fun z hz => by
      obtain ⟨x, _, hx, e⟩ := valid_st hg (hLv z hz)
      have := hb _ (key_mem (hLv z hz))
      rw [← e]
      exact ⟨hs.k1 x hx, hs.k2 x hx, this.1, this.2⟩
    have hbd : ∀ k, k ≤ L.length → 0 ≤ sgI ((L.take k).map fun z => (stG l z, keyG gaps z)) ∧ sgI ((L.take k).map fun z => (stG l z, keyG gaps z)) ≤ 104857600000 ∧ 0 ≤ skI ((L.take k).map fun z => (stG l z, keyG gaps z)) ∧ skI ((L.take k).map fun z => (stG l z, keyG gaps z)) ≤ 100000 := fun k hk => by
      have := sg_bd (qs := (L.take k).map fun z => (stG l z, keyG gaps z)) (fun p hp => by
        obtain ⟨z, hz, rfl⟩ := List.mem_map.1 hp
        exact hst z (List.mem_of_mem_take hz))
      rw [List.length_map, List.length_take] at this
      omega
    have hstepE : ∀ k (hk : k < L.length), sgI ((L.take (k + 1)).map fun z => (stG l z, keyG gaps z)) = sgI ((L.take k).map fun z => (stG l z, keyG gaps z)) + stG l L[k] * keyG gaps L[k] ∧ skI ((L.take (k + 1)).map fun z => (stG l z, keyG gaps z)) = skI ((L.take k).map fun z => (stG l z, keyG gaps z)) + stG l L[k] := fun k hk => by
      rw [List.take_succ_eq_append_getElem hk, List.map_append, sg_append, sk_append]
      simp [sgI, skI]
    refine bindT (Q := fun r => r = ((runL stepE id (L.map fun z => (stG l z, keyG gaps z)) (w, 0)).1, (runL stepE id (L.map fun z => (stG l z, keyG gaps z)) (w, 0)).2, ())) ?_ ?_
    · have hrun : runL (fun t z => stepE t (stG l z, keyG gaps z)) id L (w, 0) = runL stepE id (L.map fun z => (stG l z, keyG gaps z)) (w, 0) := by
        generalize (w, (0 : Int)) = t
        clear hLlen hLv hqs hst hbd hstepE hsort hperm
        induction L generalizing t with
        | nil => rfl
        | cons z L ih =>
          simp only [List.map_cons, runL]
          cases stepE t (stG l z, keyG gaps z) with
          | inl t' => exact ih t'
          | inr r => rfl
      refine ⟨_, ?_, rfl⟩
      rw [← hrun]
      refine Eq.trans (iter_run (fun (t : Int × Int) k => (t.1, t.2, k, ())) L (by omega) (fun t z => (match stepE t (stG l z, keyG gaps z) with | .inl t' => .inl t' | .inr r => .inr (r.1, r.2, ()) : (Int × Int) ⊕ (Int × Int × Unit))) (fun t => (t.1, t.2, ()))
        (fun k t => t.1 = w + sgI ((L.take k).map fun z => (stG l z, keyG gaps z)) ∧ t.2 = skI ((L.take k).map fun z => (stG l z, keyG gaps z))) ?hin ?hout (w, 0) ?h0) ?_
      rotate_left 3
      · congr 1
        generalize (w, (0 : Int)) = t
        clear hLlen hLv hqs hst hbd hstepE hsort hperm hrun
        induction L generalizing t with
        | nil => rfl
        | cons z L ih =>
          simp only [runL]
          cases stepE t (stG l z, keyG gaps z) with
          | inl t' => exact ih t'
          | inr r => rfl
      · intro k hk t ht
        obtain ⟨t1, t2⟩ := t
        obtain ⟨rfl, rfl⟩ := ht
        have hz := List.getElem_mem hk
        obtain ⟨x, e1, _, e2⟩ := valid_st hg (hLv _ hz)
        have b0 := hbd k (by omega)
        have b1 := hbd (k + 1) hk
        obtain ⟨s1, s2⟩ := hstepE k hk
        obtain ⟨c1, c2, c3, c4⟩ := hst _ hz
        have hkg : 0 ≤ stG l L[k] * keyG gaps L[k] ∧ stG l L[k] * keyG gaps L[k] ≤ 10485760000 := ⟨Int.mul_nonneg (by omega) c3, Int.le_trans (Int.mul_le_mul c2 c4 c3 (by omega)) (by decide)⟩
        have hgd : 0 ≤ keyG gaps L[k] * skI ((L.take k).map fun z => (stG l z, keyG gaps z)) ∧ keyG gaps L[k] * skI ((L.take k).map fun z => (stG l z, keyG gaps z)) ≤ 104857600000 := ⟨Int.mul_nonneg c3 b0.2.2.1, Int.le_trans (Int.mul_le_mul c4 b0.2.2.2 b0.2.2.1 (by omega)) (by decide)⟩
        refine ⟨?_, ?_⟩
        · dsimp only
          rw [lt_yes hk, idx_at hk, Int.toNat_natCast, List.getElem?_eq_getElem hk]
          simp only [cond_true, Option.bind_some]
          rw [idx_key (hLv _ hz), e1]
          simp only [Option.bind_some, e2]
          rw [s1, s2] at b1
          generalize skI ((L.take k).map fun z => (stG l z, keyG gaps z)) = D at *
          generalize sgI ((L.take k).map fun z => (stG l z, keyG gaps z)) = N at *
          have m1 : IntKind.i64.wrap (keyG gaps L[k] * D) = keyG gaps L[k] * D := wrap64 (by omega) (by omega)
          have m2 : IntKind.i64.wrap (stG l L[k] * keyG gaps L[k]) = stG l L[k] * keyG gaps L[k] := wrap64 (by omega) (by omega)
          rw [m1, m2, wrap64 (n := w + N + stG l L[k] * keyG gaps L[k]) (by omega) (by omega), wrap64 (n := D + stG l L[k]) (by omega) (by omega), wrap64 (n := (k : Int) + 1) (by omega) (by omega)]
          unfold stepE
          dsimp only
          by_cases d1 : D > 0
          · rw [decide_eq_true d1]
            simp only [cond_true, Option.bind_some]
            by_cases d2 : w + N ≤ keyG gaps L[k] * D
            · rw [decide_eq_true d2, if_pos ⟨d1, d2⟩]; rfl
            · rw [decide_eq_false d2, if_neg (fun h => d2 h.2)]; rfl
          · rw [decide_eq_false d1, if_neg (fun h => d1 h.1)]; rfl
        · intro t' ht'
          unfold stepE at ht'
          dsimp only at ht'
          split at ht'
          · rename_i u hu
            cases ht'
            split at hu
            · cases hu
            · cases hu
              exact ⟨by rw [s1]; dsimp only; omega, by rw [s2]⟩
          · cases ht'
      · intro t _
        dsimp only
        rw [lt_no, cond_false]
      · exact ⟨by simp [sgI], by simp [skI]⟩
    · rintro r rfl
      dsimp only
      have hne : L.map (fun z => (stG l z, keyG gaps z)) ≠ [] := by
        intro h
        have := congrArg List.length h
        rw [List.length_map] at this
        simp at this
        subst this
        simp at hLlen
        omega
      obtain ⟨d0, deq, X, Y, hXY, hX1, hX2⟩ := run_depth w (L.map fun z => (stG l z, keyG gaps z)) [] (w, 0) (by simpa using hne) (fun p hp => by
        simp only [List.nil_append] at hp
        obtain ⟨z, hz, rfl⟩ := List.mem_map.1 hp
        exact (hst z hz).1) rfl (by simp [sgI]) (by simp) (List.pairwise_map.2 hsort) (by simp) w0
      simp only [List.nil_append] at deq hXY
      have hXb := sg_bd (qs := X) (fun p hp => by
        have hp' : p ∈ L.map fun z => (stG l z, keyG gaps z) := by rw [hXY]; exact List.mem_append_left _ hp
        obtain ⟨z, hz, rfl⟩ := List.mem_map.1 hp'
        exact hst z hz)
      have hXl : X.length ≤ 10 := by
        have := congrArg List.length hXY
        rw [List.length_map, List.length_append] at this
        omega
      rw [pl_perm _ hqs] at deq
      generalize runL stepE id (L.map fun z => (stG l z, keyG gaps z)) (w, 0) = nd at *
      obtain ⟨num, den⟩ := nd
      dsimp only at *
      have hdep : Dep w (zipS l gaps) (num, den) := ⟨d0, by dsimp only; omega, by dsimp only; omega, by dsimp only; omega, deq⟩
      refine ⟨(num, den), hdep, ?_⟩
      dsimp only
      refine bind_eq' (iter_ka (ρ := (List TFrac × Int × List TFrac × Unit) ⊕ (List TFrac × Unit)) l (by omega) (fun (t : List TFrac) (_ : TSpring) => .inl (t ++ [fracQ ((stG l (t.length : Int) : Rat) * posQ ((num : Rat) / (den : Rat) - (keyG gaps (t.length : Int) : Rat)))])) (fun t => .inr (t, ())) (fun k t => t.length = k) [] rfl ?kin ?kout) ?_
      rotate_left 2
      · have hrun : ∀ (l' : List TSpring) (t : List TFrac), runL (ρ := (List TFrac × Int × List TFrac × Unit) ⊕ (List TFrac × Unit)) (fun (t : List TFrac) (_ : TSpring) => .inl (t ++ [fracQ ((stG l (t.length : Int) : Rat) * posQ ((num : Rat) / (den : Rat) - (keyG gaps (t.length : Int) : Rat)))])) (fun t => .inr (t, ())) l' t = .inr (t ++ (List.range' t.length l'.length).map (fun m : Nat => fracQ ((stG l (m : Int) : Rat) * posQ ((num : Rat) / (den : Rat) - (keyG gaps (m : Int) : Rat)))), ()) := by
          intro l'
          induction l' with
          | nil => intro t; simp [runL]
          | cons x l' ih =>
            intro t
            simp only [runL]
            rw [ih]
            simp [List.range'_succ]
        rw [hrun]
        simp only [List.nil_append, List.length_nil]
        rw [zip_key l gaps hg]
        simp [intsN, List.range_eq_range', Function.comp_def]
      · intro k hk t ht
        refine ⟨?_, fun t' ht' => by cases ht'; simp [ht]⟩
        have hval : validG gaps (k : Int) := ⟨k, rfl, by omega⟩
        obtain ⟨x, e1, hx, e2⟩ := valid_st hg hval
        have hkg := hb _ (key_mem hval)
        have hk1 := hs.k1 x hx
        have hk2 := hs.k2 x hx
        dsimp only
        rw [lt_yes hk, e1, idx_key hval]
        simp only [cond_true, Option.bind_some]
        rw [ht]
        have hgd : 0 ≤ keyG gaps (k : Int) * den ∧ keyG gaps (k : Int) * den ≤ 104857600000 := ⟨Int.mul_nonneg hkg.1 (by omega), Int.le_trans (Int.mul_le_mul hkg.2 hdep.d1 (by omega) (by omega)) (by decide)⟩
        have hn0 := hdep.n0
        have hn1 := hdep.n1
        have hd1 := hdep.d1
        dsimp only at hn0 hn1 hd1
        rw [wrap64 (n := keyG gaps (k : Int) * den) (by omega) (by omega), wrap64 (n := num - keyG gaps (k : Int) * den) (by omega) (by omega)]
        have hmz : 0 ≤ maxZ 0 (num - keyG gaps (k : Int) * den) ∧ maxZ 0 (num - keyG gaps (k : Int) * den) ≤ 110000000000 := by unfold maxZ; split <;> omega
        have hpr : 0 ≤ x.stiff * maxZ 0 (num - keyG gaps (k : Int) * den) ∧ x.stiff * maxZ 0 (num - keyG gaps (k : Int) * den) ≤ 1100000000000000 := ⟨Int.mul_nonneg (by omega) hmz.1, Int.le_trans (Int.mul_le_mul hk2 hmz.2 hmz.1 (by omega)) (by decide)⟩
        rw [wrap64 (n := x.stiff * maxZ 0 (num - keyG gaps (k : Int) * den)) (by omega) (by omega), f_rmake (by omega) (by omega) (by omega) (by omega), if_neg (by omega), if_neg (by omega)]
        rw [show den.natAbs = den.toNat from by omega, mk_pos hk1 d0, e2]
        have hfit : outQ ((stG l (k : Int) : Rat) * posQ ((num : Rat) / (den : Rat) - (keyG gaps (k : Int) : Rat))) = (fracQ ((stG l (k : Int) : Rat) * posQ ((num : Rat) / (den : Rat) - (keyG gaps (k : Int) : Rat))), 0) := by
          rw [← e2, ← mk_pos hk1 d0]
          unfold outQ
          rw [if_pos]
          · rfl
          · exact fit_mk (by omega) (by omega) (by omega)
        rw [hfit]
        simp only [Option.bind_some, bne_self_eq_false, cond_false]
        rw [if_pos (by simp; omega), wrap64 (by omega) (by omega)]
      · intro t _
        dsimp only
        rw [lt_no, cond_false]
end Go.Proofs.Ytkphcdficpfcnaa

/- Slack with its errors, Share, Stretch, Energy; the sentences ElasticShares. -/
namespace Go.Proofs.Ytkphcdficpfcnaa
set_option linter.unusedVariables false
set_option linter.unusedSimpArgs false

theorem awake17 : F_law17_awake = some true := by kernel_rfl
def largeB (l : List TSpring) : Bool := decide (l.length > 14) || l.any fun x => decide (((x.name.size : Nat) : Int) > 60)
theorem f_large (l : List TSpring) : F_law17_large l = some (largeB l) := by
  unfold F_law17_large largeB
  by_cases h : l.length > 14
  · rw [decide_eq_true (show ((l.length : Nat) : Int) > 14 by omega), decide_eq_true h]; rfl
  · rw [decide_eq_false (show ¬ ((l.length : Nat) : Int) > 14 by omega), decide_eq_false h]
    simp only [cond_false, Bool.false_or]
    rw [f_slices_ContainsFunc_api_Spring l (by omega) (fun z5 => F_law17_large_1 z5) (fun x => decide (((x.name.size : Nat) : Int) > 60)) (fun x _ => rfl)]
    rfl
theorem large_ok {l : List TSpring} (h : largeB l = false) : l.length ≤ 14 ∧ ∀ x ∈ l, x.name.size ≤ 60 := by
  unfold largeB at h
  rw [Bool.or_eq_false_iff, decide_eq_false_iff_not, List.any_eq_false] at h
  refine ⟨by omega, fun x hx => ?_⟩
  have := h.2 x hx
  simp at this
  omega
theorem rv_frac {q : Rat} (h : fitQ q) : RV (fracQ q) ∧ qOf (fracQ q) = q := by
  obtain ⟨h1, h2⟩ := h
  have h3 := q.den_pos
  refine ⟨⟨by show (1 : Int) ≤ (q.den : Int); omega, by show (q.den : Int) ≤ 1152921504606846976; omega, by show -1152921504606846976 ≤ q.num; omega, by show q.num ≤ 1152921504606846976; omega, ?_⟩, ?_⟩
  · show Nat.gcd q.num.natAbs ((q.den : Int)).toNat = 1
    rw [Int.toNat_natCast]
    exact q.reduced
  · unfold qOf fracQ
    dsimp only
    rw [Int.toNat_natCast, Rat.mkRat_self]
theorem out_fit {q : Rat} (h : fitQ q) : outQ q = (fracQ q, 0) := by unfold outQ; rw [if_pos h]; rfl
theorem out_big {q : Rat} (h : ¬ fitQ q) : outQ q = (⟨0, 0⟩, 5) := by unfold outQ; rw [if_neg h]
theorem frac_int (n : Int) : fracQ (n : Rat) = ⟨n, 1⟩ := by unfold fracQ; rw [Rat.num_intCast, Rat.den_intCast]; rfl
theorem feq_iff (a b : TFrac) : ((a.num == b.num) && (a.den == b.den)) = true ↔ a = b := by
  cases a; cases b
  simp
theorem feq_same (a : TFrac) : ((a.num == a.num) && (a.den == a.den)) = true := by simp
theorem f_eqF (a b : List TFrac) (ha : a.length ≤ 2147483648) : F_slices_Equal_api_Frac a b = some true ↔ a = b := by
  have same : ∀ a : List TFrac, a.length ≤ 2147483648 → F_slices_Equal_api_Frac a a = some true := by
    intro a ha
    unfold F_slices_Equal_api_Frac
    simp only [bne_self_eq_false, cond_false]
    obtain ⟨r, e, rfl⟩ := iter_run_inv (F := (fun s3 : Int × Unit => (bif (decide (s3.1 < ((a.length : Nat) : Int))) then (idx a s3.1).bind fun x4 => (idx a s3.1).bind fun x5 => (bif (!((x4.num == x5.num) && (x4.den == x5.den))) then some (.inr (.inl (false, ()))) else some (.inl ((IntKind.i64.wrap (s3.1 + 1)), ()))) else some (.inr (.inr ((())))))))
      (Q := fun r : (Bool × Unit) ⊕ Unit => r = .inr ()) (fun k s => k ≤ a.length ∧ s = ((k : Int), ())) a.length (by unfold big; omega) (by
      rintro k s ⟨hk, rfl⟩
      dsimp only
      by_cases hlt : k < a.length
      · rw [lt_yes hlt, idx_at hlt]
        simp only [cond_true, Option.bind_some, feq_same, Bool.not_true, cond_false]
        exact .inl ⟨_, rfl, hlt, hlt, by rw [wrap64 (by omega) (by omega)]; rfl⟩
      · obtain rfl : k = a.length := by omega
        rw [lt_no, cond_false]
        exact .inr ⟨_, rfl, rfl⟩) (s := (0, ())) ⟨by omega, rfl⟩
    rw [e]
    rfl
  constructor
  · intro h
    unfold F_slices_Equal_api_Frac at h
    by_cases hl : ((a.length : Nat) : Int) = ((b.length : Nat) : Int)
    · have hlen : a.length = b.length := by omega
      rw [show (((a.length : Nat) : Int) != ((b.length : Nat) : Int)) = false from by simp [hl], cond_false] at h
      obtain ⟨r, e, hr⟩ := iter_run_inv (F := (fun s3 : Int × Unit => (bif (decide (s3.1 < ((a.length : Nat) : Int))) then (idx a s3.1).bind fun x4 => (idx b s3.1).bind fun x5 => (bif (!((x4.num == x5.num) && (x4.den == x5.den))) then some (.inr (.inl (false, ()))) else some (.inl ((IntKind.i64.wrap (s3.1 + 1)), ()))) else some (.inr (.inr ((())))))))
        (Q := fun r : (Bool × Unit) ⊕ Unit => r = .inl (false, ()) ∨ (r = .inr () ∧ a = b)) (fun k s => k ≤ a.length ∧ s = ((k : Int), ()) ∧ a.take k = b.take k) a.length (by unfold big; omega) (by
        rintro k s ⟨hk, rfl, hab⟩
        dsimp only
        by_cases hlt : k < a.length
        · rw [lt_yes hlt, idx_at hlt, idx_at (show k < b.length by omega)]
          simp only [cond_true, Option.bind_some]
          cases hc : ((a[k].num == (b[k]'(by omega)).num) && (a[k].den == (b[k]'(by omega)).den)) with
          | true =>
            simp only [Bool.not_true, cond_false]
            refine .inl ⟨_, rfl, hlt, hlt, by rw [wrap64 (by omega) (by omega)]; rfl, ?_⟩
            rw [List.take_succ_eq_append_getElem hlt, List.take_succ_eq_append_getElem (show k < b.length by omega), hab, (feq_iff _ _).1 hc]
          | false => exact .inr ⟨_, rfl, .inl rfl⟩
        · obtain rfl : k = a.length := by omega
          rw [lt_no, cond_false]
          refine .inr ⟨_, rfl, .inr ⟨rfl, ?_⟩⟩
          rw [List.take_length] at hab
          rw [hab, hlen, List.take_length]) (s := (0, ())) ⟨by omega, rfl, by simp⟩
      rw [e] at h
      rcases hr with rfl | ⟨rfl, hab⟩
      · cases h
      · exact hab
    · rw [show (((a.length : Nat) : Int) != ((b.length : Nat) : Int)) = true from by simp; omega] at h
      cases h
  · rintro rfl
    exact same a ha
/-- The error of Slack. -/
def slackE (w : Int) (l : List TSpring) (gaps : List Int) : Int := if givenP w l ≠ 0 then givenP w l else if gaps.length ≠ l.length then 3 else if gaps.any badG = true then 2 else 0
theorem f_gaps_any (gaps : List Int) (h : gaps.length < 9223372036854775807) : F_slices_ContainsFunc_int gaps (fun z3 => F_elastic_Slack_1 z3) = some (gaps.any badG) :=
  f_slices_ContainsFunc_int gaps h (fun z3 => F_elastic_Slack_1 z3) badG (fun g _ => by
    unfold F_elastic_Slack_1 badG
    cases decide (g < 0) <;> rfl)
theorem f_slack_err {w : Int} {l : List TSpring} {gaps : List Int} (hl : l.length ≤ 2147483648) (hn : ∀ x ∈ l, x.name.size ≤ 2147483648) (hg : gaps.length < 9223372036854775807) (h : slackE w l gaps ≠ 0) : F_elastic_Slack w l gaps = some ([], slackE w l gaps) := by
  unfold F_elastic_Slack slackE at *
  rw [f_egiven w l hl hn]
  simp only [Option.bind_some]
  by_cases h1 : givenP w l ≠ 0
  · rw [if_pos h1, show (givenP w l != 0) = true from by simp [h1], cond_true]
  · rw [if_neg h1] at h ⊢
    rw [show (givenP w l != 0) = false from by simpa using h1, cond_false]
    by_cases h2 : gaps.length ≠ l.length
    · rw [if_pos h2, show (((gaps.length : Nat) : Int) != ((l.length : Nat) : Int)) = true from by simp; omega, cond_true]
    · rw [if_neg h2] at h ⊢
      rw [show (((gaps.length : Nat) : Int) != ((l.length : Nat) : Int)) = false from by simp; omega, cond_false, f_gaps_any gaps hg]
      simp only [Option.bind_some]
      by_cases h3 : gaps.any badG = true
      · rw [if_pos h3, h3, cond_true]
      · rw [if_neg h3] at h
        exact absurd rfl h
structure SlackOk (w : Int) (l : List TSpring) (gaps : List Int) : Prop where
  g : givenP w l = 0
  s : Spr l
  w0 : 0 ≤ w
  w1 : w ≤ 67108864
  n : gaps.length = l.length
  b : ∀ g ∈ gaps, 0 ≤ g ∧ g ≤ 1048576
theorem slack_ok {w : Int} {l : List TSpring} {gaps : List Int} (h : slackE w l gaps = 0) : SlackOk w l gaps := by
  unfold slackE at h
  by_cases h1 : givenP w l ≠ 0
  · rw [if_pos h1] at h; exact absurd h h1
  · rw [if_neg h1] at h
    by_cases h2 : gaps.length ≠ l.length
    · rw [if_pos h2] at h; cases h
    · rw [if_neg h2] at h
      by_cases h3 : gaps.any badG = true
      · rw [if_pos h3] at h; cases h
      · obtain ⟨h4, _, h5, h6⟩ := given_ok (show givenP w l = 0 by omega)
        refine ⟨by omega, h4, h5, h6, by omega, fun g hg => ?_⟩
        have := (List.any_eq_false.1 (by simpa using h3)) g hg
        unfold badG at this
        simp at this
        omega
/-- What springs pull. -/
structure Pulls (w : Int) (ps : List (Int × Int)) (d : Rat) : Prop where
  eq : plQ d ps = (w : Rat)
  k : ∀ p ∈ ps, 1 ≤ p.1 ∧ p.1 ≤ 10000 ∧ 0 ≤ p.2 ∧ p.2 ≤ 1048576
  fit : ∀ p ∈ ps, fitQ ((p.1 : Rat) * posQ (d - p.2))
theorem f_slack {w : Int} {l : List TSpring} {gaps : List Int} (hl : l.length ≤ 2147483648) (hn : ∀ x ∈ l, x.name.size ≤ 2147483648) (h : slackE w l gaps = 0) :
    ∃ d, Pulls w (zipS l gaps) d ∧ F_elastic_Slack w l gaps = some ((zipS l gaps).map (fun p => fracQ ((p.1 : Rat) * posQ (d - p.2))), 0) := by
  have ho := slack_ok h
  obtain ⟨nd, hd, e⟩ := slack_core ho.g hl hn ho.n ho.b
  have hk : ∀ p ∈ zipS l gaps, 1 ≤ p.1 ∧ p.1 ≤ 10000 ∧ 0 ≤ p.2 ∧ p.2 ≤ 1048576 := by
    intro p hp
    unfold zipS at hp
    obtain ⟨h1, h2⟩ := List.of_mem_zip hp
    obtain ⟨x, hx, e⟩ := List.mem_map.1 h1
    have := ho.b _ h2
    rw [← e]
    exact ⟨ho.s.k1 x hx, ho.s.k2 x hx, this.1, this.2⟩
  refine ⟨_, ⟨hd.eq, hk, fun p hp => ?_⟩, e⟩
  obtain ⟨a, b, c, f⟩ := hk p hp
  have d0 := hd.d0; have d1 := hd.d1; have n0 := hd.n0; have n1 := hd.n1
  rw [← mk_pos a hd.d0]
  have hmz : 0 ≤ maxZ 0 (nd.1 - p.2 * nd.2) ∧ maxZ 0 (nd.1 - p.2 * nd.2) ≤ 110000000000 := by
    have : 0 ≤ p.2 * nd.2 := Int.mul_nonneg c (by omega)
    unfold maxZ; split <;> omega
  have hpr : 0 ≤ p.1 * maxZ 0 (nd.1 - p.2 * nd.2) ∧ p.1 * maxZ 0 (nd.1 - p.2 * nd.2) ≤ 1100000000000000 := ⟨Int.mul_nonneg (by omega) hmz.1, Int.le_trans (Int.mul_le_mul b hmz.2 hmz.1 (by omega)) (by decide)⟩
  exact fit_mk (by omega) (by omega) (by omega)
end Go.Proofs.Ytkphcdficpfcnaa

/- Share, Stretch, Energy: the program and the reference; ElasticShares. -/
namespace Go.Proofs.Ytkphcdficpfcnaa
set_option linter.unusedVariables false
set_option linter.unusedSimpArgs false

def shareR (w : Int) (l : List TSpring) : Rat := (w : Rat) / (stiffI l : Rat)
def shareQ (w : Int) (l : List TSpring) : List Rat := l.map fun x => (x.stiff : Rat) * shareR w l
theorem zip_zero (l : List TSpring) : zipS l (List.replicate l.length 0) = l.map fun x => (x.stiff, (0 : Int)) := by
  apply List.ext_getElem
  · simp [zipS]
  · intro i h1 h2
    simp [zipS]
theorem sumL_cons {α : Type} (f : α → Int) (x : α) (l : List α) : sumTo f (x :: l) (x :: l).length = f x + sumTo f l l.length := by
  unfold sumTo
  simp
theorem pl_const (d : Rat) (g : Int) : ∀ l : List TSpring, plQ d (l.map fun x => (x.stiff, g)) = (stiffI l : Rat) * posQ (d - (g : Rat))
  | [] => by simp [plQ, stiffI, sumTo]
  | x :: l => by
    have h := pl_const d g l
    have e : stiffI (x :: l) = x.stiff + stiffI l := sumL_cons _ x l
    simp only [List.map_cons, plQ, h, e, Rat.intCast_add]
    grind
theorem K_pos {l : List TSpring} (h : Spr l) : 0 < stiffI l ∧ stiffI l ≤ 100000 := by
  have := stiff_bound h l.length (Nat.le_refl _)
  have := h.n1
  unfold stiffI
  omega
theorem share_e (w : Int) (l : List TSpring) : slackE w l (List.replicate l.length 0) = givenP w l := by
  unfold slackE
  rw [List.length_replicate]
  by_cases h : givenP w l ≠ 0
  · rw [if_pos h]
  · rw [if_neg h, if_neg (by simp), if_neg]
    · omega
    · rw [Bool.not_eq_true, List.any_eq_false]
      intro g hg
      rw [List.mem_replicate] at hg
      rw [hg.2]
      decide
theorem mul_cancel_pos {a b c : Rat} (hc : 0 < c) (h : c * a = b) : a = b / c := by
  have e : b / c * c = b := Rat.div_mul_cancel (by grind)
  have h3 : c * a = c * (b / c) := by grind
  have h4 : c⁻¹ * (c * a) = c⁻¹ * (c * (b / c)) := by rw [h3]
  have h5 : c * c⁻¹ = 1 := Rat.mul_inv_cancel _ (by grind)
  grind
theorem f_share {w : Int} {l : List TSpring} (hl : l.length ≤ 14) (hn : ∀ x ∈ l, x.name.size ≤ 60) : F_elastic_Share w l = some (if givenP w l = 0 then ((shareQ w l).map fracQ, 0) else ([], givenP w l)) ∧ (givenP w l = 0 → ∀ q ∈ shareQ w l, fitQ q) := by
  unfold F_elastic_Share
  rw [if_pos (by omega), Int.toNat_natCast]
  by_cases h : givenP w l = 0
  · rw [if_pos h]
    obtain ⟨d, hp, e⟩ := f_slack (w := w) (l := l) (gaps := List.replicate l.length 0) (by omega) (fun x hx => by have := hn x hx; omega) (by rw [share_e, h])
    rw [zip_zero] at hp e
    have hs := (given_ok h).1
    have hK := K_pos hs
    have heq := hp.eq
    rw [pl_const] at heq
    have hd : posQ (d - ((0 : Int) : Rat)) = shareR w l := mul_cancel_pos (cast_pos hK.1) heq
    rw [e]
    simp only [Option.bind_some, List.map_map, shareQ, Function.comp_def, hd]
    refine ⟨trivial, fun _ q hq => ?_⟩
    obtain ⟨x, hx, rfl⟩ := List.mem_map.1 hq
    have := hp.fit (x.stiff, 0) (List.mem_map.2 ⟨x, hx, rfl⟩)
    dsimp only at this
    rw [hd] at this
    exact this
  · rw [if_neg h, f_slack_err (by omega) (fun x hx => by have := hn x hx; omega) (by simp; omega) (by rw [share_e]; exact h), share_e]
    exact ⟨rfl, fun h' => absurd h' h⟩
end Go.Proofs.Ytkphcdficpfcnaa

/- Series; the reference's Slack; ElasticSlack. -/
namespace Go.Proofs.Ytkphcdficpfcnaa
set_option linter.unusedVariables false
set_option linter.unusedSimpArgs false

theorem frac_zero : fracQ 0 = ⟨0, 1⟩ := rfl
theorem add_fit {a b : Rat} (ha : fitQ a) (hb : fitQ b) : F_ratio_Add (fracQ a) (fracQ b) = some (outQ (a + b)) := by
  rw [f_radd (rv_frac ha).1 (rv_frac hb).1, (rv_frac ha).2, (rv_frac hb).2]
theorem fit_zero : fitQ 0 := by decide
theorem frac_num_pos {q : Rat} (h : 0 < q) : 0 < (fracQ q).num := by
  show 0 < q.num
  rw [Rat.lt_iff] at h
  simpa using h
end Go.Proofs.Ytkphcdficpfcnaa

/- Sums of fractions; ElasticBears. -/
namespace Go.Proofs.Ytkphcdficpfcnaa
set_option linter.unusedVariables false
set_option linter.unusedSimpArgs false

def sumF : List Rat → Rat → Option Rat
  | [], q => some q
  | x :: l, q => if fitQ (q + x) then sumF l (q + x) else none
def sumR : List Rat → Rat
  | [] => 0
  | x :: l => x + sumR l
theorem sumF_eq : ∀ (l : List Rat) (q r : Rat), sumF l q = some r → r = q + sumR l
  | [], q, r, h => by cases h; simp only [sumR]; grind
  | x :: l, q, r, h => by
    unfold sumF at h
    split at h
    · have := sumF_eq l _ r h
      simp only [sumR]
      grind
    · cases h
def sumP (l : List Rat) : TFrac × Int := match sumF l 0 with
  | none => (⟨0, 0⟩, 5)
  | some q => (fracQ q, 0)
theorem f_rsum {l : List Rat} (hl : l.length ≤ 1000) (hf : ∀ q ∈ l, fitQ q) : F_ratio_Sum (l.map fracQ) = some (sumP l) := by
  unfold F_ratio_Sum
  rw [f_slices_ContainsFunc_api_Frac (l.map fracQ) (by rw [List.length_map]; omega) (fun z2 => F_ratio_Sum_1 z2) (fun _ => false) (fun x hx => by
    obtain ⟨q, hq, rfl⟩ := List.mem_map.1 hx
    unfold F_ratio_Sum_1
    rw [rv_true (rv_frac (hf q hq)).1]
    rfl)]
  have hany : ((l.map fracQ).any fun _ => false) = false := by simp
  rw [hany]
  simp only [Option.bind_some, cond_false, List.length_map]
  rw [decide_eq_false (show ¬ ((l.length : Nat) : Int) > 1000 by omega), cond_false, ← frac_zero]
  obtain ⟨R, hR, hQ⟩ := iter_run_inv (F := (fun s10 : Int × TFrac × TFrac × Unit => (bif (decide (s10.1 < ((l.length : Nat) : Int))) then (idx (l.map fracQ) s10.1).bind fun x11 => (F_ratio_Add s10.2.2.1 x11).bind fun r12 => (bif (r12.2 != 0) then some (.inr (.inl (r12.2, (TFrac.mk 0 0), r12.1, ()))) else some (.inl ((IntKind.i64.wrap (s10.1 + 1)), s10.2.1, r12.1, ()))) else some (.inr (.inr ((s10.2.1, s10.2.2.1, ())))))))
    (Q := fun R : (Int × TFrac × TFrac × Unit) ⊕ (TFrac × TFrac × Unit) => match sumF l 0 with | none => ∃ z, R = .inl (5, ⟨0, 0⟩, z, ()) | some r => R = .inr (⟨0, 0⟩, fracQ r, ()))
    (fun k s => k ≤ l.length ∧ ∃ q, s = ((k : Int), ⟨0, 0⟩, fracQ q, ()) ∧ fitQ q ∧ sumF l 0 = sumF (l.drop k) q) l.length (by unfold big; omega) (by
    rintro k s ⟨hk, q, rfl, hq, he⟩
    dsimp only
    by_cases hlt : k < l.length
    · have hx := hf _ (List.getElem_mem hlt)
      rw [lt_yes hlt, idx_at (show k < (l.map fracQ).length by rw [List.length_map]; exact hlt), List.getElem_map]
      simp only [cond_true, Option.bind_some]
      rw [add_fit hq hx]
      simp only [Option.bind_some]
      rw [List.drop_eq_getElem_cons hlt, show sumF (l[k] :: l.drop (k + 1)) q = if fitQ (q + l[k]) then sumF (l.drop (k + 1)) (q + l[k]) else none from rfl] at he
      by_cases hfit : fitQ (q + l[k])
      · rw [if_pos hfit] at he
        rw [out_fit hfit]
        simp only [bne_self_eq_false, cond_false]
        rw [wrap64 (by omega) (by omega)]
        exact .inl ⟨_, rfl, hlt, hlt, _, rfl, hfit, he⟩
      · rw [if_neg hfit] at he
        rw [out_big hfit]
        refine .inr ⟨_, rfl, ?_⟩
        rw [he]
        exact ⟨_, rfl⟩
    · obtain rfl : k = l.length := by omega
      rw [lt_no, cond_false]
      refine .inr ⟨_, rfl, ?_⟩
      rw [List.drop_length] at he
      rw [he]
      rfl) (s := (0, ⟨0, 0⟩, fracQ 0, ())) ⟨by omega, 0, rfl, fit_zero, rfl⟩
  rw [hR]
  simp only [Option.bind_some]
  unfold sumP
  cases hr : sumF l 0 with
  | none =>
    rw [hr] at hQ
    obtain ⟨z, rfl⟩ := hQ
    rfl
  | some r =>
    rw [hr] at hQ
    dsimp only at hQ
    subst hQ
    rfl
theorem f_lsum {l : List Rat} (hl : l.length ≤ 1000) (hf : ∀ q ∈ l, fitQ q) : F_law17_sum (l.map fracQ) = some ((sumP l).1, (sumP l).2 == 0) := by
  unfold F_law17_sum
  rw [f_rsum hl hf]
  rfl
theorem sum_is {l : List Rat} (h : ((sumP l).2 == 0) = true) : (sumP l).1 = fracQ (sumR l) := by
  unfold sumP at *
  cases hs : sumF l 0 with
  | none => rw [hs] at h; cases h
  | some r =>
    have := sumF_eq l 0 r hs
    dsimp only
    congr 1
    grind
theorem f_int (n : Int) : F_law17_f n = some ⟨n, 1⟩ := rfl
theorem fit_int {n : Int} (h : n.natAbs ≤ 1152921504606846976) : fitQ (n : Rat) := by
  unfold fitQ
  rw [Rat.num_intCast, Rat.den_intCast]
  omega
end Go.Proofs.Ytkphcdficpfcnaa

/- ElasticStiffer. -/
namespace Go.Proofs.Ytkphcdficpfcnaa
set_option linter.unusedVariables false
set_option linter.unusedSimpArgs false

theorem rcmp_fit {a b : Rat} (ha : fitQ a) (hb : fitQ b) : F_ratio_Cmp (fracQ a) (fracQ b) = some (if a < b then -1 else if b < a then 1 else 0, 0) := by
  rw [f_rcmp (rv_frac ha).1 (rv_frac hb).1, (rv_frac ha).2, (rv_frac hb).2]
end Go.Proofs.Ytkphcdficpfcnaa

/- ElasticSeries. -/
namespace Go.Proofs.Ytkphcdficpfcnaa
set_option linter.unusedVariables false
set_option linter.unusedSimpArgs false

theorem div_fit {a b : Rat} (ha : fitQ a) (hb : fitQ b) (h0 : (fracQ b).num ≠ 0) : F_ratio_Div (fracQ a) (fracQ b) = some (outQ (a / b)) := by
  rw [f_rdiv (rv_frac ha).1 (rv_frac hb).1, (rv_frac ha).2, (rv_frac hb).2, if_neg h0]
end Go.Proofs.Ytkphcdficpfcnaa

/- Steps through a function's text: one bind after the other, without rewriting what follows. -/
namespace Go.Proofs.Ytkphcdficpfcnaa
set_option linter.unusedVariables false

def Gs {γ : Type} (X : Option γ) (P : γ → Prop) : Prop := ∃ y, X = some y ∧ P y
theorem go {α γ : Type} {X : Option α} {a : α} {K : α → Option γ} {P : γ → Prop} (h : X = some a) (g : Gs (K a) P) : Gs (X.bind K) P := by subst h; exact g
theorem goo {α β γ : Type} {X : Option α} {a : α} {K : α → Option β} {L : β → Option γ} {P : γ → Prop} (h : X = some a) (g : Gs ((K a).bind L) P) : Gs ((X.bind K).bind L) P := by subst h; exact g
theorem gt {γ : Type} {c : Bool} {X Y : Option γ} {P : γ → Prop} (h : c = true) (g : Gs X P) : Gs (bif c then X else Y) P := by subst h; exact g
theorem gf {γ : Type} {c : Bool} {X Y : Option γ} {P : γ → Prop} (h : c = false) (g : Gs Y P) : Gs (bif c then X else Y) P := by subst h; exact g
theorem gbt {α γ : Type} {c : Bool} {X Y : Option α} {K : α → Option γ} {P : γ → Prop} (h : c = true) (g : Gs (X.bind K) P) : Gs ((bif c then X else Y).bind K) P := by subst h; exact g
theorem gbf {α γ : Type} {c : Bool} {X Y : Option α} {K : α → Option γ} {P : γ → Prop} (h : c = false) (g : Gs (Y.bind K) P) : Gs ((bif c then X else Y).bind K) P := by subst h; exact g
theorem gs {α γ : Type} {a : α} {K : α → Option γ} {P : γ → Prop} (g : Gs (K a) P) : Gs ((some a).bind K) P := g
theorem gend {γ : Type} {a : γ} {P : γ → Prop} (g : P a) : Gs (some a) P := ⟨a, rfl, g⟩
/-- One step of what has told its answer already. -/
theorem gcall {α γ : Type} {X : Option α} {Q : α → Prop} {K : α → Option γ} {P : γ → Prop} (h : Gs X Q) (g : ∀ a, Q a → Gs (K a) P) : Gs (X.bind K) P := by
  obtain ⟨a, h1, h2⟩ := h
  exact go h1 (g a h2)
theorem gcalll {α β γ : Type} {X : Option α} {Q : α → Prop} {K : α → Option β} {L : β → Option γ} {P : γ → Prop} (h : Gs X Q) (g : ∀ a, Q a → Gs ((K a).bind L) P) : Gs ((X.bind K).bind L) P := by
  obtain ⟨a, h1, h2⟩ := h
  exact goo h1 (g a h2)
/-- A loop, and what follows it. -/
theorem gloop {σ ρ γ : Type} {F : σ → Option (σ ⊕ ρ)} {K : ρ → Option γ} {P : γ → Prop} (Q : ρ → Prop) (I : Nat → σ → Prop) (n : Nat) (hn : n < big) {s : σ}
    (h : I 0 s) (step : ∀ k s, k ≤ n → I k s → Gs (F s) fun y => match y with | .inl s' => k < n ∧ I (k + 1) s' | .inr r => Q r) (hK : ∀ r, Q r → Gs (K r) P) : Gs ((iterF F big s).bind K) P := by
  obtain ⟨r, h1, h2⟩ := iter_inv (F := F) (Q := Q) I n hn (fun k s hk hi => by
    obtain ⟨y, h1, h2⟩ := step k s hk hi
    cases y with
    | inl s' => exact .inl ⟨s', h1, h2.1, h2.2⟩
    | inr r => exact .inr ⟨r, h1, h2⟩) h
  exact go h1 (hK r h2)
theorem gs_eq {γ : Type} {X : Option γ} {a : γ} (h : Gs X fun r => r = a) : X = some a := by
  obtain ⟨y, h1, rfl⟩ := h
  exact h1
end Go.Proofs.Ytkphcdficpfcnaa

/- ElasticGaps. -/
namespace Go.Proofs.Ytkphcdficpfcnaa
set_option linter.unusedVariables false
set_option linter.unusedSimpArgs false

theorem ix_q {α : Type} {l : List α} {k : Nat} {x : α} (h : l[k]? = some x) : idx l (k : Int) = some x := by
  obtain ⟨hl, rfl⟩ := List.getElem?_eq_some_iff.1 h
  exact idx_at hl
theorem ix_w {α : Type} {l : List α} {k : Nat} {z : Int} {x : α} (e : z = (k : Int)) (h : l[k]? = some x) : l[Int.toNat z]? = some x := by subst e; rw [Int.toNat_natCast]; exact h
theorem zip_same (l : List TSpring) (g : Int) : zipS l (List.replicate l.length g) = l.map fun x => (x.stiff, g) := by
  apply List.ext_getElem
  · simp [zipS]
  · intro i h1 h2
    simp [zipS]
theorem same_e (w : Int) (l : List TSpring) {g : Int} (h0 : 0 ≤ g) (h1 : g ≤ 1048576) : slackE w l (List.replicate l.length g) = givenP w l := by
  unfold slackE
  rw [List.length_replicate]
  by_cases h : givenP w l ≠ 0
  · rw [if_pos h]
  · rw [if_neg h, if_neg (by simp), if_neg]
    · omega
    · rw [Bool.not_eq_true, List.any_eq_false]
      intro g' hg
      rw [List.mem_replicate] at hg
      rw [hg.2]
      unfold badG
      simp
      omega
/-- With one gap for all the springs pull their shares. -/
theorem f_same_gap {w : Int} {l : List TSpring} {g : Int} (h0 : 0 ≤ g) (h1 : g ≤ 1048576) (hl : l.length ≤ 14) (hn : ∀ x ∈ l, x.name.size ≤ 60) : F_elastic_Slack w l (List.replicate l.length g) = some (if givenP w l = 0 then ((shareQ w l).map fracQ, 0) else ([], givenP w l)) := by
  by_cases h : givenP w l = 0
  · rw [if_pos h]
    obtain ⟨d, hp, e⟩ := f_slack (w := w) (l := l) (gaps := List.replicate l.length g) (by omega) (fun x hx => by have := hn x hx; omega) (by rw [same_e w l h0 h1, h])
    rw [zip_same] at hp e
    have hs := (given_ok h).1
    have hK := K_pos hs
    have heq := hp.eq
    rw [pl_const] at heq
    have hd : posQ (d - (g : Rat)) = shareR w l := mul_cancel_pos (cast_pos hK.1) heq
    rw [e]
    simp only [List.map_map, shareQ, Function.comp_def, hd]
  · rw [if_neg h, f_slack_err (by omega) (fun x hx => by have := hn x hx; omega) (by simp; omega) (by rw [same_e w l h0 h1]; exact h), same_e w l h0 h1]
/-- What the springs pull. -/
def pullL (d : Rat) (ps : List (Int × Int)) : List Rat := ps.map fun p => (p.1 : Rat) * posQ (d - p.2)
theorem pull_sum (d : Rat) : ∀ ps : List (Int × Int), sumR (pullL d ps) = plQ d ps
  | [] => rfl
  | p :: ps => by
    have := pull_sum d ps
    unfold pullL at *
    simp only [List.map_cons, sumR, plQ, this]
theorem pull_zero (d : Rat) : ∀ ps : List (Int × Int), (∀ p ∈ ps, (p.1 : Rat) * posQ (d - p.2) = 0) → plQ d ps = 0
  | [], _ => rfl
  | p :: ps, h => by
    have h1 := h p List.mem_cons_self
    have h2 := pull_zero d ps fun q hq => h q (List.mem_cons_of_mem _ hq)
    simp only [plQ]
    rw [h1, h2]
    grind
theorem num_sgn {q : Rat} (h : 0 ≤ q) : (q = 0 → (fracQ q).num = 0) ∧ (q ≠ 0 → 0 < (fracQ q).num) := by
  constructor
  · intro e; subst e; rfl
  · intro e; exact frac_num_pos (by grind)
theorem cmp_bad {a : TFrac} (ha : RV a) : F_ratio_Cmp a ⟨0, 0⟩ = some (0, 1) := by
  have hb : F_ratio_Valid ⟨0, 0⟩ = some false := rv_false ⟨by decide, by decide, by decide, by decide⟩ (fun h => absurd h.d0 (by decide))
  unfold F_ratio_Cmp
  rw [rv_true ha, hb]
  rfl
theorem wf_u16 {n : Int} (h : (Lit.int .u16 n).wf = true) : 0 ≤ n ∧ n ≤ 65535 := by
  have h3 : IntKind.min .u16 ≤ n ∧ n ≤ IntKind.max .u16 := by simpa [Lit.wf] using h
  exact h3
theorem frac_ne (q : Rat) : ((fracQ q).num == 0 && (fracQ q).den == 0) = false := by
  rw [Bool.and_eq_false_iff]
  right
  have := q.den_pos
  show ((q.den : Int) == 0) = false
  rw [beq_eq_false_iff_ne]
  omega
theorem main_ElasticGaps (x0 : Int) (x1 : List TSpring) (x2 : List Int) (x3 : Int) (w0 : W_int1 x0) (w1 : W_l_Spring x1) (w2 : W_l_int1 x2) (w3 : W_u16 x3) : F_law17_ElasticGaps x0 x1 x2 x3 = some true := by
  apply gs_eq
  unfold F_law17_ElasticGaps
  refine go awake17 (gf rfl (goo (f_large x1) ?_))
  cases hL : largeB x1 with
  | true => exact gbt rfl (gs (gt rfl (gend rfl)))
  | false =>
    obtain ⟨hl, hn⟩ := large_ok hL
    refine gbf rfl (gs ?_)
    by_cases hg : ((x2.length : Nat) : Int) > 20
    · exact gt (decide_eq_true hg) (gend rfl)
    refine gf (decide_eq_false hg) ?_
    have hx3 := wf_u16 w3
    have hw3 : IntKind.i64.wrap x3 = x3 := wrap64 (by omega) (by omega)
    rw [hw3]
    have hn' : ∀ x ∈ x1, x.name.size ≤ 2147483648 := fun x hx => by have := hn x hx; omega
    have hrep : F_slices_Repeat_int ([x3] : List Int) ((x1.length : Nat) : Int) = some (List.replicate x1.length x3) := by
      unfold F_slices_Repeat_int
      rw [if_pos ⟨rfl, by omega, by omega⟩, Int.toNat_natCast]
      rfl
    refine go hrep (go (f_same_gap hx3.1 (by omega) hl hn) (go (f_share hl hn).1 ?_))
    have hlen : (if givenP x0 x1 = 0 then ((shareQ x0 x1).map fracQ, 0) else (([] : List TFrac), givenP x0 x1)).1.length ≤ 2147483648 := by
      split
      · unfold shareQ; simp; omega
      · simp
    refine gbf (by simp) (goo ((f_eqF _ _ hlen).2 rfl) (gs (gf rfl ?_)))
    by_cases he : slackE x0 x1 x2 = 0
    rotate_left
    · refine go (f_slack_err (by omega) hn' (by omega) he) (gt (by simpa using he) (gend rfl))
    obtain ⟨d, hp, e⟩ := f_slack (by omega) hn' he
    have ho := slack_ok he
    have e' : F_elastic_Slack x0 x1 x2 = some ((pullL d (zipS x1 x2)).map fracQ, 0) := by
      rw [e]; unfold pullL; rw [List.map_map]; rfl
    have hzl : (zipS x1 x2).length = x1.length := by simp [zipS, ho.n]
    generalize hps : zipS x1 x2 = ps at hp e' hzl
    have hpl : (pullL d ps).length = x1.length := by unfold pullL; rw [List.length_map]; exact hzl
    have hpf : ∀ q ∈ pullL d ps, fitQ q := by
      intro q hq
      obtain ⟨p, hpm, rfl⟩ := List.mem_map.1 hq
      exact hp.fit p hpm
    have hml : (((pullL d ps).map fracQ).length : Nat) = x1.length := by rw [List.length_map, hpl]
    refine go e' (gf rfl (go (f_lsum (by omega) hpf) ?_))
    have h15 : Gs ((bif (((((pullL d ps).map fracQ).length : Nat) : Int) != ((x1.length : Nat) : Int)) then some (true, ()) else (bif ((sumP (pullL d ps)).2 == 0) then (F_law17_f x0).bind fun r14 => some ((!(((sumP (pullL d ps)).1.num == r14.num) && ((sumP (pullL d ps)).1.den == r14.den))), ()) else some (false, ()))) : Option (Bool × Unit)) fun y => y = (false, ()) := by
      refine gf (by rw [hml]; simp) ?_
      cases hs : ((sumP (pullL d ps)).2 == 0) with
      | false => exact gf rfl (gend rfl)
      | true =>
        have := sum_is hs
        rw [pull_sum, hp.eq, frac_int] at this
        refine gt rfl (go (f_int x0) (gend ?_))
        rw [this]
        simp
    refine gcall h15 ?_
    rintro y rfl
    refine gf rfl ?_
    -- the places
    have at_ : ∀ (i : Nat) (hi : i < x1.length), ∃ p : Int × Int, p ∈ ps ∧ (pullL d ps)[i]? = some ((p.1 : Rat) * posQ (d - p.2)) ∧ idx x2 (i : Int) = some p.2 ∧ ∃ x, idx x1 (i : Int) = some x ∧ x.stiff = p.1 := by
      intro i hi
      have hi2 : i < x2.length := by have := ho.n; omega
      have hpi : ps[i]? = some (x1[i].stiff, x2[i]) := by
        rw [← hps]
        unfold zipS
        rw [List.getElem?_zip_eq_some, List.getElem?_map, List.getElem?_eq_getElem hi, List.getElem?_eq_getElem hi2]
        exact ⟨rfl, rfl⟩
      refine ⟨_, List.mem_of_getElem? hpi, ?_, idx_at hi2, _, idx_at hi, rfl⟩
      unfold pullL
      rw [List.getElem?_map, hpi]; rfl
    have kpos : ∀ p ∈ ps, (0 : Rat) < (p.1 : Rat) := fun p hpm => cast_pos (by have := (hp.k p hpm).1; omega)
    have qnn : ∀ p ∈ ps, 0 ≤ (p.1 : Rat) * posQ (d - p.2) := fun p hpm => Rat.mul_nonneg (by have := kpos p hpm; grind) (pos_nonneg _)
    refine gloop (fun r : (Bool × TFrac × Unit) ⊕ (TFrac × Unit) => match r with
        | .inl y => y.1 = true
        | .inr y => (y.1 = ⟨0, 0⟩ ∧ ∀ q ∈ pullL d ps, q = 0) ∨ (fitQ d ∧ y.1 = fracQ d))
      (fun i t => i ≤ x1.length ∧ ∃ z, t = ((i : Int), z, ()) ∧ ((z = ⟨0, 0⟩ ∧ ∀ q ∈ (pullL d ps).take i, q = 0) ∨ (fitQ d ∧ z = fracQ d))) x1.length (by unfold big; omega) ⟨Nat.zero_le _, _, rfl, .inl ⟨rfl, fun q hq => by simp at hq⟩⟩ ?_ ?_
    · rintro i t hi ⟨_, z, rfl, hz⟩
      rcases Nat.lt_or_ge i x1.length with hlt | hge
      · obtain ⟨p, hpm, g1, g2, x, g3, g4⟩ := at_ i hlt
        have gf1 : ((pullL d ps).map fracQ)[i]? = some (fracQ ((p.1 : Rat) * posQ (d - p.2))) := by rw [List.getElem?_map, g1]; rfl
        have hq0 := qnn p hpm
        have hk := kpos p hpm
        have hb := hp.k p hpm
        have w1 : IntKind.i64.wrap ((i : Int) + 1) = ((i + 1 : Nat) : Int) := by rw [wrap64 (by omega) (by omega)]; omega
        have htk : (pullL d ps).take (i + 1) = (pullL d ps).take i ++ [(p.1 : Rat) * posQ (d - p.2)] := by
          have hil : i < (pullL d ps).length := by omega
          rw [List.take_succ_eq_append_getElem hil]
          congr 2
          rw [List.getElem?_eq_getElem hil] at g1
          exact Option.some.inj g1
        obtain ⟨n1, n2⟩ := num_sgn hq0
        refine gt (decide_eq_true (by show (i : Int) < ((((pullL d ps).map fracQ).length : Nat) : Int); rw [hml]; omega)) (goo (ix_q gf1) (goo (ix_w rfl gf1) ?_))
        by_cases hz0 : (p.1 : Rat) * posQ (d - p.2) = 0
        · have hn0 := n1 hz0
          refine gbt (decide_eq_true (by omega)) (gbf (decide_eq_false (by omega)) (gs (gend ⟨hlt, hlt, z, ?_, ?_⟩)))
          · show (IntKind.i64.wrap ((i : Int) + 1), z, ()) = _
            rw [w1]
          · rcases hz with ⟨h1, h2⟩ | h
            · refine .inl ⟨h1, fun q hq => ?_⟩
              rw [htk] at hq
              rcases List.mem_append.1 hq with hq | hq
              · exact h2 q hq
              · simp at hq; rw [hq]; exact hz0
            · exact .inr h
        · have hnp := n2 hz0
          have hdg : (p.2 : Rat) < d := by
            apply Classical.byContradiction
            intro hno
            apply hz0
            rw [pos_le (by grind)]
            grind
          have hpos : posQ (d - p.2) = d - p.2 := pos_ge (by grind)
          have hdiv : (p.1 : Rat) * posQ (d - p.2) / (p.1 : Rat) = d - p.2 := by
            rw [hpos]
            symm
            exact mul_cancel_pos hk rfl
          have hDiv := div_fit (hp.fit p hpm) (fit_int (n := p.1) (by omega)) (by rw [frac_int]; show p.1 ≠ 0; omega)
          rw [hdiv, frac_int] at hDiv
          refine gbf (decide_eq_false (by omega)) (goo g3 ?_)
          rw [g4]
          refine goo (f_int p.1) (goo hDiv ?_)
          by_cases hf1 : fitQ (d - p.2)
          · rw [out_fit hf1]
            have hAdd := add_fit hf1 (fit_int (n := p.2) (by omega))
            rw [show d - (p.2 : Rat) + (p.2 : Rat) = d from by grind, frac_int] at hAdd
            refine gbf rfl (goo g2 (goo (f_int p.2) (goo hAdd ?_)))
            by_cases hf2 : fitQ d
            · rw [out_fit hf2]
              refine gbf rfl ?_
              have hstep : Gs ((bif (!((z.num == 0) && (z.den == 0))) then some ((!(((fracQ d).num == z.num) && ((fracQ d).den == z.den))), ()) else some (false, ())) : Option (Bool × Unit)) fun y => y = (false, ()) := by
                rcases hz with ⟨h1, _⟩ | ⟨_, h1⟩
                · rw [h1]; exact gf rfl (gend rfl)
                · rw [h1]
                  refine gt (by rw [frac_ne]; rfl) (gend (by simp))
              refine gcalll hstep ?_
              rintro y rfl
              refine gbf rfl (gs (gend ⟨hlt, hlt, fracQ d, ?_, .inr ⟨hf2, rfl⟩⟩))
              show (IntKind.i64.wrap ((i : Int) + 1), fracQ d, ()) = _
              rw [w1]
            · rw [out_big hf2]
              exact gbt rfl (gs (gend rfl))
          · rw [out_big hf1]
            exact gbt rfl (gs (gend rfl))
      · refine gf (decide_eq_false (by show ¬ (i : Int) < ((((pullL d ps).map fracQ).length : Nat) : Int); rw [hml]; omega)) (gend ?_)
        rw [List.take_of_length_le (by omega)] at hz
        exact hz
    rintro (y | y) hy
    · exact gend hy
    · obtain ⟨z, u⟩ := y
      have hy : (z = ⟨0, 0⟩ ∧ ∀ q ∈ pullL d ps, q = 0) ∨ (fitQ d ∧ z = fracQ d) := hy
      refine gloop (fun r : (Bool × Unit) ⊕ Unit => r = .inr ()) (fun i t => i ≤ x1.length ∧ t = ((i : Int), ())) x1.length (by unfold big; omega) ⟨Nat.zero_le _, rfl⟩ ?_ ?_
      · rintro i t hi ⟨_, rfl⟩
        rcases Nat.lt_or_ge i x1.length with hlt | hge
        · obtain ⟨p, hpm, g1, g2, x, g3, g4⟩ := at_ i hlt
          have gf1 : ((pullL d ps).map fracQ)[i]? = some (fracQ ((p.1 : Rat) * posQ (d - p.2))) := by rw [List.getElem?_map, g1]; rfl
          have hq0 := qnn p hpm
          have hk := kpos p hpm
          have hb := hp.k p hpm
          obtain ⟨n1, n2⟩ := num_sgn hq0
          have w1 : IntKind.i64.wrap ((i : Int) + 1) = ((i + 1 : Nat) : Int) := by rw [wrap64 (by omega) (by omega)]; omega
          have hgfit := fit_int (n := p.2) (by omega)
          have fin : i < x1.length ∧ (i + 1 ≤ x1.length ∧ (IntKind.i64.wrap ((i : Int) + 1), ()) = (((i + 1 : Nat) : Int), ())) := ⟨hlt, hlt, by rw [w1]⟩
          refine gt (decide_eq_true (by show (i : Int) < ((((pullL d ps).map fracQ).length : Nat) : Int); rw [hml]; omega)) (go (ix_q gf1) (go (ix_w rfl gf1) (go g2 (go (f_int p.2) ?_))))
          rcases hy with ⟨h1, _⟩ | ⟨hfd, h1⟩
          · have hc := cmp_bad (rv_frac hgfit).1
            rw [frac_int] at hc
            rw [h1]
            refine go hc ?_
            by_cases hz0 : (p.1 : Rat) * posQ (d - p.2) = 0
            · exact gbt (by rw [beq_iff_eq]; exact n1 hz0) (gbf rfl (gs (gf rfl (gend fin))))
            · exact gbf (by rw [beq_eq_false_iff_ne]; have := n2 hz0; show (fracQ _).num ≠ 0; omega) (gs (gf rfl (gend fin)))
          · have hc := rcmp_fit hgfit hfd
            rw [frac_int] at hc
            rw [h1]
            refine go hc ?_
            by_cases hz0 : (p.1 : Rat) * posQ (d - p.2) = 0
            · have hdg : ¬ (p.2 : Rat) < d := by
                intro hlt2
                have h5 : posQ (d - p.2) = d - p.2 := pos_ge (by grind)
                rw [h5] at hz0
                rcases Rat.mul_eq_zero.1 hz0 with h | h <;> grind
              refine gbt (by rw [beq_iff_eq]; exact n1 hz0) (gbt rfl (gs (gf ?_ (gend fin))))
              show decide ((if (p.2 : Rat) < d then (-1 : Int) else if d < (p.2 : Rat) then 1 else 0) < 0) = false
              rw [if_neg hdg]
              split <;> rfl
            · exact gbf (by rw [beq_eq_false_iff_ne]; have := n2 hz0; show (fracQ _).num ≠ 0; omega) (gs (gf rfl (gend fin)))
        · exact gf (decide_eq_false (by show ¬ (i : Int) < ((((pullL d ps).map fracQ).length : Nat) : Int); rw [hml]; omega)) (gend rfl)
      · rintro r rfl
        rcases hy with ⟨h1, h2⟩ | ⟨_, h1⟩
        · have hw0 : x0 = 0 := by
            have h3 := pull_zero d ps (fun p hpm => h2 _ (List.mem_map.2 ⟨p, hpm, rfl⟩))
            have h4 := hp.eq
            rw [h3] at h4
            have : ((0 : Int) : Rat) = (x0 : Rat) := h4
            exact (Rat.intCast_inj.1 this).symm
          subst hw0
          exact gbt rfl (gs (gend rfl))
        · rw [h1]
          by_cases hw0 : x0 = 0
          · exact gbt (by simp [hw0]) (gs (gend rfl))
          · exact gbf (by simpa using hw0) (gs (gend (by
              show (!((fracQ d).num == 0 && (fracQ d).den == 0)) = true
              rw [frac_ne]; rfl)))
end Go.Proofs.Ytkphcdficpfcnaa
