/- The typed reading, operation by operation: loads, addresses, parts. -/
import Derived.Test.YtmdghocpelkcoaaEv3
namespace Go.Proofs.Ytmdghocpelkcoaa
open Go.RowKit

variable {P : Program} (G : Sg P) {β : Type}
def idxB (s : ByteArray) (i : Int) : Option UInt8 := if 0 ≤ i then s[i.toNat]? else none
def indexK (P : Program) (t : TypeId) (a i : G.T) (K : G.T → Option β) : Option β := match P.underlying t, valOf G a, valOf G i with
  | some .string, some (.string s), some (.int _ i) => (idxB s i).bind fun b => K (pval G (.int .u8 b.toNat))
  | _, _, _ => none
def extractK (d : G.D) (i : Nat) (K : G.T → Option β) : Option β := match d with
  | .tup vs => match vs[i]? with
    | some x => K x
    | none => none
  | _ => none
def fieldK (P : Program) (t : TypeId) (a : G.T) (f : Nat) (K : G.T → Option β) : Option β := match P.underlying t, a with
  | some (.struct fs), .agg cs => match fs[f]? with
    | some fl => match shapeP P fl.type with
      | some s => match takeT G s (cs.drop fl.offset) with
        | some x => K x
        | none => none
      | none => none
    | none => none
  | _, _ => none
def lenOfT (hp : G.Hp) (a : G.T) : Option Nat := match a with
  | .c (.pv (.sl _ l)) => some l.length
  | .c (.pv (.val (.slice _ n _))) => some n
  | .c (.os o) => match hp[o]? with
    | some (.row _ _ l) => some l.length
    | _ => none
  | _ => none
def lenK (P : Program) (hp : G.Hp) (t : TypeId) (a : G.T) (K : G.T → Option β) : Option β := match P.underlying t with
  | some .string => match valOf G a with
    | some (.string s) => K (pval G (.int .i64 s.size))
    | _ => none
  | some (.slice _) => match lenOfT G hp a with
    | some n => K (pval G (.int .i64 n))
    | none => none
  | _ => none
def intsOf : List G.T → Option (List (IntKind × Int))
  | [] => some []
  | x :: xs => match valOf G x, intsOf xs with
    | some (.int k n), some l => some ((k, n) :: l)
    | _, _ => none
def maxZ (x y : Int) : Int := if y > x then y else x
def minZ (x y : Int) : Int := if y < x then y else x
def extremeK (f : Int → Int → Int) (args : List G.T) (K : G.T → Option β) : Option β := match intsOf G args with
  | some ((k, x) :: l) => K (pval G (.int k ((l.map (·.2)).foldl f x)))
  | _ => none
def convertK (P : Program) (src dst : TypeId) (a : G.T) (K : G.T → Option β) : Option β := match P.underlying src, P.underlying dst, valOf G a with
  | some (.int _), some (.int k), some (.int _ n) => K (pval G (.int k (k.wrap n)))
  | some .string, some .string, some (.string s) => K (pval G (.string s))
  | _, _, _ => none
def nilCheckK (a : G.T) (K : G.T → Option β) : Option β := match a with
  | .c (.ptr o off) => K (.c (.ptr o off))
  | .c (.rp cells) => K (.c (.rp cells))
  | .c (.ep u o i j) => K (.c (.ep u o i j))
  | .c (.clo f caps) => K (.c (.clo f caps))
  | _ => none
def boundI (x : Option G.T) (d : Int) : Option Int := match x with
  | none => some d
  | some x => match valOf G x with
    | some (.int _ n) => some n
    | _ => none
def sliceK (P : Program) (t : TypeId) (a : G.T) (lo hi : Option G.T) (K : G.T → Option β) : Option β := match P.underlying t, a with
  | some .string, .c (.pv (.val (.string s))) => match boundI G lo 0, boundI G hi s.size with
    | some l, some h => if 0 ≤ l ∧ l ≤ h ∧ h ≤ s.size then K (pval G (.string (s.extract l.toNat h.toNat))) else none
    | _, _ => none
  | some (.slice _), .c (.pv (.sl u xs)) => match G.elt t, boundI G lo 0, boundI G hi xs.length with
    | some v, some l, some h => if eqU G u v then (if 0 ≤ l ∧ l ≤ h ∧ h ≤ xs.length then K (.c (.pv (.sl u ((xs.take h.toNat).drop l.toNat)))) else none) else none
    | _, _, _ => none
  | _, _ => none

section
variable {G} {w : World} {R : Nat → Prop} {n : Nat} {m : Nat → Value} {r : β}
theorem valOf_rep {a : G.T} {v va : Value} (h : valOf G a = some v) (ha : RepT G w R n m a va) : va = v ∧ v.oneCell' = true := by
  unfold valOf at h
  split at h
  · cases h
    cases ha with
    | val _ h => exact ⟨rfl, h⟩
  · cases h
theorem RepT_val {v : Value} (h : v.oneCell' = true) : RepT G w R n m (pval G v) v := RepP.val v h

theorem loadK_ok {N : Nat} {hp : G.Hp} {t : TypeId} {a : G.T} {va : Value} {K : G.T → Option β} (hok : G.Ok) (hh : HRel G N hp m w) (ha : RepT G w (Rof G hp m w) hp.length m a va)
    (h : loadK G hp t a K = some r) : ∃ v x, (∃ b, b < w.heap.size ∧ LdAt G hp m w a b ∧ ∀ w', w'.heap[b]? = w.heap[b]? → (Instr.loadAt t va).run P w' = .ok v w') ∧ RepT G w (Rof G hp m w) hp.length m x v ∧ K x = some r := by
  unfold loadK at h
  split at h
  · rename_i s hs
    obtain ⟨b, off, cs, vs, rfl, hbs, h1, h2, h3⟩ := cellsK_ok hok hh ha h
    split at h3
    · rename_i x hx
      obtain ⟨v, h4, h5⟩ := loadVar_ok (P := P) hs h1 h2 hx
      exact ⟨v, x, ⟨b, hbs.1, hbs.2, fun w' hw => by simp [Instr.loadAt, Instr.sureAddr, h4 w' (fun j => cell_same hw)]⟩, h5, h3⟩
    · cases h3
  · cases h

theorem fieldAddrK_ok {s : TypeId} {f : Nat} {a : G.T} {va : Value} {K : G.T → Option β} (ha : RepT G w R n m a va) (h : fieldAddrK G s a f K = some r) :
    ∃ v x, (∀ w, (Instr.fieldAt s va f).run P w = .ok v w) ∧ RepT G w R n m x v ∧ K x = some r := by
  unfold fieldAddrK at h
  split at h
  · rename_i k hk
    have hrun : ∀ b off w, (Instr.fieldAt s (.pointer (some ⟨b, off, none⟩)) f).run P w = .ok (.pointer (some ⟨b, off + k, none⟩)) w := by
      intro b off w
      unfold fieldOff at hk
      split at hk
      · rename_i fs hs
        split at hk
        · rename_i fl hf
          split at hk
          · rename_i i hi
            split at hk
            · cases hk
            · rename_i hne
              cases hk
              have hz : i.size ≠ 0 := fun e => hne e
              simp [Instr.fieldAt, run_underlying hs, hf, Instr.sureAddr, fieldPlace, sizeOf, typeInfo, hi, hz, Addr.add_lit]
          · cases hk
        · cases hk
      · cases hk
    split at h
    · rename_i o off
      obtain ⟨hl, b, e1, rfl⟩ := ha
      refine ⟨_, _, hrun b off, ?_, h⟩
      exact ⟨hl, b, e1, rfl⟩
    · rename_i cells
      obtain ⟨b, off, rfl, hb, hc⟩ := ha
      refine ⟨_, _, hrun b off, ?_, h⟩
      refine ⟨b, off + k, rfl, hb, fun j p hj => ?_⟩
      rw [List.getElem?_drop] at hj
      obtain ⟨cv, h1, h2⟩ := hc _ p hj
      exact ⟨cv, by rw [Nat.add_assoc]; exact h1, h2⟩
    · rename_i u o i j
      obtain ⟨hl, b, q, cap, e1, e2, rfl⟩ := ha
      refine ⟨_, _, hrun b _, ?_, h⟩
      exact ⟨hl, b, q, cap, e1, e2, by rw [Nat.add_assoc]⟩
    · cases h
  · cases h

theorem indexAddrK_ok {N : Nat} {hp : G.Hp} {t : TypeId} {a i : G.T} {va vi : Value} {K : G.T → Option β} (hok : G.Ok) (hh : HRel G N hp m w)
    (ha : RepT G w (Rof G hp m w) hp.length m a va) (hi : RepT G w (Rof G hp m w) hp.length m i vi) (h : indexAddrK G hp t a i K = some r) :
    ∃ v x, (∀ w, (Instr.indexAt t va vi).run P w = .ok v w) ∧ RepT G w (Rof G hp m w) hp.length m x v ∧ K x = some r := by
  unfold indexAddrK at h
  split at h
  · rename_i v k z hv
    obtain rfl : vi = .int k z := by
      cases hi with
      | val _ _ => rfl
    have hu := hok.elt t v hv
    obtain ⟨inf, zz, hinf, _, hsz, _⟩ := hok.info v
    have hrun : ∀ (b off len cap : Nat), 0 ≤ z → z < len → ∀ w, (Instr.indexAt t (.slice (some ⟨b, off, none⟩) len cap) (.int k z)).run P w = .ok (.pointer (some ⟨b, off + z.toNat * G.sz v, none⟩)) w := by
      intro b off len cap h0 h1 w
      simp [Instr.indexAt, asIntOf, run_underlying hu, h0, h1, sizeOf, typeInfo, hinf, hsz, Addr.add_lit]
    split at h
    · rename_i u l
      split at h
      · rename_i heq
        obtain rfl := eqU_of heq
        rw [Option.bind_eq_some_iff] at h
        obtain ⟨x, hx, h⟩ := h
        obtain ⟨h0, h1, h2⟩ := idx_some hx
        cases ha with
        | sl _ _ A b off cap c hcap ha hc hr =>
          have hp : 0 < l.length := by omega
          obtain ⟨rfl, hb⟩ := ha hp
          refine ⟨_, _, hrun b off _ cap h0 h2, ?_, h⟩
          exact ⟨b, _, rfl, hb, fun j p hj => ⟨_, hc _ x j p h1 hj, hr _ x j p h1 hj⟩⟩
      · cases h
    · rename_i o
      split at h
      · rename_i lk u l ho
        split at h
        · rename_i heq
          obtain rfl := eqU_of heq
          rw [Option.bind_eq_some_iff] at h
          obtain ⟨x, hx, h⟩ := h
          obtain ⟨h0, h1, h2⟩ := idx_some hx
          obtain ⟨xs, h3, _⟩ := hh.obj o _ ho
          obtain ⟨hl, rfl, _⟩ := ha
          rcases h3.2 with ⟨_, e⟩ | ⟨g, cap, cur, e, _⟩
          · rw [e] at h2; omega
          · rw [e]
            refine ⟨_, _, hrun g 0 _ cap h0 h2, ?_, h⟩
            exact ⟨hl, g, l.length, cap, e, by omega, by simp⟩
        · cases h
      · cases h
    · cases h
  · cases h
theorem indexK_ok {t : TypeId} {a i : G.T} {va vi : Value} {K : G.T → Option β} (ha : RepT G w R n m a va) (hi : RepT G w R n m i vi) (h : indexK G P t a i K = some r) :
    ∃ v x, (∀ w, (Instr.index t va vi).run P w = .ok v w) ∧ RepT G w R n m x v ∧ K x = some r := by
  unfold indexK at h
  split at h
  · rename_i s k z hu ha' hi'
    obtain ⟨rfl, _⟩ := valOf_rep ha' ha
    obtain ⟨rfl, _⟩ := valOf_rep hi' hi
    rw [Option.bind_eq_some_iff] at h
    obtain ⟨x, hx, h⟩ := h
    unfold idxB at hx
    exact ⟨_, _, fun w => by simp only [Instr.index, Sem.run_bind, asIntOf, Sem.run_pure, Result.andThen_ok, run_underlying hu, hx], RepT_val rfl, h⟩
  · cases h
theorem extractK_ok {i : Nat} {d : G.D} {va : Value} {K : G.T → Option β} (ha : RepD G w R n m d va) (h : extractK G d i K = some r) :
    ∃ v x, (∀ w, (Instr.extract va i).run P w = .ok v w) ∧ RepT G w R n m x v ∧ K x = some r := by
  unfold extractK at h
  split at h
  · split at h
    · rename_i x hx
      obtain ⟨vs, rfl, _, hv⟩ := ha
      obtain ⟨v, h1, h2⟩ := hv i x hx
      exact ⟨v, x, fun w => by simp [Instr.extract, h1], h2, h⟩
    · cases h
  · cases h
theorem part_ok {t : TypeId} {s : Bool × Nat} (hs : shapeP P t = some s) {off : Nat} {cs : List G.C} {vs : List Value} {x : G.T} (hr : RepL G w R n m cs vs)
    (ht : takeT G s (cs.drop off) = some x) : ∃ v, (∀ w, (part t vs.toArray off).run P w = .ok v w) ∧ RepT G w R n m x v := by
  obtain ⟨d, i, h1, h2, rfl⟩ := shapeP_some hs
  unfold takeT at ht
  unfold part
  simp only [Sem.run_bind, run_isAgg h1, Result.andThen_ok]
  cases hd : isAggD d with
  | true =>
    simp only [hd] at ht
    split at ht
    · cases ht
      refine ⟨.agg ((vs.drop off).take i.size).toArray, ?_, _, rfl, (hr.drop off).take _⟩
      intro w
      simp [sizeOf, typeInfo, h2]
    · cases ht
  | false =>
    simp only [hd] at ht
    split at ht
    · rename_i c cs' hcs
      cases ht
      have : (cs.drop off)[0]? = some c := by rw [hcs]; rfl
      obtain ⟨v, h3, h4⟩ := (hr.drop off).2 0 c this
      refine ⟨v, ?_, h4⟩
      rw [List.getElem?_drop, Nat.add_zero] at h3
      intro w
      simp [h3]
    · cases ht
theorem fieldK_ok {t : TypeId} {f : Nat} {a : G.T} {va : Value} {K : G.T → Option β} (ha : RepT G w R n m a va) (h : fieldK G P t a f K = some r) :
    ∃ v x, (∀ w, (Instr.field t va f).run P w = .ok v w) ∧ RepT G w R n m x v ∧ K x = some r := by
  unfold fieldK at h
  split at h
  · rename_i fs cs hu
    split at h
    · rename_i fl hf
      split at h
      · rename_i s hs
        split at h
        · rename_i x hx
          obtain ⟨vs, rfl, hl⟩ := ha
          obtain ⟨v, h1, h2⟩ := part_ok (P := P) hs hl hx
          exact ⟨v, x, fun w => by simp [Instr.field, run_underlying hu, hf, asAgg, h1], h2, h⟩
        · cases h
      · cases h
    · cases h
  · cases h
theorem lenOfT_ok {N : Nat} {hp : G.Hp} {a : G.T} {va : Value} {k : Nat} (hh : HRel G N hp m w) (ha : RepT G w (Rof G hp m w) hp.length m a va) (h : lenOfT G hp a = some k) :
    ∃ A cap, va = .slice A k cap := by
  unfold lenOfT at h
  split at h
  · cases h
    cases ha with
    | sl _ _ A b off cap c hcap ha hc hr => exact ⟨A, cap, rfl⟩
  · cases h
    cases ha with
    | val _ _ => exact ⟨_, _, rfl⟩
  · rename_i o
    split at h
    · rename_i lk u l ho
      cases h
      obtain ⟨xs, h3, _⟩ := hh.obj o _ ho
      obtain ⟨_, rfl, _⟩ := ha
      rcases h3.2 with ⟨e, e'⟩ | ⟨g, cap, cur, e, _⟩
      · rw [e, e']; exact ⟨_, _, rfl⟩
      · rw [e]; exact ⟨_, _, rfl⟩
    · cases h
  · cases h
theorem lenK_ok {N : Nat} {hp : G.Hp} {t ty : TypeId} {a : G.T} {va : Value} {K : G.T → Option β} (hh : HRel G N hp m w) (ha : RepT G w (Rof G hp m w) hp.length m a va) (h : lenK G P hp t a K = some r) :
    ∃ v x, (∀ w, (Builtin.len_ #[t] ty #[va]).run P w = .ok v w) ∧ RepT G w (Rof G hp m w) hp.length m x v ∧ K x = some r := by
  unfold lenK at h
  split at h
  · rename_i hu
    split at h
    · rename_i s hs
      obtain ⟨rfl, _⟩ := valOf_rep hs ha
      exact ⟨_, _, fun w => by simp [Builtin.len_, run_underlying hu, goInt], RepT_val rfl, h⟩
    · cases h
  · rename_i e hu
    split at h
    · rename_i k hk
      obtain ⟨A, cap, rfl⟩ := lenOfT_ok hh ha hk
      exact ⟨_, _, fun w => by simp [Builtin.len_, run_underlying hu, goInt], RepT_val rfl, h⟩
    · cases h
  · cases h
theorem convertK_ok {s t : TypeId} {a : G.T} {va : Value} {K : G.T → Option β} (ha : RepT G w R n m a va) (h : convertK G P s t a K = some r) :
    ∃ v x, (∀ w, (convert s t va).run P w = .ok v w) ∧ RepT G w R n m x v ∧ K x = some r := by
  unfold convertK at h
  split at h
  · rename_i k1 k k2 z h1 h2 h3
    obtain ⟨rfl, _⟩ := valOf_rep h3 ha
    exact ⟨_, _, fun w => by simp [convert, run_underlying h1, run_underlying h2, Conv.intToInt], RepT_val rfl, h⟩
  · rename_i z h1 h2 h3
    obtain ⟨rfl, _⟩ := valOf_rep h3 ha
    exact ⟨_, _, fun w => by simp [convert, run_underlying h1, run_underlying h2], RepT_val rfl, h⟩
  · cases h
end
end Go.Proofs.Ytmdghocpelkcoaa
