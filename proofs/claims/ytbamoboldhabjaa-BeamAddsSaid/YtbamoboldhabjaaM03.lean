/- Joined by merge.py: Sg. -/
import Derived.Test.YtbamoboldhabjaaM02
import Derived.RangeFuncBox
import Derived.RangeFuncLeaves
import Derived.Shelf.Abstract
import Derived.WalkKit
import Derived.OwnWalkIn
import Derived.TacticsInMore
import Derived.LoopNIn
import Derived.LoopIn
import Derived.KernelRfl
import Derived.Test.YtbamoboldhabjaaChecked
/- The types of the data: structures, and their reading as rows of cells. Printed by sg.py. -/
namespace Go.Proofs.Ytbamoboldhabjaa
open Go.RowKit
structure TLoad where
 at_ : Int
 weight : Int
structure TBeam where
 name : ByteArray
 length : Int
 supports : List Int
 loads : List TLoad
 even : Int
structure TFrac where
 num : Int
 den : Int
structure TBig where
 neg : Bool
 d : List Int
structure TExact where
 n : TBig
 d : TBig
structure Tnumber where
 neg : Bool
 words : List Int
structure Texact where
 n : Tnumber
 d : Tnumber
structure Twide where
 hi : Int
 lo : Int
structure TU where
 h : Int
 l : Int
structure TAr138 where
 e0 : Int
 e1 : Int
structure TAr139 where
 e0 : Tnumber
 e1 : Tnumber
inductive U where
 | int
 | int1
 | bool
 | u8
 | str
 | l_int1
 | Load
 | l_Load
 | Beam
 | Frac
 | l_Frac
 | Errno
 | Big
 | Exact
 | l_Exact
 | u32
 | l_u32
 | number
 | exact
 | l_exact
 | u64
 | wide
 | U
 | ar138
 | ar139
 | l_l_int1
 | u641
 deriving DecidableEq
@[reducible] def El : U → Type
 | .int => Int
 | .int1 => Int
 | .bool => Bool
 | .u8 => Int
 | .str => ByteArray
 | .l_int1 => List Int
 | .Load => TLoad
 | .l_Load => List TLoad
 | .Beam => TBeam
 | .Frac => TFrac
 | .l_Frac => List TFrac
 | .Errno => Int
 | .Big => TBig
 | .Exact => TExact
 | .l_Exact => List TExact
 | .u32 => Int
 | .l_u32 => List Int
 | .number => Tnumber
 | .exact => Texact
 | .l_exact => List Texact
 | .u64 => Int
 | .wide => Twide
 | .U => TU
 | .ar138 => TAr138
 | .ar139 => TAr139
 | .l_l_int1 => List (List Int)
 | .u641 => Int
abbrev PP := PV U El
def gInt (k : IntKind) : PP → Option Int
 | .val (.int k' n) => if k' = k then some n else none
 | _ => none
def gBool : PP → Option Bool
 | .val (.bool b) => some b
 | _ => none
def gStr : PP → Option ByteArray
 | .val (.string b) => some b
 | _ => none
def gSl (u : U) : PP → Option (List (El u))
 | .sl v l => @dite _ (v = u) (decEq v u) (fun h => some (h ▸ l)) (fun _ => none)
 | .val (.slice none 0 0) => some []
 | _ => none
def rowU : (u : U) → El u → List PP
 | .int, x => [.val (.int .i64 x)]
 | .int1, x => [.val (.int .i64 x)]
 | .bool, x => [.val (.bool x)]
 | .u8, x => [.val (.int .u8 x)]
 | .str, x => [.val (.string x)]
 | .l_int1, x => [.sl .int1 x]
 | .Load, x => [.val (.int .i64 x.at_), .val (.int .i64 x.weight)]
 | .l_Load, x => [.sl .Load x]
 | .Beam, x => [.val (.string x.name), .val (.int .i64 x.length), .sl .int1 x.supports, .sl .Load x.loads, .val (.int .i64 x.even)]
 | .Frac, x => [.val (.int .i64 x.num), .val (.int .i64 x.den)]
 | .l_Frac, x => [.sl .Frac x]
 | .Errno, x => [.val (.int .i64 x)]
 | .Big, x => [.val (.bool x.neg), .sl .int1 x.d]
 | .Exact, x => [.val (.bool x.n.neg), .sl .int1 x.n.d, .val (.bool x.d.neg), .sl .int1 x.d.d]
 | .l_Exact, x => [.sl .Exact x]
 | .u32, x => [.val (.int .u32 x)]
 | .l_u32, x => [.sl .u32 x]
 | .number, x => [.val (.bool x.neg), .sl .u32 x.words]
 | .exact, x => [.val (.bool x.n.neg), .sl .u32 x.n.words, .val (.bool x.d.neg), .sl .u32 x.d.words]
 | .l_exact, x => [.sl .exact x]
 | .u64, x => [.val (.int .u64 x)]
 | .wide, x => [.val (.int .u64 x.hi), .val (.int .u64 x.lo)]
 | .U, x => [.val (.int .u64 x.h), .val (.int .u64 x.l)]
 | .ar138, x => [.val (.int .u64 x.e0), .val (.int .u64 x.e1)]
 | .ar139, x => [.val (.bool x.e0.neg), .sl .u32 x.e0.words, .val (.bool x.e1.neg), .sl .u32 x.e1.words]
 | .l_l_int1, x => [.sl .l_int1 x]
 | .u641, x => [.val (.int .u64 x)]
def unrowU : (u : U) → List PP → Option (El u)
 | .int, ps => match ps with
  | [p0] => (gInt .i64 p0).bind fun x0 => some x0
  | _ => none
 | .int1, ps => match ps with
  | [p0] => (gInt .i64 p0).bind fun x0 => some x0
  | _ => none
 | .bool, ps => match ps with
  | [p0] => (gBool p0).bind fun x0 => some x0
  | _ => none
 | .u8, ps => match ps with
  | [p0] => (gInt .u8 p0).bind fun x0 => some x0
  | _ => none
 | .str, ps => match ps with
  | [p0] => (gStr p0).bind fun x0 => some x0
  | _ => none
 | .l_int1, ps => match ps with
  | [p0] => (gSl .int1 p0).bind fun x0 => some x0
  | _ => none
 | .Load, ps => match ps with
  | [p0, p1] => (gInt .i64 p0).bind fun x0 => (gInt .i64 p1).bind fun x1 => some ⟨x0, x1⟩
  | _ => none
 | .l_Load, ps => match ps with
  | [p0] => (gSl .Load p0).bind fun x0 => some x0
  | _ => none
 | .Beam, ps => match ps with
  | [p0, p1, p2, p3, p4] => (gStr p0).bind fun x0 => (gInt .i64 p1).bind fun x1 => (gSl .int1 p2).bind fun x2 => (gSl .Load p3).bind fun x3 => (gInt .i64 p4).bind fun x4 => some ⟨x0, x1, x2, x3, x4⟩
  | _ => none
 | .Frac, ps => match ps with
  | [p0, p1] => (gInt .i64 p0).bind fun x0 => (gInt .i64 p1).bind fun x1 => some ⟨x0, x1⟩
  | _ => none
 | .l_Frac, ps => match ps with
  | [p0] => (gSl .Frac p0).bind fun x0 => some x0
  | _ => none
 | .Errno, ps => match ps with
  | [p0] => (gInt .i64 p0).bind fun x0 => some x0
  | _ => none
 | .Big, ps => match ps with
  | [p0, p1] => (gBool p0).bind fun x0 => (gSl .int1 p1).bind fun x1 => some ⟨x0, x1⟩
  | _ => none
 | .Exact, ps => match ps with
  | [p0, p1, p2, p3] => (gBool p0).bind fun x0 => (gSl .int1 p1).bind fun x1 => (gBool p2).bind fun x2 => (gSl .int1 p3).bind fun x3 => some ⟨⟨x0, x1⟩, ⟨x2, x3⟩⟩
  | _ => none
 | .l_Exact, ps => match ps with
  | [p0] => (gSl .Exact p0).bind fun x0 => some x0
  | _ => none
 | .u32, ps => match ps with
  | [p0] => (gInt .u32 p0).bind fun x0 => some x0
  | _ => none
 | .l_u32, ps => match ps with
  | [p0] => (gSl .u32 p0).bind fun x0 => some x0
  | _ => none
 | .number, ps => match ps with
  | [p0, p1] => (gBool p0).bind fun x0 => (gSl .u32 p1).bind fun x1 => some ⟨x0, x1⟩
  | _ => none
 | .exact, ps => match ps with
  | [p0, p1, p2, p3] => (gBool p0).bind fun x0 => (gSl .u32 p1).bind fun x1 => (gBool p2).bind fun x2 => (gSl .u32 p3).bind fun x3 => some ⟨⟨x0, x1⟩, ⟨x2, x3⟩⟩
  | _ => none
 | .l_exact, ps => match ps with
  | [p0] => (gSl .exact p0).bind fun x0 => some x0
  | _ => none
 | .u64, ps => match ps with
  | [p0] => (gInt .u64 p0).bind fun x0 => some x0
  | _ => none
 | .wide, ps => match ps with
  | [p0, p1] => (gInt .u64 p0).bind fun x0 => (gInt .u64 p1).bind fun x1 => some ⟨x0, x1⟩
  | _ => none
 | .U, ps => match ps with
  | [p0, p1] => (gInt .u64 p0).bind fun x0 => (gInt .u64 p1).bind fun x1 => some ⟨x0, x1⟩
  | _ => none
 | .ar138, ps => match ps with
  | [p0, p1] => (gInt .u64 p0).bind fun x0 => (gInt .u64 p1).bind fun x1 => some ⟨x0, x1⟩
  | _ => none
 | .ar139, ps => match ps with
  | [p0, p1, p2, p3] => (gBool p0).bind fun x0 => (gSl .u32 p1).bind fun x1 => (gBool p2).bind fun x2 => (gSl .u32 p3).bind fun x3 => some ⟨⟨x0, x1⟩, ⟨x2, x3⟩⟩
  | _ => none
 | .l_l_int1, ps => match ps with
  | [p0] => (gSl .l_int1 p0).bind fun x0 => some x0
  | _ => none
 | .u641, ps => match ps with
  | [p0] => (gInt .u64 p0).bind fun x0 => some x0
  | _ => none
def zeroU : (u : U) → El u
 | .int => 0
 | .int1 => 0
 | .bool => false
 | .u8 => 0
 | .str => ByteArray.empty
 | .l_int1 => []
 | .Load => ⟨0, 0⟩
 | .l_Load => []
 | .Beam => ⟨ByteArray.empty, 0, [], [], 0⟩
 | .Frac => ⟨0, 0⟩
 | .l_Frac => []
 | .Errno => 0
 | .Big => ⟨false, []⟩
 | .Exact => ⟨⟨false, []⟩, ⟨false, []⟩⟩
 | .l_Exact => []
 | .u32 => 0
 | .l_u32 => []
 | .number => ⟨false, []⟩
 | .exact => ⟨⟨false, []⟩, ⟨false, []⟩⟩
 | .l_exact => []
 | .u64 => 0
 | .wide => ⟨0, 0⟩
 | .U => ⟨0, 0⟩
 | .ar138 => ⟨0, 0⟩
 | .ar139 => ⟨⟨false, []⟩, ⟨false, []⟩⟩
 | .l_l_int1 => []
 | .u641 => 0
def tyU : U → TypeId
 | .int => 2
 | .int1 => 3
 | .bool => 4
 | .u8 => 5
 | .str => 9
 | .l_int1 => 22
 | .Load => 63
 | .l_Load => 23
 | .Beam => 25
 | .Frac => 39
 | .l_Frac => 28
 | .Errno => 29
 | .Big => 55
 | .Exact => 57
 | .l_Exact => 35
 | .u32 => 49
 | .l_u32 => 86
 | .number => 88
 | .exact => 90
 | .l_exact => 70
 | .u64 => 102
 | .wide => 105
 | .U => 115
 | .ar138 => 138
 | .ar139 => 139
 | .l_l_int1 => 149
 | .u641 => 152
def szU : U → Nat
 | .int => 1
 | .int1 => 1
 | .bool => 1
 | .u8 => 1
 | .str => 1
 | .l_int1 => 1
 | .Load => 2
 | .l_Load => 1
 | .Beam => 5
 | .Frac => 2
 | .l_Frac => 1
 | .Errno => 1
 | .Big => 2
 | .Exact => 4
 | .l_Exact => 1
 | .u32 => 1
 | .l_u32 => 1
 | .number => 2
 | .exact => 4
 | .l_exact => 1
 | .u64 => 1
 | .wide => 2
 | .U => 2
 | .ar138 => 2
 | .ar139 => 4
 | .l_l_int1 => 1
 | .u641 => 1
def agU : U → Bool
 | .int => false
 | .int1 => false
 | .bool => false
 | .u8 => false
 | .str => false
 | .l_int1 => false
 | .Load => true
 | .l_Load => false
 | .Beam => true
 | .Frac => true
 | .l_Frac => false
 | .Errno => false
 | .Big => true
 | .Exact => true
 | .l_Exact => false
 | .u32 => false
 | .l_u32 => false
 | .number => true
 | .exact => true
 | .l_exact => false
 | .u64 => false
 | .wide => true
 | .U => true
 | .ar138 => true
 | .ar139 => true
 | .l_l_int1 => false
 | .u641 => false
def flatU : U → Bool
 | .int => true
 | .int1 => true
 | .bool => true
 | .u8 => true
 | .str => true
 | .l_int1 => false
 | .Load => true
 | .l_Load => false
 | .Beam => false
 | .Frac => true
 | .l_Frac => false
 | .Errno => true
 | .Big => false
 | .Exact => false
 | .l_Exact => false
 | .u32 => true
 | .l_u32 => false
 | .number => false
 | .exact => false
 | .l_exact => false
 | .u64 => true
 | .wide => true
 | .U => true
 | .ar138 => true
 | .ar139 => false
 | .l_l_int1 => false
 | .u641 => true
def eltU : TypeId → Option U
 | 22 => some .int1
 | 23 => some .Load
 | 28 => some .Frac
 | 35 => some .Exact
 | 86 => some .u32
 | 70 => some .exact
 | 149 => some .l_int1
 | _ => none
def extF : FuncId → Option Ext
 | 110 => some .add64
 | 111 => some .sub64
 | _ => none
def G : Sg Try.prog := { U := U, deq := inferInstance, El := El, row := rowU, unrow := unrowU, zero := zeroU, ty := tyU, sz := szU, ag := agU, elt := eltU, flat := flatU, byref := fun f => ([27] : List Nat).contains f, fz := fun f => ([18, 19, 30, 31, 38, 40, 47, 48, 49, 50, 51, 52, 53, 54, 55, 56, 60, 61, 62, 63, 64, 65, 68, 70, 72, 84, 85, 86, 87, 93, 95, 96, 97, 98, 99, 101, 102, 103, 104, 105, 115, 116, 120, 121, 122, 123, 125, 126, 127, 128, 130, 137] : List Nat).contains f, ext := extF, seqf := fun f => if f = 131 then some (true, U.int1) else none, rowf := fun f => none }
section
set_option linter.unusedVariables false
open Go.Shelf
set_option maxRecDepth 100000 in
set_option maxHeartbeats 2000000 in
theorem back_131 (w0 : World) (B g off cap len : Nat) (A : Option Addr) (z : Nat → Int) (hlen : len ≤ 16777216) (hB : w0.cell? ⟨B, 0, none⟩ = some (.slice A len cap)) (hA : 0 < len → A = some ⟨g, off, none⟩)
  (hc : ∀ k, k < len → w0.cell? ⟨g, off + k, none⟩ = some (.int .i64 (z k))) : SeqRun Try.prog 131 #[.pointer (some ⟨B, 0, none⟩)] len (fun k => #[.int .i64 (len - 1 - k : Int), .int .i64 (z (len - 1 - k))]) [B, g] w0 := by
 intro l J W hK hG hY h0
 have hKB : ∀ k W, J k W → W.cell? ⟨B, 0, none⟩ = some (.slice A len cap) := fun k W h => (World.cell?_of_block (hK k W h B (by simp))).trans hB
 have hKg : ∀ k W, J k W → ∀ i, i < len → W.cell? ⟨g, off + i, none⟩ = some (.int .i64 (z i)) := fun k W h i hi => (World.cell?_of_block (hK k W h g (by simp))).trans (hc i hi)
 have hB0 := hKB 0 W h0
 refine callsIn_of_wp Try.func131 rfl trivial ?_ rfl
 simp only [Try.ntmps131, List.size_toArray, List.length_cons, List.length_nil, Nat.reduceAdd, Nat.reduceSub, Array.replicate_succ, Array.replicate_zero, List.push_toArray, List.append_toArray, List.nil_append, List.cons_append]
 gi_wp2
 gi_loopw [3] (fun i wr => ∃ k : Nat, k ≤ len ∧ i = .int .i64 (len - 1 - k : Int) ∧ J k wr)
  (fun i _ => (intOf i + 1).toNat)
 case atStart => exact ⟨0, Nat.zero_le _, by simp, h0⟩
 case round =>
  obtain ⟨k, hk, rfl, hJ⟩ := hrel
  by_cases hlt : k < len
  ·obtain rfl : A = some ⟨g, off, none⟩ := hA (by omega)
   obtain ⟨fn, tmps, assign, body, hy, hR⟩ := hY k wr hJ hlt
   have hBx := hKB k wr hJ
   have hcx := hKg k wr hJ (len - 1 - k) (by omega)
   have hge : (0 : Int) ≤ len - 1 - k := by omega
   have hnat : ((len : Int) - 1 - k).toNat = len - 1 - k := by omega
   gi_wp2
   refine hR.mono ?_
   rintro e W3 ⟨rfl, hJ3⟩
   gi_wp2
   go_roundw
   case rel => exact ⟨k + 1, by omega, by congr 1; push_cast; omega, hJ3⟩
   case measure => simp [intOf]; omega
  ·obtain rfl : k = len := by omega
   gi_wp2
   go_end0
   exact ⟨⟨_, rfl⟩, hJ⟩
end
theorem seqv_131 (w : World) (B g off cap : Nat) (A : Option Addr) (l : List Int) (hlen : l.length ≤ 16777216) (hB : w.cell? ⟨B, 0, none⟩ = some (.slice A l.length cap)) (hA : 0 < l.length → A = some ⟨g, off, none⟩)
  (hc : ∀ (k : Nat) (x : Int), l[k]? = some x → w.cell? ⟨g, off + k, none⟩ = some (.int .i64 x)) :
  SeqRun Try.prog 131 #[.pointer (some ⟨B, 0, none⟩)] l.length (fun k => match (ordS true l)[k]? with
   | some p => #[.int .i64 (p.1 : Nat), .int .i64 p.2]
   | none => #[]) [B, g] w := by
 refine (back_131 w B g off cap l.length A (fun k => l[k]?.getD 0) hlen hB hA fun k hk => ?_).congr fun k hk => ?_
 ·have h := List.getElem?_eq_getElem hk
  rw [hc k _ h, h]
  rfl
 ·rw [ordS_back hk]
  have h2 : l.length - 1 - k < l.length := by omega
  have e : ((l.length - 1 - k : Nat) : Int) = (l.length : Int) - 1 - k := by omega
  simp only [List.getElem?_eq_getElem h2, Option.getD_some]
  rw [← e]
theorem seq_131 : SeqOk G 131 true .int1 := by
 refine ⟨rfl, ⟨_, Try.func131, by kernel_rfl, by kernel_rfl⟩, fun w B g off cap A l hlen hB hA hc => ?_⟩
 refine (seqv_131 w B g off cap A l hlen hB hA fun k x hk => ?_).congr fun k hk => ?_
 ·obtain ⟨v, h1, h2⟩ := hc k x 0 (.val (.int .i64 x)) hk rfl
  cases h1
  have hsz : G.sz .int1 = 1 := by kernel_rfl
  rw [hsz] at h2
  simpa using h2
 ·unfold argV
  rw [ordS_back (α := G.El .int1) (l := l) hk]
  have h2 := @ordS_back Int l k hk
  rw [h2]
  rfl
theorem gInt_w {k : IntKind} {p : PP} {n : Int} (h : gInt k p = some n) : Weak G p (.val (.int k n)) := by
 unfold gInt at h
 split at h
 ·split at h
  ·rename_i hk; subst hk; cases h; exact .inl rfl
  ·cases h
 ·cases h
theorem gBool_w {p : PP} {n : Bool} (h : gBool p = some n) : Weak G p (.val (.bool n)) := by
 unfold gBool at h
 split at h
 ·cases h; exact .inl rfl
 ·cases h
theorem gStr_w {p : PP} {n : ByteArray} (h : gStr p = some n) : Weak G p (.val (.string n)) := by
 unfold gStr at h
 split at h
 ·cases h; exact .inl rfl
 ·cases h
theorem gSl_w {u : U} {p : PP} {l : List (El u)} (h : gSl u p = some l) : Weak G p (.sl u l) := by
 unfold gSl at h
 split at h
 ·split at h
  ·rename_i hv; subst hv; cases h; exact .inl rfl
  ·cases h
 ·cases h; exact .inr ⟨rfl, u, rfl⟩
 ·cases h
inductive Wk : List PP → List PP → Prop where
 | nil : Wk [] []
 | cons {p q ps qs} (h : Weak G p q) (t : Wk ps qs) : Wk (p :: ps) (q :: qs)
theorem Wk.get {ps qs : List PP} (h : Wk ps qs) : ps.length = qs.length ∧ ∀ (j : Nat) (p : PP), ps[j]? = some p → ∃ q, qs[j]? = some q ∧ Weak G p q := by
 induction h with
 | nil => exact ⟨rfl, fun j p hj => by cases hj⟩
 | cons h _ ih =>
  refine ⟨congrArg (· + 1) ih.1, fun j p hj => ?_⟩
  cases j with
  | zero => cases hj; exact ⟨_, rfl, h⟩
  | succ j => exact ih.2 j p hj
theorem row_szU : ∀ u x, (rowU u x).length = szU u := by
 intro u x; cases u <;> rfl
theorem un_int {ps : List PP} {x : El .int} (h : unrowU .int ps = some x) : Wk ps (rowU .int x) := by
 unfold unrowU at h
 simp only at h
 split at h
 ·simp only [Option.bind_eq_some_iff] at h
  obtain ⟨x0, hx0, h⟩ := h
  cases h
  exact .cons (gInt_w hx0) (.nil)
 ·cases h
theorem un_int1 {ps : List PP} {x : El .int1} (h : unrowU .int1 ps = some x) : Wk ps (rowU .int1 x) := by
 unfold unrowU at h
 simp only at h
 split at h
 ·simp only [Option.bind_eq_some_iff] at h
  obtain ⟨x0, hx0, h⟩ := h
  cases h
  exact .cons (gInt_w hx0) (.nil)
 ·cases h
theorem un_bool {ps : List PP} {x : El .bool} (h : unrowU .bool ps = some x) : Wk ps (rowU .bool x) := by
 unfold unrowU at h
 simp only at h
 split at h
 ·simp only [Option.bind_eq_some_iff] at h
  obtain ⟨x0, hx0, h⟩ := h
  cases h
  exact .cons (gBool_w hx0) (.nil)
 ·cases h
theorem un_u8 {ps : List PP} {x : El .u8} (h : unrowU .u8 ps = some x) : Wk ps (rowU .u8 x) := by
 unfold unrowU at h
 simp only at h
 split at h
 ·simp only [Option.bind_eq_some_iff] at h
  obtain ⟨x0, hx0, h⟩ := h
  cases h
  exact .cons (gInt_w hx0) (.nil)
 ·cases h
theorem un_str {ps : List PP} {x : El .str} (h : unrowU .str ps = some x) : Wk ps (rowU .str x) := by
 unfold unrowU at h
 simp only at h
 split at h
 ·simp only [Option.bind_eq_some_iff] at h
  obtain ⟨x0, hx0, h⟩ := h
  cases h
  exact .cons (gStr_w hx0) (.nil)
 ·cases h
theorem un_l_int1 {ps : List PP} {x : El .l_int1} (h : unrowU .l_int1 ps = some x) : Wk ps (rowU .l_int1 x) := by
 unfold unrowU at h
 simp only at h
 split at h
 ·simp only [Option.bind_eq_some_iff] at h
  obtain ⟨x0, hx0, h⟩ := h
  cases h
  exact .cons (gSl_w hx0) (.nil)
 ·cases h
theorem un_Load {ps : List PP} {x : El .Load} (h : unrowU .Load ps = some x) : Wk ps (rowU .Load x) := by
 unfold unrowU at h
 simp only at h
 split at h
 ·simp only [Option.bind_eq_some_iff] at h
  obtain ⟨x0, hx0, x1, hx1, h⟩ := h
  cases h
  exact .cons (gInt_w hx0) (.cons (gInt_w hx1) (.nil))
 ·cases h
theorem un_l_Load {ps : List PP} {x : El .l_Load} (h : unrowU .l_Load ps = some x) : Wk ps (rowU .l_Load x) := by
 unfold unrowU at h
 simp only at h
 split at h
 ·simp only [Option.bind_eq_some_iff] at h
  obtain ⟨x0, hx0, h⟩ := h
  cases h
  exact .cons (gSl_w hx0) (.nil)
 ·cases h
theorem un_Beam {ps : List PP} {x : El .Beam} (h : unrowU .Beam ps = some x) : Wk ps (rowU .Beam x) := by
 unfold unrowU at h
 simp only at h
 split at h
 ·simp only [Option.bind_eq_some_iff] at h
  obtain ⟨x0, hx0, x1, hx1, x2, hx2, x3, hx3, x4, hx4, h⟩ := h
  cases h
  exact .cons (gStr_w hx0) (.cons (gInt_w hx1) (.cons (gSl_w hx2) (.cons (gSl_w hx3) (.cons (gInt_w hx4) (.nil)))))
 ·cases h
theorem un_Frac {ps : List PP} {x : El .Frac} (h : unrowU .Frac ps = some x) : Wk ps (rowU .Frac x) := by
 unfold unrowU at h
 simp only at h
 split at h
 ·simp only [Option.bind_eq_some_iff] at h
  obtain ⟨x0, hx0, x1, hx1, h⟩ := h
  cases h
  exact .cons (gInt_w hx0) (.cons (gInt_w hx1) (.nil))
 ·cases h
theorem un_l_Frac {ps : List PP} {x : El .l_Frac} (h : unrowU .l_Frac ps = some x) : Wk ps (rowU .l_Frac x) := by
 unfold unrowU at h
 simp only at h
 split at h
 ·simp only [Option.bind_eq_some_iff] at h
  obtain ⟨x0, hx0, h⟩ := h
  cases h
  exact .cons (gSl_w hx0) (.nil)
 ·cases h
theorem un_Errno {ps : List PP} {x : El .Errno} (h : unrowU .Errno ps = some x) : Wk ps (rowU .Errno x) := by
 unfold unrowU at h
 simp only at h
 split at h
 ·simp only [Option.bind_eq_some_iff] at h
  obtain ⟨x0, hx0, h⟩ := h
  cases h
  exact .cons (gInt_w hx0) (.nil)
 ·cases h
theorem un_Big {ps : List PP} {x : El .Big} (h : unrowU .Big ps = some x) : Wk ps (rowU .Big x) := by
 unfold unrowU at h
 simp only at h
 split at h
 ·simp only [Option.bind_eq_some_iff] at h
  obtain ⟨x0, hx0, x1, hx1, h⟩ := h
  cases h
  exact .cons (gBool_w hx0) (.cons (gSl_w hx1) (.nil))
 ·cases h
theorem un_Exact {ps : List PP} {x : El .Exact} (h : unrowU .Exact ps = some x) : Wk ps (rowU .Exact x) := by
 unfold unrowU at h
 simp only at h
 split at h
 ·simp only [Option.bind_eq_some_iff] at h
  obtain ⟨x0, hx0, x1, hx1, x2, hx2, x3, hx3, h⟩ := h
  cases h
  exact .cons (gBool_w hx0) (.cons (gSl_w hx1) (.cons (gBool_w hx2) (.cons (gSl_w hx3) (.nil))))
 ·cases h
theorem un_l_Exact {ps : List PP} {x : El .l_Exact} (h : unrowU .l_Exact ps = some x) : Wk ps (rowU .l_Exact x) := by
 unfold unrowU at h
 simp only at h
 split at h
 ·simp only [Option.bind_eq_some_iff] at h
  obtain ⟨x0, hx0, h⟩ := h
  cases h
  exact .cons (gSl_w hx0) (.nil)
 ·cases h
theorem un_u32 {ps : List PP} {x : El .u32} (h : unrowU .u32 ps = some x) : Wk ps (rowU .u32 x) := by
 unfold unrowU at h
 simp only at h
 split at h
 ·simp only [Option.bind_eq_some_iff] at h
  obtain ⟨x0, hx0, h⟩ := h
  cases h
  exact .cons (gInt_w hx0) (.nil)
 ·cases h
theorem un_l_u32 {ps : List PP} {x : El .l_u32} (h : unrowU .l_u32 ps = some x) : Wk ps (rowU .l_u32 x) := by
 unfold unrowU at h
 simp only at h
 split at h
 ·simp only [Option.bind_eq_some_iff] at h
  obtain ⟨x0, hx0, h⟩ := h
  cases h
  exact .cons (gSl_w hx0) (.nil)
 ·cases h
theorem un_number {ps : List PP} {x : El .number} (h : unrowU .number ps = some x) : Wk ps (rowU .number x) := by
 unfold unrowU at h
 simp only at h
 split at h
 ·simp only [Option.bind_eq_some_iff] at h
  obtain ⟨x0, hx0, x1, hx1, h⟩ := h
  cases h
  exact .cons (gBool_w hx0) (.cons (gSl_w hx1) (.nil))
 ·cases h
theorem un_exact {ps : List PP} {x : El .exact} (h : unrowU .exact ps = some x) : Wk ps (rowU .exact x) := by
 unfold unrowU at h
 simp only at h
 split at h
 ·simp only [Option.bind_eq_some_iff] at h
  obtain ⟨x0, hx0, x1, hx1, x2, hx2, x3, hx3, h⟩ := h
  cases h
  exact .cons (gBool_w hx0) (.cons (gSl_w hx1) (.cons (gBool_w hx2) (.cons (gSl_w hx3) (.nil))))
 ·cases h
theorem un_l_exact {ps : List PP} {x : El .l_exact} (h : unrowU .l_exact ps = some x) : Wk ps (rowU .l_exact x) := by
 unfold unrowU at h
 simp only at h
 split at h
 ·simp only [Option.bind_eq_some_iff] at h
  obtain ⟨x0, hx0, h⟩ := h
  cases h
  exact .cons (gSl_w hx0) (.nil)
 ·cases h
theorem un_u64 {ps : List PP} {x : El .u64} (h : unrowU .u64 ps = some x) : Wk ps (rowU .u64 x) := by
 unfold unrowU at h
 simp only at h
 split at h
 ·simp only [Option.bind_eq_some_iff] at h
  obtain ⟨x0, hx0, h⟩ := h
  cases h
  exact .cons (gInt_w hx0) (.nil)
 ·cases h
theorem un_wide {ps : List PP} {x : El .wide} (h : unrowU .wide ps = some x) : Wk ps (rowU .wide x) := by
 unfold unrowU at h
 simp only at h
 split at h
 ·simp only [Option.bind_eq_some_iff] at h
  obtain ⟨x0, hx0, x1, hx1, h⟩ := h
  cases h
  exact .cons (gInt_w hx0) (.cons (gInt_w hx1) (.nil))
 ·cases h
theorem un_U {ps : List PP} {x : El .U} (h : unrowU .U ps = some x) : Wk ps (rowU .U x) := by
 unfold unrowU at h
 simp only at h
 split at h
 ·simp only [Option.bind_eq_some_iff] at h
  obtain ⟨x0, hx0, x1, hx1, h⟩ := h
  cases h
  exact .cons (gInt_w hx0) (.cons (gInt_w hx1) (.nil))
 ·cases h
theorem un_ar138 {ps : List PP} {x : El .ar138} (h : unrowU .ar138 ps = some x) : Wk ps (rowU .ar138 x) := by
 unfold unrowU at h
 simp only at h
 split at h
 ·simp only [Option.bind_eq_some_iff] at h
  obtain ⟨x0, hx0, x1, hx1, h⟩ := h
  cases h
  exact .cons (gInt_w hx0) (.cons (gInt_w hx1) (.nil))
 ·cases h
theorem un_ar139 {ps : List PP} {x : El .ar139} (h : unrowU .ar139 ps = some x) : Wk ps (rowU .ar139 x) := by
 unfold unrowU at h
 simp only at h
 split at h
 ·simp only [Option.bind_eq_some_iff] at h
  obtain ⟨x0, hx0, x1, hx1, x2, hx2, x3, hx3, h⟩ := h
  cases h
  exact .cons (gBool_w hx0) (.cons (gSl_w hx1) (.cons (gBool_w hx2) (.cons (gSl_w hx3) (.nil))))
 ·cases h
theorem un_l_l_int1 {ps : List PP} {x : El .l_l_int1} (h : unrowU .l_l_int1 ps = some x) : Wk ps (rowU .l_l_int1 x) := by
 unfold unrowU at h
 simp only at h
 split at h
 ·simp only [Option.bind_eq_some_iff] at h
  obtain ⟨x0, hx0, h⟩ := h
  cases h
  exact .cons (gSl_w hx0) (.nil)
 ·cases h
theorem un_u641 {ps : List PP} {x : El .u641} (h : unrowU .u641 ps = some x) : Wk ps (rowU .u641 x) := by
 unfold unrowU at h
 simp only at h
 split at h
 ·simp only [Option.bind_eq_some_iff] at h
  obtain ⟨x0, hx0, h⟩ := h
  cases h
  exact .cons (gInt_w hx0) (.nil)
 ·cases h
theorem unrow_w : ∀ (u : U) (ps : List PP) (x : El u), unrowU u ps = some x → Wk ps (rowU u x) := by
 intro u ps x h
 cases u
 ·exact un_int h
 ·exact un_int1 h
 ·exact un_bool h
 ·exact un_u8 h
 ·exact un_str h
 ·exact un_l_int1 h
 ·exact un_Load h
 ·exact un_l_Load h
 ·exact un_Beam h
 ·exact un_Frac h
 ·exact un_l_Frac h
 ·exact un_Errno h
 ·exact un_Big h
 ·exact un_Exact h
 ·exact un_l_Exact h
 ·exact un_u32 h
 ·exact un_l_u32 h
 ·exact un_number h
 ·exact un_exact h
 ·exact un_l_exact h
 ·exact un_u64 h
 ·exact un_wide h
 ·exact un_U h
 ·exact un_ar138 h
 ·exact un_ar139 h
 ·exact un_l_l_int1 h
 ·exact un_u641 h
theorem info_int : (Try.prog.info? 2).map (fun i => (i.zero, i.size, i.bytes)) = some (some (.int .i64 0), 1, 8) := by kernel_rfl
theorem info_int1 : (Try.prog.info? 3).map (fun i => (i.zero, i.size, i.bytes)) = some (some (.int .i64 0), 1, 8) := by kernel_rfl
theorem info_bool : (Try.prog.info? 4).map (fun i => (i.zero, i.size, i.bytes)) = some (some (.bool false), 1, 1) := by kernel_rfl
theorem info_u8 : (Try.prog.info? 5).map (fun i => (i.zero, i.size, i.bytes)) = some (some (.int .u8 0), 1, 1) := by kernel_rfl
theorem info_str : (Try.prog.info? 9).map (fun i => (i.zero, i.size, i.bytes)) = some (some (.string ⟨#[]⟩), 1, 16) := by kernel_rfl
theorem info_l_int1 : (Try.prog.info? 22).map (fun i => (i.zero, i.size, i.bytes)) = some (some (.slice none 0 0), 1, 24) := by kernel_rfl
theorem info_Load : (Try.prog.info? 63).map (fun i => (i.zero, i.size, i.bytes)) = some (some (.agg #[(.int .i64 0), (.int .i64 0)]), 2, 16) := by kernel_rfl
theorem info_l_Load : (Try.prog.info? 23).map (fun i => (i.zero, i.size, i.bytes)) = some (some (.slice none 0 0), 1, 24) := by kernel_rfl
theorem info_Beam : (Try.prog.info? 25).map (fun i => (i.zero, i.size, i.bytes)) = some (some (.agg #[(.string ⟨#[]⟩), (.int .i64 0), (.slice none 0 0), (.slice none 0 0), (.int .i64 0)]), 5, 80) := by kernel_rfl
theorem info_Frac : (Try.prog.info? 39).map (fun i => (i.zero, i.size, i.bytes)) = some (some (.agg #[(.int .i64 0), (.int .i64 0)]), 2, 16) := by kernel_rfl
theorem info_l_Frac : (Try.prog.info? 28).map (fun i => (i.zero, i.size, i.bytes)) = some (some (.slice none 0 0), 1, 24) := by kernel_rfl
theorem info_Errno : (Try.prog.info? 29).map (fun i => (i.zero, i.size, i.bytes)) = some (some (.int .i64 0), 1, 8) := by kernel_rfl
theorem info_Big : (Try.prog.info? 55).map (fun i => (i.zero, i.size, i.bytes)) = some (some (.agg #[(.bool false), (.slice none 0 0)]), 2, 32) := by kernel_rfl
theorem info_Exact : (Try.prog.info? 57).map (fun i => (i.zero, i.size, i.bytes)) = some (some (.agg #[(.bool false), (.slice none 0 0), (.bool false), (.slice none 0 0)]), 4, 64) := by kernel_rfl
theorem info_l_Exact : (Try.prog.info? 35).map (fun i => (i.zero, i.size, i.bytes)) = some (some (.slice none 0 0), 1, 24) := by kernel_rfl
theorem info_u32 : (Try.prog.info? 49).map (fun i => (i.zero, i.size, i.bytes)) = some (some (.int .u32 0), 1, 4) := by kernel_rfl
theorem info_l_u32 : (Try.prog.info? 86).map (fun i => (i.zero, i.size, i.bytes)) = some (some (.slice none 0 0), 1, 24) := by kernel_rfl
theorem info_number : (Try.prog.info? 88).map (fun i => (i.zero, i.size, i.bytes)) = some (some (.agg #[(.bool false), (.slice none 0 0)]), 2, 32) := by kernel_rfl
theorem info_exact : (Try.prog.info? 90).map (fun i => (i.zero, i.size, i.bytes)) = some (some (.agg #[(.bool false), (.slice none 0 0), (.bool false), (.slice none 0 0)]), 4, 64) := by kernel_rfl
theorem info_l_exact : (Try.prog.info? 70).map (fun i => (i.zero, i.size, i.bytes)) = some (some (.slice none 0 0), 1, 24) := by kernel_rfl
theorem info_u64 : (Try.prog.info? 102).map (fun i => (i.zero, i.size, i.bytes)) = some (some (.int .u64 0), 1, 8) := by kernel_rfl
theorem info_wide : (Try.prog.info? 105).map (fun i => (i.zero, i.size, i.bytes)) = some (some (.agg #[(.int .u64 0), (.int .u64 0)]), 2, 16) := by kernel_rfl
theorem info_U : (Try.prog.info? 115).map (fun i => (i.zero, i.size, i.bytes)) = some (some (.agg #[(.int .u64 0), (.int .u64 0)]), 2, 16) := by kernel_rfl
theorem info_ar138 : (Try.prog.info? 138).map (fun i => (i.zero, i.size, i.bytes)) = some (some (.agg #[(.int .u64 0), (.int .u64 0)]), 2, 16) := by kernel_rfl
theorem info_ar139 : (Try.prog.info? 139).map (fun i => (i.zero, i.size, i.bytes)) = some (some (.agg #[(.bool false), (.slice none 0 0), (.bool false), (.slice none 0 0)]), 4, 64) := by kernel_rfl
theorem info_l_l_int1 : (Try.prog.info? 149).map (fun i => (i.zero, i.size, i.bytes)) = some (some (.slice none 0 0), 1, 24) := by kernel_rfl
theorem info_u641 : (Try.prog.info? 152).map (fun i => (i.zero, i.size, i.bytes)) = some (some (.int .u64 0), 1, 8) := by kernel_rfl
theorem info_of {t sz by_ : Nat} {z : Value} {u : U} (h : (Try.prog.info? t).map (fun i => (i.zero, i.size, i.bytes)) = some (some z, sz, by_)) (hb : by_ ≤ 4096) (hz : z.cells.size = sz) (ha : z.cells.toList.all Value.oneCell' = true)
  (hw : Wk (z.cells.toList.map PV.val) (rowU u (zeroU u))) : ∃ i z, Try.prog.info? t = some i ∧ i.zero = some z ∧ i.size = sz ∧ z.cells.size = sz ∧ i.bytes ≤ 4096 ∧ (∀ (j : Nat) (p : PP), (rowU u (zeroU u))[j]? = some p → ∃ v, z.cells.toList[j]? = some v ∧ Weak G (.val v) p) ∧ ∀ v ∈ z.cells.toList, v.oneCell' = true := by
 rw [Option.map_eq_some_iff] at h
 obtain ⟨i, hi, he⟩ := h
 simp only [Prod.mk.injEq] at he
 obtain ⟨e1, e2, e3⟩ := he
 refine ⟨i, z, hi, e1, e2, hz, by omega, fun j p hj => ?_, fun v hv => List.all_eq_true.1 ha v hv⟩
 obtain ⟨h1, h2⟩ := hw.get
 have hlt : j < (z.cells.toList.map (PV.val (U := U) (El := El))).length := by rw [h1]; exact (List.getElem?_eq_some_iff.1 hj).1
 obtain ⟨q, h3, h4⟩ := h2 j _ (List.getElem?_eq_getElem hlt)
 rw [hj] at h3
 cases h3
 have hlt' : j < z.cells.toList.length := by simpa using hlt
 exact ⟨z.cells.toList[j], List.getElem?_eq_getElem hlt', by rw [List.getElem_map] at h4; exact h4⟩
theorem flat_of {ps : List G.P'} (h : ps.all (fun p => match p with | .val _ => true | _ => false) = true) : ∀ p ∈ ps, ∃ v, p = PV.val v := by
 intro p hp
 have := List.all_eq_true.1 h p hp
 cases p with
 | val v => exact ⟨v, rfl⟩
 | sl u l => cases this
theorem G_ok : G.Ok where
 mixed := by kernel_rfl
 row_sz := row_szU
 pos := by intro u; cases u <;> decide
 unrow := fun u ps x h => by
  obtain ⟨h1, h2⟩ := (unrow_w u ps x h).get
  exact ⟨h1.trans (row_szU u x), h2⟩
 info := by
  intro u
  cases u
  ·exact info_of (u := .int) info_int (by decide) rfl rfl (.cons (.inl rfl) (.nil))
  ·exact info_of (u := .int1) info_int1 (by decide) rfl rfl (.cons (.inl rfl) (.nil))
  ·exact info_of (u := .bool) info_bool (by decide) rfl rfl (.cons (.inl rfl) (.nil))
  ·exact info_of (u := .u8) info_u8 (by decide) rfl rfl (.cons (.inl rfl) (.nil))
  ·exact info_of (u := .str) info_str (by decide) rfl rfl (.cons (.inl rfl) (.nil))
  ·exact info_of (u := .l_int1) info_l_int1 (by decide) rfl rfl (.cons (.inr ⟨rfl, _, rfl⟩) (.nil))
  ·exact info_of (u := .Load) info_Load (by decide) rfl rfl (.cons (.inl rfl) (.cons (.inl rfl) (.nil)))
  ·exact info_of (u := .l_Load) info_l_Load (by decide) rfl rfl (.cons (.inr ⟨rfl, _, rfl⟩) (.nil))
  ·exact info_of (u := .Beam) info_Beam (by decide) rfl rfl (.cons (.inl rfl) (.cons (.inl rfl) (.cons (.inr ⟨rfl, _, rfl⟩) (.cons (.inr ⟨rfl, _, rfl⟩) (.cons (.inl rfl) (.nil))))))
  ·exact info_of (u := .Frac) info_Frac (by decide) rfl rfl (.cons (.inl rfl) (.cons (.inl rfl) (.nil)))
  ·exact info_of (u := .l_Frac) info_l_Frac (by decide) rfl rfl (.cons (.inr ⟨rfl, _, rfl⟩) (.nil))
  ·exact info_of (u := .Errno) info_Errno (by decide) rfl rfl (.cons (.inl rfl) (.nil))
  ·exact info_of (u := .Big) info_Big (by decide) rfl rfl (.cons (.inl rfl) (.cons (.inr ⟨rfl, _, rfl⟩) (.nil)))
  ·exact info_of (u := .Exact) info_Exact (by decide) rfl rfl (.cons (.inl rfl) (.cons (.inr ⟨rfl, _, rfl⟩) (.cons (.inl rfl) (.cons (.inr ⟨rfl, _, rfl⟩) (.nil)))))
  ·exact info_of (u := .l_Exact) info_l_Exact (by decide) rfl rfl (.cons (.inr ⟨rfl, _, rfl⟩) (.nil))
  ·exact info_of (u := .u32) info_u32 (by decide) rfl rfl (.cons (.inl rfl) (.nil))
  ·exact info_of (u := .l_u32) info_l_u32 (by decide) rfl rfl (.cons (.inr ⟨rfl, _, rfl⟩) (.nil))
  ·exact info_of (u := .number) info_number (by decide) rfl rfl (.cons (.inl rfl) (.cons (.inr ⟨rfl, _, rfl⟩) (.nil)))
  ·exact info_of (u := .exact) info_exact (by decide) rfl rfl (.cons (.inl rfl) (.cons (.inr ⟨rfl, _, rfl⟩) (.cons (.inl rfl) (.cons (.inr ⟨rfl, _, rfl⟩) (.nil)))))
  ·exact info_of (u := .l_exact) info_l_exact (by decide) rfl rfl (.cons (.inr ⟨rfl, _, rfl⟩) (.nil))
  ·exact info_of (u := .u64) info_u64 (by decide) rfl rfl (.cons (.inl rfl) (.nil))
  ·exact info_of (u := .wide) info_wide (by decide) rfl rfl (.cons (.inl rfl) (.cons (.inl rfl) (.nil)))
  ·exact info_of (u := .U) info_U (by decide) rfl rfl (.cons (.inl rfl) (.cons (.inl rfl) (.nil)))
  ·exact info_of (u := .ar138) info_ar138 (by decide) rfl rfl (.cons (.inl rfl) (.cons (.inl rfl) (.nil)))
  ·exact info_of (u := .ar139) info_ar139 (by decide) rfl rfl (.cons (.inl rfl) (.cons (.inr ⟨rfl, _, rfl⟩) (.cons (.inl rfl) (.cons (.inr ⟨rfl, _, rfl⟩) (.nil)))))
  ·exact info_of (u := .l_l_int1) info_l_l_int1 (by decide) rfl rfl (.cons (.inr ⟨rfl, _, rfl⟩) (.nil))
  ·exact info_of (u := .u641) info_u641 (by decide) rfl rfl (.cons (.inl rfl) (.nil))
 elt := by
  intro t u h
  unfold G eltU at h
  simp only at h
  split at h
  ·cases h; kernel_rfl
  ·cases h; kernel_rfl
  ·cases h; kernel_rfl
  ·cases h; kernel_rfl
  ·cases h; kernel_rfl
  ·cases h; kernel_rfl
  ·cases h; kernel_rfl
  ·cases h
 ag := by
  intro u
  cases u
  ·exact ⟨(Try.prog.underlying 2).get (by kernel_rfl), (Option.some_get _).symm, by kernel_rfl⟩
  ·exact ⟨(Try.prog.underlying 3).get (by kernel_rfl), (Option.some_get _).symm, by kernel_rfl⟩
  ·exact ⟨(Try.prog.underlying 4).get (by kernel_rfl), (Option.some_get _).symm, by kernel_rfl⟩
  ·exact ⟨(Try.prog.underlying 5).get (by kernel_rfl), (Option.some_get _).symm, by kernel_rfl⟩
  ·exact ⟨(Try.prog.underlying 9).get (by kernel_rfl), (Option.some_get _).symm, by kernel_rfl⟩
  ·exact ⟨(Try.prog.underlying 22).get (by kernel_rfl), (Option.some_get _).symm, by kernel_rfl⟩
  ·exact ⟨(Try.prog.underlying 63).get (by kernel_rfl), (Option.some_get _).symm, by kernel_rfl⟩
  ·exact ⟨(Try.prog.underlying 23).get (by kernel_rfl), (Option.some_get _).symm, by kernel_rfl⟩
  ·exact ⟨(Try.prog.underlying 25).get (by kernel_rfl), (Option.some_get _).symm, by kernel_rfl⟩
  ·exact ⟨(Try.prog.underlying 39).get (by kernel_rfl), (Option.some_get _).symm, by kernel_rfl⟩
  ·exact ⟨(Try.prog.underlying 28).get (by kernel_rfl), (Option.some_get _).symm, by kernel_rfl⟩
  ·exact ⟨(Try.prog.underlying 29).get (by kernel_rfl), (Option.some_get _).symm, by kernel_rfl⟩
  ·exact ⟨(Try.prog.underlying 55).get (by kernel_rfl), (Option.some_get _).symm, by kernel_rfl⟩
  ·exact ⟨(Try.prog.underlying 57).get (by kernel_rfl), (Option.some_get _).symm, by kernel_rfl⟩
  ·exact ⟨(Try.prog.underlying 35).get (by kernel_rfl), (Option.some_get _).symm, by kernel_rfl⟩
  ·exact ⟨(Try.prog.underlying 49).get (by kernel_rfl), (Option.some_get _).symm, by kernel_rfl⟩
  ·exact ⟨(Try.prog.underlying 86).get (by kernel_rfl), (Option.some_get _).symm, by kernel_rfl⟩
  ·exact ⟨(Try.prog.underlying 88).get (by kernel_rfl), (Option.some_get _).symm, by kernel_rfl⟩
  ·exact ⟨(Try.prog.underlying 90).get (by kernel_rfl), (Option.some_get _).symm, by kernel_rfl⟩
  ·exact ⟨(Try.prog.underlying 70).get (by kernel_rfl), (Option.some_get _).symm, by kernel_rfl⟩
  ·exact ⟨(Try.prog.underlying 102).get (by kernel_rfl), (Option.some_get _).symm, by kernel_rfl⟩
  ·exact ⟨(Try.prog.underlying 105).get (by kernel_rfl), (Option.some_get _).symm, by kernel_rfl⟩
  ·exact ⟨(Try.prog.underlying 115).get (by kernel_rfl), (Option.some_get _).symm, by kernel_rfl⟩
  ·exact ⟨(Try.prog.underlying 138).get (by kernel_rfl), (Option.some_get _).symm, by kernel_rfl⟩
  ·exact ⟨(Try.prog.underlying 139).get (by kernel_rfl), (Option.some_get _).symm, by kernel_rfl⟩
  ·exact ⟨(Try.prog.underlying 149).get (by kernel_rfl), (Option.some_get _).symm, by kernel_rfl⟩
  ·exact ⟨(Try.prog.underlying 152).get (by kernel_rfl), (Option.some_get _).symm, by kernel_rfl⟩
 one := by intro u h; cases u <;> first | rfl | (exfalso; revert h; decide)
 seq := by
  intro f b u h
  simp only [G] at h
  split at h
  ·rename_i e; subst e; cases h; exact seq_131
  cases h
 flat := by
  intro u h x p hp
  cases u
  ·exact flat_of rfl p hp
  ·exact flat_of rfl p hp
  ·exact flat_of rfl p hp
  ·exact flat_of rfl p hp
  ·exact flat_of rfl p hp
  ·cases h
  ·exact flat_of rfl p hp
  ·cases h
  ·cases h
  ·exact flat_of rfl p hp
  ·cases h
  ·exact flat_of rfl p hp
  ·cases h
  ·cases h
  ·cases h
  ·exact flat_of rfl p hp
  ·cases h
  ·cases h
  ·cases h
  ·cases h
  ·exact flat_of rfl p hp
  ·exact flat_of rfl p hp
  ·exact flat_of rfl p hp
  ·exact flat_of rfl p hp
  ·cases h
  ·cases h
  ·exact flat_of rfl p hp
 rowf := by
  intro f k u h
  simp only [G] at h
  cases h
 ext := by
  intro f e h
  unfold G extF at h
  simp only at h
  split at h
  ·cases h; exact ⟨_, Try.func110, by kernel_rfl, by kernel_rfl, by kernel_rfl, by kernel_rfl⟩
  ·cases h; exact ⟨_, Try.func111, by kernel_rfl, by kernel_rfl, by kernel_rfl, by kernel_rfl⟩
  ·cases h
def W_int1 (x : Int) : Prop := (Lit.int .i64 x).wf = true
def W_u8 (x : Int) : Prop := (Lit.int .u8 x).wf = true
def W_str (x : ByteArray) : Prop := x.size ≤ maxLen
def W_l_int1 (x : List Int) : Prop := x.length ≤ maxLen ∧ ∀ a ∈ x, W_int1 a
def W_Load (x : TLoad) : Prop := W_int1 x.at_ ∧ W_int1 x.weight
def W_l_Load (x : List TLoad) : Prop := x.length ≤ maxLen ∧ ∀ a ∈ x, W_Load a
def W_Beam (x : TBeam) : Prop := W_str x.name ∧ W_int1 x.length ∧ W_l_int1 x.supports ∧ W_l_Load x.loads ∧ W_int1 x.even
theorem op_int1 : Opens G .int1 W_int1 := opens_int (G := G) (u := .int1) (by kernel_rfl) (fun z => z) (fun _ => rfl) (fun _ h => h)
theorem op_u8 : Opens G .u8 W_u8 := opens_int (G := G) (u := .u8) (by kernel_rfl) (fun z => z) (fun _ => rfl) (fun _ h => h)
theorem op_str : Opens G .str W_str := opens_str (G := G) (u := .str) (by kernel_rfl) (fun z => z) (fun _ => rfl) (fun _ h => h)
theorem op_l_int1 : Opens G .l_int1 W_l_int1 := opens_slice (G := G) G_ok (u := .l_int1) (e := .int1) (te := 3) (by kernel_rfl) rfl (by kernel_rfl) (fun z => z) (fun _ => rfl) op_int1 (fun _ h1 h2 => ⟨h1, h2⟩)
theorem op_Load : Opens G .Load W_Load := by
 intro H enc w base spare held fuel cs x h
 have hu : Try.prog.underlying (G.ty .Load) = some (.struct (fieldsOf Try.prog (G.ty .Load))) := by kernel_rfl
 obtain ⟨xs, n, _, _, hl, hlen, hf⟩ := DataW.trod_struct hu h
 obtain ⟨a0, r0, w0⟩ := field_at (G := G) hlen hf (i := 0) (f := fldOf Try.prog (G.ty .Load) 0) (by kernel_rfl) (u := .int1) (off := 0) (by kernel_rfl) (by kernel_rfl) (by kernel_rfl) op_int1
 obtain ⟨a1, r1, w1⟩ := field_at (G := G) hlen hf (i := 1) (f := fldOf Try.prog (G.ty .Load) 1) (by kernel_rfl) (u := .int1) (off := 1) (by kernel_rfl) (by kernel_rfl) (by kernel_rfl) op_int1
 have hsz : cs.length = 2 := hl.trans (by kernel_rfl)
 have h2 : PRep G w (cs.drop 2) [] := by rw [List.drop_of_length_le (by omega)]; exact .nil
 have h1 := r1.part rfl h2
 have h0 := r0.part rfl h1
 exact ⟨⟨a0, a1⟩, by rw [List.drop_zero] at h0; exact h0, ⟨w0, w1⟩⟩
theorem op_l_Load : Opens G .l_Load W_l_Load := opens_slice (G := G) G_ok (u := .l_Load) (e := .Load) (te := 63) (by kernel_rfl) rfl (by kernel_rfl) (fun z => z) (fun _ => rfl) op_Load (fun _ h1 h2 => ⟨h1, h2⟩)
theorem op_Beam : Opens G .Beam W_Beam := by
 intro H enc w base spare held fuel cs x h
 have hu : Try.prog.underlying (G.ty .Beam) = some (.struct (fieldsOf Try.prog (G.ty .Beam))) := by kernel_rfl
 obtain ⟨xs, n, _, _, hl, hlen, hf⟩ := DataW.trod_struct hu h
 obtain ⟨a0, r0, w0⟩ := field_at (G := G) hlen hf (i := 0) (f := fldOf Try.prog (G.ty .Beam) 0) (by kernel_rfl) (u := .str) (off := 0) (by kernel_rfl) (by kernel_rfl) (by kernel_rfl) op_str
 obtain ⟨a1, r1, w1⟩ := field_at (G := G) hlen hf (i := 1) (f := fldOf Try.prog (G.ty .Beam) 1) (by kernel_rfl) (u := .int1) (off := 1) (by kernel_rfl) (by kernel_rfl) (by kernel_rfl) op_int1
 obtain ⟨a2, r2, w2⟩ := field_at (G := G) hlen hf (i := 2) (f := fldOf Try.prog (G.ty .Beam) 2) (by kernel_rfl) (u := .l_int1) (off := 2) (by kernel_rfl) (by kernel_rfl) (by kernel_rfl) op_l_int1
 obtain ⟨a3, r3, w3⟩ := field_at (G := G) hlen hf (i := 3) (f := fldOf Try.prog (G.ty .Beam) 3) (by kernel_rfl) (u := .l_Load) (off := 3) (by kernel_rfl) (by kernel_rfl) (by kernel_rfl) op_l_Load
 obtain ⟨a4, r4, w4⟩ := field_at (G := G) hlen hf (i := 4) (f := fldOf Try.prog (G.ty .Beam) 4) (by kernel_rfl) (u := .int1) (off := 4) (by kernel_rfl) (by kernel_rfl) (by kernel_rfl) op_int1
 have hsz : cs.length = 5 := hl.trans (by kernel_rfl)
 have h5 : PRep G w (cs.drop 5) [] := by rw [List.drop_of_length_le (by omega)]; exact .nil
 have h4 := r4.part rfl h5
 have h3 := r3.part rfl h4
 have h2 := r2.part rfl h3
 have h1 := r1.part rfl h2
 have h0 := r0.part rfl h1
 exact ⟨⟨a0, a1, a2, a3, a4⟩, by rw [List.drop_zero] at h0; exact h0, ⟨w0, w1, w2, w3, w4⟩⟩
end Go.Proofs.Ytbamoboldhabjaa
