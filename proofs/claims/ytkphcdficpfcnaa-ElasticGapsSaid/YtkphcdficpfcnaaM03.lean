/- Joined by merge.py: Sg, Fn0. -/
import Derived.Test.YtkphcdficpfcnaaM02
import Derived.KernelRfl
import Derived.Test.YtkphcdficpfcnaaChecked
/- The types of the data: structures, and their reading as rows of cells. Printed by sg.py. -/
namespace Go.Proofs.Ytkphcdficpfcnaa
open Go.RowKit
structure TSpring where
  name : ByteArray
  stiff : Int
structure TFrac where
  num : Int
  den : Int
structure TU where
  h : Int
  l : Int
structure Twide where
  hi : Int
  lo : Int
inductive U where
  | int
  | int1
  | bool
  | u8
  | str
  | Spring
  | l_Spring
  | l_int1
  | Frac
  | Errno
  | l_Frac
  | i16
  | u16
  | u64
  | U
  | wide
  | u641
  | u32
  | sortedHint
  | xorshift
  deriving DecidableEq
@[reducible] def El : U → Type
  | .int => Int
  | .int1 => Int
  | .bool => Bool
  | .u8 => Int
  | .str => ByteArray
  | .Spring => TSpring
  | .l_Spring => List TSpring
  | .l_int1 => List Int
  | .Frac => TFrac
  | .Errno => Int
  | .l_Frac => List TFrac
  | .i16 => Int
  | .u16 => Int
  | .u64 => Int
  | .U => TU
  | .wide => Twide
  | .u641 => Int
  | .u32 => Int
  | .sortedHint => Int
  | .xorshift => Int
abbrev PP := PV U El
def gInt (k : IntKind) : PP → Option Int
  | .val (.int k' n) => if k' = k then some n else none
  | _ => none
def gBool : PP → Option Bool
  | .val (.bool b) => some b
  | _ => none
def gStr : PP → Option ByteArray
  | .val (.string b) => some b
  | _ => none
def gSl (u : U) : PP → Option (List (El u))
  | .sl v l => @dite _ (v = u) (decEq v u) (fun h => some (h ▸ l)) (fun _ => none)
  | .val (.slice none 0 0) => some []
  | _ => none
def rowU : (u : U) → El u → List PP
  | .int, x => [.val (.int .i64 x)]
  | .int1, x => [.val (.int .i64 x)]
  | .bool, x => [.val (.bool x)]
  | .u8, x => [.val (.int .u8 x)]
  | .str, x => [.val (.string x)]
  | .Spring, x => [.val (.string x.name), .val (.int .i64 x.stiff)]
  | .l_Spring, x => [.sl .Spring x]
  | .l_int1, x => [.sl .int1 x]
  | .Frac, x => [.val (.int .i64 x.num), .val (.int .i64 x.den)]
  | .Errno, x => [.val (.int .i64 x)]
  | .l_Frac, x => [.sl .Frac x]
  | .i16, x => [.val (.int .i16 x)]
  | .u16, x => [.val (.int .u16 x)]
  | .u64, x => [.val (.int .u64 x)]
  | .U, x => [.val (.int .u64 x.h), .val (.int .u64 x.l)]
  | .wide, x => [.val (.int .u64 x.hi), .val (.int .u64 x.lo)]
  | .u641, x => [.val (.int .u64 x)]
  | .u32, x => [.val (.int .u32 x)]
  | .sortedHint, x => [.val (.int .i64 x)]
  | .xorshift, x => [.val (.int .u64 x)]
def unrowU : (u : U) → List PP → Option (El u)
  | .int, ps => match ps with
    | [p0] => (gInt .i64 p0).bind fun x0 => some x0
    | _ => none
  | .int1, ps => match ps with
    | [p0] => (gInt .i64 p0).bind fun x0 => some x0
    | _ => none
  | .bool, ps => match ps with
    | [p0] => (gBool p0).bind fun x0 => some x0
    | _ => none
  | .u8, ps => match ps with
    | [p0] => (gInt .u8 p0).bind fun x0 => some x0
    | _ => none
  | .str, ps => match ps with
    | [p0] => (gStr p0).bind fun x0 => some x0
    | _ => none
  | .Spring, ps => match ps with
    | [p0, p1] => (gStr p0).bind fun x0 => (gInt .i64 p1).bind fun x1 => some ⟨x0, x1⟩
    | _ => none
  | .l_Spring, ps => match ps with
    | [p0] => (gSl .Spring p0).bind fun x0 => some x0
    | _ => none
  | .l_int1, ps => match ps with
    | [p0] => (gSl .int1 p0).bind fun x0 => some x0
    | _ => none
  | .Frac, ps => match ps with
    | [p0, p1] => (gInt .i64 p0).bind fun x0 => (gInt .i64 p1).bind fun x1 => some ⟨x0, x1⟩
    | _ => none
  | .Errno, ps => match ps with
    | [p0] => (gInt .i64 p0).bind fun x0 => some x0
    | _ => none
  | .l_Frac, ps => match ps with
    | [p0] => (gSl .Frac p0).bind fun x0 => some x0
    | _ => none
  | .i16, ps => match ps with
    | [p0] => (gInt .i16 p0).bind fun x0 => some x0
    | _ => none
  | .u16, ps => match ps with
    | [p0] => (gInt .u16 p0).bind fun x0 => some x0
    | _ => none
  | .u64, ps => match ps with
    | [p0] => (gInt .u64 p0).bind fun x0 => some x0
    | _ => none
  | .U, ps => match ps with
    | [p0, p1] => (gInt .u64 p0).bind fun x0 => (gInt .u64 p1).bind fun x1 => some ⟨x0, x1⟩
    | _ => none
  | .wide, ps => match ps with
    | [p0, p1] => (gInt .u64 p0).bind fun x0 => (gInt .u64 p1).bind fun x1 => some ⟨x0, x1⟩
    | _ => none
  | .u641, ps => match ps with
    | [p0] => (gInt .u64 p0).bind fun x0 => some x0
    | _ => none
  | .u32, ps => match ps with
    | [p0] => (gInt .u32 p0).bind fun x0 => some x0
    | _ => none
  | .sortedHint, ps => match ps with
    | [p0] => (gInt .i64 p0).bind fun x0 => some x0
    | _ => none
  | .xorshift, ps => match ps with
    | [p0] => (gInt .u64 p0).bind fun x0 => some x0
    | _ => none
def zeroU : (u : U) → El u
  | .int => 0
  | .int1 => 0
  | .bool => false
  | .u8 => 0
  | .str => ByteArray.empty
  | .Spring => ⟨ByteArray.empty, 0⟩
  | .l_Spring => []
  | .l_int1 => []
  | .Frac => ⟨0, 0⟩
  | .Errno => 0
  | .l_Frac => []
  | .i16 => 0
  | .u16 => 0
  | .u64 => 0
  | .U => ⟨0, 0⟩
  | .wide => ⟨0, 0⟩
  | .u641 => 0
  | .u32 => 0
  | .sortedHint => 0
  | .xorshift => 0
def tyU : U → TypeId
  | .int => 2
  | .int1 => 3
  | .bool => 4
  | .u8 => 5
  | .str => 9
  | .Spring => 50
  | .l_Spring => 22
  | .l_int1 => 23
  | .Frac => 27
  | .Errno => 28
  | .l_Frac => 31
  | .i16 => 46
  | .u16 => 65
  | .u64 => 82
  | .U => 84
  | .wide => 94
  | .u641 => 101
  | .u32 => 116
  | .sortedHint => 121
  | .xorshift => 134
def szU : U → Nat
  | .int => 1
  | .int1 => 1
  | .bool => 1
  | .u8 => 1
  | .str => 1
  | .Spring => 2
  | .l_Spring => 1
  | .l_int1 => 1
  | .Frac => 2
  | .Errno => 1
  | .l_Frac => 1
  | .i16 => 1
  | .u16 => 1
  | .u64 => 1
  | .U => 2
  | .wide => 2
  | .u641 => 1
  | .u32 => 1
  | .sortedHint => 1
  | .xorshift => 1
def agU : U → Bool
  | .int => false
  | .int1 => false
  | .bool => false
  | .u8 => false
  | .str => false
  | .Spring => true
  | .l_Spring => false
  | .l_int1 => false
  | .Frac => true
  | .Errno => false
  | .l_Frac => false
  | .i16 => false
  | .u16 => false
  | .u64 => false
  | .U => true
  | .wide => true
  | .u641 => false
  | .u32 => false
  | .sortedHint => false
  | .xorshift => false
def flatU : U → Bool
  | .int => true
  | .int1 => true
  | .bool => true
  | .u8 => true
  | .str => true
  | .Spring => true
  | .l_Spring => false
  | .l_int1 => false
  | .Frac => true
  | .Errno => true
  | .l_Frac => false
  | .i16 => true
  | .u16 => true
  | .u64 => true
  | .U => true
  | .wide => true
  | .u641 => true
  | .u32 => true
  | .sortedHint => true
  | .xorshift => true
def eltU : TypeId → Option U
  | 22 => some .Spring
  | 23 => some .int1
  | 31 => some .Frac
  | _ => none
def extF : FuncId → Option Ext
  | 92 => some .add64
  | 93 => some .sub64
  | _ => none
def G : Sg Try.prog := { U := U, deq := inferInstance, El := El, row := rowU, unrow := unrowU, zero := zeroU, ty := tyU, sz := szU, ag := agU, elt := eltU, flat := flatU, byref := fun f => ([41, 52] : List Nat).contains f, fz := fun f => ([] : List Nat).contains f, ext := extF, seqf := fun f => none, rowf := fun f => none }
theorem gInt_w {k : IntKind} {p : PP} {n : Int} (h : gInt k p = some n) : Weak G p (.val (.int k n)) := by
  unfold gInt at h
  split at h
  · split at h
    · rename_i hk; subst hk; cases h; exact .inl rfl
    · cases h
  · cases h
theorem gBool_w {p : PP} {n : Bool} (h : gBool p = some n) : Weak G p (.val (.bool n)) := by
  unfold gBool at h
  split at h
  · cases h; exact .inl rfl
  · cases h
theorem gStr_w {p : PP} {n : ByteArray} (h : gStr p = some n) : Weak G p (.val (.string n)) := by
  unfold gStr at h
  split at h
  · cases h; exact .inl rfl
  · cases h
theorem gSl_w {u : U} {p : PP} {l : List (El u)} (h : gSl u p = some l) : Weak G p (.sl u l) := by
  unfold gSl at h
  split at h
  · split at h
    · rename_i hv; subst hv; cases h; exact .inl rfl
    · cases h
  · cases h; exact .inr ⟨rfl, u, rfl⟩
  · cases h
inductive Wk : List PP → List PP → Prop where
  | nil : Wk [] []
  | cons {p q ps qs} (h : Weak G p q) (t : Wk ps qs) : Wk (p :: ps) (q :: qs)
theorem Wk.get {ps qs : List PP} (h : Wk ps qs) : ps.length = qs.length ∧ ∀ (j : Nat) (p : PP), ps[j]? = some p → ∃ q, qs[j]? = some q ∧ Weak G p q := by
  induction h with
  | nil => exact ⟨rfl, fun j p hj => by cases hj⟩
  | cons h _ ih =>
    refine ⟨congrArg (· + 1) ih.1, fun j p hj => ?_⟩
    cases j with
    | zero => cases hj; exact ⟨_, rfl, h⟩
    | succ j => exact ih.2 j p hj
theorem row_szU : ∀ u x, (rowU u x).length = szU u := by
  intro u x; cases u <;> rfl
theorem un_int {ps : List PP} {x : El .int} (h : unrowU .int ps = some x) : Wk ps (rowU .int x) := by
  unfold unrowU at h
  simp only at h
  split at h
  · simp only [Option.bind_eq_some_iff] at h
    obtain ⟨x0, hx0, h⟩ := h
    cases h
    exact .cons (gInt_w hx0) (.nil)
  · cases h
theorem un_int1 {ps : List PP} {x : El .int1} (h : unrowU .int1 ps = some x) : Wk ps (rowU .int1 x) := by
  unfold unrowU at h
  simp only at h
  split at h
  · simp only [Option.bind_eq_some_iff] at h
    obtain ⟨x0, hx0, h⟩ := h
    cases h
    exact .cons (gInt_w hx0) (.nil)
  · cases h
theorem un_bool {ps : List PP} {x : El .bool} (h : unrowU .bool ps = some x) : Wk ps (rowU .bool x) := by
  unfold unrowU at h
  simp only at h
  split at h
  · simp only [Option.bind_eq_some_iff] at h
    obtain ⟨x0, hx0, h⟩ := h
    cases h
    exact .cons (gBool_w hx0) (.nil)
  · cases h
theorem un_u8 {ps : List PP} {x : El .u8} (h : unrowU .u8 ps = some x) : Wk ps (rowU .u8 x) := by
  unfold unrowU at h
  simp only at h
  split at h
  · simp only [Option.bind_eq_some_iff] at h
    obtain ⟨x0, hx0, h⟩ := h
    cases h
    exact .cons (gInt_w hx0) (.nil)
  · cases h
theorem un_str {ps : List PP} {x : El .str} (h : unrowU .str ps = some x) : Wk ps (rowU .str x) := by
  unfold unrowU at h
  simp only at h
  split at h
  · simp only [Option.bind_eq_some_iff] at h
    obtain ⟨x0, hx0, h⟩ := h
    cases h
    exact .cons (gStr_w hx0) (.nil)
  · cases h
theorem un_Spring {ps : List PP} {x : El .Spring} (h : unrowU .Spring ps = some x) : Wk ps (rowU .Spring x) := by
  unfold unrowU at h
  simp only at h
  split at h
  · simp only [Option.bind_eq_some_iff] at h
    obtain ⟨x0, hx0, x1, hx1, h⟩ := h
    cases h
    exact .cons (gStr_w hx0) (.cons (gInt_w hx1) (.nil))
  · cases h
theorem un_l_Spring {ps : List PP} {x : El .l_Spring} (h : unrowU .l_Spring ps = some x) : Wk ps (rowU .l_Spring x) := by
  unfold unrowU at h
  simp only at h
  split at h
  · simp only [Option.bind_eq_some_iff] at h
    obtain ⟨x0, hx0, h⟩ := h
    cases h
    exact .cons (gSl_w hx0) (.nil)
  · cases h
theorem un_l_int1 {ps : List PP} {x : El .l_int1} (h : unrowU .l_int1 ps = some x) : Wk ps (rowU .l_int1 x) := by
  unfold unrowU at h
  simp only at h
  split at h
  · simp only [Option.bind_eq_some_iff] at h
    obtain ⟨x0, hx0, h⟩ := h
    cases h
    exact .cons (gSl_w hx0) (.nil)
  · cases h
theorem un_Frac {ps : List PP} {x : El .Frac} (h : unrowU .Frac ps = some x) : Wk ps (rowU .Frac x) := by
  unfold unrowU at h
  simp only at h
  split at h
  · simp only [Option.bind_eq_some_iff] at h
    obtain ⟨x0, hx0, x1, hx1, h⟩ := h
    cases h
    exact .cons (gInt_w hx0) (.cons (gInt_w hx1) (.nil))
  · cases h
theorem un_Errno {ps : List PP} {x : El .Errno} (h : unrowU .Errno ps = some x) : Wk ps (rowU .Errno x) := by
  unfold unrowU at h
  simp only at h
  split at h
  · simp only [Option.bind_eq_some_iff] at h
    obtain ⟨x0, hx0, h⟩ := h
    cases h
    exact .cons (gInt_w hx0) (.nil)
  · cases h
theorem un_l_Frac {ps : List PP} {x : El .l_Frac} (h : unrowU .l_Frac ps = some x) : Wk ps (rowU .l_Frac x) := by
  unfold unrowU at h
  simp only at h
  split at h
  · simp only [Option.bind_eq_some_iff] at h
    obtain ⟨x0, hx0, h⟩ := h
    cases h
    exact .cons (gSl_w hx0) (.nil)
  · cases h
theorem un_i16 {ps : List PP} {x : El .i16} (h : unrowU .i16 ps = some x) : Wk ps (rowU .i16 x) := by
  unfold unrowU at h
  simp only at h
  split at h
  · simp only [Option.bind_eq_some_iff] at h
    obtain ⟨x0, hx0, h⟩ := h
    cases h
    exact .cons (gInt_w hx0) (.nil)
  · cases h
theorem un_u16 {ps : List PP} {x : El .u16} (h : unrowU .u16 ps = some x) : Wk ps (rowU .u16 x) := by
  unfold unrowU at h
  simp only at h
  split at h
  · simp only [Option.bind_eq_some_iff] at h
    obtain ⟨x0, hx0, h⟩ := h
    cases h
    exact .cons (gInt_w hx0) (.nil)
  · cases h
theorem un_u64 {ps : List PP} {x : El .u64} (h : unrowU .u64 ps = some x) : Wk ps (rowU .u64 x) := by
  unfold unrowU at h
  simp only at h
  split at h
  · simp only [Option.bind_eq_some_iff] at h
    obtain ⟨x0, hx0, h⟩ := h
    cases h
    exact .cons (gInt_w hx0) (.nil)
  · cases h
theorem un_U {ps : List PP} {x : El .U} (h : unrowU .U ps = some x) : Wk ps (rowU .U x) := by
  unfold unrowU at h
  simp only at h
  split at h
  · simp only [Option.bind_eq_some_iff] at h
    obtain ⟨x0, hx0, x1, hx1, h⟩ := h
    cases h
    exact .cons (gInt_w hx0) (.cons (gInt_w hx1) (.nil))
  · cases h
theorem un_wide {ps : List PP} {x : El .wide} (h : unrowU .wide ps = some x) : Wk ps (rowU .wide x) := by
  unfold unrowU at h
  simp only at h
  split at h
  · simp only [Option.bind_eq_some_iff] at h
    obtain ⟨x0, hx0, x1, hx1, h⟩ := h
    cases h
    exact .cons (gInt_w hx0) (.cons (gInt_w hx1) (.nil))
  · cases h
theorem un_u641 {ps : List PP} {x : El .u641} (h : unrowU .u641 ps = some x) : Wk ps (rowU .u641 x) := by
  unfold unrowU at h
  simp only at h
  split at h
  · simp only [Option.bind_eq_some_iff] at h
    obtain ⟨x0, hx0, h⟩ := h
    cases h
    exact .cons (gInt_w hx0) (.nil)
  · cases h
theorem un_u32 {ps : List PP} {x : El .u32} (h : unrowU .u32 ps = some x) : Wk ps (rowU .u32 x) := by
  unfold unrowU at h
  simp only at h
  split at h
  · simp only [Option.bind_eq_some_iff] at h
    obtain ⟨x0, hx0, h⟩ := h
    cases h
    exact .cons (gInt_w hx0) (.nil)
  · cases h
theorem un_sortedHint {ps : List PP} {x : El .sortedHint} (h : unrowU .sortedHint ps = some x) : Wk ps (rowU .sortedHint x) := by
  unfold unrowU at h
  simp only at h
  split at h
  · simp only [Option.bind_eq_some_iff] at h
    obtain ⟨x0, hx0, h⟩ := h
    cases h
    exact .cons (gInt_w hx0) (.nil)
  · cases h
theorem un_xorshift {ps : List PP} {x : El .xorshift} (h : unrowU .xorshift ps = some x) : Wk ps (rowU .xorshift x) := by
  unfold unrowU at h
  simp only at h
  split at h
  · simp only [Option.bind_eq_some_iff] at h
    obtain ⟨x0, hx0, h⟩ := h
    cases h
    exact .cons (gInt_w hx0) (.nil)
  · cases h
theorem unrow_w : ∀ (u : U) (ps : List PP) (x : El u), unrowU u ps = some x → Wk ps (rowU u x) := by
  intro u ps x h
  cases u
  · exact un_int h
  · exact un_int1 h
  · exact un_bool h
  · exact un_u8 h
  · exact un_str h
  · exact un_Spring h
  · exact un_l_Spring h
  · exact un_l_int1 h
  · exact un_Frac h
  · exact un_Errno h
  · exact un_l_Frac h
  · exact un_i16 h
  · exact un_u16 h
  · exact un_u64 h
  · exact un_U h
  · exact un_wide h
  · exact un_u641 h
  · exact un_u32 h
  · exact un_sortedHint h
  · exact un_xorshift h
theorem info_int : (Try.prog.info? 2).map (fun i => (i.zero, i.size, i.bytes)) = some (some (.int .i64 0), 1, 8) := by kernel_rfl
theorem info_int1 : (Try.prog.info? 3).map (fun i => (i.zero, i.size, i.bytes)) = some (some (.int .i64 0), 1, 8) := by kernel_rfl
theorem info_bool : (Try.prog.info? 4).map (fun i => (i.zero, i.size, i.bytes)) = some (some (.bool false), 1, 1) := by kernel_rfl
theorem info_u8 : (Try.prog.info? 5).map (fun i => (i.zero, i.size, i.bytes)) = some (some (.int .u8 0), 1, 1) := by kernel_rfl
theorem info_str : (Try.prog.info? 9).map (fun i => (i.zero, i.size, i.bytes)) = some (some (.string ⟨#[]⟩), 1, 16) := by kernel_rfl
theorem info_Spring : (Try.prog.info? 50).map (fun i => (i.zero, i.size, i.bytes)) = some (some (.agg #[(.string ⟨#[]⟩), (.int .i64 0)]), 2, 24) := by kernel_rfl
theorem info_l_Spring : (Try.prog.info? 22).map (fun i => (i.zero, i.size, i.bytes)) = some (some (.slice none 0 0), 1, 24) := by kernel_rfl
theorem info_l_int1 : (Try.prog.info? 23).map (fun i => (i.zero, i.size, i.bytes)) = some (some (.slice none 0 0), 1, 24) := by kernel_rfl
theorem info_Frac : (Try.prog.info? 27).map (fun i => (i.zero, i.size, i.bytes)) = some (some (.agg #[(.int .i64 0), (.int .i64 0)]), 2, 16) := by kernel_rfl
theorem info_Errno : (Try.prog.info? 28).map (fun i => (i.zero, i.size, i.bytes)) = some (some (.int .i64 0), 1, 8) := by kernel_rfl
theorem info_l_Frac : (Try.prog.info? 31).map (fun i => (i.zero, i.size, i.bytes)) = some (some (.slice none 0 0), 1, 24) := by kernel_rfl
theorem info_i16 : (Try.prog.info? 46).map (fun i => (i.zero, i.size, i.bytes)) = some (some (.int .i16 0), 1, 2) := by kernel_rfl
theorem info_u16 : (Try.prog.info? 65).map (fun i => (i.zero, i.size, i.bytes)) = some (some (.int .u16 0), 1, 2) := by kernel_rfl
theorem info_u64 : (Try.prog.info? 82).map (fun i => (i.zero, i.size, i.bytes)) = some (some (.int .u64 0), 1, 8) := by kernel_rfl
theorem info_U : (Try.prog.info? 84).map (fun i => (i.zero, i.size, i.bytes)) = some (some (.agg #[(.int .u64 0), (.int .u64 0)]), 2, 16) := by kernel_rfl
theorem info_wide : (Try.prog.info? 94).map (fun i => (i.zero, i.size, i.bytes)) = some (some (.agg #[(.int .u64 0), (.int .u64 0)]), 2, 16) := by kernel_rfl
theorem info_u641 : (Try.prog.info? 101).map (fun i => (i.zero, i.size, i.bytes)) = some (some (.int .u64 0), 1, 8) := by kernel_rfl
theorem info_u32 : (Try.prog.info? 116).map (fun i => (i.zero, i.size, i.bytes)) = some (some (.int .u32 0), 1, 4) := by kernel_rfl
theorem info_sortedHint : (Try.prog.info? 121).map (fun i => (i.zero, i.size, i.bytes)) = some (some (.int .i64 0), 1, 8) := by kernel_rfl
theorem info_xorshift : (Try.prog.info? 134).map (fun i => (i.zero, i.size, i.bytes)) = some (some (.int .u64 0), 1, 8) := by kernel_rfl
theorem info_of {t sz by_ : Nat} {z : Value} {u : U} (h : (Try.prog.info? t).map (fun i => (i.zero, i.size, i.bytes)) = some (some z, sz, by_)) (hb : by_ ≤ 4096) (hz : z.cells.size = sz) (ha : z.cells.toList.all Value.oneCell' = true)
    (hw : Wk (z.cells.toList.map PV.val) (rowU u (zeroU u))) : ∃ i z, Try.prog.info? t = some i ∧ i.zero = some z ∧ i.size = sz ∧ z.cells.size = sz ∧ i.bytes ≤ 4096 ∧ (∀ (j : Nat) (p : PP), (rowU u (zeroU u))[j]? = some p → ∃ v, z.cells.toList[j]? = some v ∧ Weak G (.val v) p) ∧ ∀ v ∈ z.cells.toList, v.oneCell' = true := by
  rw [Option.map_eq_some_iff] at h
  obtain ⟨i, hi, he⟩ := h
  simp only [Prod.mk.injEq] at he
  obtain ⟨e1, e2, e3⟩ := he
  refine ⟨i, z, hi, e1, e2, hz, by omega, fun j p hj => ?_, fun v hv => List.all_eq_true.1 ha v hv⟩
  obtain ⟨h1, h2⟩ := hw.get
  have hlt : j < (z.cells.toList.map (PV.val (U := U) (El := El))).length := by rw [h1]; exact (List.getElem?_eq_some_iff.1 hj).1
  obtain ⟨q, h3, h4⟩ := h2 j _ (List.getElem?_eq_getElem hlt)
  rw [hj] at h3
  cases h3
  have hlt' : j < z.cells.toList.length := by simpa using hlt
  exact ⟨z.cells.toList[j], List.getElem?_eq_getElem hlt', by rw [List.getElem_map] at h4; exact h4⟩
theorem flat_of {ps : List G.P'} (h : ps.all (fun p => match p with | .val _ => true | _ => false) = true) : ∀ p ∈ ps, ∃ v, p = PV.val v := by
  intro p hp
  have := List.all_eq_true.1 h p hp
  cases p with
  | val v => exact ⟨v, rfl⟩
  | sl u l => cases this
theorem G_ok : G.Ok where
  mixed := by kernel_rfl
  row_sz := row_szU
  pos := by intro u; cases u <;> decide
  unrow := fun u ps x h => by
    obtain ⟨h1, h2⟩ := (unrow_w u ps x h).get
    exact ⟨h1.trans (row_szU u x), h2⟩
  info := by
    intro u
    cases u
    · exact info_of (u := .int) info_int (by decide) rfl rfl (.cons (.inl rfl) (.nil))
    · exact info_of (u := .int1) info_int1 (by decide) rfl rfl (.cons (.inl rfl) (.nil))
    · exact info_of (u := .bool) info_bool (by decide) rfl rfl (.cons (.inl rfl) (.nil))
    · exact info_of (u := .u8) info_u8 (by decide) rfl rfl (.cons (.inl rfl) (.nil))
    · exact info_of (u := .str) info_str (by decide) rfl rfl (.cons (.inl rfl) (.nil))
    · exact info_of (u := .Spring) info_Spring (by decide) rfl rfl (.cons (.inl rfl) (.cons (.inl rfl) (.nil)))
    · exact info_of (u := .l_Spring) info_l_Spring (by decide) rfl rfl (.cons (.inr ⟨rfl, _, rfl⟩) (.nil))
    · exact info_of (u := .l_int1) info_l_int1 (by decide) rfl rfl (.cons (.inr ⟨rfl, _, rfl⟩) (.nil))
    · exact info_of (u := .Frac) info_Frac (by decide) rfl rfl (.cons (.inl rfl) (.cons (.inl rfl) (.nil)))
    · exact info_of (u := .Errno) info_Errno (by decide) rfl rfl (.cons (.inl rfl) (.nil))
    · exact info_of (u := .l_Frac) info_l_Frac (by decide) rfl rfl (.cons (.inr ⟨rfl, _, rfl⟩) (.nil))
    · exact info_of (u := .i16) info_i16 (by decide) rfl rfl (.cons (.inl rfl) (.nil))
    · exact info_of (u := .u16) info_u16 (by decide) rfl rfl (.cons (.inl rfl) (.nil))
    · exact info_of (u := .u64) info_u64 (by decide) rfl rfl (.cons (.inl rfl) (.nil))
    · exact info_of (u := .U) info_U (by decide) rfl rfl (.cons (.inl rfl) (.cons (.inl rfl) (.nil)))
    · exact info_of (u := .wide) info_wide (by decide) rfl rfl (.cons (.inl rfl) (.cons (.inl rfl) (.nil)))
    · exact info_of (u := .u641) info_u641 (by decide) rfl rfl (.cons (.inl rfl) (.nil))
    · exact info_of (u := .u32) info_u32 (by decide) rfl rfl (.cons (.inl rfl) (.nil))
    · exact info_of (u := .sortedHint) info_sortedHint (by decide) rfl rfl (.cons (.inl rfl) (.nil))
    · exact info_of (u := .xorshift) info_xorshift (by decide) rfl rfl (.cons (.inl rfl) (.nil))
  elt := by
    intro t u h
    unfold G eltU at h
    simp only at h
    split at h
    · cases h; kernel_rfl
    · cases h; kernel_rfl
    · cases h; kernel_rfl
    · cases h
  ag := by
    intro u
    cases u
    · exact ⟨(Try.prog.underlying 2).get (by kernel_rfl), (Option.some_get _).symm, by kernel_rfl⟩
    · exact ⟨(Try.prog.underlying 3).get (by kernel_rfl), (Option.some_get _).symm, by kernel_rfl⟩
    · exact ⟨(Try.prog.underlying 4).get (by kernel_rfl), (Option.some_get _).symm, by kernel_rfl⟩
    · exact ⟨(Try.prog.underlying 5).get (by kernel_rfl), (Option.some_get _).symm, by kernel_rfl⟩
    · exact ⟨(Try.prog.underlying 9).get (by kernel_rfl), (Option.some_get _).symm, by kernel_rfl⟩
    · exact ⟨(Try.prog.underlying 50).get (by kernel_rfl), (Option.some_get _).symm, by kernel_rfl⟩
    · exact ⟨(Try.prog.underlying 22).get (by kernel_rfl), (Option.some_get _).symm, by kernel_rfl⟩
    · exact ⟨(Try.prog.underlying 23).get (by kernel_rfl), (Option.some_get _).symm, by kernel_rfl⟩
    · exact ⟨(Try.prog.underlying 27).get (by kernel_rfl), (Option.some_get _).symm, by kernel_rfl⟩
    · exact ⟨(Try.prog.underlying 28).get (by kernel_rfl), (Option.some_get _).symm, by kernel_rfl⟩
    · exact ⟨(Try.prog.underlying 31).get (by kernel_rfl), (Option.some_get _).symm, by kernel_rfl⟩
    · exact ⟨(Try.prog.underlying 46).get (by kernel_rfl), (Option.some_get _).symm, by kernel_rfl⟩
    · exact ⟨(Try.prog.underlying 65).get (by kernel_rfl), (Option.some_get _).symm, by kernel_rfl⟩
    · exact ⟨(Try.prog.underlying 82).get (by kernel_rfl), (Option.some_get _).symm, by kernel_rfl⟩
    · exact ⟨(Try.prog.underlying 84).get (by kernel_rfl), (Option.some_get _).symm, by kernel_rfl⟩
    · exact ⟨(Try.prog.underlying 94).get (by kernel_rfl), (Option.some_get _).symm, by kernel_rfl⟩
    · exact ⟨(Try.prog.underlying 101).get (by kernel_rfl), (Option.some_get _).symm, by kernel_rfl⟩
    · exact ⟨(Try.prog.underlying 116).get (by kernel_rfl), (Option.some_get _).symm, by kernel_rfl⟩
    · exact ⟨(Try.prog.underlying 121).get (by kernel_rfl), (Option.some_get _).symm, by kernel_rfl⟩
    · exact ⟨(Try.prog.underlying 134).get (by kernel_rfl), (Option.some_get _).symm, by kernel_rfl⟩
  one := by intro u h; cases u <;> first | rfl | (exfalso; revert h; decide)
  seq := by
    intro f b u h
    simp only [G] at h
    cases h
  flat := by
    intro u h x p hp
    cases u
    · exact flat_of rfl p hp
    · exact flat_of rfl p hp
    · exact flat_of rfl p hp
    · exact flat_of rfl p hp
    · exact flat_of rfl p hp
    · exact flat_of rfl p hp
    · cases h
    · cases h
    · exact flat_of rfl p hp
    · exact flat_of rfl p hp
    · cases h
    · exact flat_of rfl p hp
    · exact flat_of rfl p hp
    · exact flat_of rfl p hp
    · exact flat_of rfl p hp
    · exact flat_of rfl p hp
    · exact flat_of rfl p hp
    · exact flat_of rfl p hp
    · exact flat_of rfl p hp
    · exact flat_of rfl p hp
  rowf := by
    intro f k u h
    simp only [G] at h
    cases h
  ext := by
    intro f e h
    unfold G extF at h
    simp only at h
    split at h
    · cases h; exact ⟨_, Try.func92, by kernel_rfl, by kernel_rfl, by kernel_rfl, by kernel_rfl⟩
    · cases h; exact ⟨_, Try.func93, by kernel_rfl, by kernel_rfl, by kernel_rfl, by kernel_rfl⟩
    · cases h
def W_int1 (x : Int) : Prop := (Lit.int .i64 x).wf = true
def W_str (x : ByteArray) : Prop := x.size ≤ maxLen
def W_Spring (x : TSpring) : Prop := W_str x.name ∧ W_int1 x.stiff
def W_l_Spring (x : List TSpring) : Prop := x.length ≤ maxLen ∧ ∀ a ∈ x, W_Spring a
def W_l_int1 (x : List Int) : Prop := x.length ≤ maxLen ∧ ∀ a ∈ x, W_int1 a
def W_u16 (x : Int) : Prop := (Lit.int .u16 x).wf = true
theorem op_int1 : Opens G .int1 W_int1 := opens_int (G := G) (u := .int1) (by kernel_rfl) (fun z => z) (fun _ => rfl) (fun _ h => h)
theorem op_str : Opens G .str W_str := opens_str (G := G) (u := .str) (by kernel_rfl) (fun z => z) (fun _ => rfl) (fun _ h => h)
theorem op_Spring : Opens G .Spring W_Spring := by
  intro H enc w base spare held fuel cs x h
  have hu : Try.prog.underlying (G.ty .Spring) = some (.struct (fieldsOf Try.prog (G.ty .Spring))) := by kernel_rfl
  obtain ⟨xs, n, _, _, hl, hlen, hf⟩ := DataW.trod_struct hu h
  obtain ⟨a0, r0, w0⟩ := field_at (G := G) hlen hf (i := 0) (f := fldOf Try.prog (G.ty .Spring) 0) (by kernel_rfl) (u := .str) (off := 0) (by kernel_rfl) (by kernel_rfl) (by kernel_rfl) op_str
  obtain ⟨a1, r1, w1⟩ := field_at (G := G) hlen hf (i := 1) (f := fldOf Try.prog (G.ty .Spring) 1) (by kernel_rfl) (u := .int1) (off := 1) (by kernel_rfl) (by kernel_rfl) (by kernel_rfl) op_int1
  have hsz : cs.length = 2 := hl.trans (by kernel_rfl)
  have h2 : PRep G w (cs.drop 2) [] := by rw [List.drop_of_length_le (by omega)]; exact .nil
  have h1 := r1.part rfl h2
  have h0 := r0.part rfl h1
  exact ⟨⟨a0, a1⟩, by rw [List.drop_zero] at h0; exact h0, ⟨w0, w1⟩⟩
theorem op_l_Spring : Opens G .l_Spring W_l_Spring := opens_slice (G := G) G_ok (u := .l_Spring) (e := .Spring) (te := 50) (by kernel_rfl) rfl (by kernel_rfl) (fun z => z) (fun _ => rfl) op_Spring (fun _ h1 h2 => ⟨h1, h2⟩)
theorem op_l_int1 : Opens G .l_int1 W_l_int1 := opens_slice (G := G) G_ok (u := .l_int1) (e := .int1) (te := 3) (by kernel_rfl) rfl (by kernel_rfl) (fun z => z) (fun _ => rfl) op_int1 (fun _ h1 h2 => ⟨h1, h2⟩)
theorem op_u16 : Opens G .u16 W_u16 := opens_int (G := G) (u := .u16) (by kernel_rfl) (fun z => z) (fun _ => rfl) (fun _ h => h)
end Go.Proofs.Ytkphcdficpfcnaa

/- Functions, as plain data. Printed by mkev.py. -/
namespace Go.Proofs.Ytkphcdficpfcnaa
open Go.RowKit
set_option linter.unusedVariables false
set_option linter.unusedSimpArgs false
noncomputable section

def F_slices_Equal_api_Frac (s1_ : List TFrac) (s2_ : List TFrac) : Option (Bool) :=
  (bif (((s1_.length : Nat) : Int) != ((s2_.length : Nat) : Int)) then some false else (iterF (σ := Int × Unit) (ρ := (Bool × Unit) ⊕ (Unit)) (fun s3 => (bif (decide (s3.1 < ((s1_.length : Nat) : Int))) then (idx s1_ s3.1).bind fun x4 => (idx s2_ s3.1).bind fun x5 => (bif (!((x4.num == x5.num) && (x4.den == x5.den))) then some (.inr (.inl (false, ()))) else some (.inl ((IntKind.i64.wrap (s3.1 + 1)), ()))) else some (.inr (.inr ((())))))) big (0, ())).bind fun y6 => (match y6 with | .inl y7 => some y7.1 | .inr y8 => some true))
def an_slices_Equal_api_Frac : An U := (.node none .nil (.node none .nil (.node none (.node none .nil (.node none (.node (some ⟨[0, 1, 12], [], ⟨[(13, .tv .int)], []⟩, [(.ret, ⟨[(4, .tv .bool)], []⟩), (.exit 0, ⟨[], []⟩)]⟩) .nil .nil) .nil)) .nil)))
def fe_slices_Equal_api_Frac : Fe G := ⟨[.v .l_Frac, .v .l_Frac], [.bool], fun x => F_slices_Equal_api_Frac x.1 x.2.1⟩
def tb_slices_Equal_api_Frac : List (FuncId × Fe G) := []
theorem ev_slices_Equal_api_Frac (x : TyP G fe_slices_Equal_api_Frac.ps) : evF G (lstK G tb_slices_Equal_api_Frac) (bodyOf Try.f18) an_slices_Equal_api_Frac 26 [.tmp 4] fe_slices_Equal_api_Frac.rs (argT G fe_slices_Equal_api_Frac.ps x) = fe_slices_Equal_api_Frac.fn x := by kernel_rfl
theorem ok_slices_Equal_api_Frac : FnOk G 18 fe_slices_Equal_api_Frac := fnOk_of G_ok (lstK_ok G_ok (lnil)) Try.func18 (by kernel_rfl) (by kernel_rfl) (by kernel_rfl) (by kernel_rfl) (by kernel_rfl) ev_slices_Equal_api_Frac

def F_law17_f (n : Int) : Option (TFrac) :=
  some (TFrac.mk n 1)
def an_law17_f : An U := .nil
def fe_law17_f : Fe G := ⟨[.v .int1], [.Frac], fun x => F_law17_f x.1⟩
def tb_law17_f : List (FuncId × Fe G) := []
theorem ev_law17_f (x : TyP G fe_law17_f.ps) : evF G (lstK G tb_law17_f) (bodyOf Try.f27) an_law17_f 5 [.cell 2 27] fe_law17_f.rs (argT G fe_law17_f.ps x) = fe_law17_f.fn x := by kernel_rfl
theorem ok_law17_f : FnOk G 27 fe_law17_f := fnOk_of G_ok (lstK_ok G_ok (lnil)) Try.func27 (by kernel_rfl) (by kernel_rfl) (by kernel_rfl) (by kernel_rfl) (by kernel_rfl) ev_law17_f

def F_law17_example : Option ((List TSpring)) :=
  some ([(TSpring.mk (⟨#[97]⟩ : ByteArray) 2), (TSpring.mk (⟨#[98]⟩ : ByteArray) 3)] : List TSpring)
def an_law17_example : An U := .nil
def fe_law17_example : Fe G := ⟨[], [.l_Spring], fun x => F_law17_example⟩
def tb_law17_example : List (FuncId × Fe G) := []
theorem ev_law17_example (x : TyP G fe_law17_example.ps) : evF G (lstK G tb_law17_example) (bodyOf Try.f44) an_law17_example 4 [.tmp 0] fe_law17_example.rs (argT G fe_law17_example.ps x) = fe_law17_example.fn x := by kernel_rfl
theorem ok_law17_example : FnOk G 44 fe_law17_example := fnOk_of G_ok (lstK_ok G_ok (lnil)) Try.func44 (by kernel_rfl) (by kernel_rfl) (by kernel_rfl) (by kernel_rfl) (by kernel_rfl) ev_law17_example

def F_law17_large_1 (x : TSpring) : Option (Bool) :=
  some (decide (((x.name.size : Nat) : Int) > 60))
def an_law17_large_1 : An U := .nil
def fe_law17_large_1 : Fe G := ⟨[.v .Spring], [.bool], fun x => F_law17_large_1 x.1⟩
def tb_law17_large_1 : List (FuncId × Fe G) := []
theorem ev_law17_large_1 (x : TyP G fe_law17_large_1.ps) : evF G (lstK G tb_law17_large_1) (bodyOf Try.f46) an_law17_large_1 7 [.tmp 2] fe_law17_large_1.rs (argT G fe_law17_large_1.ps x) = fe_law17_large_1.fn x := by kernel_rfl
theorem ok_law17_large_1 : FnOk G 46 fe_law17_large_1 := fnOk_of G_ok (lstK_ok G_ok (lnil)) Try.func46 (by kernel_rfl) (by kernel_rfl) (by kernel_rfl) (by kernel_rfl) (by kernel_rfl) ev_law17_large_1

def F_elastic_Slack_1 (g : Int) : Option (Bool) :=
  ((bif (decide (g < 0)) then some (true, ()) else some ((decide (g > 1048576)), ())) : Option (Bool × Unit)).bind fun y1 => some y1.1
def an_elastic_Slack_1 : An U := (.node none .nil (.node (some ⟨[], [], ⟨[], []⟩, [(.normal, ⟨[(2, .tv .bool)], []⟩)]⟩) .nil .nil))
def fe_elastic_Slack_1 : Fe G := ⟨[.v .int1], [.bool], fun x => F_elastic_Slack_1 x.1⟩
def tb_elastic_Slack_1 : List (FuncId × Fe G) := []
theorem ev_elastic_Slack_1 (x : TyP G fe_elastic_Slack_1.ps) : evF G (lstK G tb_elastic_Slack_1) (bodyOf Try.f50) an_elastic_Slack_1 9 [.tmp 2] fe_elastic_Slack_1.rs (argT G fe_elastic_Slack_1.ps x) = fe_elastic_Slack_1.fn x := by kernel_rfl
theorem ok_elastic_Slack_1 : FnOk G 50 fe_elastic_Slack_1 := fnOk_of G_ok (lstK_ok G_ok (lnil)) Try.func50 (by kernel_rfl) (by kernel_rfl) (by kernel_rfl) (by kernel_rfl) (by kernel_rfl) ev_elastic_Slack_1

def F_elastic_Slack_2 (a : Int) (b : Int) (a2 : List Int) : Option (Int) :=
  (idx a2 a).bind fun x1 => (idx a2 b).bind fun x2 => some (IntKind.i64.wrap (x1 - x2))
def an_elastic_Slack_2 : An U := .nil
def fe_elastic_Slack_2 : Fe G := ⟨[.v .int1, .v .int1, .rp .l_int1], [.int1], fun x => F_elastic_Slack_2 x.1 x.2.1 x.2.2.1⟩
def tb_elastic_Slack_2 : List (FuncId × Fe G) := []
theorem ev_elastic_Slack_2 (x : TyP G fe_elastic_Slack_2.ps) : evF G (lstK G tb_elastic_Slack_2) (bodyOf Try.f52) an_elastic_Slack_2 15 [.tmp 5] fe_elastic_Slack_2.rs (argT G fe_elastic_Slack_2.ps x) = fe_elastic_Slack_2.fn x := by kernel_rfl
theorem ok_elastic_Slack_2 : FnOk G 52 fe_elastic_Slack_2 := fnOk_of G_ok (lstK_ok G_ok (lnil)) Try.func52 (by kernel_rfl) (by kernel_rfl) (by kernel_rfl) (by kernel_rfl) (by kernel_rfl) ev_elastic_Slack_2

def F_ratio_gcd (a : Int) (b : Int) : Option (Int) :=
  (iterF (σ := Int × Int × Unit) (ρ := Int × Unit) (fun s1 => (bif (s1.2.1 != 0) then (if s1.2.1 = 0 then none else some (.inl (s1.2.1, (s1.1.tmod s1.2.1), ()))) else some (.inr (s1.1, ())))) big (a, b, ())).bind fun y2 => some y2.1
def an_ratio_gcd : An U := (.node none .nil (.node none (.node none (.node (some ⟨[4], [], ⟨[(0, .tv .u64), (1, .tv .u64)], []⟩, [(.exit 0, ⟨[(0, .tv .u64)], []⟩)]⟩) .nil .nil) .nil) .nil))
def fe_ratio_gcd : Fe G := ⟨[.v .u64, .v .u64], [.u64], fun x => F_ratio_gcd x.1 x.2.1⟩
def tb_ratio_gcd : List (FuncId × Fe G) := []
theorem ev_ratio_gcd (x : TyP G fe_ratio_gcd.ps) : evF G (lstK G tb_ratio_gcd) (bodyOf Try.f70) an_ratio_gcd 12 [.tmp 4] fe_ratio_gcd.rs (argT G fe_ratio_gcd.ps x) = fe_ratio_gcd.fn x := by kernel_rfl
theorem ok_ratio_gcd : FnOk G 70 fe_ratio_gcd := fnOk_of G_ok (lstK_ok G_ok (lnil)) Try.func70 (by kernel_rfl) (by kernel_rfl) (by kernel_rfl) (by kernel_rfl) (by kernel_rfl) ev_ratio_gcd

def F_ratio_size (n : Int) : Option (Int) :=
  (bif (decide (n < 0)) then some (IntKind.u64.wrap (0 - (IntKind.u64.wrap n))) else some (IntKind.u64.wrap n))
def an_ratio_size : An U := .nil
def fe_ratio_size : Fe G := ⟨[.v .int1], [.u64], fun x => F_ratio_size x.1⟩
def tb_ratio_size : List (FuncId × Fe G) := []
theorem ev_ratio_size (x : TyP G fe_ratio_size.ps) : evF G (lstK G tb_ratio_size) (bodyOf Try.f71) an_ratio_size 10 [.tmp 2] fe_ratio_size.rs (argT G fe_ratio_size.ps x) = fe_ratio_size.fn x := by kernel_rfl
theorem ok_ratio_size : FnOk G 71 fe_ratio_size := fnOk_of G_ok (lstK_ok G_ok (lnil)) Try.func71 (by kernel_rfl) (by kernel_rfl) (by kernel_rfl) (by kernel_rfl) (by kernel_rfl) ev_ratio_size

def F_ratio_signed (negative : Bool) (num : Int) (den : Int) : Option (TFrac × Int) :=
  ((bif (decide (num > 1152921504606846976)) then some (true, ()) else some ((decide (den > 1152921504606846976)), ())) : Option (Bool × Unit)).bind fun y1 => (bif y1.1 then some ((TFrac.mk 0 0), 5) else ((bif negative then some ((IntKind.i64.wrap (0 - (IntKind.i64.wrap num))), ()) else some ((IntKind.i64.wrap num), ())) : Option (Int × Unit)).bind fun y2 => some ((TFrac.mk y2.1 (IntKind.i64.wrap den)), 0))
def an_ratio_signed : An U := (.node none .nil (.node none (.node (some ⟨[0, 1, 2, 6, 7], [], ⟨[], []⟩, [(.normal, ⟨[(14, .tv .bool)], []⟩)]⟩) .nil .nil) (.node none .nil (.node (some ⟨[2, 6, 7], [], ⟨[], []⟩, [(.normal, ⟨[(8, .tv .int)], []⟩)]⟩) .nil .nil))))
def fe_ratio_signed : Fe G := ⟨[.v .bool, .v .u64, .v .u64], [.Frac, .Errno], fun x => F_ratio_signed x.1 x.2.1 x.2.2.1⟩
def tb_ratio_signed : List (FuncId × Fe G) := []
theorem ev_ratio_signed (x : TyP G fe_ratio_signed.ps) : evF G (lstK G tb_ratio_signed) (bodyOf Try.f73) an_ratio_signed 25 [.cell 6 27, .tmp 7] fe_ratio_signed.rs (argT G fe_ratio_signed.ps x) = fe_ratio_signed.fn x := by kernel_rfl
theorem ok_ratio_signed : FnOk G 73 fe_ratio_signed := fnOk_of G_ok (lstK_ok G_ok (lnil)) Try.func73 (by kernel_rfl) (by kernel_rfl) (by kernel_rfl) (by kernel_rfl) (by kernel_rfl) ev_ratio_signed

def F_ratio_plus (a : Twide) (b : Twide) : Option (Twide) :=
  (if 0 ≤ a.lo ∧ 0 ≤ b.lo ∧ b.lo < u64M ∧ 0 ≤ (0 : Int) ∧ (0 : Int) ≤ 1 then (if 0 ≤ a.hi ∧ 0 ≤ b.hi ∧ b.hi < u64M ∧ 0 ≤ ((a.lo + b.lo + 0) / u64M) ∧ ((a.lo + b.lo + 0) / u64M) ≤ 1 then some (Twide.mk ((a.hi + b.hi + ((a.lo + b.lo + 0) / u64M)) % u64M) ((a.lo + b.lo + 0) % u64M)) else none) else none)
def an_ratio_plus : An U := .nil
def fe_ratio_plus : Fe G := ⟨[.v .wide, .v .wide], [.wide], fun x => F_ratio_plus x.1 x.2.1⟩
def tb_ratio_plus : List (FuncId × Fe G) := []
theorem ev_ratio_plus (x : TyP G fe_ratio_plus.ps) : evF G (lstK G tb_ratio_plus) (bodyOf Try.f74) an_ratio_plus 29 [.cell 4 94] fe_ratio_plus.rs (argT G fe_ratio_plus.ps x) = fe_ratio_plus.fn x := by kernel_rfl
theorem ok_ratio_plus : FnOk G 74 fe_ratio_plus := fnOk_of G_ok (lstK_ok G_ok (lnil)) Try.func74 (by kernel_rfl) (by kernel_rfl) (by kernel_rfl) (by kernel_rfl) (by kernel_rfl) ev_ratio_plus

def F_ratio_less (a : Twide) (b : Twide) : Option (Bool) :=
  ((bif (decide (a.hi < b.hi)) then some (true, ()) else (bif (a.hi == b.hi) then some ((decide (a.lo < b.lo)), ()) else some (false, ()))) : Option (Bool × Unit)).bind fun y1 => some y1.1
def an_ratio_less : An U := (.node none .nil (.node (some ⟨[], [], ⟨[], []⟩, [(.normal, ⟨[(4, .tv .bool)], []⟩)]⟩) .nil .nil))
def fe_ratio_less : Fe G := ⟨[.v .wide, .v .wide], [.bool], fun x => F_ratio_less x.1 x.2.1⟩
def tb_ratio_less : List (FuncId × Fe G) := []
theorem ev_ratio_less (x : TyP G fe_ratio_less.ps) : evF G (lstK G tb_ratio_less) (bodyOf Try.f75) an_ratio_less 24 [.tmp 4] fe_ratio_less.rs (argT G fe_ratio_less.ps x) = fe_ratio_less.fn x := by kernel_rfl
theorem ok_ratio_less : FnOk G 75 fe_ratio_less := fnOk_of G_ok (lstK_ok G_ok (lnil)) Try.func75 (by kernel_rfl) (by kernel_rfl) (by kernel_rfl) (by kernel_rfl) (by kernel_rfl) ev_ratio_less

def F_ratio_minus (a : Twide) (b : Twide) : Option (Twide) :=
  (if 0 ≤ a.lo ∧ 0 ≤ b.lo ∧ b.lo < u64M ∧ 0 ≤ (0 : Int) ∧ (0 : Int) ≤ 1 then (if 0 ≤ a.hi ∧ 0 ≤ b.hi ∧ b.hi < u64M ∧ 0 ≤ (if a.lo < b.lo + 0 then (1 : Int) else 0) ∧ (if a.lo < b.lo + 0 then (1 : Int) else 0) ≤ 1 then some (Twide.mk ((a.hi + u64M - b.hi - (if a.lo < b.lo + 0 then (1 : Int) else 0)) % u64M) ((a.lo + u64M - b.lo - 0) % u64M)) else none) else none)
def an_ratio_minus : An U := .nil
def fe_ratio_minus : Fe G := ⟨[.v .wide, .v .wide], [.wide], fun x => F_ratio_minus x.1 x.2.1⟩
def tb_ratio_minus : List (FuncId × Fe G) := []
theorem ev_ratio_minus (x : TyP G fe_ratio_minus.ps) : evF G (lstK G tb_ratio_minus) (bodyOf Try.f76) an_ratio_minus 29 [.cell 4 94] fe_ratio_minus.rs (argT G fe_ratio_minus.ps x) = fe_ratio_minus.fn x := by kernel_rfl
theorem ok_ratio_minus : FnOk G 76 fe_ratio_minus := fnOk_of G_ok (lstK_ok G_ok (lnil)) Try.func76 (by kernel_rfl) (by kernel_rfl) (by kernel_rfl) (by kernel_rfl) (by kernel_rfl) ev_ratio_minus

def F_slices_IndexFunc_api_Spring (s : List TSpring) (f : TSpring → Option Bool) : Option (Int) :=
  (iterF (σ := Int × Unit) (ρ := (Int × Unit) ⊕ (Unit)) (fun s3 => (bif (decide (s3.1 < ((s.length : Nat) : Int))) then (idx s s3.1).bind fun x4 => (f x4).bind fun r5 => (bif r5 then some (.inr (.inl (s3.1, ()))) else some (.inl ((IntKind.i64.wrap (s3.1 + 1)), ()))) else some (.inr (.inr ((())))))) big (0, ())).bind fun y6 => (match y6 with | .inl y7 => some y7.1 | .inr y8 => some (-1))
def an_slices_IndexFunc_api_Spring : An U := (.node none .nil (.node none (.node none .nil (.node none (.node (some ⟨[0, 1, 7], [], ⟨[(8, .tv .int)], []⟩, [(.ret, ⟨[(4, .tv .int)], []⟩), (.exit 0, ⟨[], []⟩)]⟩) .nil .nil) .nil)) .nil))
def fe_slices_IndexFunc_api_Spring : Fe G := ⟨[.v .l_Spring, .fn .Spring .bool], [.int1], fun x => F_slices_IndexFunc_api_Spring x.1 x.2.1⟩
def tb_slices_IndexFunc_api_Spring : List (FuncId × Fe G) := []
theorem ev_slices_IndexFunc_api_Spring (x : TyP G fe_slices_IndexFunc_api_Spring.ps) : evF G (lstK G tb_slices_IndexFunc_api_Spring) (bodyOf Try.f79) an_slices_IndexFunc_api_Spring 19 [.tmp 4] fe_slices_IndexFunc_api_Spring.rs (argT G fe_slices_IndexFunc_api_Spring.ps x) = fe_slices_IndexFunc_api_Spring.fn x := by kernel_rfl
theorem ok_slices_IndexFunc_api_Spring : FnOk G 79 fe_slices_IndexFunc_api_Spring := fnOk_of G_ok (lstK_ok G_ok (lnil)) Try.func79 (by kernel_rfl) (by kernel_rfl) (by kernel_rfl) (by kernel_rfl) (by kernel_rfl) ev_slices_IndexFunc_api_Spring

def F_elastic_valid_1 (t : TSpring) (a1 : TSpring) : Option (Bool) :=
  some (t.name.toList == a1.name.toList)
def an_elastic_valid_1 : An U := .nil
def fe_elastic_valid_1 : Fe G := ⟨[.v .Spring, .rp .Spring], [.bool], fun x => F_elastic_valid_1 x.1 x.2.1⟩
def tb_elastic_valid_1 : List (FuncId × Fe G) := []
theorem ev_elastic_valid_1 (x : TyP G fe_elastic_valid_1.ps) : evF G (lstK G tb_elastic_valid_1) (bodyOf Try.f81) an_elastic_valid_1 9 [.tmp 3] fe_elastic_valid_1.rs (argT G fe_elastic_valid_1.ps x) = fe_elastic_valid_1.fn x := by kernel_rfl
theorem ok_elastic_valid_1 : FnOk G 81 fe_elastic_valid_1 := fnOk_of G_ok (lstK_ok G_ok (lnil)) Try.func81 (by kernel_rfl) (by kernel_rfl) (by kernel_rfl) (by kernel_rfl) (by kernel_rfl) ev_elastic_valid_1

def F_slices_IndexFunc_int (s : List Int) (f : Int → Option Bool) : Option (Int) :=
  (iterF (σ := Int × Unit) (ρ := (Int × Unit) ⊕ (Unit)) (fun s3 => (bif (decide (s3.1 < ((s.length : Nat) : Int))) then (idx s s3.1).bind fun x4 => (f x4).bind fun r5 => (bif r5 then some (.inr (.inl (s3.1, ()))) else some (.inl ((IntKind.i64.wrap (s3.1 + 1)), ()))) else some (.inr (.inr ((())))))) big (0, ())).bind fun y6 => (match y6 with | .inl y7 => some y7.1 | .inr y8 => some (-1))
def an_slices_IndexFunc_int : An U := (.node none .nil (.node none (.node none .nil (.node none (.node (some ⟨[0, 1, 7], [], ⟨[(8, .tv .int)], []⟩, [(.ret, ⟨[(4, .tv .int)], []⟩), (.exit 0, ⟨[], []⟩)]⟩) .nil .nil) .nil)) .nil))
def fe_slices_IndexFunc_int : Fe G := ⟨[.v .l_int1, .fn .int1 .bool], [.int1], fun x => F_slices_IndexFunc_int x.1 x.2.1⟩
def tb_slices_IndexFunc_int : List (FuncId × Fe G) := []
theorem ev_slices_IndexFunc_int (x : TyP G fe_slices_IndexFunc_int.ps) : evF G (lstK G tb_slices_IndexFunc_int) (bodyOf Try.f82) an_slices_IndexFunc_int 19 [.tmp 4] fe_slices_IndexFunc_int.rs (argT G fe_slices_IndexFunc_int.ps x) = fe_slices_IndexFunc_int.fn x := by kernel_rfl
theorem ok_slices_IndexFunc_int : FnOk G 82 fe_slices_IndexFunc_int := fnOk_of G_ok (lstK_ok G_ok (lnil)) Try.func82 (by kernel_rfl) (by kernel_rfl) (by kernel_rfl) (by kernel_rfl) (by kernel_rfl) ev_slices_IndexFunc_int

def F_math_bits_Mul64 (x : Int) (y : Int) : Option (Int × Int) :=
  some ((IntKind.u64.wrap ((IntKind.u64.wrap ((IntKind.u64.wrap ((x.fdiv (2 ^ min (Int.toNat 32) IntKind.u64.bits)) * (y.fdiv (2 ^ min (Int.toNat 32) IntKind.u64.bits)))) + ((IntKind.u64.wrap ((IntKind.u64.wrap ((x.fdiv (2 ^ min (Int.toNat 32) IntKind.u64.bits)) * (bitsOf .and .u64 y 4294967295))) + ((IntKind.u64.wrap ((bitsOf .and .u64 x 4294967295) * (bitsOf .and .u64 y 4294967295))).fdiv (2 ^ min (Int.toNat 32) IntKind.u64.bits)))).fdiv (2 ^ min (Int.toNat 32) IntKind.u64.bits)))) + ((IntKind.u64.wrap ((bitsOf .and .u64 (IntKind.u64.wrap ((IntKind.u64.wrap ((x.fdiv (2 ^ min (Int.toNat 32) IntKind.u64.bits)) * (bitsOf .and .u64 y 4294967295))) + ((IntKind.u64.wrap ((bitsOf .and .u64 x 4294967295) * (bitsOf .and .u64 y 4294967295))).fdiv (2 ^ min (Int.toNat 32) IntKind.u64.bits)))) 4294967295) + (IntKind.u64.wrap ((bitsOf .and .u64 x 4294967295) * (y.fdiv (2 ^ min (Int.toNat 32) IntKind.u64.bits)))))).fdiv (2 ^ min (Int.toNat 32) IntKind.u64.bits)))), (IntKind.u64.wrap (x * y)))
def an_math_bits_Mul64 : An U := .nil
def fe_math_bits_Mul64 : Fe G := ⟨[.v .u64, .v .u64], [.u64, .u64], fun x => F_math_bits_Mul64 x.1 x.2.1⟩
def tb_math_bits_Mul64 : List (FuncId × Fe G) := []
theorem ev_math_bits_Mul64 (x : TyP G fe_math_bits_Mul64.ps) : evF G (lstK G tb_math_bits_Mul64) (bodyOf Try.f91) an_math_bits_Mul64 51 [.tmp 4, .tmp 5] fe_math_bits_Mul64.rs (argT G fe_math_bits_Mul64.ps x) = fe_math_bits_Mul64.fn x := by kernel_rfl
theorem ok_math_bits_Mul64 : FnOk G 91 fe_math_bits_Mul64 := fnOk_of G_ok (lstK_ok G_ok (lnil)) Try.func91 (by kernel_rfl) (by kernel_rfl) (by kernel_rfl) (by kernel_rfl) (by kernel_rfl) ev_math_bits_Mul64

def F_math_bits_Mul32 (x : Int) (y : Int) : Option (Int × Int) :=
  some ((IntKind.u32.wrap ((IntKind.u64.wrap ((IntKind.u64.wrap x) * (IntKind.u64.wrap y))).fdiv (2 ^ min (Int.toNat 32) IntKind.u64.bits))), (IntKind.u32.wrap (IntKind.u64.wrap ((IntKind.u64.wrap x) * (IntKind.u64.wrap y)))))
def an_math_bits_Mul32 : An U := .nil
def fe_math_bits_Mul32 : Fe G := ⟨[.v .u32, .v .u32], [.u32, .u32], fun x => F_math_bits_Mul32 x.1 x.2.1⟩
def tb_math_bits_Mul32 : List (FuncId × Fe G) := []
theorem ev_math_bits_Mul32 (x : TyP G fe_math_bits_Mul32.ps) : evF G (lstK G tb_math_bits_Mul32) (bodyOf Try.f95) an_math_bits_Mul32 17 [.tmp 4, .tmp 5] fe_math_bits_Mul32.rs (argT G fe_math_bits_Mul32.ps x) = fe_math_bits_Mul32.fn x := by kernel_rfl
theorem ok_math_bits_Mul32 : FnOk G 95 fe_math_bits_Mul32 := fnOk_of G_ok (lstK_ok G_ok (lnil)) Try.func95 (by kernel_rfl) (by kernel_rfl) (by kernel_rfl) (by kernel_rfl) (by kernel_rfl) ev_math_bits_Mul32

def F_decimal_letter (c : Int) : Option (Bool) :=
  ((bif (decide (c ≥ 97)) then (bif (decide (c ≤ 122)) then some (true, ()) else (bif (decide (c ≥ 65)) then some ((decide (c ≤ 90)), ()) else some (false, ()))) else (bif (decide (c ≥ 65)) then some ((decide (c ≤ 90)), ()) else some (false, ()))) : Option (Bool × Unit)).bind fun y1 => some y1.1
def an_decimal_letter : An U := (.node none .nil (.node (some ⟨[], [], ⟨[], []⟩, [(.normal, ⟨[(2, .tv .bool)], []⟩)]⟩) .nil .nil))
def fe_decimal_letter : Fe G := ⟨[.v .u8], [.bool], fun x => F_decimal_letter x.1⟩
def tb_decimal_letter : List (FuncId × Fe G) := []
theorem ev_decimal_letter (x : TyP G fe_decimal_letter.ps) : evF G (lstK G tb_decimal_letter) (bodyOf Try.f96) an_decimal_letter 17 [.tmp 2] fe_decimal_letter.rs (argT G fe_decimal_letter.ps x) = fe_decimal_letter.fn x := by kernel_rfl
theorem ok_decimal_letter : FnOk G 96 fe_decimal_letter := fnOk_of G_ok (lstK_ok G_ok (lnil)) Try.func96 (by kernel_rfl) (by kernel_rfl) (by kernel_rfl) (by kernel_rfl) (by kernel_rfl) ev_decimal_letter

def F_math_bits_Len32 (x : Int) : Option (Int) :=
  ((bif (decide (x ≥ 65536)) then some ((x.fdiv (2 ^ min (Int.toNat 16) IntKind.u32.bits)), 16, ()) else some (x, 0, ())) : Option (Int × Int × Unit)).bind fun y1 => ((bif (decide (y1.1 ≥ 256)) then some ((y1.1.fdiv (2 ^ min (Int.toNat 8) IntKind.u32.bits)), (IntKind.i64.wrap (y1.2.1 + 8)), ()) else some (y1.1, y1.2.1, ())) : Option (Int × Int × Unit)).bind fun y2 => (idxB (⟨#[0, 1, 2, 2, 3, 3, 3, 3, 4, 4, 4, 4, 4, 4, 4, 4, 5, 5, 5, 5, 5, 5, 5, 5, 5, 5, 5, 5, 5, 5, 5, 5, 6, 6, 6, 6, 6, 6, 6, 6, 6, 6, 6, 6, 6, 6, 6, 6, 6, 6, 6, 6, 6, 6, 6, 6, 6, 6, 6, 6, 6, 6, 6, 6, 7, 7, 7, 7, 7, 7, 7, 7, 7, 7, 7, 7, 7, 7, 7, 7, 7, 7, 7, 7, 7, 7, 7, 7, 7, 7, 7, 7, 7, 7, 7, 7, 7, 7, 7, 7, 7, 7, 7, 7, 7, 7, 7, 7, 7, 7, 7, 7, 7, 7, 7, 7, 7, 7, 7, 7, 7, 7, 7, 7, 7, 7, 7, 7, 8, 8, 8, 8, 8, 8, 8, 8, 8, 8, 8, 8, 8, 8, 8, 8, 8, 8, 8, 8, 8, 8, 8, 8, 8, 8, 8, 8, 8, 8, 8, 8, 8, 8, 8, 8, 8, 8, 8, 8, 8, 8, 8, 8, 8, 8, 8, 8, 8, 8, 8, 8, 8, 8, 8, 8, 8, 8, 8, 8, 8, 8, 8, 8, 8, 8, 8, 8, 8, 8, 8, 8, 8, 8, 8, 8, 8, 8, 8, 8, 8, 8, 8, 8, 8, 8, 8, 8, 8, 8, 8, 8, 8, 8, 8, 8, 8, 8, 8, 8, 8, 8, 8, 8, 8, 8, 8, 8, 8, 8, 8, 8, 8, 8, 8, 8, 8, 8, 8, 8, 8, 8, 8, 8, 8, 8, 8, 8]⟩ : ByteArray) (IntKind.u8.wrap y2.1)).bind fun b3 => some (IntKind.i64.wrap (y2.2.1 + (IntKind.i64.wrap ((b3.toNat : Nat) : Int))))
def an_math_bits_Len32 : An U := (.node none .nil (.node (some ⟨[], [], ⟨[], []⟩, [(.normal, ⟨[(0, .tv .u32), (2, .tv .int)], []⟩)]⟩) .nil (.node (some ⟨[], [], ⟨[], []⟩, [(.normal, ⟨[(0, .tv .u32), (2, .tv .int)], []⟩)]⟩) .nil .nil)))
def fe_math_bits_Len32 : Fe G := ⟨[.v .u32], [.int1], fun x => F_math_bits_Len32 x.1⟩
def tb_math_bits_Len32 : List (FuncId × Fe G) := []
theorem ev_math_bits_Len32 (x : TyP G fe_math_bits_Len32.ps) : evF G (lstK G tb_math_bits_Len32) (bodyOf Try.f106) an_math_bits_Len32 19 [.tmp 2] fe_math_bits_Len32.rs (argT G fe_math_bits_Len32.ps x) = fe_math_bits_Len32.fn x := by kernel_rfl
theorem ok_math_bits_Len32 : FnOk G 106 fe_math_bits_Len32 := fnOk_of G_ok (lstK_ok G_ok (lnil)) Try.func106 (by kernel_rfl) (by kernel_rfl) (by kernel_rfl) (by kernel_rfl) (by kernel_rfl) ev_math_bits_Len32

def F_math_bits_Len64 (x : Int) : Option (Int) :=
  ((bif (decide (x ≥ 4294967296)) then some ((x.fdiv (2 ^ min (Int.toNat 32) IntKind.u64.bits)), 32, ()) else some (x, 0, ())) : Option (Int × Int × Unit)).bind fun y1 => ((bif (decide (y1.1 ≥ 65536)) then some ((y1.1.fdiv (2 ^ min (Int.toNat 16) IntKind.u64.bits)), (IntKind.i64.wrap (y1.2.1 + 16)), ()) else some (y1.1, y1.2.1, ())) : Option (Int × Int × Unit)).bind fun y2 => ((bif (decide (y2.1 ≥ 256)) then some ((y2.1.fdiv (2 ^ min (Int.toNat 8) IntKind.u64.bits)), (IntKind.i64.wrap (y2.2.1 + 8)), ()) else some (y2.1, y2.2.1, ())) : Option (Int × Int × Unit)).bind fun y3 => (idxB (⟨#[0, 1, 2, 2, 3, 3, 3, 3, 4, 4, 4, 4, 4, 4, 4, 4, 5, 5, 5, 5, 5, 5, 5, 5, 5, 5, 5, 5, 5, 5, 5, 5, 6, 6, 6, 6, 6, 6, 6, 6, 6, 6, 6, 6, 6, 6, 6, 6, 6, 6, 6, 6, 6, 6, 6, 6, 6, 6, 6, 6, 6, 6, 6, 6, 7, 7, 7, 7, 7, 7, 7, 7, 7, 7, 7, 7, 7, 7, 7, 7, 7, 7, 7, 7, 7, 7, 7, 7, 7, 7, 7, 7, 7, 7, 7, 7, 7, 7, 7, 7, 7, 7, 7, 7, 7, 7, 7, 7, 7, 7, 7, 7, 7, 7, 7, 7, 7, 7, 7, 7, 7, 7, 7, 7, 7, 7, 7, 7, 8, 8, 8, 8, 8, 8, 8, 8, 8, 8, 8, 8, 8, 8, 8, 8, 8, 8, 8, 8, 8, 8, 8, 8, 8, 8, 8, 8, 8, 8, 8, 8, 8, 8, 8, 8, 8, 8, 8, 8, 8, 8, 8, 8, 8, 8, 8, 8, 8, 8, 8, 8, 8, 8, 8, 8, 8, 8, 8, 8, 8, 8, 8, 8, 8, 8, 8, 8, 8, 8, 8, 8, 8, 8, 8, 8, 8, 8, 8, 8, 8, 8, 8, 8, 8, 8, 8, 8, 8, 8, 8, 8, 8, 8, 8, 8, 8, 8, 8, 8, 8, 8, 8, 8, 8, 8, 8, 8, 8, 8, 8, 8, 8, 8, 8, 8, 8, 8, 8, 8, 8, 8, 8, 8, 8, 8, 8, 8]⟩ : ByteArray) (IntKind.u8.wrap y3.1)).bind fun b4 => some (IntKind.i64.wrap (y3.2.1 + (IntKind.i64.wrap ((b4.toNat : Nat) : Int))))
def an_math_bits_Len64 : An U := (.node none .nil (.node (some ⟨[], [], ⟨[], []⟩, [(.normal, ⟨[(0, .tv .u64), (2, .tv .int)], []⟩)]⟩) .nil (.node (some ⟨[], [], ⟨[], []⟩, [(.normal, ⟨[(0, .tv .u64), (2, .tv .int)], []⟩)]⟩) .nil (.node (some ⟨[], [], ⟨[], []⟩, [(.normal, ⟨[(0, .tv .u64), (2, .tv .int)], []⟩)]⟩) .nil .nil))))
def fe_math_bits_Len64 : Fe G := ⟨[.v .u64], [.int1], fun x => F_math_bits_Len64 x.1⟩
def tb_math_bits_Len64 : List (FuncId × Fe G) := []
theorem ev_math_bits_Len64 (x : TyP G fe_math_bits_Len64.ps) : evF G (lstK G tb_math_bits_Len64) (bodyOf Try.f107) an_math_bits_Len64 25 [.tmp 2] fe_math_bits_Len64.rs (argT G fe_math_bits_Len64.ps x) = fe_math_bits_Len64.fn x := by kernel_rfl
theorem ok_math_bits_Len64 : FnOk G 107 fe_math_bits_Len64 := fnOk_of G_ok (lstK_ok G_ok (lnil)) Try.func107 (by kernel_rfl) (by kernel_rfl) (by kernel_rfl) (by kernel_rfl) (by kernel_rfl) ev_math_bits_Len64
end
end Go.Proofs.Ytkphcdficpfcnaa
