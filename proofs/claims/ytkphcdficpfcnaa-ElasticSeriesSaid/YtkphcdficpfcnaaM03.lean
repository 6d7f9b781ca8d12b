/- Joined by merge.py: Sg. -/
import Derived.Test.YtkphcdficpfcnaaM02
import Derived.KernelRfl
import Derived.Test.YtkphcdficpfcnaaChecked
/- The types of the data: structures, and their reading as rows of cells. Printed by sg.py. -/
namespace Go.Proofs.Ytkphcdficpfcnaa
open Go.RowKit
structure TSpring where
  name : ByteArray
  stiff : Int
structure TFrac where
  num : Int
  den : Int
structure TU where
  h : Int
  l : Int
structure Twide where
  hi : Int
  lo : Int
inductive U where
  | int
  | int1
  | bool
  | u8
  | str
  | Spring
  | l_Spring
  | l_int1
  | Frac
  | Errno
  | l_Frac
  | i16
  | u16
  | u64
  | U
  | wide
  | u641
  | u32
  | sortedHint
  | xorshift
  deriving DecidableEq
@[reducible] def El : U → Type
  | .int => Int
  | .int1 => Int
  | .bool => Bool
  | .u8 => Int
  | .str => ByteArray
  | .Spring => TSpring
  | .l_Spring => List TSpring
  | .l_int1 => List Int
  | .Frac => TFrac
  | .Errno => Int
  | .l_Frac => List TFrac
  | .i16 => Int
  | .u16 => Int
  | .u64 => Int
  | .U => TU
  | .wide => Twide
  | .u641 => Int
  | .u32 => Int
  | .sortedHint => Int
  | .xorshift => Int
abbrev PP := PV U El
def gInt (k : IntKind) : PP → Option Int
  | .val (.int k' n) => if k' = k then some n else none
  | _ => none
def gBool : PP → Option Bool
  | .val (.bool b) => some b
  | _ => none
def gStr : PP → Option ByteArray
  | .val (.string b) => some b
  | _ => none
def gNil : PP → Option Unit
  | .val (.pointer none) => some ()
  | _ => none
def gSl (u : U) : PP → Option (List (El u))
  | .sl v l => @dite _ (v = u) (decEq v u) (fun h => some (h ▸ l)) (fun _ => none)
  | .val (.slice none 0 0) => some []
  | _ => none
def rowU : (u : U) → El u → List PP
  | .int, x => [.val (.int .i64 x)]
  | .int1, x => [.val (.int .i64 x)]
  | .bool, x => [.val (.bool x)]
  | .u8, x => [.val (.int .u8 x)]
  | .str, x => [.val (.string x)]
  | .Spring, x => [.val (.string x.name), .val (.int .i64 x.stiff)]
  | .l_Spring, x => [.sl .Spring x]
  | .l_int1, x => [.sl .int1 x]
  | .Frac, x => [.val (.int .i64 x.num), .val (.int .i64 x.den)]
  | .Errno, x => [.val (.int .i64 x)]
  | .l_Frac, x => [.sl .Frac x]
  | .i16, x => [.val (.int .i16 x)]
  | .u16, x => [.val (.int .u16 x)]
  | .u64, x => [.val (.int .u64 x)]
  | .U, x => [.val (.int .u64 x.h), .val (.int .u64 x.l)]
  | .wide, x => [.val (.int .u64 x.hi), .val (.int .u64 x.lo)]
  | .u641, x => [.val (.int .u64 x)]
  | .u32, x => [.val (.int .u32 x)]
  | .sortedHint, x => [.val (.int .i64 x)]
  | .xorshift, x => [.val (.int .u64 x)]
def unrowU : (u : U) → List PP → Option (El u)
  | .int, ps => match ps with
    | [p0] => (gInt .i64 p0).bind fun x0 => some x0
    | _ => none
  | .int1, ps => match ps with
    | [p0] => (gInt .i64 p0).bind fun x0 => some x0
    | _ => none
  | .bool, ps => match ps with
    | [p0] => (gBool p0).bind fun x0 => some x0
    | _ => none
  | .u8, ps => match ps with
    | [p0] => (gInt .u8 p0).bind fun x0 => some x0
    | _ => none
  | .str, ps => match ps with
    | [p0] => (gStr p0).bind fun x0 => some x0
    | _ => none
  | .Spring, ps => match ps with
    | [p0, p1] => (gStr p0).bind fun x0 => (gInt .i64 p1).bind fun x1 => some ⟨x0, x1⟩
    | _ => none
  | .l_Spring, ps => match ps with
    | [p0] => (gSl .Spring p0).bind fun x0 => some x0
    | _ => none
  | .l_int1, ps => match ps with
    | [p0] => (gSl .int1 p0).bind fun x0 => some x0
    | _ => none
  | .Frac, ps => match ps with
    | [p0, p1] => (gInt .i64 p0).bind fun x0 => (gInt .i64 p1).bind fun x1 => some ⟨x0, x1⟩
    | _ => none
  | .Errno, ps => match ps with
    | [p0] => (gInt .i64 p0).bind fun x0 => some x0
    | _ => none
  | .l_Frac, ps => match ps with
    | [p0] => (gSl .Frac p0).bind fun x0 => some x0
    | _ => none
  | .i16, ps => match ps with
    | [p0] => (gInt .i16 p0).bind fun x0 => some x0
    | _ => none
  | .u16, ps => match ps with
    | [p0] => (gInt .u16 p0).bind fun x0 => some x0
    | _ => none
  | .u64, ps => match ps with
    | [p0] => (gInt .u64 p0).bind fun x0 => some x0
    | _ => none
  | .U, ps => match ps with
    | [p0, p1] => (gInt .u64 p0).bind fun x0 => (gInt .u64 p1).bind fun x1 => some ⟨x0, x1⟩
    | _ => none
  | .wide, ps => match ps with
    | [p0, p1] => (gInt .u64 p0).bind fun x0 => (gInt .u64 p1).bind fun x1 => some ⟨x0, x1⟩
    | _ => none
  | .u641, ps => match ps with
    | [p0] => (gInt .u64 p0).bind fun x0 => some x0
    | _ => none
  | .u32, ps => match ps with
    | [p0] => (gInt .u32 p0).bind fun x0 => some x0
    | _ => none
  | .sortedHint, ps => match ps with
    | [p0] => (gInt .i64 p0).bind fun x0 => some x0
    | _ => none
  | .xorshift, ps => match ps with
    | [p0] => (gInt .u64 p0).bind fun x0 => some x0
    | _ => none
def zeroU : (u : U) → El u
  | .int => 0
  | .int1 => 0
  | .bool => false
  | .u8 => 0
  | .str => ByteArray.empty
  | .Spring => ⟨ByteArray.empty, 0⟩
  | .l_Spring => []
  | .l_int1 => []
  | .Frac => ⟨0, 0⟩
  | .Errno => 0
  | .l_Frac => []
  | .i16 => 0
  | .u16 => 0
  | .u64 => 0
  | .U => ⟨0, 0⟩
  | .wide => ⟨0, 0⟩
  | .u641 => 0
  | .u32 => 0
  | .sortedHint => 0
  | .xorshift => 0
def tyU : U → TypeId
  | .int => 2
  | .int1 => 3
  | .bool => 4
  | .u8 => 5
  | .str => 9
  | .Spring => 50
  | .l_Spring => 22
  | .l_int1 => 23
  | .Frac => 27
  | .Errno => 28
  | .l_Frac => 31
  | .i16 => 46
  | .u16 => 65
  | .u64 => 82
  | .U => 84
  | .wide => 94
  | .u641 => 101
  | .u32 => 116
  | .sortedHint => 121
  | .xorshift => 134
def szU : U → Nat
  | .int => 1
  | .int1 => 1
  | .bool => 1
  | .u8 => 1
  | .str => 1
  | .Spring => 2
  | .l_Spring => 1
  | .l_int1 => 1
  | .Frac => 2
  | .Errno => 1
  | .l_Frac => 1
  | .i16 => 1
  | .u16 => 1
  | .u64 => 1
  | .U => 2
  | .wide => 2
  | .u641 => 1
  | .u32 => 1
  | .sortedHint => 1
  | .xorshift => 1
def agU : U → Bool
  | .int => false
  | .int1 => false
  | .bool => false
  | .u8 => false
  | .str => false
  | .Spring => true
  | .l_Spring => false
  | .l_int1 => false
  | .Frac => true
  | .Errno => false
  | .l_Frac => false
  | .i16 => false
  | .u16 => false
  | .u64 => false
  | .U => true
  | .wide => true
  | .u641 => false
  | .u32 => false
  | .sortedHint => false
  | .xorshift => false
def flatU : U → Bool
  | .int => true
  | .int1 => true
  | .bool => true
  | .u8 => true
  | .str => true
  | .Spring => true
  | .l_Spring => false
  | .l_int1 => false
  | .Frac => true
  | .Errno => true
  | .l_Frac => false
  | .i16 => true
  | .u16 => true
  | .u64 => true
  | .U => true
  | .wide => true
  | .u641 => true
  | .u32 => true
  | .sortedHint => true
  | .xorshift => true
def eltU : TypeId → Option U
  | 22 => some .Spring
  | 23 => some .int1
  | 31 => some .Frac
  | _ => none
def extF : FuncId → Option Ext
  | 92 => some .add64
  | 93 => some .sub64
  | _ => none
def G : Sg Try.prog := { U := U, deq := inferInstance, El := El, row := rowU, unrow := unrowU, zero := zeroU, ty := tyU, sz := szU, ag := agU, elt := eltU, flat := flatU, byref := fun f => ([41, 52] : List Nat).contains f, ext := extF }
theorem gInt_w {k : IntKind} {p : PP} {n : Int} (h : gInt k p = some n) : Weak G p (.val (.int k n)) := by
  unfold gInt at h
  split at h
  · split at h
    · rename_i hk; subst hk; cases h; exact .inl rfl
    · cases h
  · cases h
theorem gBool_w {p : PP} {n : Bool} (h : gBool p = some n) : Weak G p (.val (.bool n)) := by
  unfold gBool at h
  split at h
  · cases h; exact .inl rfl
  · cases h
theorem gStr_w {p : PP} {n : ByteArray} (h : gStr p = some n) : Weak G p (.val (.string n)) := by
  unfold gStr at h
  split at h
  · cases h; exact .inl rfl
  · cases h
theorem gNil_w {p : PP} {n : Unit} (h : gNil p = some n) : Weak G p (.val (.pointer none)) := by
  unfold gNil at h
  split at h
  · exact .inl rfl
  · cases h
theorem gSl_w {u : U} {p : PP} {l : List (El u)} (h : gSl u p = some l) : Weak G p (.sl u l) := by
  unfold gSl at h
  split at h
  · split at h
    · rename_i hv; subst hv; cases h; exact .inl rfl
    · cases h
  · cases h; exact .inr ⟨rfl, u, rfl⟩
  · cases h
inductive Wk : List PP → List PP → Prop where
  | nil : Wk [] []
  | cons {p q ps qs} (h : Weak G p q) (t : Wk ps qs) : Wk (p :: ps) (q :: qs)
theorem Wk.get {ps qs : List PP} (h : Wk ps qs) : ps.length = qs.length ∧ ∀ (j : Nat) (p : PP), ps[j]? = some p → ∃ q, qs[j]? = some q ∧ Weak G p q := by
  induction h with
  | nil => exact ⟨rfl, fun j p hj => by cases hj⟩
  | cons h _ ih =>
    refine ⟨congrArg (· + 1) ih.1, fun j p hj => ?_⟩
    cases j with
    | zero => cases hj; exact ⟨_, rfl, h⟩
    | succ j => exact ih.2 j p hj
theorem row_szU : ∀ u x, (rowU u x).length = szU u := by
  intro u x; cases u <;> rfl
theorem un_int {ps : List PP} {x : El .int} (h : unrowU .int ps = some x) : Wk ps (rowU .int x) := by
  unfold unrowU at h
  simp only at h
  split at h
  · simp only [Option.bind_eq_some_iff] at h
    obtain ⟨x0, hx0, h⟩ := h
    cases h
    exact .cons (gInt_w hx0) (.nil)
  · cases h
theorem un_int1 {ps : List PP} {x : El .int1} (h : unrowU .int1 ps = some x) : Wk ps (rowU .int1 x) := by
  unfold unrowU at h
  simp only at h
  split at h
  · simp only [Option.bind_eq_some_iff] at h
    obtain ⟨x0, hx0, h⟩ := h
    cases h
    exact .cons (gInt_w hx0) (.nil)
  · cases h
theorem un_bool {ps : List PP} {x : El .bool} (h : unrowU .bool ps = some x) : Wk ps (rowU .bool x) := by
  unfold unrowU at h
  simp only at h
  split at h
  · simp only [Option.bind_eq_some_iff] at h
    obtain ⟨x0, hx0, h⟩ := h
    cases h
    exact .cons (gBool_w hx0) (.nil)
  · cases h
theorem un_u8 {ps : List PP} {x : El .u8} (h : unrowU .u8 ps = some x) : Wk ps (rowU .u8 x) := by
  unfold unrowU at h
  simp only at h
  split at h
  · simp only [Option.bind_eq_some_iff] at h
    obtain ⟨x0, hx0, h⟩ := h
    cases h
    exact .cons (gInt_w hx0) (.nil)
  · cases h
theorem un_str {ps : List PP} {x : El .str} (h : unrowU .str ps = some x) : Wk ps (rowU .str x) := by
  unfold unrowU at h
  simp only at h
  split at h
  · simp only [Option.bind_eq_some_iff] at h
    obtain ⟨x0, hx0, h⟩ := h
    cases h
    exact .cons (gStr_w hx0) (.nil)
  · cases h
theorem un_Spring {ps : List PP} {x : El .Spring} (h : unrowU .Spring ps = some x) : Wk ps (rowU .Spring x) := by
  unfold unrowU at h
  simp only at h
  split at h
  · simp only [Option.bind_eq_some_iff] at h
    obtain ⟨x0, hx0, x1, hx1, h⟩ := h
    cases h
    exact .cons (gStr_w hx0) (.cons (gInt_w hx1) (.nil))
  · cases h
theorem un_l_Spring {ps : List PP} {x : El .l_Spring} (h : unrowU .l_Spring ps = some x) : Wk ps (rowU .l_Spring x) := by
  unfold unrowU at h
  simp only at h
  split at h
  · simp only [Option.bind_eq_some_iff] at h
    obtain ⟨x0, hx0, h⟩ := h
    cases h
    exact .cons (gSl_w hx0) (.nil)
  · cases h
theorem un_l_int1 {ps : List PP} {x : El .l_int1} (h : unrowU .l_int1 ps = some x) : Wk ps (rowU .l_int1 x) := by
  unfold unrowU at h
  simp only at h
  split at h
  · simp only [Option.bind_eq_some_iff] at h
    obtain ⟨x0, hx0, h⟩ := h
    cases h
    exact .cons (gSl_w hx0) (.nil)
  · cases h
theorem un_Frac {ps : List PP} {x : El .Frac} (h : unrowU .Frac ps = some x) : Wk ps (rowU .Frac x) := by
  unfold unrowU at h
  simp only at h
  split at h
  · simp only [Option.bind_eq_some_iff] at h
    obtain ⟨x0, hx0, x1, hx1, h⟩ := h
    cases h
    exact .cons (gInt_w hx0) (.cons (gInt_w hx1) (.nil))
  · cases h
theorem un_Errno {ps : List PP} {x : El .Errno} (h : unrowU .Errno ps = some x) : Wk ps (rowU .Errno x) := by
  unfold unrowU at h
  simp only at h
  split at h
  · simp only [Option.bind_eq_some_iff] at h
    obtain ⟨x0, hx0, h⟩ := h
    cases h
    exact .cons (gInt_w hx0) (.nil)
  · cases h
theorem un_l_Frac {ps : List PP} {x : El .l_Frac} (h : unrowU .l_Frac ps = some x) : Wk ps (rowU .l_Frac x) := by
  unfold unrowU at h
  simp only at h
  split at h
  · simp only [Option.bind_eq_some_iff] at h
    obtain ⟨x0, hx0, h⟩ := h
    cases h
    exact .cons (gSl_w hx0) (.nil)
  · cases h
theorem un_i16 {ps : List PP} {x : El .i16} (h : unrowU .i16 ps = some x) : Wk ps (rowU .i16 x) := by
  unfold unrowU at h
  simp only at h
  split at h
  · simp only [Option.bind_eq_some_iff] at h
    obtain ⟨x0, hx0, h⟩ := h
    cases h
    exact .cons (gInt_w hx0) (.nil)
  · cases h
theorem un_u16 {ps : List PP} {x : El .u16} (h : unrowU .u16 ps = some x) : Wk ps (rowU .u16 x) := by
  unfold unrowU at h
  simp only at h
  split at h
  · simp only [Option.bind_eq_some_iff] at h
    obtain ⟨x0, hx0, h⟩ := h
    cases h
    exact .cons (gInt_w hx0) (.nil)
  · cases h
theorem un_u64 {ps : List PP} {x : El .u64} (h : unrowU .u64 ps = some x) : Wk ps (rowU .u64 x) := by
  unfold unrowU at h
  simp only at h
  split at h
  · simp only [Option.bind_eq_some_iff] at h
    obtain ⟨x0, hx0, h⟩ := h
    cases h
    exact .cons (gInt_w hx0) (.nil)
  · cases h
theorem un_U {ps : List PP} {x : El .U} (h : unrowU .U ps = some x) : Wk ps (rowU .U x) := by
  unfold unrowU at h
  simp only at h
  split at h
  · simp only [Option.bind_eq_some_iff] at h
    obtain ⟨x0, hx0, x1, hx1, h⟩ := h
    cases h
    exact .cons (gInt_w hx0) (.cons (gInt_w hx1) (.nil))
  · cases h
theorem un_wide {ps : List PP} {x : El .wide} (h : unrowU .wide ps = some x) : Wk ps (rowU .wide x) := by
  unfold unrowU at h
  simp only at h
  split at h
  · simp only [Option.bind_eq_some_iff] at h
    obtain ⟨x0, hx0, x1, hx1, h⟩ := h
    cases h
    exact .cons (gInt_w hx0) (.cons (gInt_w hx1) (.nil))
  · cases h
theorem un_u641 {ps : List PP} {x : El .u641} (h : unrowU .u641 ps = some x) : Wk ps (rowU .u641 x) := by
  unfold unrowU at h
  simp only at h
  split at h
  · simp only [Option.bind_eq_some_iff] at h
    obtain ⟨x0, hx0, h⟩ := h
    cases h
    exact .cons (gInt_w hx0) (.nil)
  · cases h
theorem un_u32 {ps : List PP} {x : El .u32} (h : unrowU .u32 ps = some x) : Wk ps (rowU .u32 x) := by
  unfold unrowU at h
  simp only at h
  split at h
  · simp only [Option.bind_eq_some_iff] at h
    obtain ⟨x0, hx0, h⟩ := h
    cases h
    exact .cons (gInt_w hx0) (.nil)
  · cases h
theorem un_sortedHint {ps : List PP} {x : El .sortedHint} (h : unrowU .sortedHint ps = some x) : Wk ps (rowU .sortedHint x) := by
  unfold unrowU at h
  simp only at h
  split at h
  · simp only [Option.bind_eq_some_iff] at h
    obtain ⟨x0, hx0, h⟩ := h
    cases h
    exact .cons (gInt_w hx0) (.nil)
  · cases h
theorem un_xorshift {ps : List PP} {x : El .xorshift} (h : unrowU .xorshift ps = some x) : Wk ps (rowU .xorshift x) := by
  unfold unrowU at h
  simp only at h
  split at h
  · simp only [Option.bind_eq_some_iff] at h
    obtain ⟨x0, hx0, h⟩ := h
    cases h
    exact .cons (gInt_w hx0) (.nil)
  · cases h
theorem unrow_w : ∀ (u : U) (ps : List PP) (x : El u), unrowU u ps = some x → Wk ps (rowU u x) := by
  intro u ps x h
  cases u
  · exact un_int h
  · exact un_int1 h
  · exact un_bool h
  · exact un_u8 h
  · exact un_str h
  · exact un_Spring h
  · exact un_l_Spring h
  · exact un_l_int1 h
  · exact un_Frac h
  · exact un_Errno h
  · exact un_l_Frac h
  · exact un_i16 h
  · exact un_u16 h
  · exact un_u64 h
  · exact un_U h
  · exact un_wide h
  · exact un_u641 h
  · exact un_u32 h
  · exact un_sortedHint h
  · exact un_xorshift h
theorem info_int : (Try.prog.info? 2).map (fun i => (i.zero, i.size, i.bytes)) = some (some (.int .i64 0), 1, 8) := by kernel_rfl
theorem info_int1 : (Try.prog.info? 3).map (fun i => (i.zero, i.size, i.bytes)) = some (some (.int .i64 0), 1, 8) := by kernel_rfl
theorem info_bool : (Try.prog.info? 4).map (fun i => (i.zero, i.size, i.bytes)) = some (some (.bool false), 1, 1) := by kernel_rfl
theorem info_u8 : (Try.prog.info? 5).map (fun i => (i.zero, i.size, i.bytes)) = some (some (.int .u8 0), 1, 1) := by kernel_rfl
theorem info_str : (Try.prog.info? 9).map (fun i => (i.zero, i.size, i.bytes)) = some (some (.string ⟨#[]⟩), 1, 16) := by kernel_rfl
theorem info_Spring : (Try.prog.info? 50).map (fun i => (i.zero, i.size, i.bytes)) = some (some (.agg #[(.string ⟨#[]⟩), (.int .i64 0)]), 2, 24) := by kernel_rfl
theorem info_l_Spring : (Try.prog.info? 22).map (fun i => (i.zero, i.size, i.bytes)) = some (some (.slice none 0 0), 1, 24) := by kernel_rfl
theorem info_l_int1 : (Try.prog.info? 23).map (fun i => (i.zero, i.size, i.bytes)) = some (some (.slice none 0 0), 1, 24) := by kernel_rfl
theorem info_Frac : (Try.prog.info? 27).map (fun i => (i.zero, i.size, i.bytes)) = some (some (.agg #[(.int .i64 0), (.int .i64 0)]), 2, 16) := by kernel_rfl
theorem info_Errno : (Try.prog.info? 28).map (fun i => (i.zero, i.size, i.bytes)) = some (some (.int .i64 0), 1, 8) := by kernel_rfl
theorem info_l_Frac : (Try.prog.info? 31).map (fun i => (i.zero, i.size, i.bytes)) = some (some (.slice none 0 0), 1, 24) := by kernel_rfl
theorem info_i16 : (Try.prog.info? 46).map (fun i => (i.zero, i.size, i.bytes)) = some (some (.int .i16 0), 1, 2) := by kernel_rfl
theorem info_u16 : (Try.prog.info? 65).map (fun i => (i.zero, i.size, i.bytes)) = some (some (.int .u16 0), 1, 2) := by kernel_rfl
theorem info_u64 : (Try.prog.info? 82).map (fun i => (i.zero, i.size, i.bytes)) = some (some (.int .u64 0), 1, 8) := by kernel_rfl
theorem info_U : (Try.prog.info? 84).map (fun i => (i.zero, i.size, i.bytes)) = some (some (.agg #[(.int .u64 0), (.int .u64 0)]), 2, 16) := by kernel_rfl
theorem info_wide : (Try.prog.info? 94).map (fun i => (i.zero, i.size, i.bytes)) = some (some (.agg #[(.int .u64 0), (.int .u64 0)]), 2, 16) := by kernel_rfl
theorem info_u641 : (Try.prog.info? 101).map (fun i => (i.zero, i.size, i.bytes)) = some (some (.int .u64 0), 1, 8) := by kernel_rfl
theorem info_u32 : (Try.prog.info? 116).map (fun i => (i.zero, i.size, i.bytes)) = some (some (.int .u32 0), 1, 4) := by kernel_rfl
theorem info_sortedHint : (Try.prog.info? 121).map (fun i => (i.zero, i.size, i.bytes)) = some (some (.int .i64 0), 1, 8) := by kernel_rfl
theorem info_xorshift : (Try.prog.info? 134).map (fun i => (i.zero, i.size, i.bytes)) = some (some (.int .u64 0), 1, 8) := by kernel_rfl
theorem info_of {t sz by_ : Nat} {z : Value} {u : U} (h : (Try.prog.info? t).map (fun i => (i.zero, i.size, i.bytes)) = some (some z, sz, by_)) (hb : by_ ≤ 4096) (hz : z.cells.size = sz) (ha : z.cells.toList.all Value.oneCell' = true)
    (hw : Wk (z.cells.toList.map PV.val) (rowU u (zeroU u))) : ∃ i z, Try.prog.info? t = some i ∧ i.zero = some z ∧ i.size = sz ∧ z.cells.size = sz ∧ i.bytes ≤ 4096 ∧ (∀ (j : Nat) (p : PP), (rowU u (zeroU u))[j]? = some p → ∃ v, z.cells.toList[j]? = some v ∧ Weak G (.val v) p) ∧ ∀ v ∈ z.cells.toList, v.oneCell' = true := by
  rw [Option.map_eq_some_iff] at h
  obtain ⟨i, hi, he⟩ := h
  simp only [Prod.mk.injEq] at he
  obtain ⟨e1, e2, e3⟩ := he
  refine ⟨i, z, hi, e1, e2, hz, by omega, fun j p hj => ?_, fun v hv => List.all_eq_true.1 ha v hv⟩
  obtain ⟨h1, h2⟩ := hw.get
  have hlt : j < (z.cells.toList.map (PV.val (U := U) (El := El))).length := by rw [h1]; exact (List.getElem?_eq_some_iff.1 hj).1
  obtain ⟨q, h3, h4⟩ := h2 j _ (List.getElem?_eq_getElem hlt)
  rw [hj] at h3
  cases h3
  have hlt' : j < z.cells.toList.length := by simpa using hlt
  exact ⟨z.cells.toList[j], List.getElem?_eq_getElem hlt', by rw [List.getElem_map] at h4; exact h4⟩
theorem flat_of {ps : List G.P'} (h : ps.all (fun p => match p with | .val _ => true | _ => false) = true) : ∀ p ∈ ps, ∃ v, p = PV.val v := by
  intro p hp
  have := List.all_eq_true.1 h p hp
  cases p with
  | val v => exact ⟨v, rfl⟩
  | sl u l => cases this
theorem G_ok : G.Ok where
  mixed := by kernel_rfl
  row_sz := row_szU
  pos := by intro u; cases u <;> decide
  unrow := fun u ps x h => by
    obtain ⟨h1, h2⟩ := (unrow_w u ps x h).get
    exact ⟨h1.trans (row_szU u x), h2⟩
  info := by
    intro u
    cases u
    · exact info_of (u := .int) info_int (by decide) rfl rfl (.cons (.inl rfl) (.nil))
    · exact info_of (u := .int1) info_int1 (by decide) rfl rfl (.cons (.inl rfl) (.nil))
    · exact info_of (u := .bool) info_bool (by decide) rfl rfl (.cons (.inl rfl) (.nil))
    · exact info_of (u := .u8) info_u8 (by decide) rfl rfl (.cons (.inl rfl) (.nil))
    · exact info_of (u := .str) info_str (by decide) rfl rfl (.cons (.inl rfl) (.nil))
    · exact info_of (u := .Spring) info_Spring (by decide) rfl rfl (.cons (.inl rfl) (.cons (.inl rfl) (.nil)))
    · exact info_of (u := .l_Spring) info_l_Spring (by decide) rfl rfl (.cons (.inr ⟨rfl, _, rfl⟩) (.nil))
    · exact info_of (u := .l_int1) info_l_int1 (by decide) rfl rfl (.cons (.inr ⟨rfl, _, rfl⟩) (.nil))
    · exact info_of (u := .Frac) info_Frac (by decide) rfl rfl (.cons (.inl rfl) (.cons (.inl rfl) (.nil)))
    · exact info_of (u := .Errno) info_Errno (by decide) rfl rfl (.cons (.inl rfl) (.nil))
    · exact info_of (u := .l_Frac) info_l_Frac (by decide) rfl rfl (.cons (.inr ⟨rfl, _, rfl⟩) (.nil))
    · exact info_of (u := .i16) info_i16 (by decide) rfl rfl (.cons (.inl rfl) (.nil))
    · exact info_of (u := .u16) info_u16 (by decide) rfl rfl (.cons (.inl rfl) (.nil))
    · exact info_of (u := .u64) info_u64 (by decide) rfl rfl (.cons (.inl rfl) (.nil))
    · exact info_of (u := .U) info_U (by decide) rfl rfl (.cons (.inl rfl) (.cons (.inl rfl) (.nil)))
    · exact info_of (u := .wide) info_wide (by decide) rfl rfl (.cons (.inl rfl) (.cons (.inl rfl) (.nil)))
    · exact info_of (u := .u641) info_u641 (by decide) rfl rfl (.cons (.inl rfl) (.nil))
    · exact info_of (u := .u32) info_u32 (by decide) rfl rfl (.cons (.inl rfl) (.nil))
    · exact info_of (u := .sortedHint) info_sortedHint (by decide) rfl rfl (.cons (.inl rfl) (.nil))
    · exact info_of (u := .xorshift) info_xorshift (by decide) rfl rfl (.cons (.inl rfl) (.nil))
  elt := by
    intro t u h
    unfold G eltU at h
    simp only at h
    split at h
    · cases h; kernel_rfl
    · cases h; kernel_rfl
    · cases h; kernel_rfl
    · cases h
  ag := by
    intro u
    cases u
    · exact ⟨(Try.prog.underlying 2).get (by kernel_rfl), (Option.some_get _).symm, by kernel_rfl⟩
    · exact ⟨(Try.prog.underlying 3).get (by kernel_rfl), (Option.some_get _).symm, by kernel_rfl⟩
    · exact ⟨(Try.prog.underlying 4).get (by kernel_rfl), (Option.some_get _).symm, by kernel_rfl⟩
    · exact ⟨(Try.prog.underlying 5).get (by kernel_rfl), (Option.some_get _).symm, by kernel_rfl⟩
    · exact ⟨(Try.prog.underlying 9).get (by kernel_rfl), (Option.some_get _).symm, by kernel_rfl⟩
    · exact ⟨(Try.prog.underlying 50).get (by kernel_rfl), (Option.some_get _).symm, by kernel_rfl⟩
    · exact ⟨(Try.prog.underlying 22).get (by kernel_rfl), (Option.some_get _).symm, by kernel_rfl⟩
    · exact ⟨(Try.prog.underlying 23).get (by kernel_rfl), (Option.some_get _).symm, by kernel_rfl⟩
    · exact ⟨(Try.prog.underlying 27).get (by kernel_rfl), (Option.some_get _).symm, by kernel_rfl⟩
    · exact ⟨(Try.prog.underlying 28).get (by kernel_rfl), (Option.some_get _).symm, by kernel_rfl⟩
    · exact ⟨(Try.prog.underlying 31).get (by kernel_rfl), (Option.some_get _).symm, by kernel_rfl⟩
    · exact ⟨(Try.prog.underlying 46).get (by kernel_rfl), (Option.some_get _).symm, by kernel_rfl⟩
    · exact ⟨(Try.prog.underlying 65).get (by kernel_rfl), (Option.some_get _).symm, by kernel_rfl⟩
    · exact ⟨(Try.prog.underlying 82).get (by kernel_rfl), (Option.some_get _).symm, by kernel_rfl⟩
    · exact ⟨(Try.prog.underlying 84).get (by kernel_rfl), (Option.some_get _).symm, by kernel_rfl⟩
    · exact ⟨(Try.prog.underlying 94).get (by kernel_rfl), (Option.some_get _).symm, by kernel_rfl⟩
    · exact ⟨(Try.prog.underlying 101).get (by kernel_rfl), (Option.some_get _).symm, by kernel_rfl⟩
    · exact ⟨(Try.prog.underlying 116).get (by kernel_rfl), (Option.some_get _).symm, by kernel_rfl⟩
    · exact ⟨(Try.prog.underlying 121).get (by kernel_rfl), (Option.some_get _).symm, by kernel_rfl⟩
    · exact ⟨(Try.prog.underlying 134).get (by kernel_rfl), (Option.some_get _).symm, by kernel_rfl⟩
  one := by intro u h; cases u <;> first | rfl | (exfalso; revert h; decide)
  flat := by
    intro u h x p hp
    cases u
    · exact flat_of rfl p hp
    · exact flat_of rfl p hp
    · exact flat_of rfl p hp
    · exact flat_of rfl p hp
    · exact flat_of rfl p hp
    · exact flat_of rfl p hp
    · cases h
    · cases h
    · exact flat_of rfl p hp
    · exact flat_of rfl p hp
    · cases h
    · exact flat_of rfl p hp
    · exact flat_of rfl p hp
    · exact flat_of rfl p hp
    · exact flat_of rfl p hp
    · exact flat_of rfl p hp
    · exact flat_of rfl p hp
    · exact flat_of rfl p hp
    · exact flat_of rfl p hp
    · exact flat_of rfl p hp
  ext := by
    intro f e h
    unfold G extF at h
    simp only at h
    split at h
    · cases h; exact ⟨_, Try.func92, by kernel_rfl, by kernel_rfl, by kernel_rfl, by kernel_rfl⟩
    · cases h; exact ⟨_, Try.func93, by kernel_rfl, by kernel_rfl, by kernel_rfl, by kernel_rfl⟩
    · cases h
def W_int (x : Int) : Prop := (Lit.int .i64 x).wf = true
def W_int1 (x : Int) : Prop := (Lit.int .i64 x).wf = true
def W_bool (_x : Bool) : Prop := True
def W_u8 (x : Int) : Prop := (Lit.int .u8 x).wf = true
def W_str (x : ByteArray) : Prop := x.size ≤ maxLen
def W_Spring (x : TSpring) : Prop := W_str x.name ∧ W_int1 x.stiff
def W_l_Spring (x : List TSpring) : Prop := x.length ≤ maxLen ∧ ∀ a ∈ x, W_Spring a
def W_l_int1 (x : List Int) : Prop := x.length ≤ maxLen ∧ ∀ a ∈ x, W_int1 a
def W_Frac (x : TFrac) : Prop := W_int1 x.num ∧ W_int1 x.den
def W_Errno (x : Int) : Prop := (Lit.int .i64 x).wf = true
def W_l_Frac (x : List TFrac) : Prop := x.length ≤ maxLen ∧ ∀ a ∈ x, W_Frac a
def W_i16 (x : Int) : Prop := (Lit.int .i16 x).wf = true
def W_u16 (x : Int) : Prop := (Lit.int .u16 x).wf = true
def W_u64 (x : Int) : Prop := (Lit.int .u64 x).wf = true
def W_U (x : TU) : Prop := W_u64 x.h ∧ W_u64 x.l
def W_wide (x : Twide) : Prop := W_u64 x.hi ∧ W_u64 x.lo
def W_u641 (x : Int) : Prop := (Lit.int .u64 x).wf = true
def W_u32 (x : Int) : Prop := (Lit.int .u32 x).wf = true
def W_sortedHint (x : Int) : Prop := (Lit.int .i64 x).wf = true
def W_xorshift (x : Int) : Prop := (Lit.int .u64 x).wf = true
theorem op_int : Opens G .int W_int := opens_int (G := G) (u := .int) (by kernel_rfl) (fun z => z) (fun _ => rfl) (fun _ h => h)
theorem op_int1 : Opens G .int1 W_int1 := opens_int (G := G) (u := .int1) (by kernel_rfl) (fun z => z) (fun _ => rfl) (fun _ h => h)
theorem op_bool : Opens G .bool W_bool := opens_bool (G := G) (u := .bool) (by kernel_rfl) (fun z => z) (fun _ => rfl) (fun _ => trivial)
theorem op_u8 : Opens G .u8 W_u8 := opens_int (G := G) (u := .u8) (by kernel_rfl) (fun z => z) (fun _ => rfl) (fun _ h => h)
theorem op_str : Opens G .str W_str := opens_str (G := G) (u := .str) (by kernel_rfl) (fun z => z) (fun _ => rfl) (fun _ h => h)
theorem op_Spring : Opens G .Spring W_Spring := by
  intro H enc w base spare held fuel cs x h
  have hu : Try.prog.underlying (G.ty .Spring) = some (.struct (fieldsOf Try.prog (G.ty .Spring))) := by kernel_rfl
  obtain ⟨xs, n, _, _, hl, hlen, hf⟩ := DataW.trod_struct hu h
  obtain ⟨a0, r0, w0⟩ := field_at (G := G) hlen hf (i := 0) (f := fldOf Try.prog (G.ty .Spring) 0) (by kernel_rfl) (u := .str) (off := 0) (by kernel_rfl) (by kernel_rfl) (by kernel_rfl) op_str
  obtain ⟨a1, r1, w1⟩ := field_at (G := G) hlen hf (i := 1) (f := fldOf Try.prog (G.ty .Spring) 1) (by kernel_rfl) (u := .int1) (off := 1) (by kernel_rfl) (by kernel_rfl) (by kernel_rfl) op_int1
  have hsz : cs.length = 2 := hl.trans (by kernel_rfl)
  have h2 : PRep G w (cs.drop 2) [] := by rw [List.drop_of_length_le (by omega)]; exact .nil
  have h1 := r1.part rfl h2
  have h0 := r0.part rfl h1
  exact ⟨⟨a0, a1⟩, by rw [List.drop_zero] at h0; exact h0, ⟨w0, w1⟩⟩
theorem op_l_Spring : Opens G .l_Spring W_l_Spring := opens_slice (G := G) G_ok (u := .l_Spring) (e := .Spring) (te := 50) (by kernel_rfl) rfl (by kernel_rfl) (fun z => z) (fun _ => rfl) op_Spring (fun _ h1 h2 => ⟨h1, h2⟩)
theorem op_l_int1 : Opens G .l_int1 W_l_int1 := opens_slice (G := G) G_ok (u := .l_int1) (e := .int1) (te := 3) (by kernel_rfl) rfl (by kernel_rfl) (fun z => z) (fun _ => rfl) op_int1 (fun _ h1 h2 => ⟨h1, h2⟩)
theorem op_Frac : Opens G .Frac W_Frac := by
  intro H enc w base spare held fuel cs x h
  have hu : Try.prog.underlying (G.ty .Frac) = some (.struct (fieldsOf Try.prog (G.ty .Frac))) := by kernel_rfl
  obtain ⟨xs, n, _, _, hl, hlen, hf⟩ := DataW.trod_struct hu h
  obtain ⟨a0, r0, w0⟩ := field_at (G := G) hlen hf (i := 0) (f := fldOf Try.prog (G.ty .Frac) 0) (by kernel_rfl) (u := .int1) (off := 0) (by kernel_rfl) (by kernel_rfl) (by kernel_rfl) op_int1
  obtain ⟨a1, r1, w1⟩ := field_at (G := G) hlen hf (i := 1) (f := fldOf Try.prog (G.ty .Frac) 1) (by kernel_rfl) (u := .int1) (off := 1) (by kernel_rfl) (by kernel_rfl) (by kernel_rfl) op_int1
  have hsz : cs.length = 2 := hl.trans (by kernel_rfl)
  have h2 : PRep G w (cs.drop 2) [] := by rw [List.drop_of_length_le (by omega)]; exact .nil
  have h1 := r1.part rfl h2
  have h0 := r0.part rfl h1
  exact ⟨⟨a0, a1⟩, by rw [List.drop_zero] at h0; exact h0, ⟨w0, w1⟩⟩
theorem op_Errno : Opens G .Errno W_Errno := opens_int (G := G) (u := .Errno) (by kernel_rfl) (fun z => z) (fun _ => rfl) (fun _ h => h)
theorem op_l_Frac : Opens G .l_Frac W_l_Frac := opens_slice (G := G) G_ok (u := .l_Frac) (e := .Frac) (te := 27) (by kernel_rfl) rfl (by kernel_rfl) (fun z => z) (fun _ => rfl) op_Frac (fun _ h1 h2 => ⟨h1, h2⟩)
theorem op_i16 : Opens G .i16 W_i16 := opens_int (G := G) (u := .i16) (by kernel_rfl) (fun z => z) (fun _ => rfl) (fun _ h => h)
theorem op_u16 : Opens G .u16 W_u16 := opens_int (G := G) (u := .u16) (by kernel_rfl) (fun z => z) (fun _ => rfl) (fun _ h => h)
theorem op_u64 : Opens G .u64 W_u64 := opens_int (G := G) (u := .u64) (by kernel_rfl) (fun z => z) (fun _ => rfl) (fun _ h => h)
theorem op_U : Opens G .U W_U := by
  intro H enc w base spare held fuel cs x h
  have hu : Try.prog.underlying (G.ty .U) = some (.struct (fieldsOf Try.prog (G.ty .U))) := by kernel_rfl
  obtain ⟨xs, n, _, _, hl, hlen, hf⟩ := DataW.trod_struct hu h
  obtain ⟨a0, r0, w0⟩ := field_at (G := G) hlen hf (i := 0) (f := fldOf Try.prog (G.ty .U) 0) (by kernel_rfl) (u := .u64) (off := 0) (by kernel_rfl) (by kernel_rfl) (by kernel_rfl) op_u64
  obtain ⟨a1, r1, w1⟩ := field_at (G := G) hlen hf (i := 1) (f := fldOf Try.prog (G.ty .U) 1) (by kernel_rfl) (u := .u64) (off := 1) (by kernel_rfl) (by kernel_rfl) (by kernel_rfl) op_u64
  have hsz : cs.length = 2 := hl.trans (by kernel_rfl)
  have h2 : PRep G w (cs.drop 2) [] := by rw [List.drop_of_length_le (by omega)]; exact .nil
  have h1 := r1.part rfl h2
  have h0 := r0.part rfl h1
  exact ⟨⟨a0, a1⟩, by rw [List.drop_zero] at h0; exact h0, ⟨w0, w1⟩⟩
theorem op_wide : Opens G .wide W_wide := by
  intro H enc w base spare held fuel cs x h
  have hu : Try.prog.underlying (G.ty .wide) = some (.struct (fieldsOf Try.prog (G.ty .wide))) := by kernel_rfl
  obtain ⟨xs, n, _, _, hl, hlen, hf⟩ := DataW.trod_struct hu h
  obtain ⟨a0, r0, w0⟩ := field_at (G := G) hlen hf (i := 0) (f := fldOf Try.prog (G.ty .wide) 0) (by kernel_rfl) (u := .u64) (off := 0) (by kernel_rfl) (by kernel_rfl) (by kernel_rfl) op_u64
  obtain ⟨a1, r1, w1⟩ := field_at (G := G) hlen hf (i := 1) (f := fldOf Try.prog (G.ty .wide) 1) (by kernel_rfl) (u := .u64) (off := 1) (by kernel_rfl) (by kernel_rfl) (by kernel_rfl) op_u64
  have hsz : cs.length = 2 := hl.trans (by kernel_rfl)
  have h2 : PRep G w (cs.drop 2) [] := by rw [List.drop_of_length_le (by omega)]; exact .nil
  have h1 := r1.part rfl h2
  have h0 := r0.part rfl h1
  exact ⟨⟨a0, a1⟩, by rw [List.drop_zero] at h0; exact h0, ⟨w0, w1⟩⟩
theorem op_u641 : Opens G .u641 W_u641 := opens_int (G := G) (u := .u641) (by kernel_rfl) (fun z => z) (fun _ => rfl) (fun _ h => h)
theorem op_u32 : Opens G .u32 W_u32 := opens_int (G := G) (u := .u32) (by kernel_rfl) (fun z => z) (fun _ => rfl) (fun _ h => h)
theorem op_sortedHint : Opens G .sortedHint W_sortedHint := opens_int (G := G) (u := .sortedHint) (by kernel_rfl) (fun z => z) (fun _ => rfl) (fun _ h => h)
theorem op_xorshift : Opens G .xorshift W_xorshift := opens_int (G := G) (u := .xorshift) (by kernel_rfl) (fun z => z) (fun _ => rfl) (fun _ h => h)
end Go.Proofs.Ytkphcdficpfcnaa
