/- Joined by merge.py: Sg. -/
import Derived.Test.YtmdghocpelkcoaaM02
import Derived.KernelRfl
import Derived.Test.YtmdghocpelkcoaaChecked
/- The types of the data: structures, and their reading as rows of cells. Printed by sg.py. -/
namespace Go.Proofs.Ytmdghocpelkcoaa
open Go.RowKit
structure TItem where
  name : ByteArray
  at_ : Int
  width : Int
  weight : Int
  hang : Int
  front : Int
  back : Int
structure TBrick where
  name : ByteArray
  weight : Int
  count : Int
structure TSet where
  name : ByteArray
  depth : Int
  low : Int
  high : Int
  length : Int
  lines : List Int
  pipe : Int
  arbor : Int
  purchase : Int
  most : Int
  brake : Int
  items : List TItem
  bricks : List TBrick
structure TJob where
  name : ByteArray
  pipe : Bool
  weight : Int
structure Tlattice where
  n : Int
  held : List Bool
  reached : List Bool
  good : List Bool
inductive U where
  | int
  | int1
  | bool
  | u8
  | str
  | l_int1
  | Item
  | l_Item
  | Brick
  | l_Brick
  | Set
  | Job
  | l_Job
  | Errno
  | u16
  | u32
  | l_bool
  | lattice
  | np86
  deriving DecidableEq
@[reducible] def El : U → Type
  | .int => Int
  | .int1 => Int
  | .bool => Bool
  | .u8 => Int
  | .str => ByteArray
  | .l_int1 => List Int
  | .Item => TItem
  | .l_Item => List TItem
  | .Brick => TBrick
  | .l_Brick => List TBrick
  | .Set => TSet
  | .Job => TJob
  | .l_Job => List TJob
  | .Errno => Int
  | .u16 => Int
  | .u32 => Int
  | .l_bool => List Bool
  | .lattice => Tlattice
  | .np86 => Unit
abbrev PP := PV U El
def gInt (k : IntKind) : PP → Option Int
  | .val (.int k' n) => if k' = k then some n else none
  | _ => none
def gBool : PP → Option Bool
  | .val (.bool b) => some b
  | _ => none
def gStr : PP → Option ByteArray
  | .val (.string b) => some b
  | _ => none
def gNil : PP → Option Unit
  | .val (.pointer none) => some ()
  | _ => none
def gSl (u : U) : PP → Option (List (El u))
  | .sl v l => @dite _ (v = u) (decEq v u) (fun h => some (h ▸ l)) (fun _ => none)
  | .val (.slice none 0 0) => some []
  | _ => none
def rowU : (u : U) → El u → List PP
  | .int, x => [.val (.int .i64 x)]
  | .int1, x => [.val (.int .i64 x)]
  | .bool, x => [.val (.bool x)]
  | .u8, x => [.val (.int .u8 x)]
  | .str, x => [.val (.string x)]
  | .l_int1, x => [.sl .int1 x]
  | .Item, x => [.val (.string x.name), .val (.int .i64 x.at_), .val (.int .i64 x.width), .val (.int .i64 x.weight), .val (.int .i64 x.hang), .val (.int .i64 x.front), .val (.int .i64 x.back)]
  | .l_Item, x => [.sl .Item x]
  | .Brick, x => [.val (.string x.name), .val (.int .i64 x.weight), .val (.int .i64 x.count)]
  | .l_Brick, x => [.sl .Brick x]
  | .Set, x => [.val (.string x.name), .val (.int .i64 x.depth), .val (.int .i64 x.low), .val (.int .i64 x.high), .val (.int .i64 x.length), .sl .int1 x.lines, .val (.int .i64 x.pipe), .val (.int .i64 x.arbor), .val (.int .i64 x.purchase), .val (.int .i64 x.most), .val (.int .i64 x.brake), .sl .Item x.items, .sl .Brick x.bricks]
  | .Job, x => [.val (.string x.name), .val (.bool x.pipe), .val (.int .i64 x.weight)]
  | .l_Job, x => [.sl .Job x]
  | .Errno, x => [.val (.int .i64 x)]
  | .u16, x => [.val (.int .u16 x)]
  | .u32, x => [.val (.int .u32 x)]
  | .l_bool, x => [.sl .bool x]
  | .lattice, x => [.val (.int .i64 x.n), .sl .bool x.held, .sl .bool x.reached, .sl .bool x.good]
  | .np86, x => [.val (.pointer none)]
def unrowU : (u : U) → List PP → Option (El u)
  | .int, ps => match ps with
    | [p0] => (gInt .i64 p0).bind fun x0 => some x0
    | _ => none
  | .int1, ps => match ps with
    | [p0] => (gInt .i64 p0).bind fun x0 => some x0
    | _ => none
  | .bool, ps => match ps with
    | [p0] => (gBool p0).bind fun x0 => some x0
    | _ => none
  | .u8, ps => match ps with
    | [p0] => (gInt .u8 p0).bind fun x0 => some x0
    | _ => none
  | .str, ps => match ps with
    | [p0] => (gStr p0).bind fun x0 => some x0
    | _ => none
  | .l_int1, ps => match ps with
    | [p0] => (gSl .int1 p0).bind fun x0 => some x0
    | _ => none
  | .Item, ps => match ps with
    | [p0, p1, p2, p3, p4, p5, p6] => (gStr p0).bind fun x0 => (gInt .i64 p1).bind fun x1 => (gInt .i64 p2).bind fun x2 => (gInt .i64 p3).bind fun x3 => (gInt .i64 p4).bind fun x4 => (gInt .i64 p5).bind fun x5 => (gInt .i64 p6).bind fun x6 => some ⟨x0, x1, x2, x3, x4, x5, x6⟩
    | _ => none
  | .l_Item, ps => match ps with
    | [p0] => (gSl .Item p0).bind fun x0 => some x0
    | _ => none
  | .Brick, ps => match ps with
    | [p0, p1, p2] => (gStr p0).bind fun x0 => (gInt .i64 p1).bind fun x1 => (gInt .i64 p2).bind fun x2 => some ⟨x0, x1, x2⟩
    | _ => none
  | .l_Brick, ps => match ps with
    | [p0] => (gSl .Brick p0).bind fun x0 => some x0
    | _ => none
  | .Set, ps => match ps with
    | [p0, p1, p2, p3, p4, p5, p6, p7, p8, p9, p10, p11, p12] => (gStr p0).bind fun x0 => (gInt .i64 p1).bind fun x1 => (gInt .i64 p2).bind fun x2 => (gInt .i64 p3).bind fun x3 => (gInt .i64 p4).bind fun x4 => (gSl .int1 p5).bind fun x5 => (gInt .i64 p6).bind fun x6 => (gInt .i64 p7).bind fun x7 => (gInt .i64 p8).bind fun x8 => (gInt .i64 p9).bind fun x9 => (gInt .i64 p10).bind fun x10 => (gSl .Item p11).bind fun x11 => (gSl .Brick p12).bind fun x12 => some ⟨x0, x1, x2, x3, x4, x5, x6, x7, x8, x9, x10, x11, x12⟩
    | _ => none
  | .Job, ps => match ps with
    | [p0, p1, p2] => (gStr p0).bind fun x0 => (gBool p1).bind fun x1 => (gInt .i64 p2).bind fun x2 => some ⟨x0, x1, x2⟩
    | _ => none
  | .l_Job, ps => match ps with
    | [p0] => (gSl .Job p0).bind fun x0 => some x0
    | _ => none
  | .Errno, ps => match ps with
    | [p0] => (gInt .i64 p0).bind fun x0 => some x0
    | _ => none
  | .u16, ps => match ps with
    | [p0] => (gInt .u16 p0).bind fun x0 => some x0
    | _ => none
  | .u32, ps => match ps with
    | [p0] => (gInt .u32 p0).bind fun x0 => some x0
    | _ => none
  | .l_bool, ps => match ps with
    | [p0] => (gSl .bool p0).bind fun x0 => some x0
    | _ => none
  | .lattice, ps => match ps with
    | [p0, p1, p2, p3] => (gInt .i64 p0).bind fun x0 => (gSl .bool p1).bind fun x1 => (gSl .bool p2).bind fun x2 => (gSl .bool p3).bind fun x3 => some ⟨x0, x1, x2, x3⟩
    | _ => none
  | .np86, ps => match ps with
    | [p0] => (gNil p0).bind fun x0 => some x0
    | _ => none
def zeroU : (u : U) → El u
  | .int => 0
  | .int1 => 0
  | .bool => false
  | .u8 => 0
  | .str => ByteArray.empty
  | .l_int1 => []
  | .Item => ⟨ByteArray.empty, 0, 0, 0, 0, 0, 0⟩
  | .l_Item => []
  | .Brick => ⟨ByteArray.empty, 0, 0⟩
  | .l_Brick => []
  | .Set => ⟨ByteArray.empty, 0, 0, 0, 0, [], 0, 0, 0, 0, 0, [], []⟩
  | .Job => ⟨ByteArray.empty, false, 0⟩
  | .l_Job => []
  | .Errno => 0
  | .u16 => 0
  | .u32 => 0
  | .l_bool => []
  | .lattice => ⟨0, [], [], []⟩
  | .np86 => ()
def tyU : U → TypeId
  | .int => 2
  | .int1 => 3
  | .bool => 4
  | .u8 => 5
  | .str => 9
  | .l_int1 => 22
  | .Item => 101
  | .l_Item => 23
  | .Brick => 103
  | .l_Brick => 24
  | .Set => 26
  | .Job => 42
  | .l_Job => 27
  | .Errno => 31
  | .u16 => 46
  | .u32 => 58
  | .l_bool => 89
  | .lattice => 91
  | .np86 => 86
def szU : U → Nat
  | .int => 1
  | .int1 => 1
  | .bool => 1
  | .u8 => 1
  | .str => 1
  | .l_int1 => 1
  | .Item => 7
  | .l_Item => 1
  | .Brick => 3
  | .l_Brick => 1
  | .Set => 13
  | .Job => 3
  | .l_Job => 1
  | .Errno => 1
  | .u16 => 1
  | .u32 => 1
  | .l_bool => 1
  | .lattice => 4
  | .np86 => 1
def agU : U → Bool
  | .int => false
  | .int1 => false
  | .bool => false
  | .u8 => false
  | .str => false
  | .l_int1 => false
  | .Item => true
  | .l_Item => false
  | .Brick => true
  | .l_Brick => false
  | .Set => true
  | .Job => true
  | .l_Job => false
  | .Errno => false
  | .u16 => false
  | .u32 => false
  | .l_bool => false
  | .lattice => true
  | .np86 => false
def flatU : U → Bool
  | .int => true
  | .int1 => true
  | .bool => true
  | .u8 => true
  | .str => true
  | .l_int1 => false
  | .Item => true
  | .l_Item => false
  | .Brick => true
  | .l_Brick => false
  | .Set => false
  | .Job => true
  | .l_Job => false
  | .Errno => true
  | .u16 => true
  | .u32 => true
  | .l_bool => false
  | .lattice => false
  | .np86 => true
def eltU : TypeId → Option U
  | 22 => some .int1
  | 23 => some .Item
  | 24 => some .Brick
  | 27 => some .Job
  | 89 => some .bool
  | _ => none
def G : Sg Try.prog := { U := U, deq := inferInstance, El := El, row := rowU, unrow := unrowU, zero := zeroU, ty := tyU, sz := szU, ag := agU, elt := eltU, flat := flatU, byref := fun f => ([36, 55, 90, 91] : List Nat).contains f }
theorem gInt_w {k : IntKind} {p : PP} {n : Int} (h : gInt k p = some n) : Weak G p (.val (.int k n)) := by
  unfold gInt at h
  split at h
  · split at h
    · rename_i hk; subst hk; cases h; exact .inl rfl
    · cases h
  · cases h
theorem gBool_w {p : PP} {n : Bool} (h : gBool p = some n) : Weak G p (.val (.bool n)) := by
  unfold gBool at h
  split at h
  · cases h; exact .inl rfl
  · cases h
theorem gStr_w {p : PP} {n : ByteArray} (h : gStr p = some n) : Weak G p (.val (.string n)) := by
  unfold gStr at h
  split at h
  · cases h; exact .inl rfl
  · cases h
theorem gNil_w {p : PP} {n : Unit} (h : gNil p = some n) : Weak G p (.val (.pointer none)) := by
  unfold gNil at h
  split at h
  · exact .inl rfl
  · cases h
theorem gSl_w {u : U} {p : PP} {l : List (El u)} (h : gSl u p = some l) : Weak G p (.sl u l) := by
  unfold gSl at h
  split at h
  · split at h
    · rename_i hv; subst hv; cases h; exact .inl rfl
    · cases h
  · cases h; exact .inr ⟨rfl, u, rfl⟩
  · cases h
inductive Wk : List PP → List PP → Prop where
  | nil : Wk [] []
  | cons {p q ps qs} (h : Weak G p q) (t : Wk ps qs) : Wk (p :: ps) (q :: qs)
theorem Wk.get {ps qs : List PP} (h : Wk ps qs) : ps.length = qs.length ∧ ∀ (j : Nat) (p : PP), ps[j]? = some p → ∃ q, qs[j]? = some q ∧ Weak G p q := by
  induction h with
  | nil => exact ⟨rfl, fun j p hj => by cases hj⟩
  | cons h _ ih =>
    refine ⟨congrArg (· + 1) ih.1, fun j p hj => ?_⟩
    cases j with
    | zero => cases hj; exact ⟨_, rfl, h⟩
    | succ j => exact ih.2 j p hj
theorem row_szU : ∀ u x, (rowU u x).length = szU u := by
  intro u x; cases u <;> rfl
theorem un_int {ps : List PP} {x : El .int} (h : unrowU .int ps = some x) : Wk ps (rowU .int x) := by
  unfold unrowU at h
  simp only at h
  split at h
  · simp only [Option.bind_eq_some_iff] at h
    obtain ⟨x0, hx0, h⟩ := h
    cases h
    exact .cons (gInt_w hx0) (.nil)
  · cases h
theorem un_int1 {ps : List PP} {x : El .int1} (h : unrowU .int1 ps = some x) : Wk ps (rowU .int1 x) := by
  unfold unrowU at h
  simp only at h
  split at h
  · simp only [Option.bind_eq_some_iff] at h
    obtain ⟨x0, hx0, h⟩ := h
    cases h
    exact .cons (gInt_w hx0) (.nil)
  · cases h
theorem un_bool {ps : List PP} {x : El .bool} (h : unrowU .bool ps = some x) : Wk ps (rowU .bool x) := by
  unfold unrowU at h
  simp only at h
  split at h
  · simp only [Option.bind_eq_some_iff] at h
    obtain ⟨x0, hx0, h⟩ := h
    cases h
    exact .cons (gBool_w hx0) (.nil)
  · cases h
theorem un_u8 {ps : List PP} {x : El .u8} (h : unrowU .u8 ps = some x) : Wk ps (rowU .u8 x) := by
  unfold unrowU at h
  simp only at h
  split at h
  · simp only [Option.bind_eq_some_iff] at h
    obtain ⟨x0, hx0, h⟩ := h
    cases h
    exact .cons (gInt_w hx0) (.nil)
  · cases h
theorem un_str {ps : List PP} {x : El .str} (h : unrowU .str ps = some x) : Wk ps (rowU .str x) := by
  unfold unrowU at h
  simp only at h
  split at h
  · simp only [Option.bind_eq_some_iff] at h
    obtain ⟨x0, hx0, h⟩ := h
    cases h
    exact .cons (gStr_w hx0) (.nil)
  · cases h
theorem un_l_int1 {ps : List PP} {x : El .l_int1} (h : unrowU .l_int1 ps = some x) : Wk ps (rowU .l_int1 x) := by
  unfold unrowU at h
  simp only at h
  split at h
  · simp only [Option.bind_eq_some_iff] at h
    obtain ⟨x0, hx0, h⟩ := h
    cases h
    exact .cons (gSl_w hx0) (.nil)
  · cases h
theorem un_Item {ps : List PP} {x : El .Item} (h : unrowU .Item ps = some x) : Wk ps (rowU .Item x) := by
  unfold unrowU at h
  simp only at h
  split at h
  · simp only [Option.bind_eq_some_iff] at h
    obtain ⟨x0, hx0, x1, hx1, x2, hx2, x3, hx3, x4, hx4, x5, hx5, x6, hx6, h⟩ := h
    cases h
    exact .cons (gStr_w hx0) (.cons (gInt_w hx1) (.cons (gInt_w hx2) (.cons (gInt_w hx3) (.cons (gInt_w hx4) (.cons (gInt_w hx5) (.cons (gInt_w hx6) (.nil)))))))
  · cases h
theorem un_l_Item {ps : List PP} {x : El .l_Item} (h : unrowU .l_Item ps = some x) : Wk ps (rowU .l_Item x) := by
  unfold unrowU at h
  simp only at h
  split at h
  · simp only [Option.bind_eq_some_iff] at h
    obtain ⟨x0, hx0, h⟩ := h
    cases h
    exact .cons (gSl_w hx0) (.nil)
  · cases h
theorem un_Brick {ps : List PP} {x : El .Brick} (h : unrowU .Brick ps = some x) : Wk ps (rowU .Brick x) := by
  unfold unrowU at h
  simp only at h
  split at h
  · simp only [Option.bind_eq_some_iff] at h
    obtain ⟨x0, hx0, x1, hx1, x2, hx2, h⟩ := h
    cases h
    exact .cons (gStr_w hx0) (.cons (gInt_w hx1) (.cons (gInt_w hx2) (.nil)))
  · cases h
theorem un_l_Brick {ps : List PP} {x : El .l_Brick} (h : unrowU .l_Brick ps = some x) : Wk ps (rowU .l_Brick x) := by
  unfold unrowU at h
  simp only at h
  split at h
  · simp only [Option.bind_eq_some_iff] at h
    obtain ⟨x0, hx0, h⟩ := h
    cases h
    exact .cons (gSl_w hx0) (.nil)
  · cases h
theorem un_Set {ps : List PP} {x : El .Set} (h : unrowU .Set ps = some x) : Wk ps (rowU .Set x) := by
  unfold unrowU at h
  simp only at h
  split at h
  · simp only [Option.bind_eq_some_iff] at h
    obtain ⟨x0, hx0, x1, hx1, x2, hx2, x3, hx3, x4, hx4, x5, hx5, x6, hx6, x7, hx7, x8, hx8, x9, hx9, x10, hx10, x11, hx11, x12, hx12, h⟩ := h
    cases h
    exact .cons (gStr_w hx0) (.cons (gInt_w hx1) (.cons (gInt_w hx2) (.cons (gInt_w hx3) (.cons (gInt_w hx4) (.cons (gSl_w hx5) (.cons (gInt_w hx6) (.cons (gInt_w hx7) (.cons (gInt_w hx8) (.cons (gInt_w hx9) (.cons (gInt_w hx10) (.cons (gSl_w hx11) (.cons (gSl_w hx12) (.nil)))))))))))))
  · cases h
theorem un_Job {ps : List PP} {x : El .Job} (h : unrowU .Job ps = some x) : Wk ps (rowU .Job x) := by
  unfold unrowU at h
  simp only at h
  split at h
  · simp only [Option.bind_eq_some_iff] at h
    obtain ⟨x0, hx0, x1, hx1, x2, hx2, h⟩ := h
    cases h
    exact .cons (gStr_w hx0) (.cons (gBool_w hx1) (.cons (gInt_w hx2) (.nil)))
  · cases h
theorem un_l_Job {ps : List PP} {x : El .l_Job} (h : unrowU .l_Job ps = some x) : Wk ps (rowU .l_Job x) := by
  unfold unrowU at h
  simp only at h
  split at h
  · simp only [Option.bind_eq_some_iff] at h
    obtain ⟨x0, hx0, h⟩ := h
    cases h
    exact .cons (gSl_w hx0) (.nil)
  · cases h
theorem un_Errno {ps : List PP} {x : El .Errno} (h : unrowU .Errno ps = some x) : Wk ps (rowU .Errno x) := by
  unfold unrowU at h
  simp only at h
  split at h
  · simp only [Option.bind_eq_some_iff] at h
    obtain ⟨x0, hx0, h⟩ := h
    cases h
    exact .cons (gInt_w hx0) (.nil)
  · cases h
theorem un_u16 {ps : List PP} {x : El .u16} (h : unrowU .u16 ps = some x) : Wk ps (rowU .u16 x) := by
  unfold unrowU at h
  simp only at h
  split at h
  · simp only [Option.bind_eq_some_iff] at h
    obtain ⟨x0, hx0, h⟩ := h
    cases h
    exact .cons (gInt_w hx0) (.nil)
  · cases h
theorem un_u32 {ps : List PP} {x : El .u32} (h : unrowU .u32 ps = some x) : Wk ps (rowU .u32 x) := by
  unfold unrowU at h
  simp only at h
  split at h
  · simp only [Option.bind_eq_some_iff] at h
    obtain ⟨x0, hx0, h⟩ := h
    cases h
    exact .cons (gInt_w hx0) (.nil)
  · cases h
theorem un_l_bool {ps : List PP} {x : El .l_bool} (h : unrowU .l_bool ps = some x) : Wk ps (rowU .l_bool x) := by
  unfold unrowU at h
  simp only at h
  split at h
  · simp only [Option.bind_eq_some_iff] at h
    obtain ⟨x0, hx0, h⟩ := h
    cases h
    exact .cons (gSl_w hx0) (.nil)
  · cases h
theorem un_lattice {ps : List PP} {x : El .lattice} (h : unrowU .lattice ps = some x) : Wk ps (rowU .lattice x) := by
  unfold unrowU at h
  simp only at h
  split at h
  · simp only [Option.bind_eq_some_iff] at h
    obtain ⟨x0, hx0, x1, hx1, x2, hx2, x3, hx3, h⟩ := h
    cases h
    exact .cons (gInt_w hx0) (.cons (gSl_w hx1) (.cons (gSl_w hx2) (.cons (gSl_w hx3) (.nil))))
  · cases h
theorem un_np86 {ps : List PP} {x : El .np86} (h : unrowU .np86 ps = some x) : Wk ps (rowU .np86 x) := by
  unfold unrowU at h
  simp only at h
  split at h
  · simp only [Option.bind_eq_some_iff] at h
    obtain ⟨x0, hx0, h⟩ := h
    cases h
    exact .cons (gNil_w hx0) (.nil)
  · cases h
theorem unrow_w : ∀ (u : U) (ps : List PP) (x : El u), unrowU u ps = some x → Wk ps (rowU u x) := by
  intro u ps x h
  cases u
  · exact un_int h
  · exact un_int1 h
  · exact un_bool h
  · exact un_u8 h
  · exact un_str h
  · exact un_l_int1 h
  · exact un_Item h
  · exact un_l_Item h
  · exact un_Brick h
  · exact un_l_Brick h
  · exact un_Set h
  · exact un_Job h
  · exact un_l_Job h
  · exact un_Errno h
  · exact un_u16 h
  · exact un_u32 h
  · exact un_l_bool h
  · exact un_lattice h
  · exact un_np86 h
theorem info_int : (Try.prog.info? 2).map (fun i => (i.zero, i.size, i.bytes)) = some (some (.int .i64 0), 1, 8) := by kernel_rfl
theorem info_int1 : (Try.prog.info? 3).map (fun i => (i.zero, i.size, i.bytes)) = some (some (.int .i64 0), 1, 8) := by kernel_rfl
theorem info_bool : (Try.prog.info? 4).map (fun i => (i.zero, i.size, i.bytes)) = some (some (.bool false), 1, 1) := by kernel_rfl
theorem info_u8 : (Try.prog.info? 5).map (fun i => (i.zero, i.size, i.bytes)) = some (some (.int .u8 0), 1, 1) := by kernel_rfl
theorem info_str : (Try.prog.info? 9).map (fun i => (i.zero, i.size, i.bytes)) = some (some (.string ⟨#[]⟩), 1, 16) := by kernel_rfl
theorem info_l_int1 : (Try.prog.info? 22).map (fun i => (i.zero, i.size, i.bytes)) = some (some (.slice none 0 0), 1, 24) := by kernel_rfl
theorem info_Item : (Try.prog.info? 101).map (fun i => (i.zero, i.size, i.bytes)) = some (some (.agg #[(.string ⟨#[]⟩), (.int .i64 0), (.int .i64 0), (.int .i64 0), (.int .i64 0), (.int .i64 0), (.int .i64 0)]), 7, 64) := by kernel_rfl
theorem info_l_Item : (Try.prog.info? 23).map (fun i => (i.zero, i.size, i.bytes)) = some (some (.slice none 0 0), 1, 24) := by kernel_rfl
theorem info_Brick : (Try.prog.info? 103).map (fun i => (i.zero, i.size, i.bytes)) = some (some (.agg #[(.string ⟨#[]⟩), (.int .i64 0), (.int .i64 0)]), 3, 32) := by kernel_rfl
theorem info_l_Brick : (Try.prog.info? 24).map (fun i => (i.zero, i.size, i.bytes)) = some (some (.slice none 0 0), 1, 24) := by kernel_rfl
theorem info_Set : (Try.prog.info? 26).map (fun i => (i.zero, i.size, i.bytes)) = some (some (.agg #[(.string ⟨#[]⟩), (.int .i64 0), (.int .i64 0), (.int .i64 0), (.int .i64 0), (.slice none 0 0), (.int .i64 0), (.int .i64 0), (.int .i64 0), (.int .i64 0), (.int .i64 0), (.slice none 0 0), (.slice none 0 0)]), 13, 160) := by kernel_rfl
theorem info_Job : (Try.prog.info? 42).map (fun i => (i.zero, i.size, i.bytes)) = some (some (.agg #[(.string ⟨#[]⟩), (.bool false), (.int .i64 0)]), 3, 32) := by kernel_rfl
theorem info_l_Job : (Try.prog.info? 27).map (fun i => (i.zero, i.size, i.bytes)) = some (some (.slice none 0 0), 1, 24) := by kernel_rfl
theorem info_Errno : (Try.prog.info? 31).map (fun i => (i.zero, i.size, i.bytes)) = some (some (.int .i64 0), 1, 8) := by kernel_rfl
theorem info_u16 : (Try.prog.info? 46).map (fun i => (i.zero, i.size, i.bytes)) = some (some (.int .u16 0), 1, 2) := by kernel_rfl
theorem info_u32 : (Try.prog.info? 58).map (fun i => (i.zero, i.size, i.bytes)) = some (some (.int .u32 0), 1, 4) := by kernel_rfl
theorem info_l_bool : (Try.prog.info? 89).map (fun i => (i.zero, i.size, i.bytes)) = some (some (.slice none 0 0), 1, 24) := by kernel_rfl
theorem info_lattice : (Try.prog.info? 91).map (fun i => (i.zero, i.size, i.bytes)) = some (some (.agg #[(.int .i64 0), (.slice none 0 0), (.slice none 0 0), (.slice none 0 0)]), 4, 80) := by kernel_rfl
theorem info_np86 : (Try.prog.info? 86).map (fun i => (i.zero, i.size, i.bytes)) = some (some (.pointer none), 1, 8) := by kernel_rfl
theorem info_of {t sz by_ : Nat} {z : Value} {u : U} (h : (Try.prog.info? t).map (fun i => (i.zero, i.size, i.bytes)) = some (some z, sz, by_)) (hb : by_ ≤ 4096) (hz : z.cells.size = sz) (ha : z.cells.toList.all Value.oneCell' = true)
    (hw : Wk (z.cells.toList.map PV.val) (rowU u (zeroU u))) : ∃ i z, Try.prog.info? t = some i ∧ i.zero = some z ∧ i.size = sz ∧ z.cells.size = sz ∧ i.bytes ≤ 4096 ∧ (∀ (j : Nat) (p : PP), (rowU u (zeroU u))[j]? = some p → ∃ v, z.cells.toList[j]? = some v ∧ Weak G (.val v) p) ∧ ∀ v ∈ z.cells.toList, v.oneCell' = true := by
  rw [Option.map_eq_some_iff] at h
  obtain ⟨i, hi, he⟩ := h
  simp only [Prod.mk.injEq] at he
  obtain ⟨e1, e2, e3⟩ := he
  refine ⟨i, z, hi, e1, e2, hz, by omega, fun j p hj => ?_, fun v hv => List.all_eq_true.1 ha v hv⟩
  obtain ⟨h1, h2⟩ := hw.get
  have hlt : j < (z.cells.toList.map (PV.val (U := U) (El := El))).length := by rw [h1]; exact (List.getElem?_eq_some_iff.1 hj).1
  obtain ⟨q, h3, h4⟩ := h2 j _ (List.getElem?_eq_getElem hlt)
  rw [hj] at h3
  cases h3
  have hlt' : j < z.cells.toList.length := by simpa using hlt
  exact ⟨z.cells.toList[j], List.getElem?_eq_getElem hlt', by rw [List.getElem_map] at h4; exact h4⟩
theorem flat_of {ps : List G.P'} (h : ps.all (fun p => match p with | .val _ => true | _ => false) = true) : ∀ p ∈ ps, ∃ v, p = PV.val v := by
  intro p hp
  have := List.all_eq_true.1 h p hp
  cases p with
  | val v => exact ⟨v, rfl⟩
  | sl u l => cases this
theorem G_ok : G.Ok where
  mixed := by kernel_rfl
  row_sz := row_szU
  pos := by intro u; cases u <;> decide
  unrow := fun u ps x h => by
    obtain ⟨h1, h2⟩ := (unrow_w u ps x h).get
    exact ⟨h1.trans (row_szU u x), h2⟩
  info := by
    intro u
    cases u
    · exact info_of (u := .int) info_int (by decide) rfl rfl (.cons (.inl rfl) (.nil))
    · exact info_of (u := .int1) info_int1 (by decide) rfl rfl (.cons (.inl rfl) (.nil))
    · exact info_of (u := .bool) info_bool (by decide) rfl rfl (.cons (.inl rfl) (.nil))
    · exact info_of (u := .u8) info_u8 (by decide) rfl rfl (.cons (.inl rfl) (.nil))
    · exact info_of (u := .str) info_str (by decide) rfl rfl (.cons (.inl rfl) (.nil))
    · exact info_of (u := .l_int1) info_l_int1 (by decide) rfl rfl (.cons (.inr ⟨rfl, _, rfl⟩) (.nil))
    · exact info_of (u := .Item) info_Item (by decide) rfl rfl (.cons (.inl rfl) (.cons (.inl rfl) (.cons (.inl rfl) (.cons (.inl rfl) (.cons (.inl rfl) (.cons (.inl rfl) (.cons (.inl rfl) (.nil))))))))
    · exact info_of (u := .l_Item) info_l_Item (by decide) rfl rfl (.cons (.inr ⟨rfl, _, rfl⟩) (.nil))
    · exact info_of (u := .Brick) info_Brick (by decide) rfl rfl (.cons (.inl rfl) (.cons (.inl rfl) (.cons (.inl rfl) (.nil))))
    · exact info_of (u := .l_Brick) info_l_Brick (by decide) rfl rfl (.cons (.inr ⟨rfl, _, rfl⟩) (.nil))
    · exact info_of (u := .Set) info_Set (by decide) rfl rfl (.cons (.inl rfl) (.cons (.inl rfl) (.cons (.inl rfl) (.cons (.inl rfl) (.cons (.inl rfl) (.cons (.inr ⟨rfl, _, rfl⟩) (.cons (.inl rfl) (.cons (.inl rfl) (.cons (.inl rfl) (.cons (.inl rfl) (.cons (.inl rfl) (.cons (.inr ⟨rfl, _, rfl⟩) (.cons (.inr ⟨rfl, _, rfl⟩) (.nil))))))))))))))
    · exact info_of (u := .Job) info_Job (by decide) rfl rfl (.cons (.inl rfl) (.cons (.inl rfl) (.cons (.inl rfl) (.nil))))
    · exact info_of (u := .l_Job) info_l_Job (by decide) rfl rfl (.cons (.inr ⟨rfl, _, rfl⟩) (.nil))
    · exact info_of (u := .Errno) info_Errno (by decide) rfl rfl (.cons (.inl rfl) (.nil))
    · exact info_of (u := .u16) info_u16 (by decide) rfl rfl (.cons (.inl rfl) (.nil))
    · exact info_of (u := .u32) info_u32 (by decide) rfl rfl (.cons (.inl rfl) (.nil))
    · exact info_of (u := .l_bool) info_l_bool (by decide) rfl rfl (.cons (.inr ⟨rfl, _, rfl⟩) (.nil))
    · exact info_of (u := .lattice) info_lattice (by decide) rfl rfl (.cons (.inl rfl) (.cons (.inr ⟨rfl, _, rfl⟩) (.cons (.inr ⟨rfl, _, rfl⟩) (.cons (.inr ⟨rfl, _, rfl⟩) (.nil)))))
    · exact info_of (u := .np86) info_np86 (by decide) rfl rfl (.cons (.inl rfl) (.nil))
  elt := by
    intro t u h
    unfold G eltU at h
    simp only at h
    split at h
    · cases h; kernel_rfl
    · cases h; kernel_rfl
    · cases h; kernel_rfl
    · cases h; kernel_rfl
    · cases h; kernel_rfl
    · cases h
  ag := by
    intro u
    cases u
    · exact ⟨(Try.prog.underlying 2).get (by kernel_rfl), (Option.some_get _).symm, by kernel_rfl⟩
    · exact ⟨(Try.prog.underlying 3).get (by kernel_rfl), (Option.some_get _).symm, by kernel_rfl⟩
    · exact ⟨(Try.prog.underlying 4).get (by kernel_rfl), (Option.some_get _).symm, by kernel_rfl⟩
    · exact ⟨(Try.prog.underlying 5).get (by kernel_rfl), (Option.some_get _).symm, by kernel_rfl⟩
    · exact ⟨(Try.prog.underlying 9).get (by kernel_rfl), (Option.some_get _).symm, by kernel_rfl⟩
    · exact ⟨(Try.prog.underlying 22).get (by kernel_rfl), (Option.some_get _).symm, by kernel_rfl⟩
    · exact ⟨(Try.prog.underlying 101).get (by kernel_rfl), (Option.some_get _).symm, by kernel_rfl⟩
    · exact ⟨(Try.prog.underlying 23).get (by kernel_rfl), (Option.some_get _).symm, by kernel_rfl⟩
    · exact ⟨(Try.prog.underlying 103).get (by kernel_rfl), (Option.some_get _).symm, by kernel_rfl⟩
    · exact ⟨(Try.prog.underlying 24).get (by kernel_rfl), (Option.some_get _).symm, by kernel_rfl⟩
    · exact ⟨(Try.prog.underlying 26).get (by kernel_rfl), (Option.some_get _).symm, by kernel_rfl⟩
    · exact ⟨(Try.prog.underlying 42).get (by kernel_rfl), (Option.some_get _).symm, by kernel_rfl⟩
    · exact ⟨(Try.prog.underlying 27).get (by kernel_rfl), (Option.some_get _).symm, by kernel_rfl⟩
    · exact ⟨(Try.prog.underlying 31).get (by kernel_rfl), (Option.some_get _).symm, by kernel_rfl⟩
    · exact ⟨(Try.prog.underlying 46).get (by kernel_rfl), (Option.some_get _).symm, by kernel_rfl⟩
    · exact ⟨(Try.prog.underlying 58).get (by kernel_rfl), (Option.some_get _).symm, by kernel_rfl⟩
    · exact ⟨(Try.prog.underlying 89).get (by kernel_rfl), (Option.some_get _).symm, by kernel_rfl⟩
    · exact ⟨(Try.prog.underlying 91).get (by kernel_rfl), (Option.some_get _).symm, by kernel_rfl⟩
    · exact ⟨(Try.prog.underlying 86).get (by kernel_rfl), (Option.some_get _).symm, by kernel_rfl⟩
  one := by intro u h; cases u <;> first | rfl | (exfalso; revert h; decide)
  flat := by
    intro u h x p hp
    cases u
    · exact flat_of rfl p hp
    · exact flat_of rfl p hp
    · exact flat_of rfl p hp
    · exact flat_of rfl p hp
    · exact flat_of rfl p hp
    · cases h
    · exact flat_of rfl p hp
    · cases h
    · exact flat_of rfl p hp
    · cases h
    · cases h
    · exact flat_of rfl p hp
    · cases h
    · exact flat_of rfl p hp
    · exact flat_of rfl p hp
    · exact flat_of rfl p hp
    · cases h
    · cases h
    · exact flat_of rfl p hp
def W_int (x : Int) : Prop := (Lit.int .i64 x).wf = true
def W_int1 (x : Int) : Prop := (Lit.int .i64 x).wf = true
def W_bool (_x : Bool) : Prop := True
def W_u8 (x : Int) : Prop := (Lit.int .u8 x).wf = true
def W_str (x : ByteArray) : Prop := x.size ≤ maxLen
def W_l_int1 (x : List Int) : Prop := x.length ≤ maxLen ∧ ∀ a ∈ x, W_int1 a
def W_Item (x : TItem) : Prop := W_str x.name ∧ W_int1 x.at_ ∧ W_int1 x.width ∧ W_int1 x.weight ∧ W_int1 x.hang ∧ W_int1 x.front ∧ W_int1 x.back
def W_l_Item (x : List TItem) : Prop := x.length ≤ maxLen ∧ ∀ a ∈ x, W_Item a
def W_Brick (x : TBrick) : Prop := W_str x.name ∧ W_int1 x.weight ∧ W_int1 x.count
def W_l_Brick (x : List TBrick) : Prop := x.length ≤ maxLen ∧ ∀ a ∈ x, W_Brick a
def W_Set (x : TSet) : Prop := W_str x.name ∧ W_int1 x.depth ∧ W_int1 x.low ∧ W_int1 x.high ∧ W_int1 x.length ∧ W_l_int1 x.lines ∧ W_int1 x.pipe ∧ W_int1 x.arbor ∧ W_int1 x.purchase ∧ W_int1 x.most ∧ W_int1 x.brake ∧ W_l_Item x.items ∧ W_l_Brick x.bricks
def W_Job (x : TJob) : Prop := W_str x.name ∧ W_bool x.pipe ∧ W_int1 x.weight
def W_l_Job (x : List TJob) : Prop := x.length ≤ maxLen ∧ ∀ a ∈ x, W_Job a
def W_Errno (x : Int) : Prop := (Lit.int .i64 x).wf = true
def W_u16 (x : Int) : Prop := (Lit.int .u16 x).wf = true
def W_u32 (x : Int) : Prop := (Lit.int .u32 x).wf = true
def W_l_bool (x : List Bool) : Prop := x.length ≤ maxLen ∧ ∀ a ∈ x, W_bool a
def W_lattice (x : Tlattice) : Prop := W_int1 x.n ∧ W_l_bool x.held ∧ W_l_bool x.reached ∧ W_l_bool x.good
def W_np86 (_x : Unit) : Prop := True
theorem op_int : Opens G .int W_int := opens_int (G := G) (u := .int) (by kernel_rfl) (fun z => z) (fun _ => rfl) (fun _ h => h)
theorem op_int1 : Opens G .int1 W_int1 := opens_int (G := G) (u := .int1) (by kernel_rfl) (fun z => z) (fun _ => rfl) (fun _ h => h)
theorem op_bool : Opens G .bool W_bool := opens_bool (G := G) (u := .bool) (by kernel_rfl) (fun z => z) (fun _ => rfl) (fun _ => trivial)
theorem op_u8 : Opens G .u8 W_u8 := opens_int (G := G) (u := .u8) (by kernel_rfl) (fun z => z) (fun _ => rfl) (fun _ h => h)
theorem op_str : Opens G .str W_str := opens_str (G := G) (u := .str) (by kernel_rfl) (fun z => z) (fun _ => rfl) (fun _ h => h)
theorem op_l_int1 : Opens G .l_int1 W_l_int1 := opens_slice (G := G) G_ok (u := .l_int1) (e := .int1) (te := 3) (by kernel_rfl) rfl (by kernel_rfl) (fun z => z) (fun _ => rfl) op_int1 (fun _ h1 h2 => ⟨h1, h2⟩)
theorem op_Item : Opens G .Item W_Item := by
  intro H enc w base spare held fuel cs x h
  have hu : Try.prog.underlying (G.ty .Item) = some (.struct (fieldsOf Try.prog (G.ty .Item))) := by kernel_rfl
  obtain ⟨xs, n, _, _, hl, hlen, hf⟩ := DataW.trod_struct hu h
  obtain ⟨a0, r0, w0⟩ := field_at (G := G) hlen hf (i := 0) (f := fldOf Try.prog (G.ty .Item) 0) (by kernel_rfl) (u := .str) (off := 0) (by kernel_rfl) (by kernel_rfl) (by kernel_rfl) op_str
  obtain ⟨a1, r1, w1⟩ := field_at (G := G) hlen hf (i := 1) (f := fldOf Try.prog (G.ty .Item) 1) (by kernel_rfl) (u := .int1) (off := 1) (by kernel_rfl) (by kernel_rfl) (by kernel_rfl) op_int1
  obtain ⟨a2, r2, w2⟩ := field_at (G := G) hlen hf (i := 2) (f := fldOf Try.prog (G.ty .Item) 2) (by kernel_rfl) (u := .int1) (off := 2) (by kernel_rfl) (by kernel_rfl) (by kernel_rfl) op_int1
  obtain ⟨a3, r3, w3⟩ := field_at (G := G) hlen hf (i := 3) (f := fldOf Try.prog (G.ty .Item) 3) (by kernel_rfl) (u := .int1) (off := 3) (by kernel_rfl) (by kernel_rfl) (by kernel_rfl) op_int1
  obtain ⟨a4, r4, w4⟩ := field_at (G := G) hlen hf (i := 4) (f := fldOf Try.prog (G.ty .Item) 4) (by kernel_rfl) (u := .int1) (off := 4) (by kernel_rfl) (by kernel_rfl) (by kernel_rfl) op_int1
  obtain ⟨a5, r5, w5⟩ := field_at (G := G) hlen hf (i := 5) (f := fldOf Try.prog (G.ty .Item) 5) (by kernel_rfl) (u := .int1) (off := 5) (by kernel_rfl) (by kernel_rfl) (by kernel_rfl) op_int1
  obtain ⟨a6, r6, w6⟩ := field_at (G := G) hlen hf (i := 6) (f := fldOf Try.prog (G.ty .Item) 6) (by kernel_rfl) (u := .int1) (off := 6) (by kernel_rfl) (by kernel_rfl) (by kernel_rfl) op_int1
  have hsz : cs.length = 7 := hl.trans (by kernel_rfl)
  have h7 : PRep G w (cs.drop 7) [] := by rw [List.drop_of_length_le (by omega)]; exact .nil
  have h6 := r6.part rfl h7
  have h5 := r5.part rfl h6
  have h4 := r4.part rfl h5
  have h3 := r3.part rfl h4
  have h2 := r2.part rfl h3
  have h1 := r1.part rfl h2
  have h0 := r0.part rfl h1
  exact ⟨⟨a0, a1, a2, a3, a4, a5, a6⟩, by rw [List.drop_zero] at h0; exact h0, ⟨w0, w1, w2, w3, w4, w5, w6⟩⟩
theorem op_l_Item : Opens G .l_Item W_l_Item := opens_slice (G := G) G_ok (u := .l_Item) (e := .Item) (te := 101) (by kernel_rfl) rfl (by kernel_rfl) (fun z => z) (fun _ => rfl) op_Item (fun _ h1 h2 => ⟨h1, h2⟩)
theorem op_Brick : Opens G .Brick W_Brick := by
  intro H enc w base spare held fuel cs x h
  have hu : Try.prog.underlying (G.ty .Brick) = some (.struct (fieldsOf Try.prog (G.ty .Brick))) := by kernel_rfl
  obtain ⟨xs, n, _, _, hl, hlen, hf⟩ := DataW.trod_struct hu h
  obtain ⟨a0, r0, w0⟩ := field_at (G := G) hlen hf (i := 0) (f := fldOf Try.prog (G.ty .Brick) 0) (by kernel_rfl) (u := .str) (off := 0) (by kernel_rfl) (by kernel_rfl) (by kernel_rfl) op_str
  obtain ⟨a1, r1, w1⟩ := field_at (G := G) hlen hf (i := 1) (f := fldOf Try.prog (G.ty .Brick) 1) (by kernel_rfl) (u := .int1) (off := 1) (by kernel_rfl) (by kernel_rfl) (by kernel_rfl) op_int1
  obtain ⟨a2, r2, w2⟩ := field_at (G := G) hlen hf (i := 2) (f := fldOf Try.prog (G.ty .Brick) 2) (by kernel_rfl) (u := .int1) (off := 2) (by kernel_rfl) (by kernel_rfl) (by kernel_rfl) op_int1
  have hsz : cs.length = 3 := hl.trans (by kernel_rfl)
  have h3 : PRep G w (cs.drop 3) [] := by rw [List.drop_of_length_le (by omega)]; exact .nil
  have h2 := r2.part rfl h3
  have h1 := r1.part rfl h2
  have h0 := r0.part rfl h1
  exact ⟨⟨a0, a1, a2⟩, by rw [List.drop_zero] at h0; exact h0, ⟨w0, w1, w2⟩⟩
theorem op_l_Brick : Opens G .l_Brick W_l_Brick := opens_slice (G := G) G_ok (u := .l_Brick) (e := .Brick) (te := 103) (by kernel_rfl) rfl (by kernel_rfl) (fun z => z) (fun _ => rfl) op_Brick (fun _ h1 h2 => ⟨h1, h2⟩)
theorem op_Set : Opens G .Set W_Set := by
  intro H enc w base spare held fuel cs x h
  have hu : Try.prog.underlying (G.ty .Set) = some (.struct (fieldsOf Try.prog (G.ty .Set))) := by kernel_rfl
  obtain ⟨xs, n, _, _, hl, hlen, hf⟩ := DataW.trod_struct hu h
  obtain ⟨a0, r0, w0⟩ := field_at (G := G) hlen hf (i := 0) (f := fldOf Try.prog (G.ty .Set) 0) (by kernel_rfl) (u := .str) (off := 0) (by kernel_rfl) (by kernel_rfl) (by kernel_rfl) op_str
  obtain ⟨a1, r1, w1⟩ := field_at (G := G) hlen hf (i := 1) (f := fldOf Try.prog (G.ty .Set) 1) (by kernel_rfl) (u := .int1) (off := 1) (by kernel_rfl) (by kernel_rfl) (by kernel_rfl) op_int1
  obtain ⟨a2, r2, w2⟩ := field_at (G := G) hlen hf (i := 2) (f := fldOf Try.prog (G.ty .Set) 2) (by kernel_rfl) (u := .int1) (off := 2) (by kernel_rfl) (by kernel_rfl) (by kernel_rfl) op_int1
  obtain ⟨a3, r3, w3⟩ := field_at (G := G) hlen hf (i := 3) (f := fldOf Try.prog (G.ty .Set) 3) (by kernel_rfl) (u := .int1) (off := 3) (by kernel_rfl) (by kernel_rfl) (by kernel_rfl) op_int1
  obtain ⟨a4, r4, w4⟩ := field_at (G := G) hlen hf (i := 4) (f := fldOf Try.prog (G.ty .Set) 4) (by kernel_rfl) (u := .int1) (off := 4) (by kernel_rfl) (by kernel_rfl) (by kernel_rfl) op_int1
  obtain ⟨a5, r5, w5⟩ := field_at (G := G) hlen hf (i := 5) (f := fldOf Try.prog (G.ty .Set) 5) (by kernel_rfl) (u := .l_int1) (off := 5) (by kernel_rfl) (by kernel_rfl) (by kernel_rfl) op_l_int1
  obtain ⟨a6, r6, w6⟩ := field_at (G := G) hlen hf (i := 6) (f := fldOf Try.prog (G.ty .Set) 6) (by kernel_rfl) (u := .int1) (off := 6) (by kernel_rfl) (by kernel_rfl) (by kernel_rfl) op_int1
  obtain ⟨a7, r7, w7⟩ := field_at (G := G) hlen hf (i := 7) (f := fldOf Try.prog (G.ty .Set) 7) (by kernel_rfl) (u := .int1) (off := 7) (by kernel_rfl) (by kernel_rfl) (by kernel_rfl) op_int1
  obtain ⟨a8, r8, w8⟩ := field_at (G := G) hlen hf (i := 8) (f := fldOf Try.prog (G.ty .Set) 8) (by kernel_rfl) (u := .int1) (off := 8) (by kernel_rfl) (by kernel_rfl) (by kernel_rfl) op_int1
  obtain ⟨a9, r9, w9⟩ := field_at (G := G) hlen hf (i := 9) (f := fldOf Try.prog (G.ty .Set) 9) (by kernel_rfl) (u := .int1) (off := 9) (by kernel_rfl) (by kernel_rfl) (by kernel_rfl) op_int1
  obtain ⟨a10, r10, w10⟩ := field_at (G := G) hlen hf (i := 10) (f := fldOf Try.prog (G.ty .Set) 10) (by kernel_rfl) (u := .int1) (off := 10) (by kernel_rfl) (by kernel_rfl) (by kernel_rfl) op_int1
  obtain ⟨a11, r11, w11⟩ := field_at (G := G) hlen hf (i := 11) (f := fldOf Try.prog (G.ty .Set) 11) (by kernel_rfl) (u := .l_Item) (off := 11) (by kernel_rfl) (by kernel_rfl) (by kernel_rfl) op_l_Item
  obtain ⟨a12, r12, w12⟩ := field_at (G := G) hlen hf (i := 12) (f := fldOf Try.prog (G.ty .Set) 12) (by kernel_rfl) (u := .l_Brick) (off := 12) (by kernel_rfl) (by kernel_rfl) (by kernel_rfl) op_l_Brick
  have hsz : cs.length = 13 := hl.trans (by kernel_rfl)
  have h13 : PRep G w (cs.drop 13) [] := by rw [List.drop_of_length_le (by omega)]; exact .nil
  have h12 := r12.part rfl h13
  have h11 := r11.part rfl h12
  have h10 := r10.part rfl h11
  have h9 := r9.part rfl h10
  have h8 := r8.part rfl h9
  have h7 := r7.part rfl h8
  have h6 := r6.part rfl h7
  have h5 := r5.part rfl h6
  have h4 := r4.part rfl h5
  have h3 := r3.part rfl h4
  have h2 := r2.part rfl h3
  have h1 := r1.part rfl h2
  have h0 := r0.part rfl h1
  exact ⟨⟨a0, a1, a2, a3, a4, a5, a6, a7, a8, a9, a10, a11, a12⟩, by rw [List.drop_zero] at h0; exact h0, ⟨w0, w1, w2, w3, w4, w5, w6, w7, w8, w9, w10, w11, w12⟩⟩
theorem op_Job : Opens G .Job W_Job := by
  intro H enc w base spare held fuel cs x h
  have hu : Try.prog.underlying (G.ty .Job) = some (.struct (fieldsOf Try.prog (G.ty .Job))) := by kernel_rfl
  obtain ⟨xs, n, _, _, hl, hlen, hf⟩ := DataW.trod_struct hu h
  obtain ⟨a0, r0, w0⟩ := field_at (G := G) hlen hf (i := 0) (f := fldOf Try.prog (G.ty .Job) 0) (by kernel_rfl) (u := .str) (off := 0) (by kernel_rfl) (by kernel_rfl) (by kernel_rfl) op_str
  obtain ⟨a1, r1, w1⟩ := field_at (G := G) hlen hf (i := 1) (f := fldOf Try.prog (G.ty .Job) 1) (by kernel_rfl) (u := .bool) (off := 1) (by kernel_rfl) (by kernel_rfl) (by kernel_rfl) op_bool
  obtain ⟨a2, r2, w2⟩ := field_at (G := G) hlen hf (i := 2) (f := fldOf Try.prog (G.ty .Job) 2) (by kernel_rfl) (u := .int1) (off := 2) (by kernel_rfl) (by kernel_rfl) (by kernel_rfl) op_int1
  have hsz : cs.length = 3 := hl.trans (by kernel_rfl)
  have h3 : PRep G w (cs.drop 3) [] := by rw [List.drop_of_length_le (by omega)]; exact .nil
  have h2 := r2.part rfl h3
  have h1 := r1.part rfl h2
  have h0 := r0.part rfl h1
  exact ⟨⟨a0, a1, a2⟩, by rw [List.drop_zero] at h0; exact h0, ⟨w0, w1, w2⟩⟩
theorem op_l_Job : Opens G .l_Job W_l_Job := opens_slice (G := G) G_ok (u := .l_Job) (e := .Job) (te := 42) (by kernel_rfl) rfl (by kernel_rfl) (fun z => z) (fun _ => rfl) op_Job (fun _ h1 h2 => ⟨h1, h2⟩)
theorem op_Errno : Opens G .Errno W_Errno := opens_int (G := G) (u := .Errno) (by kernel_rfl) (fun z => z) (fun _ => rfl) (fun _ h => h)
theorem op_u16 : Opens G .u16 W_u16 := opens_int (G := G) (u := .u16) (by kernel_rfl) (fun z => z) (fun _ => rfl) (fun _ h => h)
theorem op_u32 : Opens G .u32 W_u32 := opens_int (G := G) (u := .u32) (by kernel_rfl) (fun z => z) (fun _ => rfl) (fun _ h => h)
theorem op_l_bool : Opens G .l_bool W_l_bool := opens_slice (G := G) G_ok (u := .l_bool) (e := .bool) (te := 4) (by kernel_rfl) rfl (by kernel_rfl) (fun z => z) (fun _ => rfl) op_bool (fun _ h1 h2 => ⟨h1, h2⟩)
theorem op_lattice : Opens G .lattice W_lattice := by
  intro H enc w base spare held fuel cs x h
  have hu : Try.prog.underlying (G.ty .lattice) = some (.struct (fieldsOf Try.prog (G.ty .lattice))) := by kernel_rfl
  obtain ⟨xs, n, _, _, hl, hlen, hf⟩ := DataW.trod_struct hu h
  obtain ⟨a0, r0, w0⟩ := field_at (G := G) hlen hf (i := 0) (f := fldOf Try.prog (G.ty .lattice) 0) (by kernel_rfl) (u := .int1) (off := 0) (by kernel_rfl) (by kernel_rfl) (by kernel_rfl) op_int1
  obtain ⟨a1, r1, w1⟩ := field_at (G := G) hlen hf (i := 1) (f := fldOf Try.prog (G.ty .lattice) 1) (by kernel_rfl) (u := .l_bool) (off := 1) (by kernel_rfl) (by kernel_rfl) (by kernel_rfl) op_l_bool
  obtain ⟨a2, r2, w2⟩ := field_at (G := G) hlen hf (i := 2) (f := fldOf Try.prog (G.ty .lattice) 2) (by kernel_rfl) (u := .l_bool) (off := 2) (by kernel_rfl) (by kernel_rfl) (by kernel_rfl) op_l_bool
  obtain ⟨a3, r3, w3⟩ := field_at (G := G) hlen hf (i := 3) (f := fldOf Try.prog (G.ty .lattice) 3) (by kernel_rfl) (u := .l_bool) (off := 3) (by kernel_rfl) (by kernel_rfl) (by kernel_rfl) op_l_bool
  have hsz : cs.length = 4 := hl.trans (by kernel_rfl)
  have h4 : PRep G w (cs.drop 4) [] := by rw [List.drop_of_length_le (by omega)]; exact .nil
  have h3 := r3.part rfl h4
  have h2 := r2.part rfl h3
  have h1 := r1.part rfl h2
  have h0 := r0.part rfl h1
  exact ⟨⟨a0, a1, a2, a3⟩, by rw [List.drop_zero] at h0; exact h0, ⟨w0, w1, w2, w3⟩⟩
end Go.Proofs.Ytmdghocpelkcoaa
