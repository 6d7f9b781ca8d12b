/- Joined by merge.py: Sg. -/
import Derived.Test.YtcaopooflemnlaaGreatM03
import Derived.RangeFuncBox
import Derived.RangeFuncLeaves
import Derived.Shelf.Abstract
import Derived.WalkKit
import Derived.OwnWalkIn
import Derived.TacticsInMore
import Derived.LoopNIn
import Derived.LoopIn
import Derived.KernelRfl
import Derived.Test.YtcaopooflemnlaaGreatChecked
/- The types of the data: structures, and their reading as rows of cells. Printed by sg.py. -/
namespace Go.Proofs.YtcaopooflemnlaaGreat
open Go.RowKit
structure TItem where
 name : ByteArray
 at_ : Int
 width : Int
 weight : Int
 hang : Int
 front : Int
 back : Int
structure TBrick where
 name : ByteArray
 weight : Int
 count : Int
structure TSet where
 name : ByteArray
 depth : Int
 low : Int
 high : Int
 length : Int
 lines : List Int
 pipe : Int
 arbor : Int
 purchase : Int
 most : Int
 brake : Int
 items : List TItem
 bricks : List TBrick
structure TFrac where
 num : Int
 den : Int
structure TLoad where
 at_ : Int
 weight : Int
structure TBeam where
 name : ByteArray
 length : Int
 supports : List Int
 loads : List TLoad
 even : Int
structure TU where
 h : Int
 l : Int
structure Twide where
 hi : Int
 lo : Int
structure TBig where
 neg : Bool
 d : List Int
structure TExact where
 n : TBig
 d : TBig
structure Tnumber where
 neg : Bool
 words : List Int
structure Texact where
 n : Tnumber
 d : Tnumber
structure TAr199 where
 e0 : Int
 e1 : Int
structure TAr200 where
 e0 : Tnumber
 e1 : Tnumber
inductive U where
 | int
 | int1
 | bool
 | u8
 | str
 | l_int1
 | Item
 | l_Item
 | Brick
 | l_Brick
 | Set
 | Errno
 | Frac
 | l_Frac
 | u32
 | l_bool
 | Load
 | l_Load
 | Beam
 | u64
 | U
 | wide
 | Big
 | Exact
 | l_Exact
 | l_u32
 | number
 | exact
 | l_exact
 | u641
 | ar199
 | ar200
 | l_l_int1
 deriving DecidableEq
@[reducible] def El : U → Type
 | .int => Int
 | .int1 => Int
 | .bool => Bool
 | .u8 => Int
 | .str => ByteArray
 | .l_int1 => List Int
 | .Item => TItem
 | .l_Item => List TItem
 | .Brick => TBrick
 | .l_Brick => List TBrick
 | .Set => TSet
 | .Errno => Int
 | .Frac => TFrac
 | .l_Frac => List TFrac
 | .u32 => Int
 | .l_bool => List Bool
 | .Load => TLoad
 | .l_Load => List TLoad
 | .Beam => TBeam
 | .u64 => Int
 | .U => TU
 | .wide => Twide
 | .Big => TBig
 | .Exact => TExact
 | .l_Exact => List TExact
 | .l_u32 => List Int
 | .number => Tnumber
 | .exact => Texact
 | .l_exact => List Texact
 | .u641 => Int
 | .ar199 => TAr199
 | .ar200 => TAr200
 | .l_l_int1 => List (List Int)
abbrev PP := PV U El
def gInt (k : IntKind) : PP → Option Int
 | .val (.int k' n) => if k' = k then some n else none
 | _ => none
def gBool : PP → Option Bool
 | .val (.bool b) => some b
 | _ => none
def gStr : PP → Option ByteArray
 | .val (.string b) => some b
 | _ => none
def gSl (u : U) : PP → Option (List (El u))
 | .sl v l => @dite _ (v = u) (decEq v u) (fun h => some (h ▸ l)) (fun _ => none)
 | .val (.slice none 0 0) => some []
 | _ => none
def rowU : (u : U) → El u → List PP
 | .int, x => [.val (.int .i64 x)]
 | .int1, x => [.val (.int .i64 x)]
 | .bool, x => [.val (.bool x)]
 | .u8, x => [.val (.int .u8 x)]
 | .str, x => [.val (.string x)]
 | .l_int1, x => [.sl .int1 x]
 | .Item, x => [.val (.string x.name), .val (.int .i64 x.at_), .val (.int .i64 x.width), .val (.int .i64 x.weight), .val (.int .i64 x.hang), .val (.int .i64 x.front), .val (.int .i64 x.back)]
 | .l_Item, x => [.sl .Item x]
 | .Brick, x => [.val (.string x.name), .val (.int .i64 x.weight), .val (.int .i64 x.count)]
 | .l_Brick, x => [.sl .Brick x]
 | .Set, x => [.val (.string x.name), .val (.int .i64 x.depth), .val (.int .i64 x.low), .val (.int .i64 x.high), .val (.int .i64 x.length), .sl .int1 x.lines, .val (.int .i64 x.pipe), .val (.int .i64 x.arbor), .val (.int .i64 x.purchase), .val (.int .i64 x.most), .val (.int .i64 x.brake), .sl .Item x.items, .sl .Brick x.bricks]
 | .Errno, x => [.val (.int .i64 x)]
 | .Frac, x => [.val (.int .i64 x.num), .val (.int .i64 x.den)]
 | .l_Frac, x => [.sl .Frac x]
 | .u32, x => [.val (.int .u32 x)]
 | .l_bool, x => [.sl .bool x]
 | .Load, x => [.val (.int .i64 x.at_), .val (.int .i64 x.weight)]
 | .l_Load, x => [.sl .Load x]
 | .Beam, x => [.val (.string x.name), .val (.int .i64 x.length), .sl .int1 x.supports, .sl .Load x.loads, .val (.int .i64 x.even)]
 | .u64, x => [.val (.int .u64 x)]
 | .U, x => [.val (.int .u64 x.h), .val (.int .u64 x.l)]
 | .wide, x => [.val (.int .u64 x.hi), .val (.int .u64 x.lo)]
 | .Big, x => [.val (.bool x.neg), .sl .int1 x.d]
 | .Exact, x => [.val (.bool x.n.neg), .sl .int1 x.n.d, .val (.bool x.d.neg), .sl .int1 x.d.d]
 | .l_Exact, x => [.sl .Exact x]
 | .l_u32, x => [.sl .u32 x]
 | .number, x => [.val (.bool x.neg), .sl .u32 x.words]
 | .exact, x => [.val (.bool x.n.neg), .sl .u32 x.n.words, .val (.bool x.d.neg), .sl .u32 x.d.words]
 | .l_exact, x => [.sl .exact x]
 | .u641, x => [.val (.int .u64 x)]
 | .ar199, x => [.val (.int .u64 x.e0), .val (.int .u64 x.e1)]
 | .ar200, x => [.val (.bool x.e0.neg), .sl .u32 x.e0.words, .val (.bool x.e1.neg), .sl .u32 x.e1.words]
 | .l_l_int1, x => [.sl .l_int1 x]
def unrowU : (u : U) → List PP → Option (El u)
 | .int, ps => match ps with
  | [p0] => (gInt .i64 p0).bind fun x0 => some x0
  | _ => none
 | .int1, ps => match ps with
  | [p0] => (gInt .i64 p0).bind fun x0 => some x0
  | _ => none
 | .bool, ps => match ps with
  | [p0] => (gBool p0).bind fun x0 => some x0
  | _ => none
 | .u8, ps => match ps with
  | [p0] => (gInt .u8 p0).bind fun x0 => some x0
  | _ => none
 | .str, ps => match ps with
  | [p0] => (gStr p0).bind fun x0 => some x0
  | _ => none
 | .l_int1, ps => match ps with
  | [p0] => (gSl .int1 p0).bind fun x0 => some x0
  | _ => none
 | .Item, ps => match ps with
  | [p0, p1, p2, p3, p4, p5, p6] => (gStr p0).bind fun x0 => (gInt .i64 p1).bind fun x1 => (gInt .i64 p2).bind fun x2 => (gInt .i64 p3).bind fun x3 => (gInt .i64 p4).bind fun x4 => (gInt .i64 p5).bind fun x5 => (gInt .i64 p6).bind fun x6 => some ⟨x0, x1, x2, x3, x4, x5, x6⟩
  | _ => none
 | .l_Item, ps => match ps with
  | [p0] => (gSl .Item p0).bind fun x0 => some x0
  | _ => none
 | .Brick, ps => match ps with
  | [p0, p1, p2] => (gStr p0).bind fun x0 => (gInt .i64 p1).bind fun x1 => (gInt .i64 p2).bind fun x2 => some ⟨x0, x1, x2⟩
  | _ => none
 | .l_Brick, ps => match ps with
  | [p0] => (gSl .Brick p0).bind fun x0 => some x0
  | _ => none
 | .Set, ps => match ps with
  | [p0, p1, p2, p3, p4, p5, p6, p7, p8, p9, p10, p11, p12] => (gStr p0).bind fun x0 => (gInt .i64 p1).bind fun x1 => (gInt .i64 p2).bind fun x2 => (gInt .i64 p3).bind fun x3 => (gInt .i64 p4).bind fun x4 => (gSl .int1 p5).bind fun x5 => (gInt .i64 p6).bind fun x6 => (gInt .i64 p7).bind fun x7 => (gInt .i64 p8).bind fun x8 => (gInt .i64 p9).bind fun x9 => (gInt .i64 p10).bind fun x10 => (gSl .Item p11).bind fun x11 => (gSl .Brick p12).bind fun x12 => some ⟨x0, x1, x2, x3, x4, x5, x6, x7, x8, x9, x10, x11, x12⟩
  | _ => none
 | .Errno, ps => match ps with
  | [p0] => (gInt .i64 p0).bind fun x0 => some x0
  | _ => none
 | .Frac, ps => match ps with
  | [p0, p1] => (gInt .i64 p0).bind fun x0 => (gInt .i64 p1).bind fun x1 => some ⟨x0, x1⟩
  | _ => none
 | .l_Frac, ps => match ps with
  | [p0] => (gSl .Frac p0).bind fun x0 => some x0
  | _ => none
 | .u32, ps => match ps with
  | [p0] => (gInt .u32 p0).bind fun x0 => some x0
  | _ => none
 | .l_bool, ps => match ps with
  | [p0] => (gSl .bool p0).bind fun x0 => some x0
  | _ => none
 | .Load, ps => match ps with
  | [p0, p1] => (gInt .i64 p0).bind fun x0 => (gInt .i64 p1).bind fun x1 => some ⟨x0, x1⟩
  | _ => none
 | .l_Load, ps => match ps with
  | [p0] => (gSl .Load p0).bind fun x0 => some x0
  | _ => none
 | .Beam, ps => match ps with
  | [p0, p1, p2, p3, p4] => (gStr p0).bind fun x0 => (gInt .i64 p1).bind fun x1 => (gSl .int1 p2).bind fun x2 => (gSl .Load p3).bind fun x3 => (gInt .i64 p4).bind fun x4 => some ⟨x0, x1, x2, x3, x4⟩
  | _ => none
 | .u64, ps => match ps with
  | [p0] => (gInt .u64 p0).bind fun x0 => some x0
  | _ => none
 | .U, ps => match ps with
  | [p0, p1] => (gInt .u64 p0).bind fun x0 => (gInt .u64 p1).bind fun x1 => some ⟨x0, x1⟩
  | _ => none
 | .wide, ps => match ps with
  | [p0, p1] => (gInt .u64 p0).bind fun x0 => (gInt .u64 p1).bind fun x1 => some ⟨x0, x1⟩
  | _ => none
 | .Big, ps => match ps with
  | [p0, p1] => (gBool p0).bind fun x0 => (gSl .int1 p1).bind fun x1 => some ⟨x0, x1⟩
  | _ => none
 | .Exact, ps => match ps with
  | [p0, p1, p2, p3] => (gBool p0).bind fun x0 => (gSl .int1 p1).bind fun x1 => (gBool p2).bind fun x2 => (gSl .int1 p3).bind fun x3 => some ⟨⟨x0, x1⟩, ⟨x2, x3⟩⟩
  | _ => none
 | .l_Exact, ps => match ps with
  | [p0] => (gSl .Exact p0).bind fun x0 => some x0
  | _ => none
 | .l_u32, ps => match ps with
  | [p0] => (gSl .u32 p0).bind fun x0 => some x0
  | _ => none
 | .number, ps => match ps with
  | [p0, p1] => (gBool p0).bind fun x0 => (gSl .u32 p1).bind fun x1 => some ⟨x0, x1⟩
  | _ => none
 | .exact, ps => match ps with
  | [p0, p1, p2, p3] => (gBool p0).bind fun x0 => (gSl .u32 p1).bind fun x1 => (gBool p2).bind fun x2 => (gSl .u32 p3).bind fun x3 => some ⟨⟨x0, x1⟩, ⟨x2, x3⟩⟩
  | _ => none
 | .l_exact, ps => match ps with
  | [p0] => (gSl .exact p0).bind fun x0 => some x0
  | _ => none
 | .u641, ps => match ps with
  | [p0] => (gInt .u64 p0).bind fun x0 => some x0
  | _ => none
 | .ar199, ps => match ps with
  | [p0, p1] => (gInt .u64 p0).bind fun x0 => (gInt .u64 p1).bind fun x1 => some ⟨x0, x1⟩
  | _ => none
 | .ar200, ps => match ps with
  | [p0, p1, p2, p3] => (gBool p0).bind fun x0 => (gSl .u32 p1).bind fun x1 => (gBool p2).bind fun x2 => (gSl .u32 p3).bind fun x3 => some ⟨⟨x0, x1⟩, ⟨x2, x3⟩⟩
  | _ => none
 | .l_l_int1, ps => match ps with
  | [p0] => (gSl .l_int1 p0).bind fun x0 => some x0
  | _ => none
def zeroU : (u : U) → El u
 | .int => 0
 | .int1 => 0
 | .bool => false
 | .u8 => 0
 | .str => ByteArray.empty
 | .l_int1 => []
 | .Item => ⟨ByteArray.empty, 0, 0, 0, 0, 0, 0⟩
 | .l_Item => []
 | .Brick => ⟨ByteArray.empty, 0, 0⟩
 | .l_Brick => []
 | .Set => ⟨ByteArray.empty, 0, 0, 0, 0, [], 0, 0, 0, 0, 0, [], []⟩
 | .Errno => 0
 | .Frac => ⟨0, 0⟩
 | .l_Frac => []
 | .u32 => 0
 | .l_bool => []
 | .Load => ⟨0, 0⟩
 | .l_Load => []
 | .Beam => ⟨ByteArray.empty, 0, [], [], 0⟩
 | .u64 => 0
 | .U => ⟨0, 0⟩
 | .wide => ⟨0, 0⟩
 | .Big => ⟨false, []⟩
 | .Exact => ⟨⟨false, []⟩, ⟨false, []⟩⟩
 | .l_Exact => []
 | .l_u32 => []
 | .number => ⟨false, []⟩
 | .exact => ⟨⟨false, []⟩, ⟨false, []⟩⟩
 | .l_exact => []
 | .u641 => 0
 | .ar199 => ⟨0, 0⟩
 | .ar200 => ⟨⟨false, []⟩, ⟨false, []⟩⟩
 | .l_l_int1 => []
def tyU : U → TypeId
 | .int => 2
 | .int1 => 3
 | .bool => 4
 | .u8 => 5
 | .str => 9
 | .l_int1 => 22
 | .Item => 34
 | .l_Item => 23
 | .Brick => 100
 | .l_Brick => 24
 | .Set => 26
 | .Errno => 29
 | .Frac => 43
 | .l_Frac => 38
 | .u32 => 60
 | .l_bool => 75
 | .Load => 146
 | .l_Load => 102
 | .Beam => 104
 | .u64 => 106
 | .U => 108
 | .wide => 114
 | .Big => 162
 | .Exact => 164
 | .l_Exact => 132
 | .l_u32 => 172
 | .number => 174
 | .exact => 176
 | .l_exact => 139
 | .u641 => 147
 | .ar199 => 199
 | .ar200 => 200
 | .l_l_int1 => 211
def szU : U → Nat
 | .int => 1
 | .int1 => 1
 | .bool => 1
 | .u8 => 1
 | .str => 1
 | .l_int1 => 1
 | .Item => 7
 | .l_Item => 1
 | .Brick => 3
 | .l_Brick => 1
 | .Set => 13
 | .Errno => 1
 | .Frac => 2
 | .l_Frac => 1
 | .u32 => 1
 | .l_bool => 1
 | .Load => 2
 | .l_Load => 1
 | .Beam => 5
 | .u64 => 1
 | .U => 2
 | .wide => 2
 | .Big => 2
 | .Exact => 4
 | .l_Exact => 1
 | .l_u32 => 1
 | .number => 2
 | .exact => 4
 | .l_exact => 1
 | .u641 => 1
 | .ar199 => 2
 | .ar200 => 4
 | .l_l_int1 => 1
def agU : U → Bool
 | .int => false
 | .int1 => false
 | .bool => false
 | .u8 => false
 | .str => false
 | .l_int1 => false
 | .Item => true
 | .l_Item => false
 | .Brick => true
 | .l_Brick => false
 | .Set => true
 | .Errno => false
 | .Frac => true
 | .l_Frac => false
 | .u32 => false
 | .l_bool => false
 | .Load => true
 | .l_Load => false
 | .Beam => true
 | .u64 => false
 | .U => true
 | .wide => true
 | .Big => true
 | .Exact => true
 | .l_Exact => false
 | .l_u32 => false
 | .number => true
 | .exact => true
 | .l_exact => false
 | .u641 => false
 | .ar199 => true
 | .ar200 => true
 | .l_l_int1 => false
def flatU : U → Bool
 | .int => true
 | .int1 => true
 | .bool => true
 | .u8 => true
 | .str => true
 | .l_int1 => false
 | .Item => true
 | .l_Item => false
 | .Brick => true
 | .l_Brick => false
 | .Set => false
 | .Errno => true
 | .Frac => true
 | .l_Frac => false
 | .u32 => true
 | .l_bool => false
 | .Load => true
 | .l_Load => false
 | .Beam => false
 | .u64 => true
 | .U => true
 | .wide => true
 | .Big => false
 | .Exact => false
 | .l_Exact => false
 | .l_u32 => false
 | .number => false
 | .exact => false
 | .l_exact => false
 | .u641 => true
 | .ar199 => true
 | .ar200 => false
 | .l_l_int1 => false
def eltU : TypeId → Option U
 | 22 => some .int1
 | 23 => some .Item
 | 24 => some .Brick
 | 38 => some .Frac
 | 75 => some .bool
 | 102 => some .Load
 | 132 => some .Exact
 | 172 => some .u32
 | 139 => some .exact
 | 211 => some .l_int1
 | _ => none
def extF : FuncId → Option Ext
 | 133 => some .add64
 | 134 => some .sub64
 | _ => none
def G : Sg Tryz.prog := { U := U, deq := inferInstance, El := El, row := rowU, unrow := unrowU, zero := zeroU, ty := tyU, sz := szU, ag := agU, elt := eltU, flat := flatU, byref := fun f => ([21, 23, 57, 117, 123] : List Nat).contains f, fz := fun f => ([121, 128, 130, 154, 155, 156, 157, 158, 159, 160, 163, 165, 166, 167, 168, 169, 170, 176, 177, 178, 180, 181, 182, 183, 184, 185, 186, 189, 191, 192, 193, 194, 195, 196, 197, 198, 203, 204, 205, 208, 210, 211, 212, 213, 215, 217] : List Nat).contains f, ext := extF, seqf := fun f => if f = 216 then some (true, U.int1) else none, rowf := fun f => if f = 117 then some (RowF.ins, U.Frac) else if f = 123 then some (RowF.del, U.int1) else none }
section
set_option linter.unusedVariables false
open Go.Shelf
set_option maxRecDepth 100000 in
set_option maxHeartbeats 2000000 in
theorem back_216 (w0 : World) (B g off cap len : Nat) (A : Option Addr) (z : Nat → Int) (hlen : len ≤ 16777216) (hB : w0.cell? ⟨B, 0, none⟩ = some (.slice A len cap)) (hA : 0 < len → A = some ⟨g, off, none⟩)
  (hc : ∀ k, k < len → w0.cell? ⟨g, off + k, none⟩ = some (.int .i64 (z k))) : SeqRun Tryz.prog 216 #[.pointer (some ⟨B, 0, none⟩)] len (fun k => #[.int .i64 (len - 1 - k : Int), .int .i64 (z (len - 1 - k))]) [B, g] w0 := by
 intro l J W hK hG hY h0
 have hKB : ∀ k W, J k W → W.cell? ⟨B, 0, none⟩ = some (.slice A len cap) := fun k W h => (World.cell?_of_block (hK k W h B (by simp))).trans hB
 have hKg : ∀ k W, J k W → ∀ i, i < len → W.cell? ⟨g, off + i, none⟩ = some (.int .i64 (z i)) := fun k W h i hi => (World.cell?_of_block (hK k W h g (by simp))).trans (hc i hi)
 have hB0 := hKB 0 W h0
 refine callsIn_of_wp Tryz.func216 rfl trivial ?_ rfl
 simp only [Tryz.ntmps216, List.size_toArray, List.length_cons, List.length_nil, Nat.reduceAdd, Nat.reduceSub, Array.replicate_succ, Array.replicate_zero, List.push_toArray, List.append_toArray, List.nil_append, List.cons_append]
 gi_wp2
 gi_loopw [3] (fun i wr => ∃ k : Nat, k ≤ len ∧ i = .int .i64 (len - 1 - k : Int) ∧ J k wr)
  (fun i _ => (intOf i + 1).toNat)
 case atStart => exact ⟨0, Nat.zero_le _, by simp, h0⟩
 case round =>
  obtain ⟨k, hk, rfl, hJ⟩ := hrel
  by_cases hlt : k < len
  ·obtain rfl : A = some ⟨g, off, none⟩ := hA (by omega)
   obtain ⟨fn, tmps, assign, body, hy, hR⟩ := hY k wr hJ hlt
   have hBx := hKB k wr hJ
   have hcx := hKg k wr hJ (len - 1 - k) (by omega)
   have hge : (0 : Int) ≤ len - 1 - k := by omega
   have hnat : ((len : Int) - 1 - k).toNat = len - 1 - k := by omega
   gi_wp2
   refine hR.mono ?_
   rintro e W3 ⟨rfl, hJ3⟩
   gi_wp2
   go_roundw
   case rel => exact ⟨k + 1, by omega, by congr 1; push_cast; omega, hJ3⟩
   case measure => simp [intOf]; omega
  ·obtain rfl : k = len := by omega
   gi_wp2
   go_end0
   exact ⟨⟨_, rfl⟩, hJ⟩
end
theorem seqv_216 (w : World) (B g off cap : Nat) (A : Option Addr) (l : List Int) (hlen : l.length ≤ 16777216) (hB : w.cell? ⟨B, 0, none⟩ = some (.slice A l.length cap)) (hA : 0 < l.length → A = some ⟨g, off, none⟩)
  (hc : ∀ (k : Nat) (x : Int), l[k]? = some x → w.cell? ⟨g, off + k, none⟩ = some (.int .i64 x)) :
  SeqRun Tryz.prog 216 #[.pointer (some ⟨B, 0, none⟩)] l.length (fun k => match (ordS true l)[k]? with
   | some p => #[.int .i64 (p.1 : Nat), .int .i64 p.2]
   | none => #[]) [B, g] w := by
 refine (back_216 w B g off cap l.length A (fun k => l[k]?.getD 0) hlen hB hA fun k hk => ?_).congr fun k hk => ?_
 ·have h := List.getElem?_eq_getElem hk
  rw [hc k _ h, h]
  rfl
 ·rw [ordS_back hk]
  have h2 : l.length - 1 - k < l.length := by omega
  have e : ((l.length - 1 - k : Nat) : Int) = (l.length : Int) - 1 - k := by omega
  simp only [List.getElem?_eq_getElem h2, Option.getD_some]
  rw [← e]
theorem seq_216 : SeqOk G 216 true .int1 := by
 refine ⟨rfl, ⟨_, Tryz.func216, by kernel_rfl, by kernel_rfl⟩, fun w B g off cap A l hlen hB hA hc => ?_⟩
 refine (seqv_216 w B g off cap A l hlen hB hA fun k x hk => ?_).congr fun k hk => ?_
 ·obtain ⟨v, h1, h2⟩ := hc k x 0 (.val (.int .i64 x)) hk rfl
  cases h1
  have hsz : G.sz .int1 = 1 := by kernel_rfl
  rw [hsz] at h2
  simpa using h2
 ·unfold argV
  rw [ordS_back (α := G.El .int1) (l := l) hk]
  have h2 := @ordS_back Int l k hk
  rw [h2]
  rfl
theorem gInt_w {k : IntKind} {p : PP} {n : Int} (h : gInt k p = some n) : Weak G p (.val (.int k n)) := by
 unfold gInt at h
 split at h
 ·split at h
  ·rename_i hk; subst hk; cases h; exact .inl rfl
  ·cases h
 ·cases h
theorem gBool_w {p : PP} {n : Bool} (h : gBool p = some n) : Weak G p (.val (.bool n)) := by
 unfold gBool at h
 split at h
 ·cases h; exact .inl rfl
 ·cases h
theorem gStr_w {p : PP} {n : ByteArray} (h : gStr p = some n) : Weak G p (.val (.string n)) := by
 unfold gStr at h
 split at h
 ·cases h; exact .inl rfl
 ·cases h
theorem gSl_w {u : U} {p : PP} {l : List (El u)} (h : gSl u p = some l) : Weak G p (.sl u l) := by
 unfold gSl at h
 split at h
 ·split at h
  ·rename_i hv; subst hv; cases h; exact .inl rfl
  ·cases h
 ·cases h; exact .inr ⟨rfl, u, rfl⟩
 ·cases h
inductive Wk : List PP → List PP → Prop where
 | nil : Wk [] []
 | cons {p q ps qs} (h : Weak G p q) (t : Wk ps qs) : Wk (p :: ps) (q :: qs)
theorem Wk.get {ps qs : List PP} (h : Wk ps qs) : ps.length = qs.length ∧ ∀ (j : Nat) (p : PP), ps[j]? = some p → ∃ q, qs[j]? = some q ∧ Weak G p q := by
 induction h with
 | nil => exact ⟨rfl, fun j p hj => by cases hj⟩
 | cons h _ ih =>
  refine ⟨congrArg (· + 1) ih.1, fun j p hj => ?_⟩
  cases j with
  | zero => cases hj; exact ⟨_, rfl, h⟩
  | succ j => exact ih.2 j p hj
theorem row_szU : ∀ u x, (rowU u x).length = szU u := by
 intro u x; cases u <;> rfl
theorem un_int {ps : List PP} {x : El .int} (h : unrowU .int ps = some x) : Wk ps (rowU .int x) := by
 unfold unrowU at h
 simp only at h
 split at h
 ·simp only [Option.bind_eq_some_iff] at h
  obtain ⟨x0, hx0, h⟩ := h
  cases h
  exact .cons (gInt_w hx0) (.nil)
 ·cases h
theorem un_int1 {ps : List PP} {x : El .int1} (h : unrowU .int1 ps = some x) : Wk ps (rowU .int1 x) := by
 unfold unrowU at h
 simp only at h
 split at h
 ·simp only [Option.bind_eq_some_iff] at h
  obtain ⟨x0, hx0, h⟩ := h
  cases h
  exact .cons (gInt_w hx0) (.nil)
 ·cases h
theorem un_bool {ps : List PP} {x : El .bool} (h : unrowU .bool ps = some x) : Wk ps (rowU .bool x) := by
 unfold unrowU at h
 simp only at h
 split at h
 ·simp only [Option.bind_eq_some_iff] at h
  obtain ⟨x0, hx0, h⟩ := h
  cases h
  exact .cons (gBool_w hx0) (.nil)
 ·cases h
theorem un_u8 {ps : List PP} {x : El .u8} (h : unrowU .u8 ps = some x) : Wk ps (rowU .u8 x) := by
 unfold unrowU at h
 simp only at h
 split at h
 ·simp only [Option.bind_eq_some_iff] at h
  obtain ⟨x0, hx0, h⟩ := h
  cases h
  exact .cons (gInt_w hx0) (.nil)
 ·cases h
theorem un_str {ps : List PP} {x : El .str} (h : unrowU .str ps = some x) : Wk ps (rowU .str x) := by
 unfold unrowU at h
 simp only at h
 split at h
 ·simp only [Option.bind_eq_some_iff] at h
  obtain ⟨x0, hx0, h⟩ := h
  cases h
  exact .cons (gStr_w hx0) (.nil)
 ·cases h
theorem un_l_int1 {ps : List PP} {x : El .l_int1} (h : unrowU .l_int1 ps = some x) : Wk ps (rowU .l_int1 x) := by
 unfold unrowU at h
 simp only at h
 split at h
 ·simp only [Option.bind_eq_some_iff] at h
  obtain ⟨x0, hx0, h⟩ := h
  cases h
  exact .cons (gSl_w hx0) (.nil)
 ·cases h
theorem un_Item {ps : List PP} {x : El .Item} (h : unrowU .Item ps = some x) : Wk ps (rowU .Item x) := by
 unfold unrowU at h
 simp only at h
 split at h
 ·simp only [Option.bind_eq_some_iff] at h
  obtain ⟨x0, hx0, x1, hx1, x2, hx2, x3, hx3, x4, hx4, x5, hx5, x6, hx6, h⟩ := h
  cases h
  exact .cons (gStr_w hx0) (.cons (gInt_w hx1) (.cons (gInt_w hx2) (.cons (gInt_w hx3) (.cons (gInt_w hx4) (.cons (gInt_w hx5) (.cons (gInt_w hx6) (.nil)))))))
 ·cases h
theorem un_l_Item {ps : List PP} {x : El .l_Item} (h : unrowU .l_Item ps = some x) : Wk ps (rowU .l_Item x) := by
 unfold unrowU at h
 simp only at h
 split at h
 ·simp only [Option.bind_eq_some_iff] at h
  obtain ⟨x0, hx0, h⟩ := h
  cases h
  exact .cons (gSl_w hx0) (.nil)
 ·cases h
theorem un_Brick {ps : List PP} {x : El .Brick} (h : unrowU .Brick ps = some x) : Wk ps (rowU .Brick x) := by
 unfold unrowU at h
 simp only at h
 split at h
 ·simp only [Option.bind_eq_some_iff] at h
  obtain ⟨x0, hx0, x1, hx1, x2, hx2, h⟩ := h
  cases h
  exact .cons (gStr_w hx0) (.cons (gInt_w hx1) (.cons (gInt_w hx2) (.nil)))
 ·cases h
theorem un_l_Brick {ps : List PP} {x : El .l_Brick} (h : unrowU .l_Brick ps = some x) : Wk ps (rowU .l_Brick x) := by
 unfold unrowU at h
 simp only at h
 split at h
 ·simp only [Option.bind_eq_some_iff] at h
  obtain ⟨x0, hx0, h⟩ := h
  cases h
  exact .cons (gSl_w hx0) (.nil)
 ·cases h
theorem un_Set {ps : List PP} {x : El .Set} (h : unrowU .Set ps = some x) : Wk ps (rowU .Set x) := by
 unfold unrowU at h
 simp only at h
 split at h
 ·simp only [Option.bind_eq_some_iff] at h
  obtain ⟨x0, hx0, x1, hx1, x2, hx2, x3, hx3, x4, hx4, x5, hx5, x6, hx6, x7, hx7, x8, hx8, x9, hx9, x10, hx10, x11, hx11, x12, hx12, h⟩ := h
  cases h
  exact .cons (gStr_w hx0) (.cons (gInt_w hx1) (.cons (gInt_w hx2) (.cons (gInt_w hx3) (.cons (gInt_w hx4) (.cons (gSl_w hx5) (.cons (gInt_w hx6) (.cons (gInt_w hx7) (.cons (gInt_w hx8) (.cons (gInt_w hx9) (.cons (gInt_w hx10) (.cons (gSl_w hx11) (.cons (gSl_w hx12) (.nil)))))))))))))
 ·cases h
theorem un_Errno {ps : List PP} {x : El .Errno} (h : unrowU .Errno ps = some x) : Wk ps (rowU .Errno x) := by
 unfold unrowU at h
 simp only at h
 split at h
 ·simp only [Option.bind_eq_some_iff] at h
  obtain ⟨x0, hx0, h⟩ := h
  cases h
  exact .cons (gInt_w hx0) (.nil)
 ·cases h
theorem un_Frac {ps : List PP} {x : El .Frac} (h : unrowU .Frac ps = some x) : Wk ps (rowU .Frac x) := by
 unfold unrowU at h
 simp only at h
 split at h
 ·simp only [Option.bind_eq_some_iff] at h
  obtain ⟨x0, hx0, x1, hx1, h⟩ := h
  cases h
  exact .cons (gInt_w hx0) (.cons (gInt_w hx1) (.nil))
 ·cases h
theorem un_l_Frac {ps : List PP} {x : El .l_Frac} (h : unrowU .l_Frac ps = some x) : Wk ps (rowU .l_Frac x) := by
 unfold unrowU at h
 simp only at h
 split at h
 ·simp only [Option.bind_eq_some_iff] at h
  obtain ⟨x0, hx0, h⟩ := h
  cases h
  exact .cons (gSl_w hx0) (.nil)
 ·cases h
theorem un_u32 {ps : List PP} {x : El .u32} (h : unrowU .u32 ps = some x) : Wk ps (rowU .u32 x) := by
 unfold unrowU at h
 simp only at h
 split at h
 ·simp only [Option.bind_eq_some_iff] at h
  obtain ⟨x0, hx0, h⟩ := h
  cases h
  exact .cons (gInt_w hx0) (.nil)
 ·cases h
theorem un_l_bool {ps : List PP} {x : El .l_bool} (h : unrowU .l_bool ps = some x) : Wk ps (rowU .l_bool x) := by
 unfold unrowU at h
 simp only at h
 split at h
 ·simp only [Option.bind_eq_some_iff] at h
  obtain ⟨x0, hx0, h⟩ := h
  cases h
  exact .cons (gSl_w hx0) (.nil)
 ·cases h
theorem un_Load {ps : List PP} {x : El .Load} (h : unrowU .Load ps = some x) : Wk ps (rowU .Load x) := by
 unfold unrowU at h
 simp only at h
 split at h
 ·simp only [Option.bind_eq_some_iff] at h
  obtain ⟨x0, hx0, x1, hx1, h⟩ := h
  cases h
  exact .cons (gInt_w hx0) (.cons (gInt_w hx1) (.nil))
 ·cases h
theorem un_l_Load {ps : List PP} {x : El .l_Load} (h : unrowU .l_Load ps = some x) : Wk ps (rowU .l_Load x) := by
 unfold unrowU at h
 simp only at h
 split at h
 ·simp only [Option.bind_eq_some_iff] at h
  obtain ⟨x0, hx0, h⟩ := h
  cases h
  exact .cons (gSl_w hx0) (.nil)
 ·cases h
theorem un_Beam {ps : List PP} {x : El .Beam} (h : unrowU .Beam ps = some x) : Wk ps (rowU .Beam x) := by
 unfold unrowU at h
 simp only at h
 split at h
 ·simp only [Option.bind_eq_some_iff] at h
  obtain ⟨x0, hx0, x1, hx1, x2, hx2, x3, hx3, x4, hx4, h⟩ := h
  cases h
  exact .cons (gStr_w hx0) (.cons (gInt_w hx1) (.cons (gSl_w hx2) (.cons (gSl_w hx3) (.cons (gInt_w hx4) (.nil)))))
 ·cases h
theorem un_u64 {ps : List PP} {x : El .u64} (h : unrowU .u64 ps = some x) : Wk ps (rowU .u64 x) := by
 unfold unrowU at h
 simp only at h
 split at h
 ·simp only [Option.bind_eq_some_iff] at h
  obtain ⟨x0, hx0, h⟩ := h
  cases h
  exact .cons (gInt_w hx0) (.nil)
 ·cases h
theorem un_U {ps : List PP} {x : El .U} (h : unrowU .U ps = some x) : Wk ps (rowU .U x) := by
 unfold unrowU at h
 simp only at h
 split at h
 ·simp only [Option.bind_eq_some_iff] at h
  obtain ⟨x0, hx0, x1, hx1, h⟩ := h
  cases h
  exact .cons (gInt_w hx0) (.cons (gInt_w hx1) (.nil))
 ·cases h
theorem un_wide {ps : List PP} {x : El .wide} (h : unrowU .wide ps = some x) : Wk ps (rowU .wide x) := by
 unfold unrowU at h
 simp only at h
 split at h
 ·simp only [Option.bind_eq_some_iff] at h
  obtain ⟨x0, hx0, x1, hx1, h⟩ := h
  cases h
  exact .cons (gInt_w hx0) (.cons (gInt_w hx1) (.nil))
 ·cases h
theorem un_Big {ps : List PP} {x : El .Big} (h : unrowU .Big ps = some x) : Wk ps (rowU .Big x) := by
 unfold unrowU at h
 simp only at h
 split at h
 ·simp only [Option.bind_eq_some_iff] at h
  obtain ⟨x0, hx0, x1, hx1, h⟩ := h
  cases h
  exact .cons (gBool_w hx0) (.cons (gSl_w hx1) (.nil))
 ·cases h
theorem un_Exact {ps : List PP} {x : El .Exact} (h : unrowU .Exact ps = some x) : Wk ps (rowU .Exact x) := by
 unfold unrowU at h
 simp only at h
 split at h
 ·simp only [Option.bind_eq_some_iff] at h
  obtain ⟨x0, hx0, x1, hx1, x2, hx2, x3, hx3, h⟩ := h
  cases h
  exact .cons (gBool_w hx0) (.cons (gSl_w hx1) (.cons (gBool_w hx2) (.cons (gSl_w hx3) (.nil))))
 ·cases h
theorem un_l_Exact {ps : List PP} {x : El .l_Exact} (h : unrowU .l_Exact ps = some x) : Wk ps (rowU .l_Exact x) := by
 unfold unrowU at h
 simp only at h
 split at h
 ·simp only [Option.bind_eq_some_iff] at h
  obtain ⟨x0, hx0, h⟩ := h
  cases h
  exact .cons (gSl_w hx0) (.nil)
 ·cases h
theorem un_l_u32 {ps : List PP} {x : El .l_u32} (h : unrowU .l_u32 ps = some x) : Wk ps (rowU .l_u32 x) := by
 unfold unrowU at h
 simp only at h
 split at h
 ·simp only [Option.bind_eq_some_iff] at h
  obtain ⟨x0, hx0, h⟩ := h
  cases h
  exact .cons (gSl_w hx0) (.nil)
 ·cases h
theorem un_number {ps : List PP} {x : El .number} (h : unrowU .number ps = some x) : Wk ps (rowU .number x) := by
 unfold unrowU at h
 simp only at h
 split at h
 ·simp only [Option.bind_eq_some_iff] at h
  obtain ⟨x0, hx0, x1, hx1, h⟩ := h
  cases h
  exact .cons (gBool_w hx0) (.cons (gSl_w hx1) (.nil))
 ·cases h
theorem un_exact {ps : List PP} {x : El .exact} (h : unrowU .exact ps = some x) : Wk ps (rowU .exact x) := by
 unfold unrowU at h
 simp only at h
 split at h
 ·simp only [Option.bind_eq_some_iff] at h
  obtain ⟨x0, hx0, x1, hx1, x2, hx2, x3, hx3, h⟩ := h
  cases h
  exact .cons (gBool_w hx0) (.cons (gSl_w hx1) (.cons (gBool_w hx2) (.cons (gSl_w hx3) (.nil))))
 ·cases h
theorem un_l_exact {ps : List PP} {x : El .l_exact} (h : unrowU .l_exact ps = some x) : Wk ps (rowU .l_exact x) := by
 unfold unrowU at h
 simp only at h
 split at h
 ·simp only [Option.bind_eq_some_iff] at h
  obtain ⟨x0, hx0, h⟩ := h
  cases h
  exact .cons (gSl_w hx0) (.nil)
 ·cases h
theorem un_u641 {ps : List PP} {x : El .u641} (h : unrowU .u641 ps = some x) : Wk ps (rowU .u641 x) := by
 unfold unrowU at h
 simp only at h
 split at h
 ·simp only [Option.bind_eq_some_iff] at h
  obtain ⟨x0, hx0, h⟩ := h
  cases h
  exact .cons (gInt_w hx0) (.nil)
 ·cases h
theorem un_ar199 {ps : List PP} {x : El .ar199} (h : unrowU .ar199 ps = some x) : Wk ps (rowU .ar199 x) := by
 unfold unrowU at h
 simp only at h
 split at h
 ·simp only [Option.bind_eq_some_iff] at h
  obtain ⟨x0, hx0, x1, hx1, h⟩ := h
  cases h
  exact .cons (gInt_w hx0) (.cons (gInt_w hx1) (.nil))
 ·cases h
theorem un_ar200 {ps : List PP} {x : El .ar200} (h : unrowU .ar200 ps = some x) : Wk ps (rowU .ar200 x) := by
 unfold unrowU at h
 simp only at h
 split at h
 ·simp only [Option.bind_eq_some_iff] at h
  obtain ⟨x0, hx0, x1, hx1, x2, hx2, x3, hx3, h⟩ := h
  cases h
  exact .cons (gBool_w hx0) (.cons (gSl_w hx1) (.cons (gBool_w hx2) (.cons (gSl_w hx3) (.nil))))
 ·cases h
theorem un_l_l_int1 {ps : List PP} {x : El .l_l_int1} (h : unrowU .l_l_int1 ps = some x) : Wk ps (rowU .l_l_int1 x) := by
 unfold unrowU at h
 simp only at h
 split at h
 ·simp only [Option.bind_eq_some_iff] at h
  obtain ⟨x0, hx0, h⟩ := h
  cases h
  exact .cons (gSl_w hx0) (.nil)
 ·cases h
theorem unrow_w : ∀ (u : U) (ps : List PP) (x : El u), unrowU u ps = some x → Wk ps (rowU u x) := by
 intro u ps x h
 cases u
 ·exact un_int h
 ·exact un_int1 h
 ·exact un_bool h
 ·exact un_u8 h
 ·exact un_str h
 ·exact un_l_int1 h
 ·exact un_Item h
 ·exact un_l_Item h
 ·exact un_Brick h
 ·exact un_l_Brick h
 ·exact un_Set h
 ·exact un_Errno h
 ·exact un_Frac h
 ·exact un_l_Frac h
 ·exact un_u32 h
 ·exact un_l_bool h
 ·exact un_Load h
 ·exact un_l_Load h
 ·exact un_Beam h
 ·exact un_u64 h
 ·exact un_U h
 ·exact un_wide h
 ·exact un_Big h
 ·exact un_Exact h
 ·exact un_l_Exact h
 ·exact un_l_u32 h
 ·exact un_number h
 ·exact un_exact h
 ·exact un_l_exact h
 ·exact un_u641 h
 ·exact un_ar199 h
 ·exact un_ar200 h
 ·exact un_l_l_int1 h
theorem info_int : (Tryz.prog.info? 2).map (fun i => (i.zero, i.size, i.bytes)) = some (some (.int .i64 0), 1, 8) := by kernel_rfl
theorem info_int1 : (Tryz.prog.info? 3).map (fun i => (i.zero, i.size, i.bytes)) = some (some (.int .i64 0), 1, 8) := by kernel_rfl
theorem info_bool : (Tryz.prog.info? 4).map (fun i => (i.zero, i.size, i.bytes)) = some (some (.bool false), 1, 1) := by kernel_rfl
theorem info_u8 : (Tryz.prog.info? 5).map (fun i => (i.zero, i.size, i.bytes)) = some (some (.int .u8 0), 1, 1) := by kernel_rfl
theorem info_str : (Tryz.prog.info? 9).map (fun i => (i.zero, i.size, i.bytes)) = some (some (.string ⟨#[]⟩), 1, 16) := by kernel_rfl
theorem info_l_int1 : (Tryz.prog.info? 22).map (fun i => (i.zero, i.size, i.bytes)) = some (some (.slice none 0 0), 1, 24) := by kernel_rfl
theorem info_Item : (Tryz.prog.info? 34).map (fun i => (i.zero, i.size, i.bytes)) = some (some (.agg #[(.string ⟨#[]⟩), (.int .i64 0), (.int .i64 0), (.int .i64 0), (.int .i64 0), (.int .i64 0), (.int .i64 0)]), 7, 64) := by kernel_rfl
theorem info_l_Item : (Tryz.prog.info? 23).map (fun i => (i.zero, i.size, i.bytes)) = some (some (.slice none 0 0), 1, 24) := by kernel_rfl
theorem info_Brick : (Tryz.prog.info? 100).map (fun i => (i.zero, i.size, i.bytes)) = some (some (.agg #[(.string ⟨#[]⟩), (.int .i64 0), (.int .i64 0)]), 3, 32) := by kernel_rfl
theorem info_l_Brick : (Tryz.prog.info? 24).map (fun i => (i.zero, i.size, i.bytes)) = some (some (.slice none 0 0), 1, 24) := by kernel_rfl
theorem info_Set : (Tryz.prog.info? 26).map (fun i => (i.zero, i.size, i.bytes)) = some (some (.agg #[(.string ⟨#[]⟩), (.int .i64 0), (.int .i64 0), (.int .i64 0), (.int .i64 0), (.slice none 0 0), (.int .i64 0), (.int .i64 0), (.int .i64 0), (.int .i64 0), (.int .i64 0), (.slice none 0 0), (.slice none 0 0)]), 13, 160) := by kernel_rfl
theorem info_Errno : (Tryz.prog.info? 29).map (fun i => (i.zero, i.size, i.bytes)) = some (some (.int .i64 0), 1, 8) := by kernel_rfl
theorem info_Frac : (Tryz.prog.info? 43).map (fun i => (i.zero, i.size, i.bytes)) = some (some (.agg #[(.int .i64 0), (.int .i64 0)]), 2, 16) := by kernel_rfl
theorem info_l_Frac : (Tryz.prog.info? 38).map (fun i => (i.zero, i.size, i.bytes)) = some (some (.slice none 0 0), 1, 24) := by kernel_rfl
theorem info_u32 : (Tryz.prog.info? 60).map (fun i => (i.zero, i.size, i.bytes)) = some (some (.int .u32 0), 1, 4) := by kernel_rfl
theorem info_l_bool : (Tryz.prog.info? 75).map (fun i => (i.zero, i.size, i.bytes)) = some (some (.slice none 0 0), 1, 24) := by kernel_rfl
theorem info_Load : (Tryz.prog.info? 146).map (fun i => (i.zero, i.size, i.bytes)) = some (some (.agg #[(.int .i64 0), (.int .i64 0)]), 2, 16) := by kernel_rfl
theorem info_l_Load : (Tryz.prog.info? 102).map (fun i => (i.zero, i.size, i.bytes)) = some (some (.slice none 0 0), 1, 24) := by kernel_rfl
theorem info_Beam : (Tryz.prog.info? 104).map (fun i => (i.zero, i.size, i.bytes)) = some (some (.agg #[(.string ⟨#[]⟩), (.int .i64 0), (.slice none 0 0), (.slice none 0 0), (.int .i64 0)]), 5, 80) := by kernel_rfl
theorem info_u64 : (Tryz.prog.info? 106).map (fun i => (i.zero, i.size, i.bytes)) = some (some (.int .u64 0), 1, 8) := by kernel_rfl
theorem info_U : (Tryz.prog.info? 108).map (fun i => (i.zero, i.size, i.bytes)) = some (some (.agg #[(.int .u64 0), (.int .u64 0)]), 2, 16) := by kernel_rfl
theorem info_wide : (Tryz.prog.info? 114).map (fun i => (i.zero, i.size, i.bytes)) = some (some (.agg #[(.int .u64 0), (.int .u64 0)]), 2, 16) := by kernel_rfl
theorem info_Big : (Tryz.prog.info? 162).map (fun i => (i.zero, i.size, i.bytes)) = some (some (.agg #[(.bool false), (.slice none 0 0)]), 2, 32) := by kernel_rfl
theorem info_Exact : (Tryz.prog.info? 164).map (fun i => (i.zero, i.size, i.bytes)) = some (some (.agg #[(.bool false), (.slice none 0 0), (.bool false), (.slice none 0 0)]), 4, 64) := by kernel_rfl
theorem info_l_Exact : (Tryz.prog.info? 132).map (fun i => (i.zero, i.size, i.bytes)) = some (some (.slice none 0 0), 1, 24) := by kernel_rfl
theorem info_l_u32 : (Tryz.prog.info? 172).map (fun i => (i.zero, i.size, i.bytes)) = some (some (.slice none 0 0), 1, 24) := by kernel_rfl
theorem info_number : (Tryz.prog.info? 174).map (fun i => (i.zero, i.size, i.bytes)) = some (some (.agg #[(.bool false), (.slice none 0 0)]), 2, 32) := by kernel_rfl
theorem info_exact : (Tryz.prog.info? 176).map (fun i => (i.zero, i.size, i.bytes)) = some (some (.agg #[(.bool false), (.slice none 0 0), (.bool false), (.slice none 0 0)]), 4, 64) := by kernel_rfl
theorem info_l_exact : (Tryz.prog.info? 139).map (fun i => (i.zero, i.size, i.bytes)) = some (some (.slice none 0 0), 1, 24) := by kernel_rfl
theorem info_u641 : (Tryz.prog.info? 147).map (fun i => (i.zero, i.size, i.bytes)) = some (some (.int .u64 0), 1, 8) := by kernel_rfl
theorem info_ar199 : (Tryz.prog.info? 199).map (fun i => (i.zero, i.size, i.bytes)) = some (some (.agg #[(.int .u64 0), (.int .u64 0)]), 2, 16) := by kernel_rfl
theorem info_ar200 : (Tryz.prog.info? 200).map (fun i => (i.zero, i.size, i.bytes)) = some (some (.agg #[(.bool false), (.slice none 0 0), (.bool false), (.slice none 0 0)]), 4, 64) := by kernel_rfl
theorem info_l_l_int1 : (Tryz.prog.info? 211).map (fun i => (i.zero, i.size, i.bytes)) = some (some (.slice none 0 0), 1, 24) := by kernel_rfl
theorem info_of {t sz by_ : Nat} {z : Value} {u : U} (h : (Tryz.prog.info? t).map (fun i => (i.zero, i.size, i.bytes)) = some (some z, sz, by_)) (hb : by_ ≤ 4096) (hz : z.cells.size = sz) (ha : z.cells.toList.all Value.oneCell' = true)
  (hw : Wk (z.cells.toList.map PV.val) (rowU u (zeroU u))) : ∃ i z, Tryz.prog.info? t = some i ∧ i.zero = some z ∧ i.size = sz ∧ z.cells.size = sz ∧ i.bytes ≤ 4096 ∧ (∀ (j : Nat) (p : PP), (rowU u (zeroU u))[j]? = some p → ∃ v, z.cells.toList[j]? = some v ∧ Weak G (.val v) p) ∧ ∀ v ∈ z.cells.toList, v.oneCell' = true := by
 rw [Option.map_eq_some_iff] at h
 obtain ⟨i, hi, he⟩ := h
 simp only [Prod.mk.injEq] at he
 obtain ⟨e1, e2, e3⟩ := he
 refine ⟨i, z, hi, e1, e2, hz, by omega, fun j p hj => ?_, fun v hv => List.all_eq_true.1 ha v hv⟩
 obtain ⟨h1, h2⟩ := hw.get
 have hlt : j < (z.cells.toList.map (PV.val (U := U) (El := El))).length := by rw [h1]; exact (List.getElem?_eq_some_iff.1 hj).1
 obtain ⟨q, h3, h4⟩ := h2 j _ (List.getElem?_eq_getElem hlt)
 rw [hj] at h3
 cases h3
 have hlt' : j < z.cells.toList.length := by simpa using hlt
 exact ⟨z.cells.toList[j], List.getElem?_eq_getElem hlt', by rw [List.getElem_map] at h4; exact h4⟩
theorem flat_of {ps : List G.P'} (h : ps.all (fun p => match p with | .val _ => true | _ => false) = true) : ∀ p ∈ ps, ∃ v, p = PV.val v := by
 intro p hp
 have := List.all_eq_true.1 h p hp
 cases p with
 | val v => exact ⟨v, rfl⟩
 | sl u l => cases this
theorem rowok_117 : RowOk G 117 .ins .Frac := ⟨⟨_, Tryz.func117, by kernel_rfl, by kernel_rfl⟩, ins_row⟩
theorem rowok_123 : RowOk G 123 .del .int1 := ⟨⟨_, Tryz.func123, by kernel_rfl, by kernel_rfl⟩, del_row⟩
theorem G_ok : G.Ok where
 mixed := by kernel_rfl
 row_sz := row_szU
 pos := by intro u; cases u <;> decide
 unrow := fun u ps x h => by
  obtain ⟨h1, h2⟩ := (unrow_w u ps x h).get
  exact ⟨h1.trans (row_szU u x), h2⟩
 info := by
  intro u
  cases u
  ·exact info_of (u := .int) info_int (by decide) rfl rfl (.cons (.inl rfl) (.nil))
  ·exact info_of (u := .int1) info_int1 (by decide) rfl rfl (.cons (.inl rfl) (.nil))
  ·exact info_of (u := .bool) info_bool (by decide) rfl rfl (.cons (.inl rfl) (.nil))
  ·exact info_of (u := .u8) info_u8 (by decide) rfl rfl (.cons (.inl rfl) (.nil))
  ·exact info_of (u := .str) info_str (by decide) rfl rfl (.cons (.inl rfl) (.nil))
  ·exact info_of (u := .l_int1) info_l_int1 (by decide) rfl rfl (.cons (.inr ⟨rfl, _, rfl⟩) (.nil))
  ·exact info_of (u := .Item) info_Item (by decide) rfl rfl (.cons (.inl rfl) (.cons (.inl rfl) (.cons (.inl rfl) (.cons (.inl rfl) (.cons (.inl rfl) (.cons (.inl rfl) (.cons (.inl rfl) (.nil))))))))
  ·exact info_of (u := .l_Item) info_l_Item (by decide) rfl rfl (.cons (.inr ⟨rfl, _, rfl⟩) (.nil))
  ·exact info_of (u := .Brick) info_Brick (by decide) rfl rfl (.cons (.inl rfl) (.cons (.inl rfl) (.cons (.inl rfl) (.nil))))
  ·exact info_of (u := .l_Brick) info_l_Brick (by decide) rfl rfl (.cons (.inr ⟨rfl, _, rfl⟩) (.nil))
  ·exact info_of (u := .Set) info_Set (by decide) rfl rfl (.cons (.inl rfl) (.cons (.inl rfl) (.cons (.inl rfl) (.cons (.inl rfl) (.cons (.inl rfl) (.cons (.inr ⟨rfl, _, rfl⟩) (.cons (.inl rfl) (.cons (.inl rfl) (.cons (.inl rfl) (.cons (.inl rfl) (.cons (.inl rfl) (.cons (.inr ⟨rfl, _, rfl⟩) (.cons (.inr ⟨rfl, _, rfl⟩) (.nil))))))))))))))
  ·exact info_of (u := .Errno) info_Errno (by decide) rfl rfl (.cons (.inl rfl) (.nil))
  ·exact info_of (u := .Frac) info_Frac (by decide) rfl rfl (.cons (.inl rfl) (.cons (.inl rfl) (.nil)))
  ·exact info_of (u := .l_Frac) info_l_Frac (by decide) rfl rfl (.cons (.inr ⟨rfl, _, rfl⟩) (.nil))
  ·exact info_of (u := .u32) info_u32 (by decide) rfl rfl (.cons (.inl rfl) (.nil))
  ·exact info_of (u := .l_bool) info_l_bool (by decide) rfl rfl (.cons (.inr ⟨rfl, _, rfl⟩) (.nil))
  ·exact info_of (u := .Load) info_Load (by decide) rfl rfl (.cons (.inl rfl) (.cons (.inl rfl) (.nil)))
  ·exact info_of (u := .l_Load) info_l_Load (by decide) rfl rfl (.cons (.inr ⟨rfl, _, rfl⟩) (.nil))
  ·exact info_of (u := .Beam) info_Beam (by decide) rfl rfl (.cons (.inl rfl) (.cons (.inl rfl) (.cons (.inr ⟨rfl, _, rfl⟩) (.cons (.inr ⟨rfl, _, rfl⟩) (.cons (.inl rfl) (.nil))))))
  ·exact info_of (u := .u64) info_u64 (by decide) rfl rfl (.cons (.inl rfl) (.nil))
  ·exact info_of (u := .U) info_U (by decide) rfl rfl (.cons (.inl rfl) (.cons (.inl rfl) (.nil)))
  ·exact info_of (u := .wide) info_wide (by decide) rfl rfl (.cons (.inl rfl) (.cons (.inl rfl) (.nil)))
  ·exact info_of (u := .Big) info_Big (by decide) rfl rfl (.cons (.inl rfl) (.cons (.inr ⟨rfl, _, rfl⟩) (.nil)))
  ·exact info_of (u := .Exact) info_Exact (by decide) rfl rfl (.cons (.inl rfl) (.cons (.inr ⟨rfl, _, rfl⟩) (.cons (.inl rfl) (.cons (.inr ⟨rfl, _, rfl⟩) (.nil)))))
  ·exact info_of (u := .l_Exact) info_l_Exact (by decide) rfl rfl (.cons (.inr ⟨rfl, _, rfl⟩) (.nil))
  ·exact info_of (u := .l_u32) info_l_u32 (by decide) rfl rfl (.cons (.inr ⟨rfl, _, rfl⟩) (.nil))
  ·exact info_of (u := .number) info_number (by decide) rfl rfl (.cons (.inl rfl) (.cons (.inr ⟨rfl, _, rfl⟩) (.nil)))
  ·exact info_of (u := .exact) info_exact (by decide) rfl rfl (.cons (.inl rfl) (.cons (.inr ⟨rfl, _, rfl⟩) (.cons (.inl rfl) (.cons (.inr ⟨rfl, _, rfl⟩) (.nil)))))
  ·exact info_of (u := .l_exact) info_l_exact (by decide) rfl rfl (.cons (.inr ⟨rfl, _, rfl⟩) (.nil))
  ·exact info_of (u := .u641) info_u641 (by decide) rfl rfl (.cons (.inl rfl) (.nil))
  ·exact info_of (u := .ar199) info_ar199 (by decide) rfl rfl (.cons (.inl rfl) (.cons (.inl rfl) (.nil)))
  ·exact info_of (u := .ar200) info_ar200 (by decide) rfl rfl (.cons (.inl rfl) (.cons (.inr ⟨rfl, _, rfl⟩) (.cons (.inl rfl) (.cons (.inr ⟨rfl, _, rfl⟩) (.nil)))))
  ·exact info_of (u := .l_l_int1) info_l_l_int1 (by decide) rfl rfl (.cons (.inr ⟨rfl, _, rfl⟩) (.nil))
 elt := by
  intro t u h
  unfold G eltU at h
  simp only at h
  split at h
  ·cases h; kernel_rfl
  ·cases h; kernel_rfl
  ·cases h; kernel_rfl
  ·cases h; kernel_rfl
  ·cases h; kernel_rfl
  ·cases h; kernel_rfl
  ·cases h; kernel_rfl
  ·cases h; kernel_rfl
  ·cases h; kernel_rfl
  ·cases h; kernel_rfl
  ·cases h
 ag := by
  intro u
  cases u
  ·exact ⟨(Tryz.prog.underlying 2).get (by kernel_rfl), (Option.some_get _).symm, by kernel_rfl⟩
  ·exact ⟨(Tryz.prog.underlying 3).get (by kernel_rfl), (Option.some_get _).symm, by kernel_rfl⟩
  ·exact ⟨(Tryz.prog.underlying 4).get (by kernel_rfl), (Option.some_get _).symm, by kernel_rfl⟩
  ·exact ⟨(Tryz.prog.underlying 5).get (by kernel_rfl), (Option.some_get _).symm, by kernel_rfl⟩
  ·exact ⟨(Tryz.prog.underlying 9).get (by kernel_rfl), (Option.some_get _).symm, by kernel_rfl⟩
  ·exact ⟨(Tryz.prog.underlying 22).get (by kernel_rfl), (Option.some_get _).symm, by kernel_rfl⟩
  ·exact ⟨(Tryz.prog.underlying 34).get (by kernel_rfl), (Option.some_get _).symm, by kernel_rfl⟩
  ·exact ⟨(Tryz.prog.underlying 23).get (by kernel_rfl), (Option.some_get _).symm, by kernel_rfl⟩
  ·exact ⟨(Tryz.prog.underlying 100).get (by kernel_rfl), (Option.some_get _).symm, by kernel_rfl⟩
  ·exact ⟨(Tryz.prog.underlying 24).get (by kernel_rfl), (Option.some_get _).symm, by kernel_rfl⟩
  ·exact ⟨(Tryz.prog.underlying 26).get (by kernel_rfl), (Option.some_get _).symm, by kernel_rfl⟩
  ·exact ⟨(Tryz.prog.underlying 29).get (by kernel_rfl), (Option.some_get _).symm, by kernel_rfl⟩
  ·exact ⟨(Tryz.prog.underlying 43).get (by kernel_rfl), (Option.some_get _).symm, by kernel_rfl⟩
  ·exact ⟨(Tryz.prog.underlying 38).get (by kernel_rfl), (Option.some_get _).symm, by kernel_rfl⟩
  ·exact ⟨(Tryz.prog.underlying 60).get (by kernel_rfl), (Option.some_get _).symm, by kernel_rfl⟩
  ·exact ⟨(Tryz.prog.underlying 75).get (by kernel_rfl), (Option.some_get _).symm, by kernel_rfl⟩
  ·exact ⟨(Tryz.prog.underlying 146).get (by kernel_rfl), (Option.some_get _).symm, by kernel_rfl⟩
  ·exact ⟨(Tryz.prog.underlying 102).get (by kernel_rfl), (Option.some_get _).symm, by kernel_rfl⟩
  ·exact ⟨(Tryz.prog.underlying 104).get (by kernel_rfl), (Option.some_get _).symm, by kernel_rfl⟩
  ·exact ⟨(Tryz.prog.underlying 106).get (by kernel_rfl), (Option.some_get _).symm, by kernel_rfl⟩
  ·exact ⟨(Tryz.prog.underlying 108).get (by kernel_rfl), (Option.some_get _).symm, by kernel_rfl⟩
  ·exact ⟨(Tryz.prog.underlying 114).get (by kernel_rfl), (Option.some_get _).symm, by kernel_rfl⟩
  ·exact ⟨(Tryz.prog.underlying 162).get (by kernel_rfl), (Option.some_get _).symm, by kernel_rfl⟩
  ·exact ⟨(Tryz.prog.underlying 164).get (by kernel_rfl), (Option.some_get _).symm, by kernel_rfl⟩
  ·exact ⟨(Tryz.prog.underlying 132).get (by kernel_rfl), (Option.some_get _).symm, by kernel_rfl⟩
  ·exact ⟨(Tryz.prog.underlying 172).get (by kernel_rfl), (Option.some_get _).symm, by kernel_rfl⟩
  ·exact ⟨(Tryz.prog.underlying 174).get (by kernel_rfl), (Option.some_get _).symm, by kernel_rfl⟩
  ·exact ⟨(Tryz.prog.underlying 176).get (by kernel_rfl), (Option.some_get _).symm, by kernel_rfl⟩
  ·exact ⟨(Tryz.prog.underlying 139).get (by kernel_rfl), (Option.some_get _).symm, by kernel_rfl⟩
  ·exact ⟨(Tryz.prog.underlying 147).get (by kernel_rfl), (Option.some_get _).symm, by kernel_rfl⟩
  ·exact ⟨(Tryz.prog.underlying 199).get (by kernel_rfl), (Option.some_get _).symm, by kernel_rfl⟩
  ·exact ⟨(Tryz.prog.underlying 200).get (by kernel_rfl), (Option.some_get _).symm, by kernel_rfl⟩
  ·exact ⟨(Tryz.prog.underlying 211).get (by kernel_rfl), (Option.some_get _).symm, by kernel_rfl⟩
 one := by intro u h; cases u <;> first | rfl | (exfalso; revert h; decide)
 seq := by
  intro f b u h
  simp only [G] at h
  split at h
  ·rename_i e; subst e; cases h; exact seq_216
  cases h
 flat := by
  intro u h x p hp
  cases u
  ·exact flat_of rfl p hp
  ·exact flat_of rfl p hp
  ·exact flat_of rfl p hp
  ·exact flat_of rfl p hp
  ·exact flat_of rfl p hp
  ·cases h
  ·exact flat_of rfl p hp
  ·cases h
  ·exact flat_of rfl p hp
  ·cases h
  ·cases h
  ·exact flat_of rfl p hp
  ·exact flat_of rfl p hp
  ·cases h
  ·exact flat_of rfl p hp
  ·cases h
  ·exact flat_of rfl p hp
  ·cases h
  ·cases h
  ·exact flat_of rfl p hp
  ·exact flat_of rfl p hp
  ·exact flat_of rfl p hp
  ·cases h
  ·cases h
  ·cases h
  ·cases h
  ·cases h
  ·cases h
  ·cases h
  ·exact flat_of rfl p hp
  ·exact flat_of rfl p hp
  ·cases h
  ·cases h
 rowf := by
  intro f k u h
  simp only [G] at h
  split at h
  ·rename_i e; subst e; cases h; exact rowok_117
  split at h
  ·rename_i e; subst e; cases h; exact rowok_123
  cases h
 ext := by
  intro f e h
  unfold G extF at h
  simp only at h
  split at h
  ·cases h; exact ⟨_, Tryz.func133, by kernel_rfl, by kernel_rfl, by kernel_rfl, by kernel_rfl⟩
  ·cases h; exact ⟨_, Tryz.func134, by kernel_rfl, by kernel_rfl, by kernel_rfl, by kernel_rfl⟩
  ·cases h
theorem fk {K : G.KT} (hK : CallOk G K) {f : FuncId} {fn : Func} (hf : Tryz.prog.funcs[f]? = some fn) {an : An G.U} {k : Nat} {res : List ResultVar} {fe : Fe G} (hev : ∀ x : TyP G fe.ps, evF G K (bodyOf fn) an k res fe.rs (argT G fe.ps x) = fe.fn x) (hn : (fn.name == "runtime.NumGoroutine") = false := by kernel_rfl) (hb : fn.body.isSome = true := by kernel_rfl) (hk : (fn.ntmps == k) = true := by kernel_rfl) (hfz : G.fz f = false := by kernel_rfl) (hres : fn.results = res.toArray := by kernel_rfl) : FnOk G f fe := fnOk_of G_ok hK hf hn hb hk hfz hres hev
def W_int1 (x : Int) : Prop := (Lit.int .i64 x).wf = true
def W_str (x : ByteArray) : Prop := x.size ≤ maxLen
def W_l_int1 (x : List Int) : Prop := x.length ≤ maxLen ∧ ∀ a ∈ x, W_int1 a
def W_Item (x : TItem) : Prop := W_str x.name ∧ W_int1 x.at_ ∧ W_int1 x.width ∧ W_int1 x.weight ∧ W_int1 x.hang ∧ W_int1 x.front ∧ W_int1 x.back
def W_l_Item (x : List TItem) : Prop := x.length ≤ maxLen ∧ ∀ a ∈ x, W_Item a
def W_Brick (x : TBrick) : Prop := W_str x.name ∧ W_int1 x.weight ∧ W_int1 x.count
def W_l_Brick (x : List TBrick) : Prop := x.length ≤ maxLen ∧ ∀ a ∈ x, W_Brick a
def W_Set (x : TSet) : Prop := W_str x.name ∧ W_int1 x.depth ∧ W_int1 x.low ∧ W_int1 x.high ∧ W_int1 x.length ∧ W_l_int1 x.lines ∧ W_int1 x.pipe ∧ W_int1 x.arbor ∧ W_int1 x.purchase ∧ W_int1 x.most ∧ W_int1 x.brake ∧ W_l_Item x.items ∧ W_l_Brick x.bricks
theorem op_int1 : Opens G .int1 W_int1 := opens_int (G := G) (u := .int1) (by kernel_rfl) (fun z => z) (fun _ => rfl) (fun _ h => h)
theorem op_str : Opens G .str W_str := opens_str (G := G) (u := .str) (by kernel_rfl) (fun z => z) (fun _ => rfl) (fun _ h => h)
theorem op_l_int1 : Opens G .l_int1 W_l_int1 := opens_slice (G := G) G_ok (u := .l_int1) (e := .int1) (te := 3) (by kernel_rfl) rfl (by kernel_rfl) (fun z => z) (fun _ => rfl) op_int1 (fun _ h1 h2 => ⟨h1, h2⟩)
theorem op_Item : Opens G .Item W_Item := by
 intro H enc w base spare held fuel cs x h
 have hu : Tryz.prog.underlying (G.ty .Item) = some (.struct (fieldsOf Tryz.prog (G.ty .Item))) := by kernel_rfl
 obtain ⟨xs, n, _, _, hl, hlen, hf⟩ := DataW.trod_struct hu h
 obtain ⟨a0, r0, w0⟩ := field_at (G := G) hlen hf (i := 0) (f := fldOf Tryz.prog (G.ty .Item) 0) (by kernel_rfl) (u := .str) (off := 0) (by kernel_rfl) (by kernel_rfl) (by kernel_rfl) op_str
 obtain ⟨a1, r1, w1⟩ := field_at (G := G) hlen hf (i := 1) (f := fldOf Tryz.prog (G.ty .Item) 1) (by kernel_rfl) (u := .int1) (off := 1) (by kernel_rfl) (by kernel_rfl) (by kernel_rfl) op_int1
 obtain ⟨a2, r2, w2⟩ := field_at (G := G) hlen hf (i := 2) (f := fldOf Tryz.prog (G.ty .Item) 2) (by kernel_rfl) (u := .int1) (off := 2) (by kernel_rfl) (by kernel_rfl) (by kernel_rfl) op_int1
 obtain ⟨a3, r3, w3⟩ := field_at (G := G) hlen hf (i := 3) (f := fldOf Tryz.prog (G.ty .Item) 3) (by kernel_rfl) (u := .int1) (off := 3) (by kernel_rfl) (by kernel_rfl) (by kernel_rfl) op_int1
 obtain ⟨a4, r4, w4⟩ := field_at (G := G) hlen hf (i := 4) (f := fldOf Tryz.prog (G.ty .Item) 4) (by kernel_rfl) (u := .int1) (off := 4) (by kernel_rfl) (by kernel_rfl) (by kernel_rfl) op_int1
 obtain ⟨a5, r5, w5⟩ := field_at (G := G) hlen hf (i := 5) (f := fldOf Tryz.prog (G.ty .Item) 5) (by kernel_rfl) (u := .int1) (off := 5) (by kernel_rfl) (by kernel_rfl) (by kernel_rfl) op_int1
 obtain ⟨a6, r6, w6⟩ := field_at (G := G) hlen hf (i := 6) (f := fldOf Tryz.prog (G.ty .Item) 6) (by kernel_rfl) (u := .int1) (off := 6) (by kernel_rfl) (by kernel_rfl) (by kernel_rfl) op_int1
 have hsz : cs.length = 7 := hl.trans (by kernel_rfl)
 have h7 : PRep G w (cs.drop 7) [] := by rw [List.drop_of_length_le (by omega)]; exact .nil
 have h6 := r6.part rfl h7
 have h5 := r5.part rfl h6
 have h4 := r4.part rfl h5
 have h3 := r3.part rfl h4
 have h2 := r2.part rfl h3
 have h1 := r1.part rfl h2
 have h0 := r0.part rfl h1
 exact ⟨⟨a0, a1, a2, a3, a4, a5, a6⟩, by rw [List.drop_zero] at h0; exact h0, ⟨w0, w1, w2, w3, w4, w5, w6⟩⟩
theorem op_l_Item : Opens G .l_Item W_l_Item := opens_slice (G := G) G_ok (u := .l_Item) (e := .Item) (te := 34) (by kernel_rfl) rfl (by kernel_rfl) (fun z => z) (fun _ => rfl) op_Item (fun _ h1 h2 => ⟨h1, h2⟩)
theorem op_Brick : Opens G .Brick W_Brick := by
 intro H enc w base spare held fuel cs x h
 have hu : Tryz.prog.underlying (G.ty .Brick) = some (.struct (fieldsOf Tryz.prog (G.ty .Brick))) := by kernel_rfl
 obtain ⟨xs, n, _, _, hl, hlen, hf⟩ := DataW.trod_struct hu h
 obtain ⟨a0, r0, w0⟩ := field_at (G := G) hlen hf (i := 0) (f := fldOf Tryz.prog (G.ty .Brick) 0) (by kernel_rfl) (u := .str) (off := 0) (by kernel_rfl) (by kernel_rfl) (by kernel_rfl) op_str
 obtain ⟨a1, r1, w1⟩ := field_at (G := G) hlen hf (i := 1) (f := fldOf Tryz.prog (G.ty .Brick) 1) (by kernel_rfl) (u := .int1) (off := 1) (by kernel_rfl) (by kernel_rfl) (by kernel_rfl) op_int1
 obtain ⟨a2, r2, w2⟩ := field_at (G := G) hlen hf (i := 2) (f := fldOf Tryz.prog (G.ty .Brick) 2) (by kernel_rfl) (u := .int1) (off := 2) (by kernel_rfl) (by kernel_rfl) (by kernel_rfl) op_int1
 have hsz : cs.length = 3 := hl.trans (by kernel_rfl)
 have h3 : PRep G w (cs.drop 3) [] := by rw [List.drop_of_length_le (by omega)]; exact .nil
 have h2 := r2.part rfl h3
 have h1 := r1.part rfl h2
 have h0 := r0.part rfl h1
 exact ⟨⟨a0, a1, a2⟩, by rw [List.drop_zero] at h0; exact h0, ⟨w0, w1, w2⟩⟩
theorem op_l_Brick : Opens G .l_Brick W_l_Brick := opens_slice (G := G) G_ok (u := .l_Brick) (e := .Brick) (te := 100) (by kernel_rfl) rfl (by kernel_rfl) (fun z => z) (fun _ => rfl) op_Brick (fun _ h1 h2 => ⟨h1, h2⟩)
theorem op_Set : Opens G .Set W_Set := by
 intro H enc w base spare held fuel cs x h
 have hu : Tryz.prog.underlying (G.ty .Set) = some (.struct (fieldsOf Tryz.prog (G.ty .Set))) := by kernel_rfl
 obtain ⟨xs, n, _, _, hl, hlen, hf⟩ := DataW.trod_struct hu h
 obtain ⟨a0, r0, w0⟩ := field_at (G := G) hlen hf (i := 0) (f := fldOf Tryz.prog (G.ty .Set) 0) (by kernel_rfl) (u := .str) (off := 0) (by kernel_rfl) (by kernel_rfl) (by kernel_rfl) op_str
 obtain ⟨a1, r1, w1⟩ := field_at (G := G) hlen hf (i := 1) (f := fldOf Tryz.prog (G.ty .Set) 1) (by kernel_rfl) (u := .int1) (off := 1) (by kernel_rfl) (by kernel_rfl) (by kernel_rfl) op_int1
 obtain ⟨a2, r2, w2⟩ := field_at (G := G) hlen hf (i := 2) (f := fldOf Tryz.prog (G.ty .Set) 2) (by kernel_rfl) (u := .int1) (off := 2) (by kernel_rfl) (by kernel_rfl) (by kernel_rfl) op_int1
 obtain ⟨a3, r3, w3⟩ := field_at (G := G) hlen hf (i := 3) (f := fldOf Tryz.prog (G.ty .Set) 3) (by kernel_rfl) (u := .int1) (off := 3) (by kernel_rfl) (by kernel_rfl) (by kernel_rfl) op_int1
 obtain ⟨a4, r4, w4⟩ := field_at (G := G) hlen hf (i := 4) (f := fldOf Tryz.prog (G.ty .Set) 4) (by kernel_rfl) (u := .int1) (off := 4) (by kernel_rfl) (by kernel_rfl) (by kernel_rfl) op_int1
 obtain ⟨a5, r5, w5⟩ := field_at (G := G) hlen hf (i := 5) (f := fldOf Tryz.prog (G.ty .Set) 5) (by kernel_rfl) (u := .l_int1) (off := 5) (by kernel_rfl) (by kernel_rfl) (by kernel_rfl) op_l_int1
 obtain ⟨a6, r6, w6⟩ := field_at (G := G) hlen hf (i := 6) (f := fldOf Tryz.prog (G.ty .Set) 6) (by kernel_rfl) (u := .int1) (off := 6) (by kernel_rfl) (by kernel_rfl) (by kernel_rfl) op_int1
 obtain ⟨a7, r7, w7⟩ := field_at (G := G) hlen hf (i := 7) (f := fldOf Tryz.prog (G.ty .Set) 7) (by kernel_rfl) (u := .int1) (off := 7) (by kernel_rfl) (by kernel_rfl) (by kernel_rfl) op_int1
 obtain ⟨a8, r8, w8⟩ := field_at (G := G) hlen hf (i := 8) (f := fldOf Tryz.prog (G.ty .Set) 8) (by kernel_rfl) (u := .int1) (off := 8) (by kernel_rfl) (by kernel_rfl) (by kernel_rfl) op_int1
 obtain ⟨a9, r9, w9⟩ := field_at (G := G) hlen hf (i := 9) (f := fldOf Tryz.prog (G.ty .Set) 9) (by kernel_rfl) (u := .int1) (off := 9) (by kernel_rfl) (by kernel_rfl) (by kernel_rfl) op_int1
 obtain ⟨a10, r10, w10⟩ := field_at (G := G) hlen hf (i := 10) (f := fldOf Tryz.prog (G.ty .Set) 10) (by kernel_rfl) (u := .int1) (off := 10) (by kernel_rfl) (by kernel_rfl) (by kernel_rfl) op_int1
 obtain ⟨a11, r11, w11⟩ := field_at (G := G) hlen hf (i := 11) (f := fldOf Tryz.prog (G.ty .Set) 11) (by kernel_rfl) (u := .l_Item) (off := 11) (by kernel_rfl) (by kernel_rfl) (by kernel_rfl) op_l_Item
 obtain ⟨a12, r12, w12⟩ := field_at (G := G) hlen hf (i := 12) (f := fldOf Tryz.prog (G.ty .Set) 12) (by kernel_rfl) (u := .l_Brick) (off := 12) (by kernel_rfl) (by kernel_rfl) (by kernel_rfl) op_l_Brick
 have hsz : cs.length = 13 := hl.trans (by kernel_rfl)
 have h13 : PRep G w (cs.drop 13) [] := by rw [List.drop_of_length_le (by omega)]; exact .nil
 have h12 := r12.part rfl h13
 have h11 := r11.part rfl h12
 have h10 := r10.part rfl h11
 have h9 := r9.part rfl h10
 have h8 := r8.part rfl h9
 have h7 := r7.part rfl h8
 have h6 := r6.part rfl h7
 have h5 := r5.part rfl h6
 have h4 := r4.part rfl h5
 have h3 := r3.part rfl h4
 have h2 := r2.part rfl h3
 have h1 := r1.part rfl h2
 have h0 := r0.part rfl h1
 exact ⟨⟨a0, a1, a2, a3, a4, a5, a6, a7, a8, a9, a10, a11, a12⟩, by rw [List.drop_zero] at h0; exact h0, ⟨w0, w1, w2, w3, w4, w5, w6, w7, w8, w9, w10, w11, w12⟩⟩
end Go.Proofs.YtcaopooflemnlaaGreat
