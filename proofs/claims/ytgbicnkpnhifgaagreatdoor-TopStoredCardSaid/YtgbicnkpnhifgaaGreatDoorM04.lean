/- Joined by merge.py: Sg. -/
import Derived.Test.YtgbicnkpnhifgaaGreatDoorM03
import Derived.RangeFuncBox
import Derived.RangeFuncLeaves
import Derived.Shelf.Abstract
import Derived.WalkKit
import Derived.OwnWalkIn
import Derived.TacticsInMore
import Derived.LoopNIn
import Derived.LoopIn
import Derived.KernelRfl
import Derived.Lib.LaidTab
import Derived.Lib.ItoaNum
import Derived.Test.YtgbicnkpnhifgaaGreatDoorChecked
set_option linter.unusedSectionVars false
set_option linter.unusedVariables false
set_option linter.unusedSimpArgs false
namespace Go.Proofs.YtgbicnkpnhifgaaGreatDoor
open Go.RowKit
structure TerrorAddressString where
 msg:ByteArray
 addr:Int
structure TItem where
 name:ByteArray
 at_:Int
 width:Int
 weight:Int
 hang:Int
 front:Int
 back:Int
structure TBrick where
 name:ByteArray
 weight:Int
 count:Int
structure TSet where
 name:ByteArray
 depth:Int
 low:Int
 high:Int
 length:Int
 lines:List Int
 pipe:Int
 arbor:Int
 purchase:Int
 most:Int
 brake:Int
 items:List TItem
 bricks:List TBrick
structure TFinding where
 kind:Int
 name:ByteArray
structure TFrac where
 num:Int
 den:Int
structure TBlock where
 name:ByteArray
 weight:Int
structure THold where
 block:ByteArray
 pulls:Int
 loss:TFrac
structure TRope where
 name:ByteArray
 holds:List THold
 hauled:Bool
structure TSystem where
 blocks:List TBlock
 ropes:List TRope
structure Tchecker where
 factor:TFrac
 err:Int
structure TU where
 h:Int
 l:Int
structure Tresult where
 loads:List TFrac
 e:Int
structure TStore where
 sets:List TSet
 past:List (List TSet)
 known:Bool × List (ByteArray × Tresult)
 work:Int
structure TLoad where
 at_:Int
 weight:Int
structure TBeam where
 name:ByteArray
 length:Int
 supports:List Int
 loads:List TLoad
 even:Int
structure Twide where
 hi:Int
 lo:Int
structure Tsearch where
 l:List TBrick
 rest:List Int
structure Tnumber where
 neg:Bool
 words:List Int
structure Texact where
 n:Tnumber
 d:Tnumber
structure Tform where
 rows:List (List Int)
 den:Int
 pivots:List Int
 from_:List Int
 turned:Bool
structure TAr302 where
 e0:Int
 e1:Int
structure TAr303 where
 e0:Tnumber
 e1:Tnumber
inductive U where
 | int
 | int1
 | bool
 | u8
 | BoundsErrorCode
 | str
 | u64
 | errorAddressString
 | l_int1
 | Item
 | l_Item
 | Brick
 | l_Brick
 | Set
 | Finding
 | l_Finding
 | Errno
 | Frac
 | l_Frac
 | l_Set
 | l_str
 | Block
 | l_Block
 | Hold
 | l_Hold
 | Rope
 | l_Rope
 | System
 | checker
 | u641
 | U
 | l_l_Set
 | result
 | m_result
 | Store
 | l_l_Finding
 | Load
 | l_Load
 | Beam
 | wide
 | u642
 | any
 | l_any
 | l_u8
 | search
 | l_l_int1
 | Matrix
 | u32
 | l_u32
 | number
 | exact
 | l_exact
 | form
 | l_l_Frac
 | ar302
 | ar303
 | m_Set
 deriving DecidableEq
@[reducible] def El:U → Type
 | .int=>Int
 | .int1=>Int
 | .bool=>Bool
 | .u8=>Int
 | .BoundsErrorCode=>Int
 | .str=>ByteArray
 | .u64=>Int
 | .errorAddressString=>TerrorAddressString
 | .l_int1=>List Int
 | .Item=>TItem
 | .l_Item=>List TItem
 | .Brick=>TBrick
 | .l_Brick=>List TBrick
 | .Set=>TSet
 | .Finding=>TFinding
 | .l_Finding=>List TFinding
 | .Errno=>Int
 | .Frac=>TFrac
 | .l_Frac=>List TFrac
 | .l_Set=>List TSet
 | .l_str=>List ByteArray
 | .Block=>TBlock
 | .l_Block=>List TBlock
 | .Hold=>THold
 | .l_Hold=>List THold
 | .Rope=>TRope
 | .l_Rope=>List TRope
 | .System=>TSystem
 | .checker=>Tchecker
 | .u641=>Int
 | .U=>TU
 | .l_l_Set=>List (List TSet)
 | .result=>Tresult
 | .m_result=>Bool × List (ByteArray × Tresult)
 | .Store=>TStore
 | .l_l_Finding=>List (List TFinding)
 | .Load=>TLoad
 | .l_Load=>List TLoad
 | .Beam=>TBeam
 | .wide=>Twide
 | .u642=>Int
 | .any=>Value
 | .l_any=>List Value
 | .l_u8=>List Int
 | .search=>Tsearch
 | .l_l_int1=>List (List Int)
 | .Matrix=>List (List Int)
 | .u32=>Int
 | .l_u32=>List Int
 | .number=>Tnumber
 | .exact=>Texact
 | .l_exact=>List Texact
 | .form=>Tform
 | .l_l_Frac=>List (List TFrac)
 | .ar302=>TAr302
 | .ar303=>TAr303
 | .m_Set=>Bool × List (ByteArray × TSet)
abbrev PP:=PV U El
def gInt (k:IntKind):PP → Option Int
 | .val (.int k' n)=>if k' = k then some n else none
 | _=>none
def gBool:PP → Option Bool
 | .val (.bool b)=>some b
 | _=>none
def gStr:PP → Option ByteArray
 | .val (.string b)=>some b
 | _=>none
def gNil:PP → Option Unit
 | .val (.pointer none)=>some ()
 | _=>none
def gAny:PP → Option Value
 | .val v=>some v
 | _=>none
def gMp (t:TypeId) (u:U):PP → Option (Bool × List (ByteArray × El u))
 | .mp t' v b l=>if t' = t then @dite _ (v = u) (decEq v u) (fun h=>some (b,h ▸ l)) (fun _=>none) else none
 | .val (.map none)=>some (false,[])
 | _=>none
def gSl (u:U):PP → Option (List (El u))
 | .sl v l=>@dite _ (v = u) (decEq v u) (fun h=>some (h ▸ l)) (fun _=>none)
 | .val (.slice none 0 0)=>some []
 | _=>none
def rowU:(u:U) → El u → List PP
 | .int,x=>[.val (.int .i64 x)]
 | .int1,x=>[.val (.int .i64 x)]
 | .bool,x=>[.val (.bool x)]
 | .u8,x=>[.val (.int .u8 x)]
 | .BoundsErrorCode,x=>[.val (.int .u8 x)]
 | .str,x=>[.val (.string x)]
 | .u64,x=>[.val (.int .u64 x)]
 | .errorAddressString,x=>[.val (.string x.msg),.val (.int .u64 x.addr)]
 | .l_int1,x=>[.sl .int1 x]
 | .Item,x=>[.val (.string x.name),.val (.int .i64 x.at_),.val (.int .i64 x.width),.val (.int .i64 x.weight),.val (.int .i64 x.hang),.val (.int .i64 x.front),.val (.int .i64 x.back)]
 | .l_Item,x=>[.sl .Item x]
 | .Brick,x=>[.val (.string x.name),.val (.int .i64 x.weight),.val (.int .i64 x.count)]
 | .l_Brick,x=>[.sl .Brick x]
 | .Set,x=>[.val (.string x.name),.val (.int .i64 x.depth),.val (.int .i64 x.low),.val (.int .i64 x.high),.val (.int .i64 x.length),.sl .int1 x.lines,.val (.int .i64 x.pipe),.val (.int .i64 x.arbor),.val (.int .i64 x.purchase),.val (.int .i64 x.most),.val (.int .i64 x.brake),.sl .Item x.items,.sl .Brick x.bricks]
 | .Finding,x=>[.val (.int .i64 x.kind),.val (.string x.name)]
 | .l_Finding,x=>[.sl .Finding x]
 | .Errno,x=>[.val (.int .i64 x)]
 | .Frac,x=>[.val (.int .i64 x.num),.val (.int .i64 x.den)]
 | .l_Frac,x=>[.sl .Frac x]
 | .l_Set,x=>[.sl .Set x]
 | .l_str,x=>[.sl .str x]
 | .Block,x=>[.val (.string x.name),.val (.int .i64 x.weight)]
 | .l_Block,x=>[.sl .Block x]
 | .Hold,x=>[.val (.string x.block),.val (.int .i64 x.pulls),.val (.int .i64 x.loss.num),.val (.int .i64 x.loss.den)]
 | .l_Hold,x=>[.sl .Hold x]
 | .Rope,x=>[.val (.string x.name),.sl .Hold x.holds,.val (.bool x.hauled)]
 | .l_Rope,x=>[.sl .Rope x]
 | .System,x=>[.sl .Block x.blocks,.sl .Rope x.ropes]
 | .checker,x=>[.val (.int .i64 x.factor.num),.val (.int .i64 x.factor.den),.val (.int .i64 x.err)]
 | .u641,x=>[.val (.int .u64 x)]
 | .U,x=>[.val (.int .u64 x.h),.val (.int .u64 x.l)]
 | .l_l_Set,x=>[.sl .l_Set x]
 | .result,x=>[.sl .Frac x.loads,.val (.int .i64 x.e)]
 | .m_result,x=>[.mp 127 .result x.1 x.2]
 | .Store,x=>[.sl .Set x.sets,.sl .l_Set x.past,.mp 127 .result x.known.1 x.known.2,.val (.int .i64 x.work)]
 | .l_l_Finding,x=>[.sl .l_Finding x]
 | .Load,x=>[.val (.int .i64 x.at_),.val (.int .i64 x.weight)]
 | .l_Load,x=>[.sl .Load x]
 | .Beam,x=>[.val (.string x.name),.val (.int .i64 x.length),.sl .int1 x.supports,.sl .Load x.loads,.val (.int .i64 x.even)]
 | .wide,x=>[.val (.int .u64 x.hi),.val (.int .u64 x.lo)]
 | .u642,x=>[.val (.int .u64 x)]
 | .any,x=>[.val x]
 | .l_any,x=>[.sl .any x]
 | .l_u8,x=>[.sl .u8 x]
 | .search,x=>[.sl .Brick x.l,.sl .int1 x.rest]
 | .l_l_int1,x=>[.sl .l_int1 x]
 | .Matrix,x=>[.sl .l_int1 x]
 | .u32,x=>[.val (.int .u32 x)]
 | .l_u32,x=>[.sl .u32 x]
 | .number,x=>[.val (.bool x.neg),.sl .u32 x.words]
 | .exact,x=>[.val (.bool x.n.neg),.sl .u32 x.n.words,.val (.bool x.d.neg),.sl .u32 x.d.words]
 | .l_exact,x=>[.sl .exact x]
 | .form,x=>[.sl .l_int1 x.rows,.val (.int .i64 x.den),.sl .int1 x.pivots,.sl .int1 x.from_,.val (.bool x.turned)]
 | .l_l_Frac,x=>[.sl .l_Frac x]
 | .ar302,x=>[.val (.int .u64 x.e0),.val (.int .u64 x.e1)]
 | .ar303,x=>[.val (.bool x.e0.neg),.sl .u32 x.e0.words,.val (.bool x.e1.neg),.sl .u32 x.e1.words]
 | .m_Set,x=>[.mp 54 .Set x.1 x.2]
def unrowU:(u:U) → List PP → Option (El u)
 | .int,ps=>match ps with
  | [p0]=>(gInt .i64 p0).bind fun x0=>some x0
  | _=>none
 | .int1,ps=>match ps with
  | [p0]=>(gInt .i64 p0).bind fun x0=>some x0
  | _=>none
 | .bool,ps=>match ps with
  | [p0]=>(gBool p0).bind fun x0=>some x0
  | _=>none
 | .u8,ps=>match ps with
  | [p0]=>(gInt .u8 p0).bind fun x0=>some x0
  | _=>none
 | .BoundsErrorCode,ps=>match ps with
  | [p0]=>(gInt .u8 p0).bind fun x0=>some x0
  | _=>none
 | .str,ps=>match ps with
  | [p0]=>(gStr p0).bind fun x0=>some x0
  | _=>none
 | .u64,ps=>match ps with
  | [p0]=>(gInt .u64 p0).bind fun x0=>some x0
  | _=>none
 | .errorAddressString,ps=>match ps with
  | [p0,p1]=>(gStr p0).bind fun x0=>(gInt .u64 p1).bind fun x1=>some ⟨x0,x1⟩
  | _=>none
 | .l_int1,ps=>match ps with
  | [p0]=>(gSl .int1 p0).bind fun x0=>some x0
  | _=>none
 | .Item,ps=>match ps with
  | [p0,p1,p2,p3,p4,p5,p6]=>(gStr p0).bind fun x0=>(gInt .i64 p1).bind fun x1=>(gInt .i64 p2).bind fun x2=>(gInt .i64 p3).bind fun x3=>(gInt .i64 p4).bind fun x4=>(gInt .i64 p5).bind fun x5=>(gInt .i64 p6).bind fun x6=>some ⟨x0,x1,x2,x3,x4,x5,x6⟩
  | _=>none
 | .l_Item,ps=>match ps with
  | [p0]=>(gSl .Item p0).bind fun x0=>some x0
  | _=>none
 | .Brick,ps=>match ps with
  | [p0,p1,p2]=>(gStr p0).bind fun x0=>(gInt .i64 p1).bind fun x1=>(gInt .i64 p2).bind fun x2=>some ⟨x0,x1,x2⟩
  | _=>none
 | .l_Brick,ps=>match ps with
  | [p0]=>(gSl .Brick p0).bind fun x0=>some x0
  | _=>none
 | .Set,ps=>match ps with
  | [p0,p1,p2,p3,p4,p5,p6,p7,p8,p9,p10,p11,p12]=>(gStr p0).bind fun x0=>(gInt .i64 p1).bind fun x1=>(gInt .i64 p2).bind fun x2=>(gInt .i64 p3).bind fun x3=>(gInt .i64 p4).bind fun x4=>(gSl .int1 p5).bind fun x5=>(gInt .i64 p6).bind fun x6=>(gInt .i64 p7).bind fun x7=>(gInt .i64 p8).bind fun x8=>(gInt .i64 p9).bind fun x9=>(gInt .i64 p10).bind fun x10=>(gSl .Item p11).bind fun x11=>(gSl .Brick p12).bind fun x12=>some ⟨x0,x1,x2,x3,x4,x5,x6,x7,x8,x9,x10,x11,x12⟩
  | _=>none
 | .Finding,ps=>match ps with
  | [p0,p1]=>(gInt .i64 p0).bind fun x0=>(gStr p1).bind fun x1=>some ⟨x0,x1⟩
  | _=>none
 | .l_Finding,ps=>match ps with
  | [p0]=>(gSl .Finding p0).bind fun x0=>some x0
  | _=>none
 | .Errno,ps=>match ps with
  | [p0]=>(gInt .i64 p0).bind fun x0=>some x0
  | _=>none
 | .Frac,ps=>match ps with
  | [p0,p1]=>(gInt .i64 p0).bind fun x0=>(gInt .i64 p1).bind fun x1=>some ⟨x0,x1⟩
  | _=>none
 | .l_Frac,ps=>match ps with
  | [p0]=>(gSl .Frac p0).bind fun x0=>some x0
  | _=>none
 | .l_Set,ps=>match ps with
  | [p0]=>(gSl .Set p0).bind fun x0=>some x0
  | _=>none
 | .l_str,ps=>match ps with
  | [p0]=>(gSl .str p0).bind fun x0=>some x0
  | _=>none
 | .Block,ps=>match ps with
  | [p0,p1]=>(gStr p0).bind fun x0=>(gInt .i64 p1).bind fun x1=>some ⟨x0,x1⟩
  | _=>none
 | .l_Block,ps=>match ps with
  | [p0]=>(gSl .Block p0).bind fun x0=>some x0
  | _=>none
 | .Hold,ps=>match ps with
  | [p0,p1,p2,p3]=>(gStr p0).bind fun x0=>(gInt .i64 p1).bind fun x1=>(gInt .i64 p2).bind fun x2=>(gInt .i64 p3).bind fun x3=>some ⟨x0,x1,⟨x2,x3⟩⟩
  | _=>none
 | .l_Hold,ps=>match ps with
  | [p0]=>(gSl .Hold p0).bind fun x0=>some x0
  | _=>none
 | .Rope,ps=>match ps with
  | [p0,p1,p2]=>(gStr p0).bind fun x0=>(gSl .Hold p1).bind fun x1=>(gBool p2).bind fun x2=>some ⟨x0,x1,x2⟩
  | _=>none
 | .l_Rope,ps=>match ps with
  | [p0]=>(gSl .Rope p0).bind fun x0=>some x0
  | _=>none
 | .System,ps=>match ps with
  | [p0,p1]=>(gSl .Block p0).bind fun x0=>(gSl .Rope p1).bind fun x1=>some ⟨x0,x1⟩
  | _=>none
 | .checker,ps=>match ps with
  | [p0,p1,p2]=>(gInt .i64 p0).bind fun x0=>(gInt .i64 p1).bind fun x1=>(gInt .i64 p2).bind fun x2=>some ⟨⟨x0,x1⟩,x2⟩
  | _=>none
 | .u641,ps=>match ps with
  | [p0]=>(gInt .u64 p0).bind fun x0=>some x0
  | _=>none
 | .U,ps=>match ps with
  | [p0,p1]=>(gInt .u64 p0).bind fun x0=>(gInt .u64 p1).bind fun x1=>some ⟨x0,x1⟩
  | _=>none
 | .l_l_Set,ps=>match ps with
  | [p0]=>(gSl .l_Set p0).bind fun x0=>some x0
  | _=>none
 | .result,ps=>match ps with
  | [p0,p1]=>(gSl .Frac p0).bind fun x0=>(gInt .i64 p1).bind fun x1=>some ⟨x0,x1⟩
  | _=>none
 | .m_result,ps=>match ps with
  | [p0]=>(gMp 127 .result p0).bind fun x0=>some x0
  | _=>none
 | .Store,ps=>match ps with
  | [p0,p1,p2,p3]=>(gSl .Set p0).bind fun x0=>(gSl .l_Set p1).bind fun x1=>(gMp 127 .result p2).bind fun x2=>(gInt .i64 p3).bind fun x3=>some ⟨x0,x1,x2,x3⟩
  | _=>none
 | .l_l_Finding,ps=>match ps with
  | [p0]=>(gSl .l_Finding p0).bind fun x0=>some x0
  | _=>none
 | .Load,ps=>match ps with
  | [p0,p1]=>(gInt .i64 p0).bind fun x0=>(gInt .i64 p1).bind fun x1=>some ⟨x0,x1⟩
  | _=>none
 | .l_Load,ps=>match ps with
  | [p0]=>(gSl .Load p0).bind fun x0=>some x0
  | _=>none
 | .Beam,ps=>match ps with
  | [p0,p1,p2,p3,p4]=>(gStr p0).bind fun x0=>(gInt .i64 p1).bind fun x1=>(gSl .int1 p2).bind fun x2=>(gSl .Load p3).bind fun x3=>(gInt .i64 p4).bind fun x4=>some ⟨x0,x1,x2,x3,x4⟩
  | _=>none
 | .wide,ps=>match ps with
  | [p0,p1]=>(gInt .u64 p0).bind fun x0=>(gInt .u64 p1).bind fun x1=>some ⟨x0,x1⟩
  | _=>none
 | .u642,ps=>match ps with
  | [p0]=>(gInt .u64 p0).bind fun x0=>some x0
  | _=>none
 | .any,ps=>match ps with
  | [p0]=>(gAny p0).bind fun x0=>some x0
  | _=>none
 | .l_any,ps=>match ps with
  | [p0]=>(gSl .any p0).bind fun x0=>some x0
  | _=>none
 | .l_u8,ps=>match ps with
  | [p0]=>(gSl .u8 p0).bind fun x0=>some x0
  | _=>none
 | .search,ps=>match ps with
  | [p0,p1]=>(gSl .Brick p0).bind fun x0=>(gSl .int1 p1).bind fun x1=>some ⟨x0,x1⟩
  | _=>none
 | .l_l_int1,ps=>match ps with
  | [p0]=>(gSl .l_int1 p0).bind fun x0=>some x0
  | _=>none
 | .Matrix,ps=>match ps with
  | [p0]=>(gSl .l_int1 p0).bind fun x0=>some x0
  | _=>none
 | .u32,ps=>match ps with
  | [p0]=>(gInt .u32 p0).bind fun x0=>some x0
  | _=>none
 | .l_u32,ps=>match ps with
  | [p0]=>(gSl .u32 p0).bind fun x0=>some x0
  | _=>none
 | .number,ps=>match ps with
  | [p0,p1]=>(gBool p0).bind fun x0=>(gSl .u32 p1).bind fun x1=>some ⟨x0,x1⟩
  | _=>none
 | .exact,ps=>match ps with
  | [p0,p1,p2,p3]=>(gBool p0).bind fun x0=>(gSl .u32 p1).bind fun x1=>(gBool p2).bind fun x2=>(gSl .u32 p3).bind fun x3=>some ⟨⟨x0,x1⟩,⟨x2,x3⟩⟩
  | _=>none
 | .l_exact,ps=>match ps with
  | [p0]=>(gSl .exact p0).bind fun x0=>some x0
  | _=>none
 | .form,ps=>match ps with
  | [p0,p1,p2,p3,p4]=>(gSl .l_int1 p0).bind fun x0=>(gInt .i64 p1).bind fun x1=>(gSl .int1 p2).bind fun x2=>(gSl .int1 p3).bind fun x3=>(gBool p4).bind fun x4=>some ⟨x0,x1,x2,x3,x4⟩
  | _=>none
 | .l_l_Frac,ps=>match ps with
  | [p0]=>(gSl .l_Frac p0).bind fun x0=>some x0
  | _=>none
 | .ar302,ps=>match ps with
  | [p0,p1]=>(gInt .u64 p0).bind fun x0=>(gInt .u64 p1).bind fun x1=>some ⟨x0,x1⟩
  | _=>none
 | .ar303,ps=>match ps with
  | [p0,p1,p2,p3]=>(gBool p0).bind fun x0=>(gSl .u32 p1).bind fun x1=>(gBool p2).bind fun x2=>(gSl .u32 p3).bind fun x3=>some ⟨⟨x0,x1⟩,⟨x2,x3⟩⟩
  | _=>none
 | .m_Set,ps=>match ps with
  | [p0]=>(gMp 54 .Set p0).bind fun x0=>some x0
  | _=>none
def zeroU:(u:U) → El u
 | .int=>0
 | .int1=>0
 | .bool=>false
 | .u8=>0
 | .BoundsErrorCode=>0
 | .str=>ByteArray.empty
 | .u64=>0
 | .errorAddressString=>⟨ByteArray.empty,0⟩
 | .l_int1=>[]
 | .Item=>⟨ByteArray.empty,0,0,0,0,0,0⟩
 | .l_Item=>[]
 | .Brick=>⟨ByteArray.empty,0,0⟩
 | .l_Brick=>[]
 | .Set=>⟨ByteArray.empty,0,0,0,0,[],0,0,0,0,0,[],[]⟩
 | .Finding=>⟨0,ByteArray.empty⟩
 | .l_Finding=>[]
 | .Errno=>0
 | .Frac=>⟨0,0⟩
 | .l_Frac=>[]
 | .l_Set=>[]
 | .l_str=>[]
 | .Block=>⟨ByteArray.empty,0⟩
 | .l_Block=>[]
 | .Hold=>⟨ByteArray.empty,0,⟨0,0⟩⟩
 | .l_Hold=>[]
 | .Rope=>⟨ByteArray.empty,[],false⟩
 | .l_Rope=>[]
 | .System=>⟨[],[]⟩
 | .checker=>⟨⟨0,0⟩,0⟩
 | .u641=>0
 | .U=>⟨0,0⟩
 | .l_l_Set=>[]
 | .result=>⟨[],0⟩
 | .m_result=>(false,[])
 | .Store=>⟨[],[],(false,[]),0⟩
 | .l_l_Finding=>[]
 | .Load=>⟨0,0⟩
 | .l_Load=>[]
 | .Beam=>⟨ByteArray.empty,0,[],[],0⟩
 | .wide=>⟨0,0⟩
 | .u642=>0
 | .any=>.nilIface
 | .l_any=>[]
 | .l_u8=>[]
 | .search=>⟨[],[]⟩
 | .l_l_int1=>[]
 | .Matrix=>[]
 | .u32=>0
 | .l_u32=>[]
 | .number=>⟨false,[]⟩
 | .exact=>⟨⟨false,[]⟩,⟨false,[]⟩⟩
 | .l_exact=>[]
 | .form=>⟨[],0,[],[],false⟩
 | .l_l_Frac=>[]
 | .ar302=>⟨0,0⟩
 | .ar303=>⟨⟨false,[]⟩,⟨false,[]⟩⟩
 | .m_Set=>(false,[])
def tyU:U → TypeId
 | .int=>2
 | .int1=>3
 | .bool=>4
 | .u8=>5
 | .BoundsErrorCode=>6
 | .str=>9
 | .u64=>12
 | .errorAddressString=>14
 | .l_int1=>22
 | .Item=>97
 | .l_Item=>23
 | .Brick=>99
 | .l_Brick=>24
 | .Set=>26
 | .Finding=>65
 | .l_Finding=>30
 | .Errno=>31
 | .Frac=>35
 | .l_Frac=>46
 | .l_Set=>50
 | .l_str=>58
 | .Block=>82
 | .l_Block=>83
 | .Hold=>85
 | .l_Hold=>86
 | .Rope=>88
 | .l_Rope=>89
 | .System=>91
 | .checker=>107
 | .u641=>119
 | .U=>121
 | .l_l_Set=>126
 | .result=>139
 | .m_result=>127
 | .Store=>129
 | .l_l_Finding=>171
 | .Load=>234
 | .l_Load=>174
 | .Beam=>176
 | .wide=>179
 | .u642=>185
 | .any=>20
 | .l_any=>187
 | .l_u8=>191
 | .search=>212
 | .l_l_int1=>214
 | .Matrix=>215
 | .u32=>295
 | .l_u32=>268
 | .number=>270
 | .exact=>272
 | .l_exact=>227
 | .form=>256
 | .l_l_Frac=>283
 | .ar302=>302
 | .ar303=>303
 | .m_Set=>54
def szU:U → Nat
 | .int=>1
 | .int1=>1
 | .bool=>1
 | .u8=>1
 | .BoundsErrorCode=>1
 | .str=>1
 | .u64=>1
 | .errorAddressString=>2
 | .l_int1=>1
 | .Item=>7
 | .l_Item=>1
 | .Brick=>3
 | .l_Brick=>1
 | .Set=>13
 | .Finding=>2
 | .l_Finding=>1
 | .Errno=>1
 | .Frac=>2
 | .l_Frac=>1
 | .l_Set=>1
 | .l_str=>1
 | .Block=>2
 | .l_Block=>1
 | .Hold=>4
 | .l_Hold=>1
 | .Rope=>3
 | .l_Rope=>1
 | .System=>2
 | .checker=>3
 | .u641=>1
 | .U=>2
 | .l_l_Set=>1
 | .result=>2
 | .m_result=>1
 | .Store=>4
 | .l_l_Finding=>1
 | .Load=>2
 | .l_Load=>1
 | .Beam=>5
 | .wide=>2
 | .u642=>1
 | .any=>1
 | .l_any=>1
 | .l_u8=>1
 | .search=>2
 | .l_l_int1=>1
 | .Matrix=>1
 | .u32=>1
 | .l_u32=>1
 | .number=>2
 | .exact=>4
 | .l_exact=>1
 | .form=>5
 | .l_l_Frac=>1
 | .ar302=>2
 | .ar303=>4
 | .m_Set=>1
def agU:U → Bool
 | .int=>false
 | .int1=>false
 | .bool=>false
 | .u8=>false
 | .BoundsErrorCode=>false
 | .str=>false
 | .u64=>false
 | .errorAddressString=>true
 | .l_int1=>false
 | .Item=>true
 | .l_Item=>false
 | .Brick=>true
 | .l_Brick=>false
 | .Set=>true
 | .Finding=>true
 | .l_Finding=>false
 | .Errno=>false
 | .Frac=>true
 | .l_Frac=>false
 | .l_Set=>false
 | .l_str=>false
 | .Block=>true
 | .l_Block=>false
 | .Hold=>true
 | .l_Hold=>false
 | .Rope=>true
 | .l_Rope=>false
 | .System=>true
 | .checker=>true
 | .u641=>false
 | .U=>true
 | .l_l_Set=>false
 | .result=>true
 | .m_result=>false
 | .Store=>true
 | .l_l_Finding=>false
 | .Load=>true
 | .l_Load=>false
 | .Beam=>true
 | .wide=>true
 | .u642=>false
 | .any=>false
 | .l_any=>false
 | .l_u8=>false
 | .search=>true
 | .l_l_int1=>false
 | .Matrix=>false
 | .u32=>false
 | .l_u32=>false
 | .number=>true
 | .exact=>true
 | .l_exact=>false
 | .form=>true
 | .l_l_Frac=>false
 | .ar302=>true
 | .ar303=>true
 | .m_Set=>false
def flatU:U → Bool
 | .int=>true
 | .int1=>true
 | .bool=>true
 | .u8=>true
 | .BoundsErrorCode=>true
 | .str=>true
 | .u64=>true
 | .errorAddressString=>true
 | .l_int1=>false
 | .Item=>true
 | .l_Item=>false
 | .Brick=>true
 | .l_Brick=>false
 | .Set=>false
 | .Finding=>true
 | .l_Finding=>false
 | .Errno=>true
 | .Frac=>true
 | .l_Frac=>false
 | .l_Set=>false
 | .l_str=>false
 | .Block=>true
 | .l_Block=>false
 | .Hold=>true
 | .l_Hold=>false
 | .Rope=>false
 | .l_Rope=>false
 | .System=>false
 | .checker=>true
 | .u641=>true
 | .U=>true
 | .l_l_Set=>false
 | .result=>false
 | .m_result=>false
 | .Store=>false
 | .l_l_Finding=>false
 | .Load=>true
 | .l_Load=>false
 | .Beam=>false
 | .wide=>true
 | .u642=>true
 | .any=>true
 | .l_any=>false
 | .l_u8=>false
 | .search=>false
 | .l_l_int1=>false
 | .Matrix=>false
 | .u32=>true
 | .l_u32=>false
 | .number=>false
 | .exact=>false
 | .l_exact=>false
 | .form=>false
 | .l_l_Frac=>false
 | .ar302=>true
 | .ar303=>false
 | .m_Set=>false
def eltU:TypeId → Option U
 | 22=>some .int1
 | 23=>some .Item
 | 24=>some .Brick
 | 30=>some .Finding
 | 46=>some .Frac
 | 50=>some .Set
 | 58=>some .str
 | 83=>some .Block
 | 86=>some .Hold
 | 89=>some .Rope
 | 126=>some .l_Set
 | 171=>some .l_Finding
 | 174=>some .Load
 | 187=>some .any
 | 191=>some .u8
 | 214=>some .l_int1
 | 215=>some .l_int1
 | 268=>some .u32
 | 227=>some .exact
 | 283=>some .l_Frac
 | _=>none
def extF:FuncId → Option Ext
 | 189=>some .add64
 | 190=>some .sub64
 | _=>none
def tabW (w:World):Prop:=Go.Lib.TabIs Tryz.prog w "internal/strconv.uint64pow10" .u64 Go.Lib.pow10Tab
noncomputable def tabB:Nat:=(Tryz.prog.globalNamed "internal/strconv.uint64pow10").getD 0
theorem tab_at:Tryz.prog.globalNamed "internal/strconv.uint64pow10" = some tabB:=by kernel_rfl
theorem tab_same (w w':World) (h:∀ b,b = tabB → w'.heap[b]? = w.heap[b]?) (ht:tabW w):tabW w':=by
 unfold tabW Go.Lib.TabIs World.var? at *
 rw [tab_at,Option.bind_some] at *
 rw [h tabB rfl]
 exact ht
theorem tab_lt (w:World) (ht:tabW w) (b:Nat) (hb:b = tabB):b < w.heap.size:=by
 subst hb
 unfold tabW Go.Lib.TabIs World.var? at ht
 rw [tab_at,Option.bind_some] at ht
 rcases Nat.lt_or_ge tabB w.heap.size with h | h
 ·exact h
 ·rw [Array.getElem?_eq_none h] at ht
  cases ht
noncomputable def G:Sg Tryz.prog:={ U:=U,deq:=inferInstance,El:=El,row:=rowU,unrow:=unrowU,zero:=zeroU,ty:=tyU,sz:=szU,ag:=agU,elt:=eltU,flat:=flatU,byref:=fun f=>([23,27,31,55,59,60,75,131,133,158,180,193]:List Nat).contains f,fz:=fun f=>([159,170,172,198,200,207,209,210,211,212,213,214,241,243,244,245,246,247,248,249,250,269,270,271,272,274,279]:List Nat).contains f,ext:=extF,seqf:=fun f=>if f = 275 then some (true,U.int1) else none,rowf:=fun f=>if f = 131 then some (RowF.ins,U.Frac) else if f = 133 then some (RowF.del,U.int1) else none,nest:=fun t=>([215]:List Nat).contains t,room:=fun t=>([]:List Nat).contains t,mapu:=fun t=>if t = 54 then some U.Set else if t = 127 then some U.result else none,gh:=tabW,gB:=fun b=>b = tabB,gh_same:=tab_same,gh_lt:=tab_lt }
section
open Go.Shelf
set_option maxRecDepth 100000 in
set_option maxHeartbeats 2000000 in
theorem back_275 (w0:World) (B g off cap len:Nat) (A:Option Addr) (z:Nat → Int) (hlen:len ≤ 16777216) (hB:w0.cell? ⟨B,0,none⟩ = some (.slice A len cap)) (hA:0 < len → A = some ⟨g,off,none⟩)
  (hc:∀ k,k < len → w0.cell? ⟨g,off + k,none⟩ = some (.int .i64 (z k))):SeqRun Tryz.prog 275 #[.pointer (some ⟨B,0,none⟩)] len (fun k=>#[.int .i64 (len - 1 - k:Int),.int .i64 (z (len - 1 - k))]) [B,g] w0:=by
 intro l J W hK hG hY h0
 have hKB:∀ k W,J k W → W.cell? ⟨B,0,none⟩ = some (.slice A len cap):=fun k W h=>(World.cell?_of_block (hK k W h B (by simp))).trans hB
 have hKg:∀ k W,J k W → ∀ i,i < len → W.cell? ⟨g,off + i,none⟩ = some (.int .i64 (z i)):=fun k W h i hi=>(World.cell?_of_block (hK k W h g (by simp))).trans (hc i hi)
 have hB0:=hKB 0 W h0
 refine callsIn_of_wp Tryz.func275 rfl trivial ?_ rfl
 simp only [Tryz.ntmps275,List.size_toArray,List.length_cons,List.length_nil,Nat.reduceAdd,Nat.reduceSub,Array.replicate_succ,Array.replicate_zero,List.push_toArray,List.append_toArray,List.nil_append,List.cons_append]
 gi_wp2
 gi_loopw [3] (fun i wr=>∃ k:Nat,k ≤ len ∧ i = .int .i64 (len - 1 - k:Int) ∧ J k wr)
  (fun i _=>(intOf i + 1).toNat)
 case atStart=>exact ⟨0,Nat.zero_le _,by simp,h0⟩
 case round =>
  obtain ⟨k,hk,rfl,hJ⟩:=hrel
  by_cases hlt:k < len
  ·obtain rfl:A = some ⟨g,off,none⟩:=hA (by omega)
   obtain ⟨fn,tmps,assign,body,hy,hR⟩:=hY k wr hJ hlt
   have hBx:=hKB k wr hJ
   have hcx:=hKg k wr hJ (len - 1 - k) (by omega)
   have hge:(0:Int) ≤ len - 1 - k:=by omega
   have hnat:((len:Int) - 1 - k).toNat = len - 1 - k:=by omega
   gi_wp2
   refine hR.mono ?_
   rintro e W3 ⟨rfl,hJ3⟩
   gi_wp2
   go_roundw
   case rel=>exact ⟨k + 1,by omega,by congr 1;push_cast;omega,hJ3⟩
   case measure=>simp [intOf];omega
  ·obtain rfl:k = len:=by omega
   gi_wp2
   go_end0
   exact ⟨⟨_,rfl⟩,hJ⟩
end
theorem seqv_275 (w:World) (B g off cap:Nat) (A:Option Addr) (l:List Int) (hlen:l.length ≤ 16777216) (hB:w.cell? ⟨B,0,none⟩ = some (.slice A l.length cap)) (hA:0 < l.length → A = some ⟨g,off,none⟩)
  (hc:∀ (k:Nat) (x:Int),l[k]? = some x → w.cell? ⟨g,off + k,none⟩ = some (.int .i64 x)) :
  SeqRun Tryz.prog 275 #[.pointer (some ⟨B,0,none⟩)] l.length (fun k=>match (ordS true l)[k]? with
   | some p=>#[.int .i64 (p.1:Nat),.int .i64 p.2]
   | none=>#[]) [B,g] w:=by
 refine (back_275 w B g off cap l.length A (fun k=>l[k]?.getD 0) hlen hB hA fun k hk=>?_).congr fun k hk=>?_
 ·have h:=List.getElem?_eq_getElem hk
  rw [hc k _ h,h]
  rfl
 ·rw [ordS_back hk]
  have h2:l.length - 1 - k < l.length:=by omega
  have e:((l.length - 1 - k:Nat):Int) = (l.length:Int) - 1 - k:=by omega
  simp only [List.getElem?_eq_getElem h2,Option.getD_some]
  rw [← e]
theorem seq_275:SeqOk G 275 true .int1:=by
 refine ⟨rfl,⟨_,Tryz.func275,by kernel_rfl,by kernel_rfl⟩,fun w B g off cap A l hlen hB hA hc=>?_⟩
 refine (seqv_275 w B g off cap A l hlen hB hA fun k x hk=>?_).congr fun k hk=>?_
 ·obtain ⟨v,h1,h2⟩:=hc k x 0 (.val (.int .i64 x)) hk rfl
  cases h1
  have hsz:G.sz .int1 = 1:=by kernel_rfl
  rw [hsz] at h2
  simpa using h2
 ·unfold argV
  rw [ordS_back (α:=G.El .int1) (l:=l) hk]
  have h2:=@ordS_back Int l k hk
  rw [h2]
  rfl
theorem gInt_w {k:IntKind} {p:PP} {n:Int} (h:gInt k p = some n):Weak G p (.val (.int k n)):=by
 unfold gInt at h
 split at h
 ·split at h
  ·rename_i hk;subst hk;cases h;exact .inl rfl
  ·cases h
 ·cases h
theorem gBool_w {p:PP} {n:Bool} (h:gBool p = some n):Weak G p (.val (.bool n)):=by
 unfold gBool at h
 split at h
 ·cases h;exact .inl rfl
 ·cases h
theorem gStr_w {p:PP} {n:ByteArray} (h:gStr p = some n):Weak G p (.val (.string n)):=by
 unfold gStr at h
 split at h
 ·cases h;exact .inl rfl
 ·cases h
theorem gAny_w {p:PP} {n:Value} (h:gAny p = some n):Weak G p (.val n):=by
 unfold gAny at h
 split at h
 ·cases h;exact .inl rfl
 ·cases h
theorem gSl_w {u:U} {p:PP} {l:List (El u)} (h:gSl u p = some l):Weak G p (.sl u l):=by
 unfold gSl at h
 split at h
 ·split at h
  ·rename_i hv;subst hv;cases h;exact .inl rfl
  ·cases h
 ·cases h;exact .inr (.inl ⟨rfl,u,rfl⟩)
 ·cases h
theorem gMp_w {t:TypeId} {u:U} {p:PP} {d:Bool × List (ByteArray × El u)} (h:gMp t u p = some d):Weak G p (.mp t u d.1 d.2):=by
 unfold gMp at h
 split at h
 ·split at h
  ·rename_i ht
   subst ht
   split at h
   ·rename_i hv;subst hv;cases h;exact .inl rfl
   ·cases h
  ·cases h
 ·cases h;exact .inr (.inr ⟨rfl,t,u,rfl⟩)
 ·cases h
inductive Wk:List PP → List PP → Prop where
 | nil:Wk [] []
 | cons {p q ps qs} (h:Weak G p q) (t:Wk ps qs):Wk (p :: ps) (q :: qs)
theorem Wk.get {ps qs:List PP} (h:Wk ps qs):ps.length = qs.length ∧ ∀ (j:Nat) (p:PP),ps[j]? = some p → ∃ q,qs[j]? = some q ∧ Weak G p q:=by
 induction h with
 | nil=>exact ⟨rfl,fun j p hj=>by cases hj⟩
 | cons h _ ih =>
  refine ⟨congrArg (· + 1) ih.1,fun j p hj=>?_⟩
  cases j with
  | zero=>cases hj;exact ⟨_,rfl,h⟩
  | succ j=>exact ih.2 j p hj
theorem row_szU:∀ u x,(rowU u x).length = szU u:=by
 intro u x;cases u <;> rfl
theorem un_int {ps:List PP} {x:El .int} (h:unrowU .int ps = some x):Wk ps (rowU .int x):=by
 unfold unrowU at h
 simp only at h
 split at h
 ·simp only [Option.bind_eq_some_iff] at h
  obtain ⟨x0,hx0,h⟩:=h
  cases h
  exact .cons (gInt_w hx0) (.nil)
 ·cases h
theorem un_int1 {ps:List PP} {x:El .int1} (h:unrowU .int1 ps = some x):Wk ps (rowU .int1 x):=by
 unfold unrowU at h
 simp only at h
 split at h
 ·simp only [Option.bind_eq_some_iff] at h
  obtain ⟨x0,hx0,h⟩:=h
  cases h
  exact .cons (gInt_w hx0) (.nil)
 ·cases h
theorem un_bool {ps:List PP} {x:El .bool} (h:unrowU .bool ps = some x):Wk ps (rowU .bool x):=by
 unfold unrowU at h
 simp only at h
 split at h
 ·simp only [Option.bind_eq_some_iff] at h
  obtain ⟨x0,hx0,h⟩:=h
  cases h
  exact .cons (gBool_w hx0) (.nil)
 ·cases h
theorem un_u8 {ps:List PP} {x:El .u8} (h:unrowU .u8 ps = some x):Wk ps (rowU .u8 x):=by
 unfold unrowU at h
 simp only at h
 split at h
 ·simp only [Option.bind_eq_some_iff] at h
  obtain ⟨x0,hx0,h⟩:=h
  cases h
  exact .cons (gInt_w hx0) (.nil)
 ·cases h
theorem un_BoundsErrorCode {ps:List PP} {x:El .BoundsErrorCode} (h:unrowU .BoundsErrorCode ps = some x):Wk ps (rowU .BoundsErrorCode x):=by
 unfold unrowU at h
 simp only at h
 split at h
 ·simp only [Option.bind_eq_some_iff] at h
  obtain ⟨x0,hx0,h⟩:=h
  cases h
  exact .cons (gInt_w hx0) (.nil)
 ·cases h
theorem un_str {ps:List PP} {x:El .str} (h:unrowU .str ps = some x):Wk ps (rowU .str x):=by
 unfold unrowU at h
 simp only at h
 split at h
 ·simp only [Option.bind_eq_some_iff] at h
  obtain ⟨x0,hx0,h⟩:=h
  cases h
  exact .cons (gStr_w hx0) (.nil)
 ·cases h
theorem un_u64 {ps:List PP} {x:El .u64} (h:unrowU .u64 ps = some x):Wk ps (rowU .u64 x):=by
 unfold unrowU at h
 simp only at h
 split at h
 ·simp only [Option.bind_eq_some_iff] at h
  obtain ⟨x0,hx0,h⟩:=h
  cases h
  exact .cons (gInt_w hx0) (.nil)
 ·cases h
theorem un_errorAddressString {ps:List PP} {x:El .errorAddressString} (h:unrowU .errorAddressString ps = some x):Wk ps (rowU .errorAddressString x):=by
 unfold unrowU at h
 simp only at h
 split at h
 ·simp only [Option.bind_eq_some_iff] at h
  obtain ⟨x0,hx0,x1,hx1,h⟩:=h
  cases h
  exact .cons (gStr_w hx0) (.cons (gInt_w hx1) (.nil))
 ·cases h
theorem un_l_int1 {ps:List PP} {x:El .l_int1} (h:unrowU .l_int1 ps = some x):Wk ps (rowU .l_int1 x):=by
 unfold unrowU at h
 simp only at h
 split at h
 ·simp only [Option.bind_eq_some_iff] at h
  obtain ⟨x0,hx0,h⟩:=h
  cases h
  exact .cons (gSl_w hx0) (.nil)
 ·cases h
theorem un_Item {ps:List PP} {x:El .Item} (h:unrowU .Item ps = some x):Wk ps (rowU .Item x):=by
 unfold unrowU at h
 simp only at h
 split at h
 ·simp only [Option.bind_eq_some_iff] at h
  obtain ⟨x0,hx0,x1,hx1,x2,hx2,x3,hx3,x4,hx4,x5,hx5,x6,hx6,h⟩:=h
  cases h
  exact .cons (gStr_w hx0) (.cons (gInt_w hx1) (.cons (gInt_w hx2) (.cons (gInt_w hx3) (.cons (gInt_w hx4) (.cons (gInt_w hx5) (.cons (gInt_w hx6) (.nil)))))))
 ·cases h
theorem un_l_Item {ps:List PP} {x:El .l_Item} (h:unrowU .l_Item ps = some x):Wk ps (rowU .l_Item x):=by
 unfold unrowU at h
 simp only at h
 split at h
 ·simp only [Option.bind_eq_some_iff] at h
  obtain ⟨x0,hx0,h⟩:=h
  cases h
  exact .cons (gSl_w hx0) (.nil)
 ·cases h
theorem un_Brick {ps:List PP} {x:El .Brick} (h:unrowU .Brick ps = some x):Wk ps (rowU .Brick x):=by
 unfold unrowU at h
 simp only at h
 split at h
 ·simp only [Option.bind_eq_some_iff] at h
  obtain ⟨x0,hx0,x1,hx1,x2,hx2,h⟩:=h
  cases h
  exact .cons (gStr_w hx0) (.cons (gInt_w hx1) (.cons (gInt_w hx2) (.nil)))
 ·cases h
theorem un_l_Brick {ps:List PP} {x:El .l_Brick} (h:unrowU .l_Brick ps = some x):Wk ps (rowU .l_Brick x):=by
 unfold unrowU at h
 simp only at h
 split at h
 ·simp only [Option.bind_eq_some_iff] at h
  obtain ⟨x0,hx0,h⟩:=h
  cases h
  exact .cons (gSl_w hx0) (.nil)
 ·cases h
theorem un_Set {ps:List PP} {x:El .Set} (h:unrowU .Set ps = some x):Wk ps (rowU .Set x):=by
 unfold unrowU at h
 simp only at h
 split at h
 ·simp only [Option.bind_eq_some_iff] at h
  obtain ⟨x0,hx0,x1,hx1,x2,hx2,x3,hx3,x4,hx4,x5,hx5,x6,hx6,x7,hx7,x8,hx8,x9,hx9,x10,hx10,x11,hx11,x12,hx12,h⟩:=h
  cases h
  exact .cons (gStr_w hx0) (.cons (gInt_w hx1) (.cons (gInt_w hx2) (.cons (gInt_w hx3) (.cons (gInt_w hx4) (.cons (gSl_w hx5) (.cons (gInt_w hx6) (.cons (gInt_w hx7) (.cons (gInt_w hx8) (.cons (gInt_w hx9) (.cons (gInt_w hx10) (.cons (gSl_w hx11) (.cons (gSl_w hx12) (.nil)))))))))))))
 ·cases h
theorem un_Finding {ps:List PP} {x:El .Finding} (h:unrowU .Finding ps = some x):Wk ps (rowU .Finding x):=by
 unfold unrowU at h
 simp only at h
 split at h
 ·simp only [Option.bind_eq_some_iff] at h
  obtain ⟨x0,hx0,x1,hx1,h⟩:=h
  cases h
  exact .cons (gInt_w hx0) (.cons (gStr_w hx1) (.nil))
 ·cases h
theorem un_l_Finding {ps:List PP} {x:El .l_Finding} (h:unrowU .l_Finding ps = some x):Wk ps (rowU .l_Finding x):=by
 unfold unrowU at h
 simp only at h
 split at h
 ·simp only [Option.bind_eq_some_iff] at h
  obtain ⟨x0,hx0,h⟩:=h
  cases h
  exact .cons (gSl_w hx0) (.nil)
 ·cases h
theorem un_Errno {ps:List PP} {x:El .Errno} (h:unrowU .Errno ps = some x):Wk ps (rowU .Errno x):=by
 unfold unrowU at h
 simp only at h
 split at h
 ·simp only [Option.bind_eq_some_iff] at h
  obtain ⟨x0,hx0,h⟩:=h
  cases h
  exact .cons (gInt_w hx0) (.nil)
 ·cases h
theorem un_Frac {ps:List PP} {x:El .Frac} (h:unrowU .Frac ps = some x):Wk ps (rowU .Frac x):=by
 unfold unrowU at h
 simp only at h
 split at h
 ·simp only [Option.bind_eq_some_iff] at h
  obtain ⟨x0,hx0,x1,hx1,h⟩:=h
  cases h
  exact .cons (gInt_w hx0) (.cons (gInt_w hx1) (.nil))
 ·cases h
theorem un_l_Frac {ps:List PP} {x:El .l_Frac} (h:unrowU .l_Frac ps = some x):Wk ps (rowU .l_Frac x):=by
 unfold unrowU at h
 simp only at h
 split at h
 ·simp only [Option.bind_eq_some_iff] at h
  obtain ⟨x0,hx0,h⟩:=h
  cases h
  exact .cons (gSl_w hx0) (.nil)
 ·cases h
theorem un_l_Set {ps:List PP} {x:El .l_Set} (h:unrowU .l_Set ps = some x):Wk ps (rowU .l_Set x):=by
 unfold unrowU at h
 simp only at h
 split at h
 ·simp only [Option.bind_eq_some_iff] at h
  obtain ⟨x0,hx0,h⟩:=h
  cases h
  exact .cons (gSl_w hx0) (.nil)
 ·cases h
theorem un_l_str {ps:List PP} {x:El .l_str} (h:unrowU .l_str ps = some x):Wk ps (rowU .l_str x):=by
 unfold unrowU at h
 simp only at h
 split at h
 ·simp only [Option.bind_eq_some_iff] at h
  obtain ⟨x0,hx0,h⟩:=h
  cases h
  exact .cons (gSl_w hx0) (.nil)
 ·cases h
theorem un_Block {ps:List PP} {x:El .Block} (h:unrowU .Block ps = some x):Wk ps (rowU .Block x):=by
 unfold unrowU at h
 simp only at h
 split at h
 ·simp only [Option.bind_eq_some_iff] at h
  obtain ⟨x0,hx0,x1,hx1,h⟩:=h
  cases h
  exact .cons (gStr_w hx0) (.cons (gInt_w hx1) (.nil))
 ·cases h
theorem un_l_Block {ps:List PP} {x:El .l_Block} (h:unrowU .l_Block ps = some x):Wk ps (rowU .l_Block x):=by
 unfold unrowU at h
 simp only at h
 split at h
 ·simp only [Option.bind_eq_some_iff] at h
  obtain ⟨x0,hx0,h⟩:=h
  cases h
  exact .cons (gSl_w hx0) (.nil)
 ·cases h
theorem un_Hold {ps:List PP} {x:El .Hold} (h:unrowU .Hold ps = some x):Wk ps (rowU .Hold x):=by
 unfold unrowU at h
 simp only at h
 split at h
 ·simp only [Option.bind_eq_some_iff] at h
  obtain ⟨x0,hx0,x1,hx1,x2,hx2,x3,hx3,h⟩:=h
  cases h
  exact .cons (gStr_w hx0) (.cons (gInt_w hx1) (.cons (gInt_w hx2) (.cons (gInt_w hx3) (.nil))))
 ·cases h
theorem un_l_Hold {ps:List PP} {x:El .l_Hold} (h:unrowU .l_Hold ps = some x):Wk ps (rowU .l_Hold x):=by
 unfold unrowU at h
 simp only at h
 split at h
 ·simp only [Option.bind_eq_some_iff] at h
  obtain ⟨x0,hx0,h⟩:=h
  cases h
  exact .cons (gSl_w hx0) (.nil)
 ·cases h
theorem un_Rope {ps:List PP} {x:El .Rope} (h:unrowU .Rope ps = some x):Wk ps (rowU .Rope x):=by
 unfold unrowU at h
 simp only at h
 split at h
 ·simp only [Option.bind_eq_some_iff] at h
  obtain ⟨x0,hx0,x1,hx1,x2,hx2,h⟩:=h
  cases h
  exact .cons (gStr_w hx0) (.cons (gSl_w hx1) (.cons (gBool_w hx2) (.nil)))
 ·cases h
theorem un_l_Rope {ps:List PP} {x:El .l_Rope} (h:unrowU .l_Rope ps = some x):Wk ps (rowU .l_Rope x):=by
 unfold unrowU at h
 simp only at h
 split at h
 ·simp only [Option.bind_eq_some_iff] at h
  obtain ⟨x0,hx0,h⟩:=h
  cases h
  exact .cons (gSl_w hx0) (.nil)
 ·cases h
theorem un_System {ps:List PP} {x:El .System} (h:unrowU .System ps = some x):Wk ps (rowU .System x):=by
 unfold unrowU at h
 simp only at h
 split at h
 ·simp only [Option.bind_eq_some_iff] at h
  obtain ⟨x0,hx0,x1,hx1,h⟩:=h
  cases h
  exact .cons (gSl_w hx0) (.cons (gSl_w hx1) (.nil))
 ·cases h
theorem un_checker {ps:List PP} {x:El .checker} (h:unrowU .checker ps = some x):Wk ps (rowU .checker x):=by
 unfold unrowU at h
 simp only at h
 split at h
 ·simp only [Option.bind_eq_some_iff] at h
  obtain ⟨x0,hx0,x1,hx1,x2,hx2,h⟩:=h
  cases h
  exact .cons (gInt_w hx0) (.cons (gInt_w hx1) (.cons (gInt_w hx2) (.nil)))
 ·cases h
theorem un_u641 {ps:List PP} {x:El .u641} (h:unrowU .u641 ps = some x):Wk ps (rowU .u641 x):=by
 unfold unrowU at h
 simp only at h
 split at h
 ·simp only [Option.bind_eq_some_iff] at h
  obtain ⟨x0,hx0,h⟩:=h
  cases h
  exact .cons (gInt_w hx0) (.nil)
 ·cases h
theorem un_U {ps:List PP} {x:El .U} (h:unrowU .U ps = some x):Wk ps (rowU .U x):=by
 unfold unrowU at h
 simp only at h
 split at h
 ·simp only [Option.bind_eq_some_iff] at h
  obtain ⟨x0,hx0,x1,hx1,h⟩:=h
  cases h
  exact .cons (gInt_w hx0) (.cons (gInt_w hx1) (.nil))
 ·cases h
theorem un_l_l_Set {ps:List PP} {x:El .l_l_Set} (h:unrowU .l_l_Set ps = some x):Wk ps (rowU .l_l_Set x):=by
 unfold unrowU at h
 simp only at h
 split at h
 ·simp only [Option.bind_eq_some_iff] at h
  obtain ⟨x0,hx0,h⟩:=h
  cases h
  exact .cons (gSl_w hx0) (.nil)
 ·cases h
theorem un_result {ps:List PP} {x:El .result} (h:unrowU .result ps = some x):Wk ps (rowU .result x):=by
 unfold unrowU at h
 simp only at h
 split at h
 ·simp only [Option.bind_eq_some_iff] at h
  obtain ⟨x0,hx0,x1,hx1,h⟩:=h
  cases h
  exact .cons (gSl_w hx0) (.cons (gInt_w hx1) (.nil))
 ·cases h
theorem un_m_result {ps:List PP} {x:El .m_result} (h:unrowU .m_result ps = some x):Wk ps (rowU .m_result x):=by
 unfold unrowU at h
 simp only at h
 split at h
 ·simp only [Option.bind_eq_some_iff] at h
  obtain ⟨x0,hx0,h⟩:=h
  cases h
  exact .cons (gMp_w hx0) (.nil)
 ·cases h
theorem un_Store {ps:List PP} {x:El .Store} (h:unrowU .Store ps = some x):Wk ps (rowU .Store x):=by
 unfold unrowU at h
 simp only at h
 split at h
 ·simp only [Option.bind_eq_some_iff] at h
  obtain ⟨x0,hx0,x1,hx1,x2,hx2,x3,hx3,h⟩:=h
  cases h
  exact .cons (gSl_w hx0) (.cons (gSl_w hx1) (.cons (gMp_w hx2) (.cons (gInt_w hx3) (.nil))))
 ·cases h
theorem un_l_l_Finding {ps:List PP} {x:El .l_l_Finding} (h:unrowU .l_l_Finding ps = some x):Wk ps (rowU .l_l_Finding x):=by
 unfold unrowU at h
 simp only at h
 split at h
 ·simp only [Option.bind_eq_some_iff] at h
  obtain ⟨x0,hx0,h⟩:=h
  cases h
  exact .cons (gSl_w hx0) (.nil)
 ·cases h
theorem un_Load {ps:List PP} {x:El .Load} (h:unrowU .Load ps = some x):Wk ps (rowU .Load x):=by
 unfold unrowU at h
 simp only at h
 split at h
 ·simp only [Option.bind_eq_some_iff] at h
  obtain ⟨x0,hx0,x1,hx1,h⟩:=h
  cases h
  exact .cons (gInt_w hx0) (.cons (gInt_w hx1) (.nil))
 ·cases h
theorem un_l_Load {ps:List PP} {x:El .l_Load} (h:unrowU .l_Load ps = some x):Wk ps (rowU .l_Load x):=by
 unfold unrowU at h
 simp only at h
 split at h
 ·simp only [Option.bind_eq_some_iff] at h
  obtain ⟨x0,hx0,h⟩:=h
  cases h
  exact .cons (gSl_w hx0) (.nil)
 ·cases h
theorem un_Beam {ps:List PP} {x:El .Beam} (h:unrowU .Beam ps = some x):Wk ps (rowU .Beam x):=by
 unfold unrowU at h
 simp only at h
 split at h
 ·simp only [Option.bind_eq_some_iff] at h
  obtain ⟨x0,hx0,x1,hx1,x2,hx2,x3,hx3,x4,hx4,h⟩:=h
  cases h
  exact .cons (gStr_w hx0) (.cons (gInt_w hx1) (.cons (gSl_w hx2) (.cons (gSl_w hx3) (.cons (gInt_w hx4) (.nil)))))
 ·cases h
theorem un_wide {ps:List PP} {x:El .wide} (h:unrowU .wide ps = some x):Wk ps (rowU .wide x):=by
 unfold unrowU at h
 simp only at h
 split at h
 ·simp only [Option.bind_eq_some_iff] at h
  obtain ⟨x0,hx0,x1,hx1,h⟩:=h
  cases h
  exact .cons (gInt_w hx0) (.cons (gInt_w hx1) (.nil))
 ·cases h
theorem un_u642 {ps:List PP} {x:El .u642} (h:unrowU .u642 ps = some x):Wk ps (rowU .u642 x):=by
 unfold unrowU at h
 simp only at h
 split at h
 ·simp only [Option.bind_eq_some_iff] at h
  obtain ⟨x0,hx0,h⟩:=h
  cases h
  exact .cons (gInt_w hx0) (.nil)
 ·cases h
theorem un_any {ps:List PP} {x:El .any} (h:unrowU .any ps = some x):Wk ps (rowU .any x):=by
 unfold unrowU at h
 simp only at h
 split at h
 ·simp only [Option.bind_eq_some_iff] at h
  obtain ⟨x0,hx0,h⟩:=h
  cases h
  exact .cons (gAny_w hx0) (.nil)
 ·cases h
theorem un_l_any {ps:List PP} {x:El .l_any} (h:unrowU .l_any ps = some x):Wk ps (rowU .l_any x):=by
 unfold unrowU at h
 simp only at h
 split at h
 ·simp only [Option.bind_eq_some_iff] at h
  obtain ⟨x0,hx0,h⟩:=h
  cases h
  exact .cons (gSl_w hx0) (.nil)
 ·cases h
theorem un_l_u8 {ps:List PP} {x:El .l_u8} (h:unrowU .l_u8 ps = some x):Wk ps (rowU .l_u8 x):=by
 unfold unrowU at h
 simp only at h
 split at h
 ·simp only [Option.bind_eq_some_iff] at h
  obtain ⟨x0,hx0,h⟩:=h
  cases h
  exact .cons (gSl_w hx0) (.nil)
 ·cases h
theorem un_search {ps:List PP} {x:El .search} (h:unrowU .search ps = some x):Wk ps (rowU .search x):=by
 unfold unrowU at h
 simp only at h
 split at h
 ·simp only [Option.bind_eq_some_iff] at h
  obtain ⟨x0,hx0,x1,hx1,h⟩:=h
  cases h
  exact .cons (gSl_w hx0) (.cons (gSl_w hx1) (.nil))
 ·cases h
theorem un_l_l_int1 {ps:List PP} {x:El .l_l_int1} (h:unrowU .l_l_int1 ps = some x):Wk ps (rowU .l_l_int1 x):=by
 unfold unrowU at h
 simp only at h
 split at h
 ·simp only [Option.bind_eq_some_iff] at h
  obtain ⟨x0,hx0,h⟩:=h
  cases h
  exact .cons (gSl_w hx0) (.nil)
 ·cases h
theorem un_Matrix {ps:List PP} {x:El .Matrix} (h:unrowU .Matrix ps = some x):Wk ps (rowU .Matrix x):=by
 unfold unrowU at h
 simp only at h
 split at h
 ·simp only [Option.bind_eq_some_iff] at h
  obtain ⟨x0,hx0,h⟩:=h
  cases h
  exact .cons (gSl_w hx0) (.nil)
 ·cases h
theorem un_u32 {ps:List PP} {x:El .u32} (h:unrowU .u32 ps = some x):Wk ps (rowU .u32 x):=by
 unfold unrowU at h
 simp only at h
 split at h
 ·simp only [Option.bind_eq_some_iff] at h
  obtain ⟨x0,hx0,h⟩:=h
  cases h
  exact .cons (gInt_w hx0) (.nil)
 ·cases h
theorem un_l_u32 {ps:List PP} {x:El .l_u32} (h:unrowU .l_u32 ps = some x):Wk ps (rowU .l_u32 x):=by
 unfold unrowU at h
 simp only at h
 split at h
 ·simp only [Option.bind_eq_some_iff] at h
  obtain ⟨x0,hx0,h⟩:=h
  cases h
  exact .cons (gSl_w hx0) (.nil)
 ·cases h
theorem un_number {ps:List PP} {x:El .number} (h:unrowU .number ps = some x):Wk ps (rowU .number x):=by
 unfold unrowU at h
 simp only at h
 split at h
 ·simp only [Option.bind_eq_some_iff] at h
  obtain ⟨x0,hx0,x1,hx1,h⟩:=h
  cases h
  exact .cons (gBool_w hx0) (.cons (gSl_w hx1) (.nil))
 ·cases h
theorem un_exact {ps:List PP} {x:El .exact} (h:unrowU .exact ps = some x):Wk ps (rowU .exact x):=by
 unfold unrowU at h
 simp only at h
 split at h
 ·simp only [Option.bind_eq_some_iff] at h
  obtain ⟨x0,hx0,x1,hx1,x2,hx2,x3,hx3,h⟩:=h
  cases h
  exact .cons (gBool_w hx0) (.cons (gSl_w hx1) (.cons (gBool_w hx2) (.cons (gSl_w hx3) (.nil))))
 ·cases h
theorem un_l_exact {ps:List PP} {x:El .l_exact} (h:unrowU .l_exact ps = some x):Wk ps (rowU .l_exact x):=by
 unfold unrowU at h
 simp only at h
 split at h
 ·simp only [Option.bind_eq_some_iff] at h
  obtain ⟨x0,hx0,h⟩:=h
  cases h
  exact .cons (gSl_w hx0) (.nil)
 ·cases h
theorem un_form {ps:List PP} {x:El .form} (h:unrowU .form ps = some x):Wk ps (rowU .form x):=by
 unfold unrowU at h
 simp only at h
 split at h
 ·simp only [Option.bind_eq_some_iff] at h
  obtain ⟨x0,hx0,x1,hx1,x2,hx2,x3,hx3,x4,hx4,h⟩:=h
  cases h
  exact .cons (gSl_w hx0) (.cons (gInt_w hx1) (.cons (gSl_w hx2) (.cons (gSl_w hx3) (.cons (gBool_w hx4) (.nil)))))
 ·cases h
theorem un_l_l_Frac {ps:List PP} {x:El .l_l_Frac} (h:unrowU .l_l_Frac ps = some x):Wk ps (rowU .l_l_Frac x):=by
 unfold unrowU at h
 simp only at h
 split at h
 ·simp only [Option.bind_eq_some_iff] at h
  obtain ⟨x0,hx0,h⟩:=h
  cases h
  exact .cons (gSl_w hx0) (.nil)
 ·cases h
theorem un_ar302 {ps:List PP} {x:El .ar302} (h:unrowU .ar302 ps = some x):Wk ps (rowU .ar302 x):=by
 unfold unrowU at h
 simp only at h
 split at h
 ·simp only [Option.bind_eq_some_iff] at h
  obtain ⟨x0,hx0,x1,hx1,h⟩:=h
  cases h
  exact .cons (gInt_w hx0) (.cons (gInt_w hx1) (.nil))
 ·cases h
theorem un_ar303 {ps:List PP} {x:El .ar303} (h:unrowU .ar303 ps = some x):Wk ps (rowU .ar303 x):=by
 unfold unrowU at h
 simp only at h
 split at h
 ·simp only [Option.bind_eq_some_iff] at h
  obtain ⟨x0,hx0,x1,hx1,x2,hx2,x3,hx3,h⟩:=h
  cases h
  exact .cons (gBool_w hx0) (.cons (gSl_w hx1) (.cons (gBool_w hx2) (.cons (gSl_w hx3) (.nil))))
 ·cases h
theorem un_m_Set {ps:List PP} {x:El .m_Set} (h:unrowU .m_Set ps = some x):Wk ps (rowU .m_Set x):=by
 unfold unrowU at h
 simp only at h
 split at h
 ·simp only [Option.bind_eq_some_iff] at h
  obtain ⟨x0,hx0,h⟩:=h
  cases h
  exact .cons (gMp_w hx0) (.nil)
 ·cases h
theorem unrow_w:∀ (u:U) (ps:List PP) (x:El u),unrowU u ps = some x → Wk ps (rowU u x):=by
 intro u ps x h
 cases u
 ·exact un_int h
 ·exact un_int1 h
 ·exact un_bool h
 ·exact un_u8 h
 ·exact un_BoundsErrorCode h
 ·exact un_str h
 ·exact un_u64 h
 ·exact un_errorAddressString h
 ·exact un_l_int1 h
 ·exact un_Item h
 ·exact un_l_Item h
 ·exact un_Brick h
 ·exact un_l_Brick h
 ·exact un_Set h
 ·exact un_Finding h
 ·exact un_l_Finding h
 ·exact un_Errno h
 ·exact un_Frac h
 ·exact un_l_Frac h
 ·exact un_l_Set h
 ·exact un_l_str h
 ·exact un_Block h
 ·exact un_l_Block h
 ·exact un_Hold h
 ·exact un_l_Hold h
 ·exact un_Rope h
 ·exact un_l_Rope h
 ·exact un_System h
 ·exact un_checker h
 ·exact un_u641 h
 ·exact un_U h
 ·exact un_l_l_Set h
 ·exact un_result h
 ·exact un_m_result h
 ·exact un_Store h
 ·exact un_l_l_Finding h
 ·exact un_Load h
 ·exact un_l_Load h
 ·exact un_Beam h
 ·exact un_wide h
 ·exact un_u642 h
 ·exact un_any h
 ·exact un_l_any h
 ·exact un_l_u8 h
 ·exact un_search h
 ·exact un_l_l_int1 h
 ·exact un_Matrix h
 ·exact un_u32 h
 ·exact un_l_u32 h
 ·exact un_number h
 ·exact un_exact h
 ·exact un_l_exact h
 ·exact un_form h
 ·exact un_l_l_Frac h
 ·exact un_ar302 h
 ·exact un_ar303 h
 ·exact un_m_Set h
theorem info_int:(Tryz.prog.info? 2).map (fun i=>(i.zero,i.size,i.bytes)) = some (some (.int .i64 0),1,8):=by kernel_rfl
theorem info_int1:(Tryz.prog.info? 3).map (fun i=>(i.zero,i.size,i.bytes)) = some (some (.int .i64 0),1,8):=by kernel_rfl
theorem info_bool:(Tryz.prog.info? 4).map (fun i=>(i.zero,i.size,i.bytes)) = some (some (.bool false),1,1):=by kernel_rfl
theorem info_u8:(Tryz.prog.info? 5).map (fun i=>(i.zero,i.size,i.bytes)) = some (some (.int .u8 0),1,1):=by kernel_rfl
theorem info_BoundsErrorCode:(Tryz.prog.info? 6).map (fun i=>(i.zero,i.size,i.bytes)) = some (some (.int .u8 0),1,1):=by kernel_rfl
theorem info_str:(Tryz.prog.info? 9).map (fun i=>(i.zero,i.size,i.bytes)) = some (some (.string ⟨#[]⟩),1,16):=by kernel_rfl
theorem info_u64:(Tryz.prog.info? 12).map (fun i=>(i.zero,i.size,i.bytes)) = some (some (.int .u64 0),1,8):=by kernel_rfl
theorem info_errorAddressString:(Tryz.prog.info? 14).map (fun i=>(i.zero,i.size,i.bytes)) = some (some (.agg #[(.string ⟨#[]⟩),(.int .u64 0)]),2,24):=by kernel_rfl
theorem info_l_int1:(Tryz.prog.info? 22).map (fun i=>(i.zero,i.size,i.bytes)) = some (some (.slice none 0 0),1,24):=by kernel_rfl
theorem info_Item:(Tryz.prog.info? 97).map (fun i=>(i.zero,i.size,i.bytes)) = some (some (.agg #[(.string ⟨#[]⟩),(.int .i64 0),(.int .i64 0),(.int .i64 0),(.int .i64 0),(.int .i64 0),(.int .i64 0)]),7,64):=by kernel_rfl
theorem info_l_Item:(Tryz.prog.info? 23).map (fun i=>(i.zero,i.size,i.bytes)) = some (some (.slice none 0 0),1,24):=by kernel_rfl
theorem info_Brick:(Tryz.prog.info? 99).map (fun i=>(i.zero,i.size,i.bytes)) = some (some (.agg #[(.string ⟨#[]⟩),(.int .i64 0),(.int .i64 0)]),3,32):=by kernel_rfl
theorem info_l_Brick:(Tryz.prog.info? 24).map (fun i=>(i.zero,i.size,i.bytes)) = some (some (.slice none 0 0),1,24):=by kernel_rfl
theorem info_Set:(Tryz.prog.info? 26).map (fun i=>(i.zero,i.size,i.bytes)) = some (some (.agg #[(.string ⟨#[]⟩),(.int .i64 0),(.int .i64 0),(.int .i64 0),(.int .i64 0),(.slice none 0 0),(.int .i64 0),(.int .i64 0),(.int .i64 0),(.int .i64 0),(.int .i64 0),(.slice none 0 0),(.slice none 0 0)]),13,160):=by kernel_rfl
theorem info_Finding:(Tryz.prog.info? 65).map (fun i=>(i.zero,i.size,i.bytes)) = some (some (.agg #[(.int .i64 0),(.string ⟨#[]⟩)]),2,24):=by kernel_rfl
theorem info_l_Finding:(Tryz.prog.info? 30).map (fun i=>(i.zero,i.size,i.bytes)) = some (some (.slice none 0 0),1,24):=by kernel_rfl
theorem info_Errno:(Tryz.prog.info? 31).map (fun i=>(i.zero,i.size,i.bytes)) = some (some (.int .i64 0),1,8):=by kernel_rfl
theorem info_Frac:(Tryz.prog.info? 35).map (fun i=>(i.zero,i.size,i.bytes)) = some (some (.agg #[(.int .i64 0),(.int .i64 0)]),2,16):=by kernel_rfl
theorem info_l_Frac:(Tryz.prog.info? 46).map (fun i=>(i.zero,i.size,i.bytes)) = some (some (.slice none 0 0),1,24):=by kernel_rfl
theorem info_l_Set:(Tryz.prog.info? 50).map (fun i=>(i.zero,i.size,i.bytes)) = some (some (.slice none 0 0),1,24):=by kernel_rfl
theorem info_l_str:(Tryz.prog.info? 58).map (fun i=>(i.zero,i.size,i.bytes)) = some (some (.slice none 0 0),1,24):=by kernel_rfl
theorem info_Block:(Tryz.prog.info? 82).map (fun i=>(i.zero,i.size,i.bytes)) = some (some (.agg #[(.string ⟨#[]⟩),(.int .i64 0)]),2,24):=by kernel_rfl
theorem info_l_Block:(Tryz.prog.info? 83).map (fun i=>(i.zero,i.size,i.bytes)) = some (some (.slice none 0 0),1,24):=by kernel_rfl
theorem info_Hold:(Tryz.prog.info? 85).map (fun i=>(i.zero,i.size,i.bytes)) = some (some (.agg #[(.string ⟨#[]⟩),(.int .i64 0),(.int .i64 0),(.int .i64 0)]),4,40):=by kernel_rfl
theorem info_l_Hold:(Tryz.prog.info? 86).map (fun i=>(i.zero,i.size,i.bytes)) = some (some (.slice none 0 0),1,24):=by kernel_rfl
theorem info_Rope:(Tryz.prog.info? 88).map (fun i=>(i.zero,i.size,i.bytes)) = some (some (.agg #[(.string ⟨#[]⟩),(.slice none 0 0),(.bool false)]),3,48):=by kernel_rfl
theorem info_l_Rope:(Tryz.prog.info? 89).map (fun i=>(i.zero,i.size,i.bytes)) = some (some (.slice none 0 0),1,24):=by kernel_rfl
theorem info_System:(Tryz.prog.info? 91).map (fun i=>(i.zero,i.size,i.bytes)) = some (some (.agg #[(.slice none 0 0),(.slice none 0 0)]),2,48):=by kernel_rfl
theorem info_checker:(Tryz.prog.info? 107).map (fun i=>(i.zero,i.size,i.bytes)) = some (some (.agg #[(.int .i64 0),(.int .i64 0),(.int .i64 0)]),3,24):=by kernel_rfl
theorem info_u641:(Tryz.prog.info? 119).map (fun i=>(i.zero,i.size,i.bytes)) = some (some (.int .u64 0),1,8):=by kernel_rfl
theorem info_U:(Tryz.prog.info? 121).map (fun i=>(i.zero,i.size,i.bytes)) = some (some (.agg #[(.int .u64 0),(.int .u64 0)]),2,16):=by kernel_rfl
theorem info_l_l_Set:(Tryz.prog.info? 126).map (fun i=>(i.zero,i.size,i.bytes)) = some (some (.slice none 0 0),1,24):=by kernel_rfl
theorem info_result:(Tryz.prog.info? 139).map (fun i=>(i.zero,i.size,i.bytes)) = some (some (.agg #[(.slice none 0 0),(.int .i64 0)]),2,32):=by kernel_rfl
theorem info_m_result:(Tryz.prog.info? 127).map (fun i=>(i.zero,i.size,i.bytes)) = some (some (.map none),1,8):=by kernel_rfl
theorem info_Store:(Tryz.prog.info? 129).map (fun i=>(i.zero,i.size,i.bytes)) = some (some (.agg #[(.slice none 0 0),(.slice none 0 0),(.map none),(.int .i64 0)]),4,64):=by kernel_rfl
theorem info_l_l_Finding:(Tryz.prog.info? 171).map (fun i=>(i.zero,i.size,i.bytes)) = some (some (.slice none 0 0),1,24):=by kernel_rfl
theorem info_Load:(Tryz.prog.info? 234).map (fun i=>(i.zero,i.size,i.bytes)) = some (some (.agg #[(.int .i64 0),(.int .i64 0)]),2,16):=by kernel_rfl
theorem info_l_Load:(Tryz.prog.info? 174).map (fun i=>(i.zero,i.size,i.bytes)) = some (some (.slice none 0 0),1,24):=by kernel_rfl
theorem info_Beam:(Tryz.prog.info? 176).map (fun i=>(i.zero,i.size,i.bytes)) = some (some (.agg #[(.string ⟨#[]⟩),(.int .i64 0),(.slice none 0 0),(.slice none 0 0),(.int .i64 0)]),5,80):=by kernel_rfl
theorem info_wide:(Tryz.prog.info? 179).map (fun i=>(i.zero,i.size,i.bytes)) = some (some (.agg #[(.int .u64 0),(.int .u64 0)]),2,16):=by kernel_rfl
theorem info_u642:(Tryz.prog.info? 185).map (fun i=>(i.zero,i.size,i.bytes)) = some (some (.int .u64 0),1,8):=by kernel_rfl
theorem info_any:(Tryz.prog.info? 20).map (fun i=>(i.zero,i.size,i.bytes)) = some (some .nilIface,1,16):=by kernel_rfl
theorem info_l_any:(Tryz.prog.info? 187).map (fun i=>(i.zero,i.size,i.bytes)) = some (some (.slice none 0 0),1,24):=by kernel_rfl
theorem info_l_u8:(Tryz.prog.info? 191).map (fun i=>(i.zero,i.size,i.bytes)) = some (some (.slice none 0 0),1,24):=by kernel_rfl
theorem info_search:(Tryz.prog.info? 212).map (fun i=>(i.zero,i.size,i.bytes)) = some (some (.agg #[(.slice none 0 0),(.slice none 0 0)]),2,48):=by kernel_rfl
theorem info_l_l_int1:(Tryz.prog.info? 214).map (fun i=>(i.zero,i.size,i.bytes)) = some (some (.slice none 0 0),1,24):=by kernel_rfl
theorem info_Matrix:(Tryz.prog.info? 215).map (fun i=>(i.zero,i.size,i.bytes)) = some (some (.slice none 0 0),1,24):=by kernel_rfl
theorem info_u32:(Tryz.prog.info? 295).map (fun i=>(i.zero,i.size,i.bytes)) = some (some (.int .u32 0),1,4):=by kernel_rfl
theorem info_l_u32:(Tryz.prog.info? 268).map (fun i=>(i.zero,i.size,i.bytes)) = some (some (.slice none 0 0),1,24):=by kernel_rfl
theorem info_number:(Tryz.prog.info? 270).map (fun i=>(i.zero,i.size,i.bytes)) = some (some (.agg #[(.bool false),(.slice none 0 0)]),2,32):=by kernel_rfl
theorem info_exact:(Tryz.prog.info? 272).map (fun i=>(i.zero,i.size,i.bytes)) = some (some (.agg #[(.bool false),(.slice none 0 0),(.bool false),(.slice none 0 0)]),4,64):=by kernel_rfl
theorem info_l_exact:(Tryz.prog.info? 227).map (fun i=>(i.zero,i.size,i.bytes)) = some (some (.slice none 0 0),1,24):=by kernel_rfl
theorem info_form:(Tryz.prog.info? 256).map (fun i=>(i.zero,i.size,i.bytes)) = some (some (.agg #[(.slice none 0 0),(.int .i64 0),(.slice none 0 0),(.slice none 0 0),(.bool false)]),5,88):=by kernel_rfl
theorem info_l_l_Frac:(Tryz.prog.info? 283).map (fun i=>(i.zero,i.size,i.bytes)) = some (some (.slice none 0 0),1,24):=by kernel_rfl
theorem info_ar302:(Tryz.prog.info? 302).map (fun i=>(i.zero,i.size,i.bytes)) = some (some (.agg #[(.int .u64 0),(.int .u64 0)]),2,16):=by kernel_rfl
theorem info_ar303:(Tryz.prog.info? 303).map (fun i=>(i.zero,i.size,i.bytes)) = some (some (.agg #[(.bool false),(.slice none 0 0),(.bool false),(.slice none 0 0)]),4,64):=by kernel_rfl
theorem info_m_Set:(Tryz.prog.info? 54).map (fun i=>(i.zero,i.size,i.bytes)) = some (some (.map none),1,8):=by kernel_rfl
theorem info_of {t sz by_:Nat} {z:Value} {u:U} (h:(Tryz.prog.info? t).map (fun i=>(i.zero,i.size,i.bytes)) = some (some z,sz,by_)) (hb:by_ ≤ 4096) (hz:z.cells.size = sz) (ha:z.cells.toList.all Value.oneCell' = true)
  (hw:Wk (z.cells.toList.map PV.val) (rowU u (zeroU u))):∃ i z,Tryz.prog.info? t = some i ∧ i.zero = some z ∧ i.size = sz ∧ z.cells.size = sz ∧ i.bytes ≤ 4096 ∧ (∀ (j:Nat) (p:PP),(rowU u (zeroU u))[j]? = some p → ∃ v,z.cells.toList[j]? = some v ∧ Weak G (.val v) p) ∧ ∀ v ∈ z.cells.toList,v.oneCell' = true:=by
 rw [Option.map_eq_some_iff] at h
 obtain ⟨i,hi,he⟩:=h
 simp only [Prod.mk.injEq] at he
 obtain ⟨e1,e2,e3⟩:=he
 refine ⟨i,z,hi,e1,e2,hz,by omega,fun j p hj=>?_,fun v hv=>List.all_eq_true.1 ha v hv⟩
 obtain ⟨h1,h2⟩:=hw.get
 have hlt:j < (z.cells.toList.map (PV.val (U:=U) (El:=El))).length:=by rw [h1];exact (List.getElem?_eq_some_iff.1 hj).1
 obtain ⟨q,h3,h4⟩:=h2 j _ (List.getElem?_eq_getElem hlt)
 rw [hj] at h3
 cases h3
 have hlt':j < z.cells.toList.length:=by simpa using hlt
 exact ⟨z.cells.toList[j],List.getElem?_eq_getElem hlt',by rw [List.getElem_map] at h4;exact h4⟩
theorem flat_of {ps:List G.P'} (h:ps.all (fun p=>match p with | .val _=>true | _=>false) = true):∀ p ∈ ps,∃ v,p = PV.val v:=by
 intro p hp
 have:=List.all_eq_true.1 h p hp
 cases p with
 | val v=>exact ⟨v,rfl⟩
 | sl u l=>cases this
 | mp t u b l=>cases this
theorem rowok_131:RowOk G 131 .ins .Frac:=⟨⟨_,Tryz.func131,by kernel_rfl,by kernel_rfl⟩,ins_row⟩
theorem rowok_133:RowOk G 133 .del .int1:=⟨⟨_,Tryz.func133,by kernel_rfl,by kernel_rfl⟩,del_row⟩
theorem G_ok:G.Ok where
 mixed:=by kernel_rfl
 mapu:=by
  intro t u h
  simp only [G] at h
  split at h
  ·rename_i e;subst e;cases h;exact ⟨9,by kernel_rfl,by kernel_rfl⟩
  split at h
  ·rename_i e;subst e;cases h;exact ⟨9,by kernel_rfl,by kernel_rfl⟩
  cases h
 row_sz:=row_szU
 pos:=by intro u;cases u <;> decide
 unrow:=fun u ps x h=>by
  obtain ⟨h1,h2⟩:=(unrow_w u ps x h).get
  exact ⟨h1.trans (row_szU u x),h2⟩
 info:=by
  intro u
  cases u
  ·exact info_of (u:=.int) info_int (by decide) rfl rfl (.cons (.inl rfl) (.nil))
  ·exact info_of (u:=.int1) info_int1 (by decide) rfl rfl (.cons (.inl rfl) (.nil))
  ·exact info_of (u:=.bool) info_bool (by decide) rfl rfl (.cons (.inl rfl) (.nil))
  ·exact info_of (u:=.u8) info_u8 (by decide) rfl rfl (.cons (.inl rfl) (.nil))
  ·exact info_of (u:=.BoundsErrorCode) info_BoundsErrorCode (by decide) rfl rfl (.cons (.inl rfl) (.nil))
  ·exact info_of (u:=.str) info_str (by decide) rfl rfl (.cons (.inl rfl) (.nil))
  ·exact info_of (u:=.u64) info_u64 (by decide) rfl rfl (.cons (.inl rfl) (.nil))
  ·exact info_of (u:=.errorAddressString) info_errorAddressString (by decide) rfl rfl (.cons (.inl rfl) (.cons (.inl rfl) (.nil)))
  ·exact info_of (u:=.l_int1) info_l_int1 (by decide) rfl rfl (.cons (.inr (.inl ⟨rfl,_,rfl⟩)) (.nil))
  ·exact info_of (u:=.Item) info_Item (by decide) rfl rfl (.cons (.inl rfl) (.cons (.inl rfl) (.cons (.inl rfl) (.cons (.inl rfl) (.cons (.inl rfl) (.cons (.inl rfl) (.cons (.inl rfl) (.nil))))))))
  ·exact info_of (u:=.l_Item) info_l_Item (by decide) rfl rfl (.cons (.inr (.inl ⟨rfl,_,rfl⟩)) (.nil))
  ·exact info_of (u:=.Brick) info_Brick (by decide) rfl rfl (.cons (.inl rfl) (.cons (.inl rfl) (.cons (.inl rfl) (.nil))))
  ·exact info_of (u:=.l_Brick) info_l_Brick (by decide) rfl rfl (.cons (.inr (.inl ⟨rfl,_,rfl⟩)) (.nil))
  ·exact info_of (u:=.Set) info_Set (by decide) rfl rfl (.cons (.inl rfl) (.cons (.inl rfl) (.cons (.inl rfl) (.cons (.inl rfl) (.cons (.inl rfl) (.cons (.inr (.inl ⟨rfl,_,rfl⟩)) (.cons (.inl rfl) (.cons (.inl rfl) (.cons (.inl rfl) (.cons (.inl rfl) (.cons (.inl rfl) (.cons (.inr (.inl ⟨rfl,_,rfl⟩)) (.cons (.inr (.inl ⟨rfl,_,rfl⟩)) (.nil))))))))))))))
  ·exact info_of (u:=.Finding) info_Finding (by decide) rfl rfl (.cons (.inl rfl) (.cons (.inl rfl) (.nil)))
  ·exact info_of (u:=.l_Finding) info_l_Finding (by decide) rfl rfl (.cons (.inr (.inl ⟨rfl,_,rfl⟩)) (.nil))
  ·exact info_of (u:=.Errno) info_Errno (by decide) rfl rfl (.cons (.inl rfl) (.nil))
  ·exact info_of (u:=.Frac) info_Frac (by decide) rfl rfl (.cons (.inl rfl) (.cons (.inl rfl) (.nil)))
  ·exact info_of (u:=.l_Frac) info_l_Frac (by decide) rfl rfl (.cons (.inr (.inl ⟨rfl,_,rfl⟩)) (.nil))
  ·exact info_of (u:=.l_Set) info_l_Set (by decide) rfl rfl (.cons (.inr (.inl ⟨rfl,_,rfl⟩)) (.nil))
  ·exact info_of (u:=.l_str) info_l_str (by decide) rfl rfl (.cons (.inr (.inl ⟨rfl,_,rfl⟩)) (.nil))
  ·exact info_of (u:=.Block) info_Block (by decide) rfl rfl (.cons (.inl rfl) (.cons (.inl rfl) (.nil)))
  ·exact info_of (u:=.l_Block) info_l_Block (by decide) rfl rfl (.cons (.inr (.inl ⟨rfl,_,rfl⟩)) (.nil))
  ·exact info_of (u:=.Hold) info_Hold (by decide) rfl rfl (.cons (.inl rfl) (.cons (.inl rfl) (.cons (.inl rfl) (.cons (.inl rfl) (.nil)))))
  ·exact info_of (u:=.l_Hold) info_l_Hold (by decide) rfl rfl (.cons (.inr (.inl ⟨rfl,_,rfl⟩)) (.nil))
  ·exact info_of (u:=.Rope) info_Rope (by decide) rfl rfl (.cons (.inl rfl) (.cons (.inr (.inl ⟨rfl,_,rfl⟩)) (.cons (.inl rfl) (.nil))))
  ·exact info_of (u:=.l_Rope) info_l_Rope (by decide) rfl rfl (.cons (.inr (.inl ⟨rfl,_,rfl⟩)) (.nil))
  ·exact info_of (u:=.System) info_System (by decide) rfl rfl (.cons (.inr (.inl ⟨rfl,_,rfl⟩)) (.cons (.inr (.inl ⟨rfl,_,rfl⟩)) (.nil)))
  ·exact info_of (u:=.checker) info_checker (by decide) rfl rfl (.cons (.inl rfl) (.cons (.inl rfl) (.cons (.inl rfl) (.nil))))
  ·exact info_of (u:=.u641) info_u641 (by decide) rfl rfl (.cons (.inl rfl) (.nil))
  ·exact info_of (u:=.U) info_U (by decide) rfl rfl (.cons (.inl rfl) (.cons (.inl rfl) (.nil)))
  ·exact info_of (u:=.l_l_Set) info_l_l_Set (by decide) rfl rfl (.cons (.inr (.inl ⟨rfl,_,rfl⟩)) (.nil))
  ·exact info_of (u:=.result) info_result (by decide) rfl rfl (.cons (.inr (.inl ⟨rfl,_,rfl⟩)) (.cons (.inl rfl) (.nil)))
  ·exact info_of (u:=.m_result) info_m_result (by decide) rfl rfl (.cons (.inr (.inr ⟨rfl,_,_,rfl⟩)) (.nil))
  ·exact info_of (u:=.Store) info_Store (by decide) rfl rfl (.cons (.inr (.inl ⟨rfl,_,rfl⟩)) (.cons (.inr (.inl ⟨rfl,_,rfl⟩)) (.cons (.inr (.inr ⟨rfl,_,_,rfl⟩)) (.cons (.inl rfl) (.nil)))))
  ·exact info_of (u:=.l_l_Finding) info_l_l_Finding (by decide) rfl rfl (.cons (.inr (.inl ⟨rfl,_,rfl⟩)) (.nil))
  ·exact info_of (u:=.Load) info_Load (by decide) rfl rfl (.cons (.inl rfl) (.cons (.inl rfl) (.nil)))
  ·exact info_of (u:=.l_Load) info_l_Load (by decide) rfl rfl (.cons (.inr (.inl ⟨rfl,_,rfl⟩)) (.nil))
  ·exact info_of (u:=.Beam) info_Beam (by decide) rfl rfl (.cons (.inl rfl) (.cons (.inl rfl) (.cons (.inr (.inl ⟨rfl,_,rfl⟩)) (.cons (.inr (.inl ⟨rfl,_,rfl⟩)) (.cons (.inl rfl) (.nil))))))
  ·exact info_of (u:=.wide) info_wide (by decide) rfl rfl (.cons (.inl rfl) (.cons (.inl rfl) (.nil)))
  ·exact info_of (u:=.u642) info_u642 (by decide) rfl rfl (.cons (.inl rfl) (.nil))
  ·exact info_of (u:=.any) info_any (by decide) rfl rfl (.cons (.inl rfl) (.nil))
  ·exact info_of (u:=.l_any) info_l_any (by decide) rfl rfl (.cons (.inr (.inl ⟨rfl,_,rfl⟩)) (.nil))
  ·exact info_of (u:=.l_u8) info_l_u8 (by decide) rfl rfl (.cons (.inr (.inl ⟨rfl,_,rfl⟩)) (.nil))
  ·exact info_of (u:=.search) info_search (by decide) rfl rfl (.cons (.inr (.inl ⟨rfl,_,rfl⟩)) (.cons (.inr (.inl ⟨rfl,_,rfl⟩)) (.nil)))
  ·exact info_of (u:=.l_l_int1) info_l_l_int1 (by decide) rfl rfl (.cons (.inr (.inl ⟨rfl,_,rfl⟩)) (.nil))
  ·exact info_of (u:=.Matrix) info_Matrix (by decide) rfl rfl (.cons (.inr (.inl ⟨rfl,_,rfl⟩)) (.nil))
  ·exact info_of (u:=.u32) info_u32 (by decide) rfl rfl (.cons (.inl rfl) (.nil))
  ·exact info_of (u:=.l_u32) info_l_u32 (by decide) rfl rfl (.cons (.inr (.inl ⟨rfl,_,rfl⟩)) (.nil))
  ·exact info_of (u:=.number) info_number (by decide) rfl rfl (.cons (.inl rfl) (.cons (.inr (.inl ⟨rfl,_,rfl⟩)) (.nil)))
  ·exact info_of (u:=.exact) info_exact (by decide) rfl rfl (.cons (.inl rfl) (.cons (.inr (.inl ⟨rfl,_,rfl⟩)) (.cons (.inl rfl) (.cons (.inr (.inl ⟨rfl,_,rfl⟩)) (.nil)))))
  ·exact info_of (u:=.l_exact) info_l_exact (by decide) rfl rfl (.cons (.inr (.inl ⟨rfl,_,rfl⟩)) (.nil))
  ·exact info_of (u:=.form) info_form (by decide) rfl rfl (.cons (.inr (.inl ⟨rfl,_,rfl⟩)) (.cons (.inl rfl) (.cons (.inr (.inl ⟨rfl,_,rfl⟩)) (.cons (.inr (.inl ⟨rfl,_,rfl⟩)) (.cons (.inl rfl) (.nil))))))
  ·exact info_of (u:=.l_l_Frac) info_l_l_Frac (by decide) rfl rfl (.cons (.inr (.inl ⟨rfl,_,rfl⟩)) (.nil))
  ·exact info_of (u:=.ar302) info_ar302 (by decide) rfl rfl (.cons (.inl rfl) (.cons (.inl rfl) (.nil)))
  ·exact info_of (u:=.ar303) info_ar303 (by decide) rfl rfl (.cons (.inl rfl) (.cons (.inr (.inl ⟨rfl,_,rfl⟩)) (.cons (.inl rfl) (.cons (.inr (.inl ⟨rfl,_,rfl⟩)) (.nil)))))
  ·exact info_of (u:=.m_Set) info_m_Set (by decide) rfl rfl (.cons (.inr (.inr ⟨rfl,_,_,rfl⟩)) (.nil))
 elt:=by
  intro t u h
  unfold G eltU at h
  simp only at h
  split at h
  ·cases h;kernel_rfl
  ·cases h;kernel_rfl
  ·cases h;kernel_rfl
  ·cases h;kernel_rfl
  ·cases h;kernel_rfl
  ·cases h;kernel_rfl
  ·cases h;kernel_rfl
  ·cases h;kernel_rfl
  ·cases h;kernel_rfl
  ·cases h;kernel_rfl
  ·cases h;kernel_rfl
  ·cases h;kernel_rfl
  ·cases h;kernel_rfl
  ·cases h;kernel_rfl
  ·cases h;kernel_rfl
  ·cases h;kernel_rfl
  ·cases h;kernel_rfl
  ·cases h;kernel_rfl
  ·cases h;kernel_rfl
  ·cases h;kernel_rfl
  ·cases h
 ag:=by
  intro u
  cases u
  ·exact ⟨(Tryz.prog.underlying 2).get (by kernel_rfl),(Option.some_get _).symm,by kernel_rfl⟩
  ·exact ⟨(Tryz.prog.underlying 3).get (by kernel_rfl),(Option.some_get _).symm,by kernel_rfl⟩
  ·exact ⟨(Tryz.prog.underlying 4).get (by kernel_rfl),(Option.some_get _).symm,by kernel_rfl⟩
  ·exact ⟨(Tryz.prog.underlying 5).get (by kernel_rfl),(Option.some_get _).symm,by kernel_rfl⟩
  ·exact ⟨(Tryz.prog.underlying 6).get (by kernel_rfl),(Option.some_get _).symm,by kernel_rfl⟩
  ·exact ⟨(Tryz.prog.underlying 9).get (by kernel_rfl),(Option.some_get _).symm,by kernel_rfl⟩
  ·exact ⟨(Tryz.prog.underlying 12).get (by kernel_rfl),(Option.some_get _).symm,by kernel_rfl⟩
  ·exact ⟨(Tryz.prog.underlying 14).get (by kernel_rfl),(Option.some_get _).symm,by kernel_rfl⟩
  ·exact ⟨(Tryz.prog.underlying 22).get (by kernel_rfl),(Option.some_get _).symm,by kernel_rfl⟩
  ·exact ⟨(Tryz.prog.underlying 97).get (by kernel_rfl),(Option.some_get _).symm,by kernel_rfl⟩
  ·exact ⟨(Tryz.prog.underlying 23).get (by kernel_rfl),(Option.some_get _).symm,by kernel_rfl⟩
  ·exact ⟨(Tryz.prog.underlying 99).get (by kernel_rfl),(Option.some_get _).symm,by kernel_rfl⟩
  ·exact ⟨(Tryz.prog.underlying 24).get (by kernel_rfl),(Option.some_get _).symm,by kernel_rfl⟩
  ·exact ⟨(Tryz.prog.underlying 26).get (by kernel_rfl),(Option.some_get _).symm,by kernel_rfl⟩
  ·exact ⟨(Tryz.prog.underlying 65).get (by kernel_rfl),(Option.some_get _).symm,by kernel_rfl⟩
  ·exact ⟨(Tryz.prog.underlying 30).get (by kernel_rfl),(Option.some_get _).symm,by kernel_rfl⟩
  ·exact ⟨(Tryz.prog.underlying 31).get (by kernel_rfl),(Option.some_get _).symm,by kernel_rfl⟩
  ·exact ⟨(Tryz.prog.underlying 35).get (by kernel_rfl),(Option.some_get _).symm,by kernel_rfl⟩
  ·exact ⟨(Tryz.prog.underlying 46).get (by kernel_rfl),(Option.some_get _).symm,by kernel_rfl⟩
  ·exact ⟨(Tryz.prog.underlying 50).get (by kernel_rfl),(Option.some_get _).symm,by kernel_rfl⟩
  ·exact ⟨(Tryz.prog.underlying 58).get (by kernel_rfl),(Option.some_get _).symm,by kernel_rfl⟩
  ·exact ⟨(Tryz.prog.underlying 82).get (by kernel_rfl),(Option.some_get _).symm,by kernel_rfl⟩
  ·exact ⟨(Tryz.prog.underlying 83).get (by kernel_rfl),(Option.some_get _).symm,by kernel_rfl⟩
  ·exact ⟨(Tryz.prog.underlying 85).get (by kernel_rfl),(Option.some_get _).symm,by kernel_rfl⟩
  ·exact ⟨(Tryz.prog.underlying 86).get (by kernel_rfl),(Option.some_get _).symm,by kernel_rfl⟩
  ·exact ⟨(Tryz.prog.underlying 88).get (by kernel_rfl),(Option.some_get _).symm,by kernel_rfl⟩
  ·exact ⟨(Tryz.prog.underlying 89).get (by kernel_rfl),(Option.some_get _).symm,by kernel_rfl⟩
  ·exact ⟨(Tryz.prog.underlying 91).get (by kernel_rfl),(Option.some_get _).symm,by kernel_rfl⟩
  ·exact ⟨(Tryz.prog.underlying 107).get (by kernel_rfl),(Option.some_get _).symm,by kernel_rfl⟩
  ·exact ⟨(Tryz.prog.underlying 119).get (by kernel_rfl),(Option.some_get _).symm,by kernel_rfl⟩
  ·exact ⟨(Tryz.prog.underlying 121).get (by kernel_rfl),(Option.some_get _).symm,by kernel_rfl⟩
  ·exact ⟨(Tryz.prog.underlying 126).get (by kernel_rfl),(Option.some_get _).symm,by kernel_rfl⟩
  ·exact ⟨(Tryz.prog.underlying 139).get (by kernel_rfl),(Option.some_get _).symm,by kernel_rfl⟩
  ·exact ⟨(Tryz.prog.underlying 127).get (by kernel_rfl),(Option.some_get _).symm,by kernel_rfl⟩
  ·exact ⟨(Tryz.prog.underlying 129).get (by kernel_rfl),(Option.some_get _).symm,by kernel_rfl⟩
  ·exact ⟨(Tryz.prog.underlying 171).get (by kernel_rfl),(Option.some_get _).symm,by kernel_rfl⟩
  ·exact ⟨(Tryz.prog.underlying 234).get (by kernel_rfl),(Option.some_get _).symm,by kernel_rfl⟩
  ·exact ⟨(Tryz.prog.underlying 174).get (by kernel_rfl),(Option.some_get _).symm,by kernel_rfl⟩
  ·exact ⟨(Tryz.prog.underlying 176).get (by kernel_rfl),(Option.some_get _).symm,by kernel_rfl⟩
  ·exact ⟨(Tryz.prog.underlying 179).get (by kernel_rfl),(Option.some_get _).symm,by kernel_rfl⟩
  ·exact ⟨(Tryz.prog.underlying 185).get (by kernel_rfl),(Option.some_get _).symm,by kernel_rfl⟩
  ·exact ⟨(Tryz.prog.underlying 20).get (by kernel_rfl),(Option.some_get _).symm,by kernel_rfl⟩
  ·exact ⟨(Tryz.prog.underlying 187).get (by kernel_rfl),(Option.some_get _).symm,by kernel_rfl⟩
  ·exact ⟨(Tryz.prog.underlying 191).get (by kernel_rfl),(Option.some_get _).symm,by kernel_rfl⟩
  ·exact ⟨(Tryz.prog.underlying 212).get (by kernel_rfl),(Option.some_get _).symm,by kernel_rfl⟩
  ·exact ⟨(Tryz.prog.underlying 214).get (by kernel_rfl),(Option.some_get _).symm,by kernel_rfl⟩
  ·exact ⟨(Tryz.prog.underlying 215).get (by kernel_rfl),(Option.some_get _).symm,by kernel_rfl⟩
  ·exact ⟨(Tryz.prog.underlying 295).get (by kernel_rfl),(Option.some_get _).symm,by kernel_rfl⟩
  ·exact ⟨(Tryz.prog.underlying 268).get (by kernel_rfl),(Option.some_get _).symm,by kernel_rfl⟩
  ·exact ⟨(Tryz.prog.underlying 270).get (by kernel_rfl),(Option.some_get _).symm,by kernel_rfl⟩
  ·exact ⟨(Tryz.prog.underlying 272).get (by kernel_rfl),(Option.some_get _).symm,by kernel_rfl⟩
  ·exact ⟨(Tryz.prog.underlying 227).get (by kernel_rfl),(Option.some_get _).symm,by kernel_rfl⟩
  ·exact ⟨(Tryz.prog.underlying 256).get (by kernel_rfl),(Option.some_get _).symm,by kernel_rfl⟩
  ·exact ⟨(Tryz.prog.underlying 283).get (by kernel_rfl),(Option.some_get _).symm,by kernel_rfl⟩
  ·exact ⟨(Tryz.prog.underlying 302).get (by kernel_rfl),(Option.some_get _).symm,by kernel_rfl⟩
  ·exact ⟨(Tryz.prog.underlying 303).get (by kernel_rfl),(Option.some_get _).symm,by kernel_rfl⟩
  ·exact ⟨(Tryz.prog.underlying 54).get (by kernel_rfl),(Option.some_get _).symm,by kernel_rfl⟩
 one:=by intro u h;cases u <;> first | rfl | (exfalso;revert h;decide)
 seq:=by
  intro f b u h
  simp only [G] at h
  split at h
  ·rename_i e;subst e;cases h;exact seq_275
  cases h
 flat:=by
  intro u h x p hp
  cases u
  ·exact flat_of rfl p hp
  ·exact flat_of rfl p hp
  ·exact flat_of rfl p hp
  ·exact flat_of rfl p hp
  ·exact flat_of rfl p hp
  ·exact flat_of rfl p hp
  ·exact flat_of rfl p hp
  ·exact flat_of rfl p hp
  ·cases h
  ·exact flat_of rfl p hp
  ·cases h
  ·exact flat_of rfl p hp
  ·cases h
  ·cases h
  ·exact flat_of rfl p hp
  ·cases h
  ·exact flat_of rfl p hp
  ·exact flat_of rfl p hp
  ·cases h
  ·cases h
  ·cases h
  ·exact flat_of rfl p hp
  ·cases h
  ·exact flat_of rfl p hp
  ·cases h
  ·cases h
  ·cases h
  ·cases h
  ·exact flat_of rfl p hp
  ·exact flat_of rfl p hp
  ·exact flat_of rfl p hp
  ·cases h
  ·cases h
  ·cases h
  ·cases h
  ·cases h
  ·exact flat_of rfl p hp
  ·cases h
  ·cases h
  ·exact flat_of rfl p hp
  ·exact flat_of rfl p hp
  ·exact flat_of rfl p hp
  ·cases h
  ·cases h
  ·cases h
  ·cases h
  ·cases h
  ·exact flat_of rfl p hp
  ·cases h
  ·cases h
  ·cases h
  ·cases h
  ·cases h
  ·cases h
  ·exact flat_of rfl p hp
  ·cases h
  ·cases h
 rowf:=by
  intro f k u h
  simp only [G] at h
  split at h
  ·rename_i e;subst e;cases h;exact rowok_131
  split at h
  ·rename_i e;subst e;cases h;exact rowok_133
  cases h
 ext:=by
  intro f e h
  unfold G extF at h
  simp only at h
  split at h
  ·cases h;exact ⟨_,Tryz.func189,by kernel_rfl,by kernel_rfl,by kernel_rfl,by kernel_rfl⟩
  ·cases h;exact ⟨_,Tryz.func190,by kernel_rfl,by kernel_rfl,by kernel_rfl,by kernel_rfl⟩
  ·cases h
theorem fk {K:G.KT} (hK:CallOk G K) {f:FuncId} {fn:Func} (hf:Tryz.prog.funcs[f]? = some fn) {an:An G.U} {k:Nat} {res:List ResultVar} {fe:Fe G} (hev:∀ x:TyP G fe.ps,evF G K (bodyOf fn) an k res fe.rs (argT G fe.ps x) = fe.fn x) (hn:(fn.name == "runtime.NumGoroutine") = false:=by kernel_rfl) (hb:fn.body.isSome = true:=by kernel_rfl) (hk:(fn.ntmps == k) = true:=by kernel_rfl) (hfz:G.fz f = false:=by kernel_rfl) (hres:fn.results = res.toArray:=by kernel_rfl):FnOk G f fe:=fnOk_of G_ok hK hf hn hb hk hfz hres hev
def W_int1 (x:Int):Prop:=(Lit.int .i64 x).wf = true
def W_str (x:ByteArray):Prop:=x.size ≤ maxLen
def W_l_int1 (x:List Int):Prop:=x.length ≤ maxLen ∧ ∀ a ∈ x,W_int1 a
def W_Item (x:TItem):Prop:=W_str x.name ∧ W_int1 x.at_ ∧ W_int1 x.width ∧ W_int1 x.weight ∧ W_int1 x.hang ∧ W_int1 x.front ∧ W_int1 x.back
def W_l_Item (x:List TItem):Prop:=x.length ≤ maxLen ∧ ∀ a ∈ x,W_Item a
def W_Brick (x:TBrick):Prop:=W_str x.name ∧ W_int1 x.weight ∧ W_int1 x.count
def W_l_Brick (x:List TBrick):Prop:=x.length ≤ maxLen ∧ ∀ a ∈ x,W_Brick a
def W_Set (x:TSet):Prop:=W_str x.name ∧ W_int1 x.depth ∧ W_int1 x.low ∧ W_int1 x.high ∧ W_int1 x.length ∧ W_l_int1 x.lines ∧ W_int1 x.pipe ∧ W_int1 x.arbor ∧ W_int1 x.purchase ∧ W_int1 x.most ∧ W_int1 x.brake ∧ W_l_Item x.items ∧ W_l_Brick x.bricks
def W_l_Set (x:List TSet):Prop:=x.length ≤ maxLen ∧ ∀ a ∈ x,W_Set a
theorem op_int1:Opens G .int1 W_int1:=opens_int (G:=G) (u:=.int1) (by kernel_rfl) (fun z=>z) (fun _=>rfl) (fun _ h=>h)
theorem op_str:Opens G .str W_str:=opens_str (G:=G) (u:=.str) (by kernel_rfl) (fun z=>z) (fun _=>rfl) (fun _ h=>h)
theorem op_l_int1:Opens G .l_int1 W_l_int1:=opens_slice (G:=G) G_ok (u:=.l_int1) (e:=.int1) (te:=3) (by kernel_rfl) rfl (by kernel_rfl) (fun z=>z) (fun _=>rfl) op_int1 (fun _ h1 h2=>⟨h1,h2⟩)
theorem op_Item:Opens G .Item W_Item:=by
 intro H enc w base spare held fuel cs x h
 have hu:Tryz.prog.underlying (G.ty .Item) = some (.struct (fieldsOf Tryz.prog (G.ty .Item))):=by kernel_rfl
 obtain ⟨xs,n,_,_,hl,hlen,hf⟩:=DataW.trod_struct hu h
 obtain ⟨a0,r0,w0⟩:=field_at (G:=G) hlen hf (i:=0) (f:=fldOf Tryz.prog (G.ty .Item) 0) (by kernel_rfl) (u:=.str) (off:=0) (by kernel_rfl) (by kernel_rfl) (by kernel_rfl) op_str
 obtain ⟨a1,r1,w1⟩:=field_at (G:=G) hlen hf (i:=1) (f:=fldOf Tryz.prog (G.ty .Item) 1) (by kernel_rfl) (u:=.int1) (off:=1) (by kernel_rfl) (by kernel_rfl) (by kernel_rfl) op_int1
 obtain ⟨a2,r2,w2⟩:=field_at (G:=G) hlen hf (i:=2) (f:=fldOf Tryz.prog (G.ty .Item) 2) (by kernel_rfl) (u:=.int1) (off:=2) (by kernel_rfl) (by kernel_rfl) (by kernel_rfl) op_int1
 obtain ⟨a3,r3,w3⟩:=field_at (G:=G) hlen hf (i:=3) (f:=fldOf Tryz.prog (G.ty .Item) 3) (by kernel_rfl) (u:=.int1) (off:=3) (by kernel_rfl) (by kernel_rfl) (by kernel_rfl) op_int1
 obtain ⟨a4,r4,w4⟩:=field_at (G:=G) hlen hf (i:=4) (f:=fldOf Tryz.prog (G.ty .Item) 4) (by kernel_rfl) (u:=.int1) (off:=4) (by kernel_rfl) (by kernel_rfl) (by kernel_rfl) op_int1
 obtain ⟨a5,r5,w5⟩:=field_at (G:=G) hlen hf (i:=5) (f:=fldOf Tryz.prog (G.ty .Item) 5) (by kernel_rfl) (u:=.int1) (off:=5) (by kernel_rfl) (by kernel_rfl) (by kernel_rfl) op_int1
 obtain ⟨a6,r6,w6⟩:=field_at (G:=G) hlen hf (i:=6) (f:=fldOf Tryz.prog (G.ty .Item) 6) (by kernel_rfl) (u:=.int1) (off:=6) (by kernel_rfl) (by kernel_rfl) (by kernel_rfl) op_int1
 have hsz:cs.length = 7:=hl.trans (by kernel_rfl)
 have h7:PRep G w (cs.drop 7) []:=by rw [List.drop_of_length_le (by omega)];exact .nil
 have h6:=r6.part rfl h7
 have h5:=r5.part rfl h6
 have h4:=r4.part rfl h5
 have h3:=r3.part rfl h4
 have h2:=r2.part rfl h3
 have h1:=r1.part rfl h2
 have h0:=r0.part rfl h1
 exact ⟨⟨a0,a1,a2,a3,a4,a5,a6⟩,by rw [List.drop_zero] at h0;exact h0,⟨w0,w1,w2,w3,w4,w5,w6⟩⟩
theorem op_l_Item:Opens G .l_Item W_l_Item:=opens_slice (G:=G) G_ok (u:=.l_Item) (e:=.Item) (te:=97) (by kernel_rfl) rfl (by kernel_rfl) (fun z=>z) (fun _=>rfl) op_Item (fun _ h1 h2=>⟨h1,h2⟩)
theorem op_Brick:Opens G .Brick W_Brick:=by
 intro H enc w base spare held fuel cs x h
 have hu:Tryz.prog.underlying (G.ty .Brick) = some (.struct (fieldsOf Tryz.prog (G.ty .Brick))):=by kernel_rfl
 obtain ⟨xs,n,_,_,hl,hlen,hf⟩:=DataW.trod_struct hu h
 obtain ⟨a0,r0,w0⟩:=field_at (G:=G) hlen hf (i:=0) (f:=fldOf Tryz.prog (G.ty .Brick) 0) (by kernel_rfl) (u:=.str) (off:=0) (by kernel_rfl) (by kernel_rfl) (by kernel_rfl) op_str
 obtain ⟨a1,r1,w1⟩:=field_at (G:=G) hlen hf (i:=1) (f:=fldOf Tryz.prog (G.ty .Brick) 1) (by kernel_rfl) (u:=.int1) (off:=1) (by kernel_rfl) (by kernel_rfl) (by kernel_rfl) op_int1
 obtain ⟨a2,r2,w2⟩:=field_at (G:=G) hlen hf (i:=2) (f:=fldOf Tryz.prog (G.ty .Brick) 2) (by kernel_rfl) (u:=.int1) (off:=2) (by kernel_rfl) (by kernel_rfl) (by kernel_rfl) op_int1
 have hsz:cs.length = 3:=hl.trans (by kernel_rfl)
 have h3:PRep G w (cs.drop 3) []:=by rw [List.drop_of_length_le (by omega)];exact .nil
 have h2:=r2.part rfl h3
 have h1:=r1.part rfl h2
 have h0:=r0.part rfl h1
 exact ⟨⟨a0,a1,a2⟩,by rw [List.drop_zero] at h0;exact h0,⟨w0,w1,w2⟩⟩
theorem op_l_Brick:Opens G .l_Brick W_l_Brick:=opens_slice (G:=G) G_ok (u:=.l_Brick) (e:=.Brick) (te:=99) (by kernel_rfl) rfl (by kernel_rfl) (fun z=>z) (fun _=>rfl) op_Brick (fun _ h1 h2=>⟨h1,h2⟩)
theorem op_Set:Opens G .Set W_Set:=by
 intro H enc w base spare held fuel cs x h
 have hu:Tryz.prog.underlying (G.ty .Set) = some (.struct (fieldsOf Tryz.prog (G.ty .Set))):=by kernel_rfl
 obtain ⟨xs,n,_,_,hl,hlen,hf⟩:=DataW.trod_struct hu h
 obtain ⟨a0,r0,w0⟩:=field_at (G:=G) hlen hf (i:=0) (f:=fldOf Tryz.prog (G.ty .Set) 0) (by kernel_rfl) (u:=.str) (off:=0) (by kernel_rfl) (by kernel_rfl) (by kernel_rfl) op_str
 obtain ⟨a1,r1,w1⟩:=field_at (G:=G) hlen hf (i:=1) (f:=fldOf Tryz.prog (G.ty .Set) 1) (by kernel_rfl) (u:=.int1) (off:=1) (by kernel_rfl) (by kernel_rfl) (by kernel_rfl) op_int1
 obtain ⟨a2,r2,w2⟩:=field_at (G:=G) hlen hf (i:=2) (f:=fldOf Tryz.prog (G.ty .Set) 2) (by kernel_rfl) (u:=.int1) (off:=2) (by kernel_rfl) (by kernel_rfl) (by kernel_rfl) op_int1
 obtain ⟨a3,r3,w3⟩:=field_at (G:=G) hlen hf (i:=3) (f:=fldOf Tryz.prog (G.ty .Set) 3) (by kernel_rfl) (u:=.int1) (off:=3) (by kernel_rfl) (by kernel_rfl) (by kernel_rfl) op_int1
 obtain ⟨a4,r4,w4⟩:=field_at (G:=G) hlen hf (i:=4) (f:=fldOf Tryz.prog (G.ty .Set) 4) (by kernel_rfl) (u:=.int1) (off:=4) (by kernel_rfl) (by kernel_rfl) (by kernel_rfl) op_int1
 obtain ⟨a5,r5,w5⟩:=field_at (G:=G) hlen hf (i:=5) (f:=fldOf Tryz.prog (G.ty .Set) 5) (by kernel_rfl) (u:=.l_int1) (off:=5) (by kernel_rfl) (by kernel_rfl) (by kernel_rfl) op_l_int1
 obtain ⟨a6,r6,w6⟩:=field_at (G:=G) hlen hf (i:=6) (f:=fldOf Tryz.prog (G.ty .Set) 6) (by kernel_rfl) (u:=.int1) (off:=6) (by kernel_rfl) (by kernel_rfl) (by kernel_rfl) op_int1
 obtain ⟨a7,r7,w7⟩:=field_at (G:=G) hlen hf (i:=7) (f:=fldOf Tryz.prog (G.ty .Set) 7) (by kernel_rfl) (u:=.int1) (off:=7) (by kernel_rfl) (by kernel_rfl) (by kernel_rfl) op_int1
 obtain ⟨a8,r8,w8⟩:=field_at (G:=G) hlen hf (i:=8) (f:=fldOf Tryz.prog (G.ty .Set) 8) (by kernel_rfl) (u:=.int1) (off:=8) (by kernel_rfl) (by kernel_rfl) (by kernel_rfl) op_int1
 obtain ⟨a9,r9,w9⟩:=field_at (G:=G) hlen hf (i:=9) (f:=fldOf Tryz.prog (G.ty .Set) 9) (by kernel_rfl) (u:=.int1) (off:=9) (by kernel_rfl) (by kernel_rfl) (by kernel_rfl) op_int1
 obtain ⟨a10,r10,w10⟩:=field_at (G:=G) hlen hf (i:=10) (f:=fldOf Tryz.prog (G.ty .Set) 10) (by kernel_rfl) (u:=.int1) (off:=10) (by kernel_rfl) (by kernel_rfl) (by kernel_rfl) op_int1
 obtain ⟨a11,r11,w11⟩:=field_at (G:=G) hlen hf (i:=11) (f:=fldOf Tryz.prog (G.ty .Set) 11) (by kernel_rfl) (u:=.l_Item) (off:=11) (by kernel_rfl) (by kernel_rfl) (by kernel_rfl) op_l_Item
 obtain ⟨a12,r12,w12⟩:=field_at (G:=G) hlen hf (i:=12) (f:=fldOf Tryz.prog (G.ty .Set) 12) (by kernel_rfl) (u:=.l_Brick) (off:=12) (by kernel_rfl) (by kernel_rfl) (by kernel_rfl) op_l_Brick
 have hsz:cs.length = 13:=hl.trans (by kernel_rfl)
 have h13:PRep G w (cs.drop 13) []:=by rw [List.drop_of_length_le (by omega)];exact .nil
 have h12:=r12.part rfl h13
 have h11:=r11.part rfl h12
 have h10:=r10.part rfl h11
 have h9:=r9.part rfl h10
 have h8:=r8.part rfl h9
 have h7:=r7.part rfl h8
 have h6:=r6.part rfl h7
 have h5:=r5.part rfl h6
 have h4:=r4.part rfl h5
 have h3:=r3.part rfl h4
 have h2:=r2.part rfl h3
 have h1:=r1.part rfl h2
 have h0:=r0.part rfl h1
 exact ⟨⟨a0,a1,a2,a3,a4,a5,a6,a7,a8,a9,a10,a11,a12⟩,by rw [List.drop_zero] at h0;exact h0,⟨w0,w1,w2,w3,w4,w5,w6,w7,w8,w9,w10,w11,w12⟩⟩
theorem op_l_Set:Opens G .l_Set W_l_Set:=opens_slice (G:=G) G_ok (u:=.l_Set) (e:=.Set) (te:=26) (by kernel_rfl) rfl (by kernel_rfl) (fun z=>z) (fun _=>rfl) op_Set (fun _ h1 h2=>⟨h1,h2⟩)
end Go.Proofs.YtgbicnkpnhifgaaGreatDoor
