/- Joined by merge.py: Fn1. -/
import Derived.Test.YtgbicnkpnhifgaaGreatDoorM05
set_option linter.unusedSectionVars false
set_option linter.unusedVariables false
set_option linter.unusedSimpArgs false
namespace Go.Proofs.YtgbicnkpnhifgaaGreatDoor
open Go.RowKit
noncomputable section
def F_math_bits_Len64 (x:Int):Option (Int) :=
 ((bif (decide (x ≥ 4294967296)) then some ((x.fdiv (2 ^ min (Int.toNat 32) IntKind.u64.bits)),32,()) else some (x,0,())):Option (Int × Int × Unit)).bind fun y1=>((bif (decide (y1.1 ≥ 65536)) then some ((y1.1.fdiv (2 ^ min (Int.toNat 16) IntKind.u64.bits)),(IntKind.i64.wrap (y1.2.1 + 16)),()) else some (y1.1,y1.2.1,())):Option (Int × Int × Unit)).bind fun y2=>((bif (decide (y2.1 ≥ 256)) then some ((y2.1.fdiv (2 ^ min (Int.toNat 8) IntKind.u64.bits)),(IntKind.i64.wrap (y2.2.1 + 8)),()) else some (y2.1,y2.2.1,())):Option (Int × Int × Unit)).bind fun y3=>(idxB (⟨#[0,1,2,2,3,3,3,3,4,4,4,4,4,4,4,4,5,5,5,5,5,5,5,5,5,5,5,5,5,5,5,5,6,6,6,6,6,6,6,6,6,6,6,6,6,6,6,6,6,6,6,6,6,6,6,6,6,6,6,6,6,6,6,6,7,7,7,7,7,7,7,7,7,7,7,7,7,7,7,7,7,7,7,7,7,7,7,7,7,7,7,7,7,7,7,7,7,7,7,7,7,7,7,7,7,7,7,7,7,7,7,7,7,7,7,7,7,7,7,7,7,7,7,7,7,7,7,7,8,8,8,8,8,8,8,8,8,8,8,8,8,8,8,8,8,8,8,8,8,8,8,8,8,8,8,8,8,8,8,8,8,8,8,8,8,8,8,8,8,8,8,8,8,8,8,8,8,8,8,8,8,8,8,8,8,8,8,8,8,8,8,8,8,8,8,8,8,8,8,8,8,8,8,8,8,8,8,8,8,8,8,8,8,8,8,8,8,8,8,8,8,8,8,8,8,8,8,8,8,8,8,8,8,8,8,8,8,8,8,8,8,8,8,8,8,8,8,8,8,8,8,8,8,8,8,8]⟩:ByteArray) (IntKind.u8.wrap y3.1)).bind fun b4=>some (IntKind.i64.wrap (y3.2.1 + (IntKind.i64.wrap ((b4.toNat:Nat):Int))))
def an_math_bits_Len64:An U:=(.node none .nil (.node (some ⟨[],[],⟨[],[]⟩,[(.normal,⟨[(0,.tv .u64),(2,.tv .int)],[]⟩)]⟩) .nil (.node (some ⟨[],[],⟨[],[]⟩,[(.normal,⟨[(0,.tv .u64),(2,.tv .int)],[]⟩)]⟩) .nil (.node (some ⟨[],[],⟨[],[]⟩,[(.normal,⟨[(0,.tv .u64),(2,.tv .int)],[]⟩)]⟩) .nil .nil))))
def fe_math_bits_Len64:Fe G:=⟨[.v .u641],[.int1],fun x=>F_math_bits_Len64 x.1⟩
theorem ok_math_bits_Len64:FnOk G 235 fe_math_bits_Len64:=fk (an:=an_math_bits_Len64) (k:=25) (res:=[.tmp 2]) (lstK_ok G_ok (lnil)) Tryz.func235 fun _=>by kernel_rfl
def F_beam_Valid_1 (x:TLoad) (a1:TBeam):Option (Bool) :=
 ((bif (decide (x.at_ < 0)) then some (true,()) else (bif (decide (x.at_ > a1.length)) then some (true,()) else (bif (decide (x.weight < 0)) then some (true,()) else some ((decide (x.weight > 67108864)),())))):Option (Bool × Unit)).bind fun y1=>some y1.1
def an_beam_Valid_1:An U:=(.node none .nil (.node (some ⟨[],[],⟨[],[]⟩,[(.normal,⟨[(3,.tv .bool)],[]⟩)]⟩) .nil .nil))
def fe_beam_Valid_1:Fe G:=⟨[.v .Load,.rp .Beam],[.bool],fun x=>F_beam_Valid_1 x.1 x.2.1⟩
theorem ok_beam_Valid_1:FnOk G 240 fe_beam_Valid_1:=fk (an:=an_beam_Valid_1) (k:=24) (res:=[.tmp 3]) (lstK_ok G_ok (lnil)) Tryz.func240 fun _=>by kernel_rfl
def F_beam_number__sign (a:Tnumber):Option (Int) :=
 (bif (((a.words.length:Nat):Int) == 0) then some 0 else (bif a.neg then some (-1) else some 1))
def fe_beam_number__sign:Fe G:=⟨[.v .number],[.int1],fun x=>F_beam_number__sign x.1⟩
theorem ok_beam_number__sign:FnOk G 242 fe_beam_number__sign:=fk (an:=.nil) (k:=11) (res:=[.tmp 2]) (lstK_ok G_ok (lnil)) Tryz.func242 fun _=>by kernel_rfl
def F_beam_number__opposite (a:Tnumber):Option (Tnumber) :=
 some (Tnumber.mk (!a.neg) a.words)
def an_beam_number__opposite:An U:=.nil
def fe_beam_number__opposite:Fe G:=⟨[.v .number],[.number],fun x=>F_beam_number__opposite x.1⟩
def tb_beam_number__opposite:List (FuncId × Fe G):=[]
theorem ev_beam_number__opposite (x:TyP G fe_beam_number__opposite.ps):evZ G (lstK G tb_beam_number__opposite) (bodyOf Tryz.f250) an_beam_number__opposite 9 [.cell 2 270] fe_beam_number__opposite.rs (argT G fe_beam_number__opposite.ps x) = fe_beam_number__opposite.fn x:=by kernel_rfl
theorem ok_beam_number__opposite:FnOk G 250 fe_beam_number__opposite:=fnOkz_of G_ok (fun _=>lstK_ok G_ok (lnil)) Tryz.func250 (by kernel_rfl) (by kernel_rfl) (by kernel_rfl) (by kernel_rfl) (by kernel_rfl) ev_beam_number__opposite
def F_slices_IndexFunc___int (s:List (List Int)) (f:(List Int) → Option Bool):Option (Int) :=
 (iterF (σ:=Int × Unit) (ρ:=(Int × Unit) ⊕ (Unit)) (fun s3=>(bif (decide (s3.1 < ((s.length:Nat):Int))) then (idx s s3.1).bind fun x4=>(f x4).bind fun r5=>(bif r5 then some (.inr (.inl (s3.1,()))) else some (.inl ((IntKind.i64.wrap (s3.1 + 1)),()))) else some (.inr (.inr ((())))))) big (0,())).bind fun y6=>(match y6 with | .inl y7=>some y7.1 | .inr y8=>some (-1))
def an_slices_IndexFunc___int:An U:=(.node none .nil (.node none (.node none .nil (.node none (.node (some ⟨[0,1,7],[],⟨[(8,.tv .int)],[]⟩,[(.ret,⟨[(4,.tv .int)],[]⟩),(.exit 0,⟨[],[]⟩)]⟩) .nil .nil) .nil)) .nil))
def fe_slices_IndexFunc___int:Fe G:=⟨[.v .Matrix,.fn .l_int1 .bool],[.int1],fun x=>F_slices_IndexFunc___int x.1 x.2.1⟩
theorem ok_slices_IndexFunc___int:FnOk G 264 fe_slices_IndexFunc___int:=fk (an:=an_slices_IndexFunc___int) (k:=19) (res:=[.tmp 4]) (lstK_ok G_ok (lnil)) Tryz.func264 fun _=>by kernel_rfl
def F_linear_step_1 (n:Int):Option (Int) :=
 some (IntKind.u64.wrap (maxZ n (IntKind.i64.wrap (0 - n))))
def fe_linear_step_1:Fe G:=⟨[.v .int1],[.u641],fun x=>F_linear_step_1 x.1⟩
theorem ok_linear_step_1:FnOk G 265 fe_linear_step_1:=fk (an:=.nil) (k:=8) (res:=[.tmp 2]) (lstK_ok G_ok (lnil)) Tryz.func265 fun _=>by kernel_rfl
def F_slices_IndexFunc_api_Load (s:List TLoad) (f:TLoad → Option Bool):Option (Int) :=
 (iterF (σ:=Int × Unit) (ρ:=(Int × Unit) ⊕ (Unit)) (fun s3=>(bif (decide (s3.1 < ((s.length:Nat):Int))) then (idx s s3.1).bind fun x4=>(f x4).bind fun r5=>(bif r5 then some (.inr (.inl (s3.1,()))) else some (.inl ((IntKind.i64.wrap (s3.1 + 1)),()))) else some (.inr (.inr ((())))))) big (0,())).bind fun y6=>(match y6 with | .inl y7=>some y7.1 | .inr y8=>some (-1))
def an_slices_IndexFunc_api_Load:An U:=(.node none .nil (.node none (.node none .nil (.node none (.node (some ⟨[0,1,7],[],⟨[(8,.tv .int)],[]⟩,[(.ret,⟨[(4,.tv .int)],[]⟩),(.exit 0,⟨[],[]⟩)]⟩) .nil .nil) .nil)) .nil))
def fe_slices_IndexFunc_api_Load:Fe G:=⟨[.v .l_Load,.fn .Load .bool],[.int1],fun x=>F_slices_IndexFunc_api_Load x.1 x.2.1⟩
theorem ok_slices_IndexFunc_api_Load:FnOk G 268 fe_slices_IndexFunc_api_Load:=fk (an:=an_slices_IndexFunc_api_Load) (k:=19) (res:=[.tmp 4]) (lstK_ok G_ok (lnil)) Tryz.func268 fun _=>by kernel_rfl
def F_beam_trimmed (w:List Int):Option ((List Int)) :=
 (iterF (σ:=(List Int) × Unit) (ρ:=(List Int) × Unit) (fun s4=>((bif (decide (((s4.1.length:Nat):Int) > 0)) then (idx s4.1 (IntKind.i64.wrap (((s4.1.length:Nat):Int) - 1))).bind fun x5=>some ((x5 == 0),()) else some (false,())):Option (Bool × Unit)).bind fun y6=>(bif y6.1 then (if 0 ≤ (0:Int) ∧ (0:Int) ≤ (IntKind.i64.wrap (((s4.1.length:Nat):Int) - 1)) ∧ (IntKind.i64.wrap (((s4.1.length:Nat):Int) - 1)) ≤ ((s4.1.length:Nat):Int) then some (.inl (((s4.1.take (Int.toNat (IntKind.i64.wrap (((s4.1.length:Nat):Int) - 1)))).drop (Int.toNat (0:Int))),())) else none) else some (.inr (s4.1,())))) big (w,())).bind fun y7=>some y7.1
def an_beam_trimmed:An U:=(.node none .nil (.node none (.node none (.node (some ⟨[2],[],⟨[(0,.tv .l_u32)],[]⟩,[(.exit 0,⟨[(0,.tv .l_u32)],[]⟩)]⟩) (.node none (.node (some ⟨[0],[],⟨[],[]⟩,[(.normal,⟨[(14,.tv .bool)],[]⟩)]⟩) .nil .nil) .nil) .nil) .nil) .nil))
def fe_beam_trimmed:Fe G:=⟨[.v .l_u32],[.l_u32],fun x=>F_beam_trimmed x.1⟩
def tb_beam_trimmed:List (FuncId × Fe G):=[]
theorem ev_beam_trimmed (x:TyP G fe_beam_trimmed.ps):evZ G (lstK G tb_beam_trimmed) (bodyOf Tryz.f269) an_beam_trimmed 21 [.tmp 2] fe_beam_trimmed.rs (argT G fe_beam_trimmed.ps x) = fe_beam_trimmed.fn x:=by kernel_rfl
theorem ok_beam_trimmed:FnOk G 269 fe_beam_trimmed:=fnOkz_of G_ok (fun _=>lstK_ok G_ok (lnil)) Tryz.func269 (by kernel_rfl) (by kernel_rfl) (by kernel_rfl) (by kernel_rfl) (by kernel_rfl) ev_beam_trimmed
def F_beam_compared (a:List Int) (b:List Int):Option (Int) :=
 (bif (((a.length:Nat):Int) != ((b.length:Nat):Int)) then some (IntKind.i64.wrap (((a.length:Nat):Int) - ((b.length:Nat):Int))) else (iterF (σ:=Int × Unit) (ρ:=(Int × Unit) ⊕ (Unit)) (fun s5=>(bif (decide (s5.1 ≥ 0)) then (idx a s5.1).bind fun x6=>(idx b s5.1).bind fun x7=>(bif (x6 != x7) then (idx a s5.1).bind fun x8=>(idx b s5.1).bind fun x9=>(bif (decide (x8 < x9)) then some (.inr (.inl ((-1),()))) else some (.inr (.inl (1,())))) else some (.inl ((IntKind.i64.wrap (s5.1 - 1)),()))) else some (.inr (.inr ((())))))) big ((IntKind.i64.wrap (((a.length:Nat):Int) - 1)),())).bind fun y10=>(match y10 with | .inl y11=>some y11.1 | .inr y12=>some 0))
def an_beam_compared:An U:=(.node none .nil (.node none .nil (.node none (.node none .nil (.node none (.node (some ⟨[0,1],[],⟨[(5,.tv .int)],[]⟩,[(.ret,⟨[(4,.tv .int)],[]⟩),(.exit 0,⟨[],[]⟩)]⟩) .nil .nil) .nil)) .nil)))
def fe_beam_compared:Fe G:=⟨[.v .l_u32,.v .l_u32],[.int1],fun x=>F_beam_compared x.1 x.2.1⟩
theorem ok_beam_compared:FnOk G 273 fe_beam_compared:=fk (an:=an_beam_compared) (k:=41) (res:=[.tmp 4]) (lstK_ok G_ok (lnil)) Tryz.func273 fun _=>by kernel_rfl
def F_slices_ContainsFunc_api_Set (s:List TSet) (f:TSet → Option Bool):Option (Bool) :=
 (F_slices_IndexFunc_api_Set s f).bind fun r1=>some (decide (r1 ≥ 0))
def fe_slices_ContainsFunc_api_Set:Fe G:=⟨[.v .l_Set,.fn .Set .bool],[.bool],fun x=>F_slices_ContainsFunc_api_Set x.1 x.2.1⟩
theorem ok_slices_ContainsFunc_api_Set:FnOk G 20 fe_slices_ContainsFunc_api_Set:=fk (an:=.nil) (k:=9) (res:=[.tmp 4]) (lstK_ok G_ok (lcons ok_slices_IndexFunc_api_Set (lnil))) Tryz.func20 fun _=>by kernel_rfl
def F_top_TopStored_1 (s:TSet):Option (Bool) :=
 (F_ref21_Small s 6).bind fun r1=>some (!r1)
def fe_top_TopStored_1:Fe G:=⟨[.v .Set],[.bool],fun x=>F_top_TopStored_1 x.1⟩
theorem ok_top_TopStored_1:FnOk G 21 fe_top_TopStored_1:=fk (an:=.nil) (k:=6) (res:=[.tmp 2]) (lstK_ok G_ok (lcons ok_ref21_Small (lnil))) Tryz.func21 fun _=>by kernel_rfl
def F_lineset_Same (a:TSet) (b:TSet):Option (Bool) :=
 ((bif (a.name.toList == b.name.toList) then (bif (a.depth == b.depth) then (bif (a.low == b.low) then (bif (a.high == b.high) then (bif (a.length == b.length) then (bif (a.pipe == b.pipe) then (bif (a.arbor == b.arbor) then (bif (a.purchase == b.purchase) then (bif (a.most == b.most) then (bif (a.brake == b.brake) then (F_slices_Equal_int a.lines b.lines).bind fun r4=>(bif r4 then (F_slices_Equal_api_Item a.items b.items).bind fun r5=>(bif r5 then (F_slices_Equal_api_Brick a.bricks b.bricks).bind fun r6=>some (r6,()) else some (false,())) else some (false,())) else some (false,())) else some (false,())) else some (false,())) else some (false,())) else some (false,())) else some (false,())) else some (false,())) else some (false,())) else some (false,())) else some (false,())):Option (Bool × Unit)).bind fun y7=>some y7.1
def an_lineset_Same:An U:=(.node none .nil (.node (some ⟨[],[],⟨[],[]⟩,[(.normal,⟨[(4,.tv .bool)],[]⟩)]⟩) .nil .nil))
def fe_lineset_Same:Fe G:=⟨[.v .Set,.v .Set],[.bool],fun x=>F_lineset_Same x.1 x.2.1⟩
theorem ok_lineset_Same:FnOk G 24 fe_lineset_Same:=fk (an:=an_lineset_Same) (k:=94) (res:=[.tmp 4]) (lstK_ok G_ok (lcons ok_slices_Equal_int (lcons ok_slices_Equal_api_Item (lcons ok_slices_Equal_api_Brick (lnil))))) Tryz.func24 fun _=>by kernel_rfl
def F_batten_lines (l:List Int) (length:Int):Option (Bool) :=
 ((F_batten_between ((l.length:Nat):Int) 2 10).bind fun r4=>(bif (!r4) then some (true,()) else (idx l 0).bind fun x5=>(bif (decide (x5 < 0)) then some (true,()) else (idx l (IntKind.i64.wrap (((l.length:Nat):Int) - 1))).bind fun x6=>some ((decide (x6 > length)),()))):Option (Bool × Unit)).bind fun y7=>(bif y7.1 then some false else (iterF (σ:=Int × Unit) (ρ:=(Bool × Unit) ⊕ (Unit)) (fun s10=>(bif (decide (s10.1 < ((l.length:Nat):Int))) then (idx l s10.1).bind fun x11=>(idx l (IntKind.i64.wrap (s10.1 - 1))).bind fun x12=>(bif (decide (x11 ≤ x12)) then some (.inr (.inl (false,()))) else some (.inl ((IntKind.i64.wrap (s10.1 + 1)),()))) else some (.inr (.inr ((())))))) big (1,())).bind fun y13=>(match y13 with | .inl y14=>some y14.1 | .inr y15=>some true))
def an_batten_lines:An U:=(.node none .nil (.node none (.node (some ⟨[0,4],[],⟨[],[]⟩,[(.normal,⟨[(25,.tv .bool)],[]⟩)]⟩) .nil .nil) (.node none (.node none .nil (.node none (.node (some ⟨[0],[],⟨[(5,.tv .int)],[]⟩,[(.ret,⟨[(4,.tv .bool)],[]⟩),(.exit 0,⟨[],[]⟩)]⟩) .nil .nil) .nil)) .nil)))
def fe_batten_lines:Fe G:=⟨[.v .l_int1,.v .int1],[.bool],fun x=>F_batten_lines x.1 x.2.1⟩
theorem ok_batten_lines:FnOk G 50 fe_batten_lines:=fk (an:=an_batten_lines) (k:=42) (res:=[.tmp 4]) (lstK_ok G_ok (lcons ok_batten_between (lnil))) Tryz.func50 fun _=>by kernel_rfl
def F_slices_ContainsFunc_api_Frac (s:List TFrac) (f:TFrac → Option Bool):Option (Bool) :=
 (F_slices_IndexFunc_api_Frac s f).bind fun r1=>some (decide (r1 ≥ 0))
def fe_slices_ContainsFunc_api_Frac:Fe G:=⟨[.v .l_Frac,.fn .Frac .bool],[.bool],fun x=>F_slices_ContainsFunc_api_Frac x.1 x.2.1⟩
theorem ok_slices_ContainsFunc_api_Frac:FnOk G 64 fe_slices_ContainsFunc_api_Frac:=fk (an:=.nil) (k:=9) (res:=[.tmp 4]) (lstK_ok G_ok (lcons ok_slices_IndexFunc_api_Frac (lnil))) Tryz.func64 fun _=>by kernel_rfl
def F_failure_cut (s:TSet) (line:Int):Option (TSet) :=
 (F_slices_Clone_int s.lines).bind fun r1=>(if 0 ≤ line ∧ line ≤ (IntKind.i64.wrap (line + 1)) ∧ (IntKind.i64.wrap (line + 1)) ≤ ((r1.length:Nat):Int) ∧ r1.length ≤ 2147483648 then (F_slices_Clone_api_Item s.items).bind fun r2=>(F_slices_Clone_api_Brick s.bricks).bind fun r3=>some (TSet.mk s.name s.depth s.low s.high s.length (r1.take (Int.toNat line) ++ r1.drop (Int.toNat (IntKind.i64.wrap (line + 1)))) s.pipe s.arbor s.purchase s.most s.brake r2 r3) else none)
def fe_failure_cut:Fe G:=⟨[.v .Set,.v .int1],[.Set],fun x=>F_failure_cut x.1 x.2.1⟩
theorem ok_failure_cut:FnOk G 66 fe_failure_cut:=fk (an:=.nil) (k:=22) (res:=[.cell 4 26]) (lstK_ok G_ok (lcons ok_slices_Clone_int (lcons ok_slices_Clone_api_Item (lcons ok_slices_Clone_api_Brick (lnil))))) Tryz.func66 fun _=>by kernel_rfl
def F_versions_own (x:TSet):Option (TSet) :=
 (F_slices_Clone_int x.lines).bind fun r1=>(F_slices_Clone_api_Item x.items).bind fun r2=>(F_slices_Clone_api_Brick x.bricks).bind fun r3=>some (TSet.mk x.name x.depth x.low x.high x.length r1 x.pipe x.arbor x.purchase x.most x.brake r2 r3)
def fe_versions_own:Fe G:=⟨[.v .Set],[.Set],fun x=>F_versions_own x.1⟩
theorem ok_versions_own:FnOk G 74 fe_versions_own:=fk (an:=.nil) (k:=16) (res:=[.cell 2 26]) (lstK_ok G_ok (lcons ok_slices_Clone_int (lcons ok_slices_Clone_api_Item (lcons ok_slices_Clone_api_Brick (lnil))))) Tryz.func74 fun _=>by kernel_rfl
def F_ratio_Valid (a:TFrac):Option (Bool) :=
 ((bif (decide (a.den ≥ 1)) then (bif (decide (a.den ≤ 1152921504606846976)) then (bif (decide (a.num ≥ (-1152921504606846976))) then (bif (decide (a.num ≤ 1152921504606846976)) then (F_ratio_size a.num).bind fun r3=>(F_ratio_gcd r3 (IntKind.u64.wrap a.den)).bind fun r4=>some ((r4 == 1),()) else some (false,())) else some (false,())) else some (false,())) else some (false,())):Option (Bool × Unit)).bind fun y5=>some y5.1
def an_ratio_Valid:An U:=(.node none .nil (.node (some ⟨[],[],⟨[],[]⟩,[(.normal,⟨[(2,.tv .bool)],[]⟩)]⟩) .nil .nil))
def fe_ratio_Valid:Fe G:=⟨[.v .Frac],[.bool],fun x=>F_ratio_Valid x.1⟩
theorem ok_ratio_Valid:FnOk G 94 fe_ratio_Valid:=fk (an:=an_ratio_Valid) (k:=31) (res:=[.tmp 2]) (lstK_ok G_ok (lcons ok_ratio_size (lcons ok_ratio_gcd (lnil)))) Tryz.func94 fun _=>by kernel_rfl
def F_slices_ContainsFunc_int (s:List Int) (f:Int → Option Bool):Option (Bool) :=
 (F_slices_IndexFunc_int s f).bind fun r1=>some (decide (r1 ≥ 0))
def fe_slices_ContainsFunc_int:Fe G:=⟨[.v .l_int1,.fn .int1 .bool],[.bool],fun x=>F_slices_ContainsFunc_int x.1 x.2.1⟩
theorem ok_slices_ContainsFunc_int:FnOk G 96 fe_slices_ContainsFunc_int:=fk (an:=.nil) (k:=9) (res:=[.tmp 4]) (lstK_ok G_ok (lcons ok_slices_IndexFunc_int (lnil))) Tryz.func96 fun _=>by kernel_rfl
def F_decimal_word (s:ByteArray):Option (Int) :=
 (iterF (σ:=Int × Unit) (ρ:=Int × Unit) (fun s12=>((bif (decide (s12.1 < ((s.size:Nat):Int))) then (idxB s s12.1).bind fun b13=>(F_decimal_letter ((b13.toNat:Nat):Int)).bind fun r14=>(bif r14 then some (true,()) else (idxB s s12.1).bind fun b15=>(F_decimal_digit ((b15.toNat:Nat):Int)).bind fun r16=>(bif r16 then some (true,()) else (idxB s s12.1).bind fun b17=>some ((((b17.toNat:Nat):Int) == 95),()))) else some (false,())):Option (Bool × Unit)).bind fun y18=>(bif y18.1 then some (.inl ((IntKind.i64.wrap (s12.1 + 1)),())) else some (.inr (s12.1,())))) big (0,())).bind fun y19=>some y19.1
def an_decimal_word:An U:=(.node none .nil (.node none .nil (.node none (.node none (.node (some ⟨[0,2],[],⟨[(3,.tv .int)],[]⟩,[(.exit 0,⟨[(3,.tv .int)],[]⟩)]⟩) (.node none (.node (some ⟨[3],[],⟨[],[]⟩,[(.normal,⟨[(25,.tv .bool)],[]⟩)]⟩) .nil .nil) .nil) .nil) .nil) .nil)))
def fe_decimal_word:Fe G:=⟨[.v .str],[.int1],fun x=>F_decimal_word x.1⟩
theorem ok_decimal_word:FnOk G 111 fe_decimal_word:=fk (an:=an_decimal_word) (k:=29) (res:=[.tmp 2]) (lstK_ok G_ok (lcons ok_decimal_letter (lcons ok_decimal_digit (lnil)))) Tryz.func111 fun _=>by kernel_rfl
def F_batten_inside (x:TItem) (length:Int):Option (Bool) :=
 ((bif (decide (x.at_ ≥ 0)) then (F_batten_between x.width 1 1048576).bind fun r2=>(bif r2 then some ((decide (x.at_ ≤ (IntKind.i64.wrap (length - x.width)))),()) else some (false,())) else some (false,())):Option (Bool × Unit)).bind fun y3=>some y3.1
def an_batten_inside:An U:=(.node none .nil (.node (some ⟨[],[],⟨[],[]⟩,[(.normal,⟨[(4,.tv .bool)],[]⟩)]⟩) .nil .nil))
def fe_batten_inside:Fe G:=⟨[.v .Item,.v .int1],[.bool],fun x=>F_batten_inside x.1 x.2.1⟩
theorem ok_batten_inside:FnOk G 115 fe_batten_inside:=fk (an:=an_batten_inside) (k:=22) (res:=[.tmp 4]) (lstK_ok G_ok (lcons ok_batten_between (lnil))) Tryz.func115 fun _=>by kernel_rfl
def F_slices_ContainsFunc_api_Item (s:List TItem) (f:TItem → Option Bool):Option (Bool) :=
 (F_slices_IndexFunc_api_Item s f).bind fun r1=>some (decide (r1 ≥ 0))
def fe_slices_ContainsFunc_api_Item:Fe G:=⟨[.v .l_Item,.fn .Item .bool],[.bool],fun x=>F_slices_ContainsFunc_api_Item x.1 x.2.1⟩
theorem ok_slices_ContainsFunc_api_Item:FnOk G 116 fe_slices_ContainsFunc_api_Item:=fk (an:=.nil) (k:=9) (res:=[.tmp 4]) (lstK_ok G_ok (lcons ok_slices_IndexFunc_api_Item (lnil))) Tryz.func116 fun _=>by kernel_rfl
def F_batten_items_2 (y:TItem) (a1:TItem):Option (Bool) :=
 (F_batten_apart a1 y).bind fun r1=>some (!r1)
def fe_batten_items_2:Fe G:=⟨[.v .Item,.rp .Item],[.bool],fun x=>F_batten_items_2 x.1 x.2.1⟩
theorem ok_batten_items_2:FnOk G 117 fe_batten_items_2:=fk (an:=.nil) (k:=8) (res:=[.tmp 3]) (lstK_ok G_ok (lcons ok_batten_apart (lnil))) Tryz.func117 fun _=>by kernel_rfl
def F_batten_beamOf (s:TSet):Option (TBeam) :=
 (F_slices_Clone_int s.lines).bind fun r1=>(iterF (σ:=Int × TBeam × Unit) (ρ:=TBeam × Unit) (fun s6=>(bif (decide (s6.1 < ((s.items.length:Nat):Int))) then (idx s.items s6.1).bind fun x7=>(F_batten_middle x7).bind fun r8=>(if s6.2.1.loads.length + ([(TLoad.mk r8 x7.weight)]:List TLoad).length ≤ 2147483648 then some (.inl ((IntKind.i64.wrap (s6.1 + 1)),(TBeam.mk s6.2.1.name s6.2.1.length s6.2.1.supports (s6.2.1.loads ++ ([(TLoad.mk r8 x7.weight)]:List TLoad)) s6.2.1.even),())) else none) else some (.inr (s6.2.1,())))) big (0,(TBeam.mk s.name s.length r1 ([]:List TLoad) s.pipe),())).bind fun y9=>some y9.1
def an_batten_beamOf:An U:=(.node none .nil (.node none .nil (.node none (.node none .nil (.node none (.node (some ⟨[2,3,17,18],[2,3],⟨[(19,.tv .int)],[(2,.bx .Beam [2,3]),(3,.gone)]⟩,[(.exit 0,⟨[],[(2,.bx .Beam [2,3])]⟩)]⟩) .nil .nil) .nil)) .nil)))
def fe_batten_beamOf:Fe G:=⟨[.v .Set],[.Beam],fun x=>F_batten_beamOf x.1⟩
theorem ok_batten_beamOf:FnOk G 127 fe_batten_beamOf:=fk (an:=an_batten_beamOf) (k:=35) (res:=[.cell 2 176]) (lstK_ok G_ok (lcons ok_slices_Clone_int (lcons ok_batten_middle (lnil)))) Tryz.func127 fun _=>by kernel_rfl
def F_ratio_product (a:Int) (b:Int):Option (Twide) :=
 (F_math_bits_Mul64 a b).bind fun r1=>some (Twide.mk r1.1 r1.2)
def fe_ratio_product:Fe G:=⟨[.v .u641,.v .u641],[.wide],fun x=>F_ratio_product x.1 x.2.1⟩
theorem ok_ratio_product:FnOk G 128 fe_ratio_product:=fk (an:=.nil) (k:=16) (res:=[.cell 4 179]) (lstK_ok G_ok (lcons ok_math_bits_Mul64 (lnil))) Tryz.func128 fun _=>by kernel_rfl
def F_batten_weight (s:TSet):Option (Int) :=
 (F_batten_pipe s).bind fun r1=>(iterF (σ:=Int × Int × Unit) (ρ:=Int × Unit) (fun s3=>(bif (decide (s3.2.1 < ((s.items.length:Nat):Int))) then (idx s.items s3.2.1).bind fun x4=>some (.inl ((IntKind.i64.wrap (s3.1 + x4.weight)),(IntKind.i64.wrap (s3.2.1 + 1)),())) else some (.inr (s3.1,())))) big (r1,0,())).bind fun y5=>some y5.1
def an_batten_weight:An U:=(.node none .nil (.node none .nil (.node none (.node none .nil (.node none (.node (some ⟨[2,9,10],[],⟨[(3,.tv .int),(11,.tv .int)],[]⟩,[(.exit 0,⟨[(3,.tv .int)],[]⟩)]⟩) .nil .nil) .nil)) .nil)))
def fe_batten_weight:Fe G:=⟨[.v .Set],[.int1],fun x=>F_batten_weight x.1⟩
theorem ok_batten_weight:FnOk G 147 fe_batten_weight:=fk (an:=an_batten_weight) (k:=21) (res:=[.tmp 2]) (lstK_ok G_ok (lcons ok_batten_pipe (lnil))) Tryz.func147 fun _=>by kernel_rfl
def F_beam_fractions (l:List Texact):Option ((List TFrac) × Int) :=
 (iterF (σ:=Int × List TFrac × Unit) (ρ:=(List TFrac × Int × List TFrac × Unit) ⊕ (List TFrac × Unit)) (fun s5=>(bif (decide (s5.1 < ((l.length:Nat):Int))) then (idx l s5.1).bind fun x6=>(F_beam_exact__fraction x6).bind fun r7=>(bif (r7.2 != 0) then some (.inr (.inl (([]:List TFrac),r7.2,s5.2.1,()))) else (if s5.2.1.length + ([r7.1]:List TFrac).length ≤ 2147483648 then some (.inl ((IntKind.i64.wrap (s5.1 + 1)),(s5.2.1 ++ ([r7.1]:List TFrac)),())) else none)) else some (.inr (.inr ((s5.2.1,())))))) big (0,([]:List TFrac),())).bind fun y8=>(match y8 with | .inl y9=>some (y9.1,y9.2.1) | .inr y10=>some (y10.1,0))
def an_beam_fractions:An U:=(.node none .nil (.node none .nil (.node none (.node none .nil (.node none (.node (some ⟨[9,10],[1],⟨[(4,.os 1),(11,.tv .int)],[(1,.row .Frac)]⟩,[(.ret,⟨[(2,.nr .Frac),(3,.tv .int)],[(1,.row .Frac)]⟩),(.exit 0,⟨[(4,.os 1)],[(1,.row .Frac)]⟩)]⟩) .nil .nil) .nil)) .nil)))
def fe_beam_fractions:Fe G:=⟨[.v .l_exact],[.l_Frac,.Errno],fun x=>F_beam_fractions x.1⟩
theorem ok_beam_fractions:FnOk G 171 fe_beam_fractions:=fk (an:=an_beam_fractions) (k:=29) (res:=[.tmp 2,.tmp 3]) (lstK_ok G_ok (lcons ok_beam_exact__fraction (lnil))) Tryz.func171 fun _=>by kernel_rfl
def F_reeving_find (s:TSystem) (name:ByteArray):Option (Int) :=
 (F_slices_IndexFunc_api_Block s.blocks (fun z2=>F_reeving_find_1 z2 name)).bind fun r3=>some r3
def fe_reeving_find:Fe G:=⟨[.v .System,.v .str],[.int1],fun x=>F_reeving_find x.1 x.2.1⟩
theorem ok_reeving_find:FnOk G 195 fe_reeving_find:=fk (an:=.nil) (k:=9) (res:=[.tmp 4]) (lstK_ok G_ok (lcons ok_slices_IndexFunc_api_Block (lcons ok_reeving_find_1 (lnil)))) Tryz.func195 fun _=>by kernel_rfl
def F_ratio_Make (num:Int) (den:Int):Option (TFrac × Int) :=
 (bif (den == 0) then some ((TFrac.mk 0 0),16) else (F_ratio_size num).bind fun r1=>(F_ratio_size den).bind fun r2=>(F_ratio_gcd r1 r2).bind fun r3=>((bif (num != 0) then (if r3 = 0 then none else (if r3 = 0 then none else (F_ratio_signed (!((decide (num < 0)) == (decide (den < 0)))) (IntKind.u64.wrap (r1.tdiv r3)) (IntKind.u64.wrap (r2.tdiv r3))).bind fun r7=>some (r7.2,r7.1,()))) else (if r3 = 0 then none else (if r3 = 0 then none else (F_ratio_signed false (IntKind.u64.wrap (r1.tdiv r3)) (IntKind.u64.wrap (r2.tdiv r3))).bind fun r8=>some (r8.2,r8.1,())))):Option (Int × TFrac × Unit)).bind fun y9=>some (y9.2.1,y9.1))
def an_ratio_Make:An U:=(.node none .nil (.node none .nil (.node none .nil (.node none .nil (.node (some ⟨[4],[0],⟨[],[]⟩,[(.normal,⟨[(5,.tv .int)],[(0,.bx .Frac [])]⟩)]⟩) .nil .nil)))))
def fe_ratio_Make:Fe G:=⟨[.v .int1,.v .int1],[.Frac,.Errno],fun x=>F_ratio_Make x.1 x.2.1⟩
theorem ok_ratio_Make:FnOk G 199 fe_ratio_Make:=fk (an:=an_ratio_Make) (k:=37) (res:=[.cell 4 35,.tmp 5]) (lstK_ok G_ok (lcons ok_ratio_size (lcons ok_ratio_gcd (lcons ok_ratio_signed (lnil))))) Tryz.func199 fun _=>by kernel_rfl
def F_math_bits_LeadingZeros64 (x:Int):Option (Int) :=
 (F_math_bits_Len64 x).bind fun r1=>some (IntKind.i64.wrap (64 - r1))
def fe_math_bits_LeadingZeros64:Fe G:=⟨[.v .u641],[.int1],fun x=>F_math_bits_LeadingZeros64 x.1⟩
theorem ok_math_bits_LeadingZeros64:FnOk G 228 fe_math_bits_LeadingZeros64:=fk (an:=.nil) (k:=6) (res:=[.tmp 2]) (lstK_ok G_ok (lcons ok_math_bits_Len64 (lnil))) Tryz.func228 fun _=>by kernel_rfl
def F_slices_ContainsFunc___int (s:List (List Int)) (f:(List Int) → Option Bool):Option (Bool) :=
 (F_slices_IndexFunc___int s f).bind fun r1=>some (decide (r1 ≥ 0))
def fe_slices_ContainsFunc___int:Fe G:=⟨[.v .Matrix,.fn .l_int1 .bool],[.bool],fun x=>F_slices_ContainsFunc___int x.1 x.2.1⟩
theorem ok_slices_ContainsFunc___int:FnOk G 230 fe_slices_ContainsFunc___int:=fk (an:=.nil) (k:=9) (res:=[.tmp 4]) (lstK_ok G_ok (lcons ok_slices_IndexFunc___int (lnil))) Tryz.func230 fun _=>by kernel_rfl
def F_slices_ContainsFunc_api_Load (s:List TLoad) (f:TLoad → Option Bool):Option (Bool) :=
 (F_slices_IndexFunc_api_Load s f).bind fun r1=>some (decide (r1 ≥ 0))
def fe_slices_ContainsFunc_api_Load:Fe G:=⟨[.v .l_Load,.fn .Load .bool],[.bool],fun x=>F_slices_ContainsFunc_api_Load x.1 x.2.1⟩
theorem ok_slices_ContainsFunc_api_Load:FnOk G 239 fe_slices_ContainsFunc_api_Load:=fk (an:=.nil) (k:=9) (res:=[.tmp 4]) (lstK_ok G_ok (lcons ok_slices_IndexFunc_api_Load (lnil))) Tryz.func239 fun _=>by kernel_rfl
def F_beam_integer (n:Int):Option (Tnumber) :=
 ((bif (decide (n < 0)) then some ((IntKind.u64.wrap (0 - (IntKind.u64.wrap n))),()) else some ((IntKind.u64.wrap n),())):Option (Int × Unit)).bind fun y1=>(F_beam_trimmed ([(IntKind.u32.wrap y1.1),(IntKind.u32.wrap (y1.1.fdiv (2 ^ min (Int.toNat 32) IntKind.u64.bits)))]:List Int)).bind fun r2=>some (Tnumber.mk (decide (n < 0)) r2)
def an_beam_integer:An U:=(.node none .nil (.node none .nil (.node (some ⟨[0,2],[],⟨[],[]⟩,[(.normal,⟨[(3,.tv .u64)],[]⟩)]⟩) .nil .nil)))
def fe_beam_integer:Fe G:=⟨[.v .int1],[.number],fun x=>F_beam_integer x.1⟩
def tb_beam_integer:List (FuncId × Fe G):=[(269,fe_beam_trimmed)]
theorem ev_beam_integer (x:TyP G fe_beam_integer.ps):evZ G (lstK G tb_beam_integer) (bodyOf Tryz.f245) an_beam_integer 20 [.cell 2 270] fe_beam_integer.rs (argT G fe_beam_integer.ps x) = fe_beam_integer.fn x:=by kernel_rfl
theorem ok_beam_integer:FnOk G 245 fe_beam_integer:=fnOkz_of G_ok (fun _=>lstK_ok G_ok (lcons ok_beam_trimmed (lnil))) Tryz.func245 (by kernel_rfl) (by kernel_rfl) (by kernel_rfl) (by kernel_rfl) (by kernel_rfl) ev_beam_integer
def F_beam_number__times (a:Tnumber) (b:Tnumber):Option (Tnumber) :=
 (if 0 ≤ (IntKind.i64.wrap (((a.words.length:Nat):Int) + ((b.words.length:Nat):Int))) ∧ (IntKind.i64.wrap (((a.words.length:Nat):Int) + ((b.words.length:Nat):Int))) ≤ 16777216 then (iterF (σ:=Int × List Int × Unit) (ρ:=List Int × Unit) (fun s25=>(bif (decide (s25.1 < ((a.words.length:Nat):Int))) then (idx a.words s25.1).bind fun x26=>(iterF (σ:=Int × Int × List Int × Unit) (ρ:=Int × List Int × Unit) (fun s27=>(bif (decide (s27.2.1 < ((b.words.length:Nat):Int))) then (idx b.words s27.2.1).bind fun x28=>(idx s27.2.2.1 (IntKind.i64.wrap (s25.1 + s27.2.1))).bind fun _x29=>(s27.2.2.1[(Int.toNat (IntKind.i64.wrap (s25.1 + s27.2.1)))]?).bind fun x30=>(idx s27.2.2.1 (IntKind.i64.wrap (s25.1 + s27.2.1))).bind fun _x31=>(s27.2.2.1[(Int.toNat (IntKind.i64.wrap (s25.1 + s27.2.1)))]?).bind fun x32=>some (.inl (((IntKind.u64.wrap (s27.1 + (IntKind.u64.wrap ((IntKind.u64.wrap ((IntKind.u64.wrap x26) * (IntKind.u64.wrap x28))) + (IntKind.u64.wrap x30))))).fdiv (2 ^ min (Int.toNat 32) IntKind.u64.bits)),(IntKind.i64.wrap (s27.2.1 + 1)),(s27.2.2.1.set (Int.toNat (IntKind.i64.wrap (s25.1 + s27.2.1))) (IntKind.u32.wrap (IntKind.u64.wrap (s27.1 + (IntKind.u64.wrap ((IntKind.u64.wrap ((IntKind.u64.wrap x26) * (IntKind.u64.wrap x28))) + (IntKind.u64.wrap x30))))))),())) else some (.inr (s27.1,s27.2.2.1,())))) big (0,0,s25.2.1,())).bind fun y33=>(idx y33.2.1 (IntKind.i64.wrap (s25.1 + ((b.words.length:Nat):Int)))).bind fun _x34=>(y33.2.1[(Int.toNat (IntKind.i64.wrap (s25.1 + ((b.words.length:Nat):Int))))]?).bind fun x35=>some (.inl ((IntKind.i64.wrap (s25.1 + 1)),(y33.2.1.set (Int.toNat (IntKind.i64.wrap (s25.1 + ((b.words.length:Nat):Int)))) (IntKind.u32.wrap y33.1)),())) else some (.inr (s25.2.1,())))) big (0,(List.replicate (Int.toNat (IntKind.i64.wrap (((a.words.length:Nat):Int) + ((b.words.length:Nat):Int)))) (0:Int)),())).bind fun y36=>(F_beam_trimmed y36.1).bind fun r37=>some (Tnumber.mk (!(a.neg == b.neg)) r37) else none)
def an_beam_number__times:An U:=(.node none .nil (.node none .nil (.node none (.node none .nil (.node none (.node (some ⟨[2,3,4,5,20,21],[3],⟨[(22,.tv .int)],[(3,.row .u32)]⟩,[(.exit 0,⟨[],[(3,.row .u32)]⟩)]⟩) (.node none .nil (.node none .nil (.node none (.node none (.node none .nil (.node none .nil (.node none (.node none .nil (.node none (.node (some ⟨[6,7,22,28,29],[3],⟨[(8,.tv .u64),(30,.tv .int)],[(3,.row .u32)]⟩,[(.exit 2,⟨[(8,.tv .u64)],[(3,.row .u32)]⟩)]⟩) .nil .nil) .nil)) .nil))) .nil) .nil))) .nil) .nil)) .nil)))
def fe_beam_number__times:Fe G:=⟨[.v .number,.v .number],[.number],fun x=>F_beam_number__times x.1 x.2.1⟩
def tb_beam_number__times:List (FuncId × Fe G):=[(269,fe_beam_trimmed)]
theorem ev_beam_number__times (x:TyP G fe_beam_number__times.ps):evZ G (lstK G tb_beam_number__times) (bodyOf Tryz.f247) an_beam_number__times 78 [.cell 4 270] fe_beam_number__times.rs (argT G fe_beam_number__times.ps x) = fe_beam_number__times.fn x:=by kernel_rfl
theorem ok_beam_number__times:FnOk G 247 fe_beam_number__times:=fnOkz_of G_ok (fun _=>lstK_ok G_ok (lcons ok_beam_trimmed (lnil))) Tryz.func247 (by kernel_rfl) (by kernel_rfl) (by kernel_rfl) (by kernel_rfl) (by kernel_rfl) ev_beam_number__times
def F_beam_added (a:List Int) (b:List Int):Option ((List Int)) :=
 ((bif (decide (((a.length:Nat):Int) < ((b.length:Nat):Int))) then some (b,a,()) else some (a,b,())):Option ((List Int) × (List Int) × Unit)).bind fun y1=>(if 0 ≤ (IntKind.i64.wrap (((y1.1.length:Nat):Int) + 1)) ∧ (IntKind.i64.wrap (((y1.1.length:Nat):Int) + 1)) ≤ 16777216 then (iterF (σ:=Int × Int × List Int × Unit) (ρ:=List Int × Unit) (fun s17=>(bif (decide (s17.2.1 < (((List.replicate (Int.toNat (IntKind.i64.wrap (((y1.1.length:Nat):Int) + 1))) (0:Int)).length:Nat):Int))) then ((bif (decide (s17.2.1 < ((y1.1.length:Nat):Int))) then (idx y1.1 s17.2.1).bind fun x18=>some ((IntKind.u64.wrap (s17.1 + (IntKind.u64.wrap x18))),()) else some (s17.1,())):Option (Int × Unit)).bind fun y19=>((bif (decide (s17.2.1 < ((y1.2.1.length:Nat):Int))) then (idx y1.2.1 s17.2.1).bind fun x20=>some ((IntKind.u64.wrap (y19.1 + (IntKind.u64.wrap x20))),()) else some (y19.1,())):Option (Int × Unit)).bind fun y21=>(idx s17.2.2.1 s17.2.1).bind fun _x22=>(s17.2.2.1[(Int.toNat s17.2.1)]?).bind fun x23=>some (.inl ((y21.1.fdiv (2 ^ min (Int.toNat 32) IntKind.u64.bits)),(IntKind.i64.wrap (s17.2.1 + 1)),(s17.2.2.1.set (Int.toNat s17.2.1) (IntKind.u32.wrap y21.1)),())) else some (.inr (s17.2.2.1,())))) big (0,0,(List.replicate (Int.toNat (IntKind.i64.wrap (((y1.1.length:Nat):Int) + 1))) (0:Int)),())).bind fun y24=>(F_beam_trimmed y24.1).bind fun r25=>some r25 else none)
def an_beam_added:An U:=(.node none .nil (.node (some ⟨[4],[],⟨[],[]⟩,[(.normal,⟨[(0,.tv .l_u32),(1,.tv .l_u32)],[]⟩)]⟩) .nil (.node none .nil (.node none .nil (.node none (.node none .nil (.node none (.node (some ⟨[0,1,4,5,20],[1],⟨[(6,.tv .u64),(21,.tv .int)],[(1,.row .u32)]⟩,[(.exit 0,⟨[],[(1,.row .u32)]⟩)]⟩) (.node none .nil (.node none .nil (.node none (.node none (.node none .nil (.node (some ⟨[7,21],[],⟨[],[]⟩,[(.normal,⟨[(6,.tv .u64)],[]⟩)]⟩) .nil (.node (some ⟨[7,21],[],⟨[],[]⟩,[(.normal,⟨[(6,.tv .u64)],[]⟩)]⟩) .nil .nil))) .nil) .nil))) .nil) .nil)) .nil)))))
def fe_beam_added:Fe G:=⟨[.v .l_u32,.v .l_u32],[.l_u32],fun x=>F_beam_added x.1 x.2.1⟩
def tb_beam_added:List (FuncId × Fe G):=[(269,fe_beam_trimmed)]
theorem ev_beam_added (x:TyP G fe_beam_added.ps):evZ G (lstK G tb_beam_added) (bodyOf Tryz.f272) an_beam_added 56 [.tmp 4] fe_beam_added.rs (argT G fe_beam_added.ps x) = fe_beam_added.fn x:=by kernel_rfl
theorem ok_beam_added:FnOk G 272 fe_beam_added:=fnOkz_of G_ok (fun _=>lstK_ok G_ok (lcons ok_beam_trimmed (lnil))) Tryz.func272 (by kernel_rfl) (by kernel_rfl) (by kernel_rfl) (by kernel_rfl) (by kernel_rfl) ev_beam_added
def F_beam_taken (a:List Int) (b:List Int):Option ((List Int)) :=
 (if 0 ≤ ((a.length:Nat):Int) ∧ ((a.length:Nat):Int) ≤ 16777216 then (iterF (σ:=Int × Int × List Int × Unit) (ρ:=List Int × Unit) (fun s14=>(bif (decide (s14.2.1 < ((a.length:Nat):Int))) then (idx a s14.2.1).bind fun x15=>((bif (decide (s14.2.1 < ((b.length:Nat):Int))) then (idx b s14.2.1).bind fun x16=>some ((IntKind.i64.wrap ((IntKind.i64.wrap ((IntKind.i64.wrap x15) - s14.1)) - (IntKind.i64.wrap x16))),()) else some ((IntKind.i64.wrap ((IntKind.i64.wrap x15) - s14.1)),())):Option (Int × Unit)).bind fun y17=>((bif (decide (y17.1 < 0)) then some (1,(IntKind.i64.wrap (y17.1 + 4294967296)),()) else some (0,y17.1,())):Option (Int × Int × Unit)).bind fun y18=>(idx s14.2.2.1 s14.2.1).bind fun _x19=>(s14.2.2.1[(Int.toNat s14.2.1)]?).bind fun x20=>some (.inl (y18.1,(IntKind.i64.wrap (s14.2.1 + 1)),(s14.2.2.1.set (Int.toNat s14.2.1) (IntKind.u32.wrap y18.2.1)),())) else some (.inr (s14.2.2.1,())))) big (0,0,(List.replicate (Int.toNat ((a.length:Nat):Int)) (0:Int)),())).bind fun y21=>(F_beam_trimmed y21.1).bind fun r22=>some r22 else none)
def an_beam_taken:An U:=(.node none .nil (.node none .nil (.node none .nil (.node none (.node none .nil (.node none (.node (some ⟨[0,1,4,5,13],[1],⟨[(6,.tv .int),(14,.tv .int)],[(1,.row .u32)]⟩,[(.exit 0,⟨[],[(1,.row .u32)]⟩)]⟩) (.node none .nil (.node none .nil (.node none (.node none (.node none .nil (.node none .nil (.node (some ⟨[6,7,14],[],⟨[],[]⟩,[(.normal,⟨[(8,.tv .int)],[]⟩)]⟩) .nil (.node none .nil (.node (some ⟨[7,14],[],⟨[],[]⟩,[(.normal,⟨[(6,.tv .int),(8,.tv .int)],[]⟩)]⟩) .nil .nil))))) .nil) .nil))) .nil) .nil)) .nil))))
def fe_beam_taken:Fe G:=⟨[.v .l_u32,.v .l_u32],[.l_u32],fun x=>F_beam_taken x.1 x.2.1⟩
def tb_beam_taken:List (FuncId × Fe G):=[(269,fe_beam_trimmed)]
theorem ev_beam_taken (x:TyP G fe_beam_taken.ps):evZ G (lstK G tb_beam_taken) (bodyOf Tryz.f274) an_beam_taken 47 [.tmp 4] fe_beam_taken.rs (argT G fe_beam_taken.ps x) = fe_beam_taken.fn x:=by kernel_rfl
theorem ok_beam_taken:FnOk G 274 fe_beam_taken:=fnOkz_of G_ok (fun _=>lstK_ok G_ok (lcons ok_beam_trimmed (lnil))) Tryz.func274 (by kernel_rfl) (by kernel_rfl) (by kernel_rfl) (by kernel_rfl) (by kernel_rfl) ev_beam_taken
def F_beam_halved (a:List Int):Option ((List Int)) :=
 (if 0 ≤ ((a.length:Nat):Int) ∧ ((a.length:Nat):Int) ≤ 16777216 then (iterF (σ:=Int × List Int × Unit) (ρ:=List Int × Unit) (fun s22=>(bif (decide (s22.1 < ((a.length:Nat):Int))) then ((idx a s22.1).bind fun x23=>(idx s22.2.1 s22.1).bind fun _x24=>(s22.2.1[(Int.toNat s22.1)]?).bind fun x25=>(bif (decide ((IntKind.i64.wrap (s22.1 + 1)) < ((a.length:Nat):Int))) then (idx (s22.2.1.set (Int.toNat s22.1) (x23.fdiv (2 ^ min (Int.toNat 1) IntKind.u32.bits))) s22.1).bind fun _x26=>((s22.2.1.set (Int.toNat s22.1) (x23.fdiv (2 ^ min (Int.toNat 1) IntKind.u32.bits)))[(Int.toNat s22.1)]?).bind fun x27=>(idx a (IntKind.i64.wrap (s22.1 + 1))).bind fun x28=>(idx (s22.2.1.set (Int.toNat s22.1) (x23.fdiv (2 ^ min (Int.toNat 1) IntKind.u32.bits))) s22.1).bind fun _x29=>((s22.2.1.set (Int.toNat s22.1) (x23.fdiv (2 ^ min (Int.toNat 1) IntKind.u32.bits)))[(Int.toNat s22.1)]?).bind fun x30=>some (((s22.2.1.set (Int.toNat s22.1) (x23.fdiv (2 ^ min (Int.toNat 1) IntKind.u32.bits))).set (Int.toNat s22.1) (bitsOf .or .u32 x27 (IntKind.u32.wrap (x28 * 2 ^ min (Int.toNat 31) IntKind.u32.bits)))),()) else some ((s22.2.1.set (Int.toNat s22.1) (x23.fdiv (2 ^ min (Int.toNat 1) IntKind.u32.bits))),())):Option (List Int × Unit)).bind fun y31=>some (.inl ((IntKind.i64.wrap (s22.1 + 1)),y31.1,())) else some (.inr (s22.2.1,())))) big (0,(List.replicate (Int.toNat ((a.length:Nat):Int)) (0:Int)),())).bind fun y32=>(F_beam_trimmed y32.1).bind fun r33=>some r33 else none)
def an_beam_halved:An U:=(.node none .nil (.node none .nil (.node none (.node none .nil (.node none (.node (some ⟨[0,2,3,9],[1],⟨[(10,.tv .int)],[(1,.row .u32)]⟩,[(.exit 0,⟨[],[(1,.row .u32)]⟩)]⟩) (.node none .nil (.node none .nil (.node (some ⟨[10],[1],⟨[],[]⟩,[(.normal,⟨[],[(1,.row .u32)]⟩)]⟩) .nil .nil))) .nil) .nil)) .nil)))
def fe_beam_halved:Fe G:=⟨[.v .l_u32],[.l_u32],fun x=>F_beam_halved x.1⟩
def tb_beam_halved:List (FuncId × Fe G):=[(269,fe_beam_trimmed)]
theorem ev_beam_halved (x:TyP G fe_beam_halved.ps):evZ G (lstK G tb_beam_halved) (bodyOf Tryz.f279) an_beam_halved 41 [.tmp 2] fe_beam_halved.rs (argT G fe_beam_halved.ps x) = fe_beam_halved.fn x:=by kernel_rfl
theorem ok_beam_halved:FnOk G 279 fe_beam_halved:=fnOkz_of G_ok (fun _=>lstK_ok G_ok (lcons ok_beam_trimmed (lnil))) Tryz.func279 (by kernel_rfl) (by kernel_rfl) (by kernel_rfl) (by kernel_rfl) (by kernel_rfl) ev_beam_halved
end
end Go.Proofs.YtgbicnkpnhifgaaGreatDoor
