/- Joined by merge.py: Fn0. -/
import Derived.Test.YtgbicnkpnhifgaaGreatDoorM04
set_option linter.unusedSectionVars false
set_option linter.unusedVariables false
set_option linter.unusedSimpArgs false
namespace Go.Proofs.YtgbicnkpnhifgaaGreatDoor
open Go.RowKit
noncomputable section
def F_ref21_Small (s:TSet) (most:Int):Option (Bool) :=
 ((bif (decide (((s.name.size:Nat):Int) > 60)) then some (true,()) else (bif (decide (((s.lines.length:Nat):Int) > 12)) then some (true,()) else (bif (decide (((s.items.length:Nat):Int) > most)) then (bif (decide (((s.items.length:Nat):Int) ≤ 40)) then some (true,()) else (bif (decide (((s.items.length:Nat):Int) > 45)) then some (true,()) else some ((decide (((s.bricks.length:Nat):Int) > 10)),()))) else (bif (decide (((s.items.length:Nat):Int) > 45)) then some (true,()) else some ((decide (((s.bricks.length:Nat):Int) > 10)),()))))):Option (Bool × Unit)).bind fun y1=>(bif y1.1 then some false else (iterF (σ:=Int × Unit) (ρ:=(Bool × Unit) ⊕ (Unit)) (fun s3=>(bif (decide (s3.1 < ((s.items.length:Nat):Int))) then (idx s.items s3.1).bind fun x4=>(bif (decide (((x4.name.size:Nat):Int) > 60)) then some (.inr (.inl (false,()))) else some (.inl ((IntKind.i64.wrap (s3.1 + 1)),()))) else some (.inr (.inr ((())))))) big (0,())).bind fun y5=>(match y5 with | .inl y6=>some y6.1 | .inr y7=>(iterF (σ:=Int × Unit) (ρ:=(Bool × Unit) ⊕ (Unit)) (fun s9=>(bif (decide (s9.1 < ((s.bricks.length:Nat):Int))) then (idx s.bricks s9.1).bind fun x10=>(bif (decide (((x10.name.size:Nat):Int) > 60)) then some (.inr (.inl (false,()))) else some (.inl ((IntKind.i64.wrap (s9.1 + 1)),()))) else some (.inr (.inr ((())))))) big (0,())).bind fun y11=>(match y11 with | .inl y12=>some y12.1 | .inr y13=>some true)))
def an_ref21_Small:An U:=(.node none .nil (.node none (.node (some ⟨[2,4],[],⟨[],[]⟩,[(.normal,⟨[(41,.tv .bool)],[]⟩)]⟩) .nil .nil) (.node none (.node none .nil (.node none (.node (some ⟨[2],[],⟨[(5,.tv .int)],[]⟩,[(.ret,⟨[(4,.tv .bool)],[]⟩),(.exit 0,⟨[],[]⟩)]⟩) .nil .nil) .nil)) (.node none (.node none .nil (.node none (.node (some ⟨[2],[],⟨[(6,.tv .int)],[]⟩,[(.ret,⟨[(4,.tv .bool)],[]⟩),(.exit 2,⟨[],[]⟩)]⟩) .nil .nil) .nil)) .nil))))
def fe_ref21_Small:Fe G:=⟨[.v .Set,.v .int1],[.bool],fun x=>F_ref21_Small x.1 x.2.1⟩
theorem ok_ref21_Small:FnOk G 7 fe_ref21_Small:=fk (an:=an_ref21_Small) (k:=72) (res:=[.tmp 4]) (lstK_ok G_ok (lnil)) Tryz.func7 fun _=>by kernel_rfl
def F_top_soundFrac (n:Int):Option (TFrac) :=
 some (TFrac.mk n 1)
def fe_top_soundFrac:Fe G:=⟨[.v .int1],[.Frac],fun x=>F_top_soundFrac x.1⟩
theorem ok_top_soundFrac:FnOk G 10 fe_top_soundFrac:=fk (an:=.nil) (k:=5) (res:=[.cell 2 35]) (lstK_ok G_ok (lnil)) Tryz.func10 fun _=>by kernel_rfl
def F_slices_Equal_int (s1_:List Int) (s2_:List Int):Option (Bool) :=
 (bif (((s1_.length:Nat):Int) != ((s2_.length:Nat):Int)) then some false else (iterF (σ:=Int × Unit) (ρ:=(Bool × Unit) ⊕ (Unit)) (fun s3=>(bif (decide (s3.1 < ((s1_.length:Nat):Int))) then (idx s1_ s3.1).bind fun x4=>(idx s2_ s3.1).bind fun x5=>(bif (x4 != x5) then some (.inr (.inl (false,()))) else some (.inl ((IntKind.i64.wrap (s3.1 + 1)),()))) else some (.inr (.inr ((())))))) big (0,())).bind fun y6=>(match y6 with | .inl y7=>some y7.1 | .inr y8=>some true))
def an_slices_Equal_int:An U:=(.node none .nil (.node none .nil (.node none (.node none .nil (.node none (.node (some ⟨[0,1,12],[],⟨[(13,.tv .int)],[]⟩,[(.ret,⟨[(4,.tv .bool)],[]⟩),(.exit 0,⟨[],[]⟩)]⟩) .nil .nil) .nil)) .nil)))
def fe_slices_Equal_int:Fe G:=⟨[.v .l_int1,.v .l_int1],[.bool],fun x=>F_slices_Equal_int x.1 x.2.1⟩
theorem ok_slices_Equal_int:FnOk G 15 fe_slices_Equal_int:=fk (an:=an_slices_Equal_int) (k:=26) (res:=[.tmp 4]) (lstK_ok G_ok (lnil)) Tryz.func15 fun _=>by kernel_rfl
def F_slices_Equal_api_Frac (s1_:List TFrac) (s2_:List TFrac):Option (Bool) :=
 (bif (((s1_.length:Nat):Int) != ((s2_.length:Nat):Int)) then some false else (iterF (σ:=Int × Unit) (ρ:=(Bool × Unit) ⊕ (Unit)) (fun s3=>(bif (decide (s3.1 < ((s1_.length:Nat):Int))) then (idx s1_ s3.1).bind fun x4=>(idx s2_ s3.1).bind fun x5=>(bif (!((x4.num == x5.num) && (x4.den == x5.den))) then some (.inr (.inl (false,()))) else some (.inl ((IntKind.i64.wrap (s3.1 + 1)),()))) else some (.inr (.inr ((())))))) big (0,())).bind fun y6=>(match y6 with | .inl y7=>some y7.1 | .inr y8=>some true))
def an_slices_Equal_api_Frac:An U:=(.node none .nil (.node none .nil (.node none (.node none .nil (.node none (.node (some ⟨[0,1,12],[],⟨[(13,.tv .int)],[]⟩,[(.ret,⟨[(4,.tv .bool)],[]⟩),(.exit 0,⟨[],[]⟩)]⟩) .nil .nil) .nil)) .nil)))
def fe_slices_Equal_api_Frac:Fe G:=⟨[.v .l_Frac,.v .l_Frac],[.bool],fun x=>F_slices_Equal_api_Frac x.1 x.2.1⟩
theorem ok_slices_Equal_api_Frac:FnOk G 29 fe_slices_Equal_api_Frac:=fk (an:=an_slices_Equal_api_Frac) (k:=26) (res:=[.tmp 4]) (lstK_ok G_ok (lnil)) Tryz.func29 fun _=>by kernel_rfl
def F_slices_Equal_api_Finding (s1_:List TFinding) (s2_:List TFinding):Option (Bool) :=
 (bif (((s1_.length:Nat):Int) != ((s2_.length:Nat):Int)) then some false else (iterF (σ:=Int × Unit) (ρ:=(Bool × Unit) ⊕ (Unit)) (fun s3=>(bif (decide (s3.1 < ((s1_.length:Nat):Int))) then (idx s1_ s3.1).bind fun x4=>(idx s2_ s3.1).bind fun x5=>(bif (!((x4.kind == x5.kind) && (x4.name.toList == x5.name.toList))) then some (.inr (.inl (false,()))) else some (.inl ((IntKind.i64.wrap (s3.1 + 1)),()))) else some (.inr (.inr ((())))))) big (0,())).bind fun y6=>(match y6 with | .inl y7=>some y7.1 | .inr y8=>some true))
def an_slices_Equal_api_Finding:An U:=(.node none .nil (.node none .nil (.node none (.node none .nil (.node none (.node (some ⟨[0,1,12],[],⟨[(13,.tv .int)],[]⟩,[(.ret,⟨[(4,.tv .bool)],[]⟩),(.exit 0,⟨[],[]⟩)]⟩) .nil .nil) .nil)) .nil)))
def fe_slices_Equal_api_Finding:Fe G:=⟨[.v .l_Finding,.v .l_Finding],[.bool],fun x=>F_slices_Equal_api_Finding x.1 x.2.1⟩
theorem ok_slices_Equal_api_Finding:FnOk G 30 fe_slices_Equal_api_Finding:=fk (an:=an_slices_Equal_api_Finding) (k:=26) (res:=[.tmp 4]) (lstK_ok G_ok (lnil)) Tryz.func30 fun _=>by kernel_rfl
def F_batten_between (n:Int) (low:Int) (high:Int):Option (Bool) :=
 ((bif (decide (n ≥ low)) then some ((decide (n ≤ high)),()) else some (false,())):Option (Bool × Unit)).bind fun y1=>some y1.1
def an_batten_between:An U:=(.node none .nil (.node (some ⟨[],[],⟨[],[]⟩,[(.normal,⟨[(6,.tv .bool)],[]⟩)]⟩) .nil .nil))
def fe_batten_between:Fe G:=⟨[.v .int1,.v .int1,.v .int1],[.bool],fun x=>F_batten_between x.1 x.2.1 x.2.2.1⟩
theorem ok_batten_between:FnOk G 49 fe_batten_between:=fk (an:=an_batten_between) (k:=15) (res:=[.tmp 6]) (lstK_ok G_ok (lnil)) Tryz.func49 fun _=>by kernel_rfl
def F_lineset_Check_2 (f:TFrac):Option (Bool) :=
 some (decide (f.num < 0))
def fe_lineset_Check_2:Fe G:=⟨[.v .Frac],[.bool],fun x=>F_lineset_Check_2 x.1⟩
theorem ok_lineset_Check_2:FnOk G 59 fe_lineset_Check_2:=fk (an:=.nil) (k:=6) (res:=[.tmp 2]) (lstK_ok G_ok (lnil)) Tryz.func59 fun _=>by kernel_rfl
def F_slices_IndexFunc_api_Set (s:List TSet) (f:TSet → Option Bool):Option (Int) :=
 (iterF (σ:=Int × Unit) (ρ:=(Int × Unit) ⊕ (Unit)) (fun s3=>(bif (decide (s3.1 < ((s.length:Nat):Int))) then (idx s s3.1).bind fun x4=>(f x4).bind fun r5=>(bif r5 then some (.inr (.inl (s3.1,()))) else some (.inl ((IntKind.i64.wrap (s3.1 + 1)),()))) else some (.inr (.inr ((())))))) big (0,())).bind fun y6=>(match y6 with | .inl y7=>some y7.1 | .inr y8=>some (-1))
def an_slices_IndexFunc_api_Set:An U:=(.node none .nil (.node none (.node none .nil (.node none (.node (some ⟨[0,1,7],[],⟨[(8,.tv .int)],[]⟩,[(.ret,⟨[(4,.tv .int)],[]⟩),(.exit 0,⟨[],[]⟩)]⟩) .nil .nil) .nil)) .nil))
def fe_slices_IndexFunc_api_Set:Fe G:=⟨[.v .l_Set,.fn .Set .bool],[.int1],fun x=>F_slices_IndexFunc_api_Set x.1 x.2.1⟩
theorem ok_slices_IndexFunc_api_Set:FnOk G 71 fe_slices_IndexFunc_api_Set:=fk (an:=an_slices_IndexFunc_api_Set) (k:=19) (res:=[.tmp 4]) (lstK_ok G_ok (lnil)) Tryz.func71 fun _=>by kernel_rfl
def F_slices_Equal_api_Item (s1_:List TItem) (s2_:List TItem):Option (Bool) :=
 (bif (((s1_.length:Nat):Int) != ((s2_.length:Nat):Int)) then some false else (iterF (σ:=Int × Unit) (ρ:=(Bool × Unit) ⊕ (Unit)) (fun s3=>(bif (decide (s3.1 < ((s1_.length:Nat):Int))) then (idx s1_ s3.1).bind fun x4=>(idx s2_ s3.1).bind fun x5=>(bif (!((x4.name.toList == x5.name.toList) && ((x4.at_ == x5.at_) && ((x4.width == x5.width) && ((x4.weight == x5.weight) && ((x4.hang == x5.hang) && ((x4.front == x5.front) && (x4.back == x5.back)))))))) then some (.inr (.inl (false,()))) else some (.inl ((IntKind.i64.wrap (s3.1 + 1)),()))) else some (.inr (.inr ((())))))) big (0,())).bind fun y6=>(match y6 with | .inl y7=>some y7.1 | .inr y8=>some true))
def an_slices_Equal_api_Item:An U:=(.node none .nil (.node none .nil (.node none (.node none .nil (.node none (.node (some ⟨[0,1,12],[],⟨[(13,.tv .int)],[]⟩,[(.ret,⟨[(4,.tv .bool)],[]⟩),(.exit 0,⟨[],[]⟩)]⟩) .nil .nil) .nil)) .nil)))
def fe_slices_Equal_api_Item:Fe G:=⟨[.v .l_Item,.v .l_Item],[.bool],fun x=>F_slices_Equal_api_Item x.1 x.2.1⟩
theorem ok_slices_Equal_api_Item:FnOk G 76 fe_slices_Equal_api_Item:=fk (an:=an_slices_Equal_api_Item) (k:=26) (res:=[.tmp 4]) (lstK_ok G_ok (lnil)) Tryz.func76 fun _=>by kernel_rfl
def F_slices_Equal_api_Brick (s1_:List TBrick) (s2_:List TBrick):Option (Bool) :=
 (bif (((s1_.length:Nat):Int) != ((s2_.length:Nat):Int)) then some false else (iterF (σ:=Int × Unit) (ρ:=(Bool × Unit) ⊕ (Unit)) (fun s3=>(bif (decide (s3.1 < ((s1_.length:Nat):Int))) then (idx s1_ s3.1).bind fun x4=>(idx s2_ s3.1).bind fun x5=>(bif (!((x4.name.toList == x5.name.toList) && ((x4.weight == x5.weight) && (x4.count == x5.count)))) then some (.inr (.inl (false,()))) else some (.inl ((IntKind.i64.wrap (s3.1 + 1)),()))) else some (.inr (.inr ((())))))) big (0,())).bind fun y6=>(match y6 with | .inl y7=>some y7.1 | .inr y8=>some true))
def an_slices_Equal_api_Brick:An U:=(.node none .nil (.node none .nil (.node none (.node none .nil (.node none (.node (some ⟨[0,1,12],[],⟨[(13,.tv .int)],[]⟩,[(.ret,⟨[(4,.tv .bool)],[]⟩),(.exit 0,⟨[],[]⟩)]⟩) .nil .nil) .nil)) .nil)))
def fe_slices_Equal_api_Brick:Fe G:=⟨[.v .l_Brick,.v .l_Brick],[.bool],fun x=>F_slices_Equal_api_Brick x.1 x.2.1⟩
theorem ok_slices_Equal_api_Brick:FnOk G 77 fe_slices_Equal_api_Brick:=fk (an:=an_slices_Equal_api_Brick) (k:=26) (res:=[.tmp 4]) (lstK_ok G_ok (lnil)) Tryz.func77 fun _=>by kernel_rfl
def F_slices_Clone_api_Frac (s:List TFrac):Option ((List TFrac)) :=
 (if ([]:List TFrac).length + s.length ≤ 2147483648 then some (([]:List TFrac) ++ s) else none)
def fe_slices_Clone_api_Frac:Fe G:=⟨[.v .l_Frac],[.l_Frac],fun x=>F_slices_Clone_api_Frac x.1⟩
theorem ok_slices_Clone_api_Frac:FnOk G 80 fe_slices_Clone_api_Frac:=clone_ok G_ok (lstK_ok G_ok lnil) Tryz.func80 (by kernel_rfl) (by kernel_rfl) (k:=8) (by kernel_rfl) (by decide) (res:=[.tmp 2]) (by kernel_rfl) (by kernel_rfl) (t:=46) (by kernel_rfl) (u:=.Frac) (lu:=.l_Frac) (by kernel_rfl) (cast:=fun x=>x) (fun _=>by kernel_rfl) (F:=F_slices_Clone_api_Frac) (fun _=>by kernel_rfl) (fun x y hx h=>by obtain rfl:x = ([]:List TFrac):=hx;rw [← h];kernel_rfl)
def F_slices_Clone_int (s:List Int):Option ((List Int)) :=
 (if ([]:List Int).length + s.length ≤ 2147483648 then some (([]:List Int) ++ s) else none)
def fe_slices_Clone_int:Fe G:=⟨[.v .l_int1],[.l_int1],fun x=>F_slices_Clone_int x.1⟩
theorem ok_slices_Clone_int:FnOk G 98 fe_slices_Clone_int:=clone_ok G_ok (lstK_ok G_ok lnil) Tryz.func98 (by kernel_rfl) (by kernel_rfl) (k:=8) (by kernel_rfl) (by decide) (res:=[.tmp 2]) (by kernel_rfl) (by kernel_rfl) (t:=22) (by kernel_rfl) (u:=.int1) (lu:=.l_int1) (by kernel_rfl) (cast:=fun x=>x) (fun _=>by kernel_rfl) (F:=F_slices_Clone_int) (fun _=>by kernel_rfl) (fun x y hx h=>by obtain rfl:x = ([]:List Int):=hx;rw [← h];kernel_rfl)
def F_slices_Clone_api_Item (s:List TItem):Option ((List TItem)) :=
 (if ([]:List TItem).length + s.length ≤ 2147483648 then some (([]:List TItem) ++ s) else none)
def fe_slices_Clone_api_Item:Fe G:=⟨[.v .l_Item],[.l_Item],fun x=>F_slices_Clone_api_Item x.1⟩
theorem ok_slices_Clone_api_Item:FnOk G 99 fe_slices_Clone_api_Item:=clone_ok G_ok (lstK_ok G_ok lnil) Tryz.func99 (by kernel_rfl) (by kernel_rfl) (k:=8) (by kernel_rfl) (by decide) (res:=[.tmp 2]) (by kernel_rfl) (by kernel_rfl) (t:=23) (by kernel_rfl) (u:=.Item) (lu:=.l_Item) (by kernel_rfl) (cast:=fun x=>x) (fun _=>by kernel_rfl) (F:=F_slices_Clone_api_Item) (fun _=>by kernel_rfl) (fun x y hx h=>by obtain rfl:x = ([]:List TItem):=hx;rw [← h];kernel_rfl)
def F_slices_Clone_api_Brick (s:List TBrick):Option ((List TBrick)) :=
 (if ([]:List TBrick).length + s.length ≤ 2147483648 then some (([]:List TBrick) ++ s) else none)
def fe_slices_Clone_api_Brick:Fe G:=⟨[.v .l_Brick],[.l_Brick],fun x=>F_slices_Clone_api_Brick x.1⟩
theorem ok_slices_Clone_api_Brick:FnOk G 100 fe_slices_Clone_api_Brick:=clone_ok G_ok (lstK_ok G_ok lnil) Tryz.func100 (by kernel_rfl) (by kernel_rfl) (k:=8) (by kernel_rfl) (by decide) (res:=[.tmp 2]) (by kernel_rfl) (by kernel_rfl) (t:=24) (by kernel_rfl) (u:=.Brick) (lu:=.l_Brick) (by kernel_rfl) (cast:=fun x=>x) (fun _=>by kernel_rfl) (F:=F_slices_Clone_api_Brick) (fun _=>by kernel_rfl) (fun x y hx h=>by obtain rfl:x = ([]:List TBrick):=hx;rw [← h];kernel_rfl)
def F_arbor_there (s:TSet):Option (Int × Int) :=
 (iterF (σ:=Int × Int × Int × Unit) (ρ:=Int × Int × Unit) (fun s2=>(bif (decide (s2.2.2.1 < ((s.bricks.length:Nat):Int))) then (idx s.bricks s2.2.2.1).bind fun x3=>some (.inl ((IntKind.i64.wrap (s2.1 + (IntKind.i64.wrap (x3.weight * x3.count)))),(IntKind.i64.wrap (s2.2.1 + x3.count)),(IntKind.i64.wrap (s2.2.2.1 + 1)),())) else some (.inr (s2.1,s2.2.1,())))) big (0,0,0,())).bind fun y4=>some (y4.1,y4.2.1)
def an_arbor_there:An U:=(.node none .nil (.node none (.node none .nil (.node none (.node (some ⟨[7,8],[],⟨[(2,.tv .int),(3,.tv .int),(9,.tv .int)],[]⟩,[(.exit 0,⟨[(2,.tv .int),(3,.tv .int)],[]⟩)]⟩) .nil .nil) .nil)) .nil))
def fe_arbor_there:Fe G:=⟨[.v .Set],[.int1,.int1],fun x=>F_arbor_there x.1⟩
theorem ok_arbor_there:FnOk G 101 fe_arbor_there:=fk (an:=an_arbor_there) (k:=25) (res:=[.tmp 2,.tmp 3]) (lstK_ok G_ok (lnil)) Tryz.func101 fun _=>by kernel_rfl
def F_slices_IndexFunc_api_Rope (s:List TRope) (f:TRope → Option Bool):Option (Int) :=
 (iterF (σ:=Int × Unit) (ρ:=(Int × Unit) ⊕ (Unit)) (fun s3=>(bif (decide (s3.1 < ((s.length:Nat):Int))) then (idx s s3.1).bind fun x4=>(f x4).bind fun r5=>(bif r5 then some (.inr (.inl (s3.1,()))) else some (.inl ((IntKind.i64.wrap (s3.1 + 1)),()))) else some (.inr (.inr ((())))))) big (0,())).bind fun y6=>(match y6 with | .inl y7=>some y7.1 | .inr y8=>some (-1))
def an_slices_IndexFunc_api_Rope:An U:=(.node none .nil (.node none (.node none .nil (.node none (.node (some ⟨[0,1,7],[],⟨[(8,.tv .int)],[]⟩,[(.ret,⟨[(4,.tv .int)],[]⟩),(.exit 0,⟨[],[]⟩)]⟩) .nil .nil) .nil)) .nil))
def fe_slices_IndexFunc_api_Rope:Fe G:=⟨[.v .l_Rope,.fn .Rope .bool],[.int1],fun x=>F_slices_IndexFunc_api_Rope x.1 x.2.1⟩
theorem ok_slices_IndexFunc_api_Rope:FnOk G 107 fe_slices_IndexFunc_api_Rope:=fk (an:=an_slices_IndexFunc_api_Rope) (k:=19) (res:=[.tmp 4]) (lstK_ok G_ok (lnil)) Tryz.func107 fun _=>by kernel_rfl
def F_statics_Haul_1 (r:TRope):Option (Bool) :=
 some r.hauled
def fe_statics_Haul_1:Fe G:=⟨[.v .Rope],[.bool],fun x=>F_statics_Haul_1 x.1⟩
theorem ok_statics_Haul_1:FnOk G 108 fe_statics_Haul_1:=fk (an:=.nil) (k:=5) (res:=[.tmp 2]) (lstK_ok G_ok (lnil)) Tryz.func108 fun _=>by kernel_rfl
def F_decimal_letter (c:Int):Option (Bool) :=
 ((bif (decide (c ≥ 97)) then (bif (decide (c ≤ 122)) then some (true,()) else (bif (decide (c ≥ 65)) then some ((decide (c ≤ 90)),()) else some (false,()))) else (bif (decide (c ≥ 65)) then some ((decide (c ≤ 90)),()) else some (false,()))):Option (Bool × Unit)).bind fun y1=>some y1.1
def an_decimal_letter:An U:=(.node none .nil (.node (some ⟨[],[],⟨[],[]⟩,[(.normal,⟨[(2,.tv .bool)],[]⟩)]⟩) .nil .nil))
def fe_decimal_letter:Fe G:=⟨[.v .u8],[.bool],fun x=>F_decimal_letter x.1⟩
theorem ok_decimal_letter:FnOk G 110 fe_decimal_letter:=fk (an:=an_decimal_letter) (k:=17) (res:=[.tmp 2]) (lstK_ok G_ok (lnil)) Tryz.func110 fun _=>by kernel_rfl
def F_batten_twice_api_Item (l:List TItem) (name:TItem → Option ByteArray):Option (Bool) :=
 (iterF (σ:=Int × List (ByteArray × Bool) × Unit) (ρ:=List (ByteArray × Bool) × Unit) (fun s5=>(bif (decide (s5.1 < ((l.length:Nat):Int))) then (idx l s5.1).bind fun x6=>(name x6).bind fun r7=>(if r7.size ≤ 2147483648 ∧ s5.2.1.length ≤ 2147483648 then some (.inl ((IntKind.i64.wrap (s5.1 + 1)),(setM r7 true s5.2.1),())) else none) else some (.inr (s5.2.1,())))) big (0,([]:List (ByteArray × Bool)),())).bind fun y8=>some (decide (((y8.1.length:Nat):Int) < ((l.length:Nat):Int)))
def an_batten_twice_api_Item:An U:=(.node none .nil (.node none .nil (.node none (.node none .nil (.node none (.node (some ⟨[0,1,4,5,9,10],[0],⟨[(11,.tv .int)],[(0,.ab (.map 223 false))]⟩,[(.exit 0,⟨[],[(0,.ab (.map 223 false))]⟩)]⟩) .nil .nil) .nil)) .nil)))
def fe_batten_twice_api_Item:Fe G:=⟨[.v .l_Item,.fn .Item .str],[.bool],fun x=>F_batten_twice_api_Item x.1 x.2.1⟩
theorem ok_batten_twice_api_Item:FnOk G 112 fe_batten_twice_api_Item:=fk (an:=an_batten_twice_api_Item) (k:=26) (res:=[.tmp 4]) (lstK_ok G_ok (lnil)) Tryz.func112 fun _=>by kernel_rfl
def F_batten_items_1 (x:TItem):Option (ByteArray) :=
 some x.name
def fe_batten_items_1:Fe G:=⟨[.v .Item],[.str],fun x=>F_batten_items_1 x.1⟩
theorem ok_batten_items_1:FnOk G 113 fe_batten_items_1:=fk (an:=.nil) (k:=5) (res:=[.tmp 2]) (lstK_ok G_ok (lnil)) Tryz.func113 fun _=>by kernel_rfl
def F_batten_apart (a:TItem) (b:TItem):Option (Bool) :=
 ((bif (decide ((IntKind.i64.wrap (a.at_ + a.width)) ≤ b.at_)) then some (true,()) else some ((decide ((IntKind.i64.wrap (b.at_ + b.width)) ≤ a.at_)),())):Option (Bool × Unit)).bind fun y1=>some y1.1
def an_batten_apart:An U:=(.node none .nil (.node (some ⟨[],[],⟨[],[]⟩,[(.normal,⟨[(4,.tv .bool)],[]⟩)]⟩) .nil .nil))
def fe_batten_apart:Fe G:=⟨[.v .Item,.v .Item],[.bool],fun x=>F_batten_apart x.1 x.2.1⟩
theorem ok_batten_apart:FnOk G 118 fe_batten_apart:=fk (an:=an_batten_apart) (k:=23) (res:=[.tmp 4]) (lstK_ok G_ok (lnil)) Tryz.func118 fun _=>by kernel_rfl
def F_batten_twice_api_Brick (l:List TBrick) (name:TBrick → Option ByteArray):Option (Bool) :=
 (iterF (σ:=Int × List (ByteArray × Bool) × Unit) (ρ:=List (ByteArray × Bool) × Unit) (fun s5=>(bif (decide (s5.1 < ((l.length:Nat):Int))) then (idx l s5.1).bind fun x6=>(name x6).bind fun r7=>(if r7.size ≤ 2147483648 ∧ s5.2.1.length ≤ 2147483648 then some (.inl ((IntKind.i64.wrap (s5.1 + 1)),(setM r7 true s5.2.1),())) else none) else some (.inr (s5.2.1,())))) big (0,([]:List (ByteArray × Bool)),())).bind fun y8=>some (decide (((y8.1.length:Nat):Int) < ((l.length:Nat):Int)))
def an_batten_twice_api_Brick:An U:=(.node none .nil (.node none .nil (.node none (.node none .nil (.node none (.node (some ⟨[0,1,4,5,9,10],[0],⟨[(11,.tv .int)],[(0,.ab (.map 223 false))]⟩,[(.exit 0,⟨[],[(0,.ab (.map 223 false))]⟩)]⟩) .nil .nil) .nil)) .nil)))
def fe_batten_twice_api_Brick:Fe G:=⟨[.v .l_Brick,.fn .Brick .str],[.bool],fun x=>F_batten_twice_api_Brick x.1 x.2.1⟩
theorem ok_batten_twice_api_Brick:FnOk G 119 fe_batten_twice_api_Brick:=fk (an:=an_batten_twice_api_Brick) (k:=26) (res:=[.tmp 4]) (lstK_ok G_ok (lnil)) Tryz.func119 fun _=>by kernel_rfl
def F_batten_bricks_1 (b:TBrick):Option (ByteArray) :=
 some b.name
def fe_batten_bricks_1:Fe G:=⟨[.v .Brick],[.str],fun x=>F_batten_bricks_1 x.1⟩
theorem ok_batten_bricks_1:FnOk G 120 fe_batten_bricks_1:=fk (an:=.nil) (k:=5) (res:=[.tmp 2]) (lstK_ok G_ok (lnil)) Tryz.func120 fun _=>by kernel_rfl
def F_ratio_size (n:Int):Option (Int) :=
 (bif (decide (n < 0)) then some (IntKind.u64.wrap (0 - (IntKind.u64.wrap n))) else some (IntKind.u64.wrap n))
def fe_ratio_size:Fe G:=⟨[.v .int1],[.u641],fun x=>F_ratio_size x.1⟩
theorem ok_ratio_size:FnOk G 129 fe_ratio_size:=fk (an:=.nil) (k:=10) (res:=[.tmp 2]) (lstK_ok G_ok (lnil)) Tryz.func129 fun _=>by kernel_rfl
def F_ratio_less (a:Twide) (b:Twide):Option (Bool) :=
 ((bif (decide (a.hi < b.hi)) then some (true,()) else (bif (a.hi == b.hi) then some ((decide (a.lo < b.lo)),()) else some (false,()))):Option (Bool × Unit)).bind fun y1=>some y1.1
def an_ratio_less:An U:=(.node none .nil (.node (some ⟨[],[],⟨[],[]⟩,[(.normal,⟨[(4,.tv .bool)],[]⟩)]⟩) .nil .nil))
def fe_ratio_less:Fe G:=⟨[.v .wide,.v .wide],[.bool],fun x=>F_ratio_less x.1 x.2.1⟩
theorem ok_ratio_less:FnOk G 130 fe_ratio_less:=fk (an:=an_ratio_less) (k:=24) (res:=[.tmp 4]) (lstK_ok G_ok (lnil)) Tryz.func130 fun _=>by kernel_rfl
def F_slices_IndexFunc_api_Frac (s:List TFrac) (f:TFrac → Option Bool):Option (Int) :=
 (iterF (σ:=Int × Unit) (ρ:=(Int × Unit) ⊕ (Unit)) (fun s3=>(bif (decide (s3.1 < ((s.length:Nat):Int))) then (idx s s3.1).bind fun x4=>(f x4).bind fun r5=>(bif r5 then some (.inr (.inl (s3.1,()))) else some (.inl ((IntKind.i64.wrap (s3.1 + 1)),()))) else some (.inr (.inr ((())))))) big (0,())).bind fun y6=>(match y6 with | .inl y7=>some y7.1 | .inr y8=>some (-1))
def an_slices_IndexFunc_api_Frac:An U:=(.node none .nil (.node none (.node none .nil (.node none (.node (some ⟨[0,1,7],[],⟨[(8,.tv .int)],[]⟩,[(.ret,⟨[(4,.tv .int)],[]⟩),(.exit 0,⟨[],[]⟩)]⟩) .nil .nil) .nil)) .nil))
def fe_slices_IndexFunc_api_Frac:Fe G:=⟨[.v .l_Frac,.fn .Frac .bool],[.int1],fun x=>F_slices_IndexFunc_api_Frac x.1 x.2.1⟩
theorem ok_slices_IndexFunc_api_Frac:FnOk G 132 fe_slices_IndexFunc_api_Frac:=fk (an:=an_slices_IndexFunc_api_Frac) (k:=19) (res:=[.tmp 4]) (lstK_ok G_ok (lnil)) Tryz.func132 fun _=>by kernel_rfl
def F_ratio_gcd (a:Int) (b:Int):Option (Int) :=
 (iterF (σ:=Int × Int × Unit) (ρ:=Int × Unit) (fun s1=>(bif (s1.2.1 != 0) then (if s1.2.1 = 0 then none else some (.inl (s1.2.1,(s1.1.tmod s1.2.1),()))) else some (.inr (s1.1,())))) big (a,b,())).bind fun y2=>some y2.1
def an_ratio_gcd:An U:=(.node none .nil (.node none (.node none (.node (some ⟨[4],[],⟨[(0,.tv .u64),(1,.tv .u64)],[]⟩,[(.exit 0,⟨[(0,.tv .u64)],[]⟩)]⟩) .nil .nil) .nil) .nil))
def fe_ratio_gcd:Fe G:=⟨[.v .u641,.v .u641],[.u641],fun x=>F_ratio_gcd x.1 x.2.1⟩
theorem ok_ratio_gcd:FnOk G 149 fe_ratio_gcd:=fk (an:=an_ratio_gcd) (k:=12) (res:=[.tmp 4]) (lstK_ok G_ok (lnil)) Tryz.func149 fun _=>by kernel_rfl
def F_ratio_signed (negative:Bool) (num:Int) (den:Int):Option (TFrac × Int) :=
 ((bif (decide (num > 1152921504606846976)) then some (true,()) else some ((decide (den > 1152921504606846976)),())):Option (Bool × Unit)).bind fun y1=>(bif y1.1 then some ((TFrac.mk 0 0),5) else ((bif negative then some ((IntKind.i64.wrap (0 - (IntKind.i64.wrap num))),()) else some ((IntKind.i64.wrap num),())):Option (Int × Unit)).bind fun y2=>some ((TFrac.mk y2.1 (IntKind.i64.wrap den)),0))
def an_ratio_signed:An U:=(.node none .nil (.node none (.node (some ⟨[0,1,2,6,7],[],⟨[],[]⟩,[(.normal,⟨[(14,.tv .bool)],[]⟩)]⟩) .nil .nil) (.node none .nil (.node (some ⟨[2,6,7],[],⟨[],[]⟩,[(.normal,⟨[(8,.tv .int)],[]⟩)]⟩) .nil .nil))))
def fe_ratio_signed:Fe G:=⟨[.v .bool,.v .u641,.v .u641],[.Frac,.Errno],fun x=>F_ratio_signed x.1 x.2.1 x.2.2.1⟩
theorem ok_ratio_signed:FnOk G 150 fe_ratio_signed:=fk (an:=an_ratio_signed) (k:=25) (res:=[.cell 6 35,.tmp 7]) (lstK_ok G_ok (lnil)) Tryz.func150 fun _=>by kernel_rfl
def F_slices_IndexFunc_int (s:List Int) (f:Int → Option Bool):Option (Int) :=
 (iterF (σ:=Int × Unit) (ρ:=(Int × Unit) ⊕ (Unit)) (fun s3=>(bif (decide (s3.1 < ((s.length:Nat):Int))) then (idx s s3.1).bind fun x4=>(f x4).bind fun r5=>(bif r5 then some (.inr (.inl (s3.1,()))) else some (.inl ((IntKind.i64.wrap (s3.1 + 1)),()))) else some (.inr (.inr ((())))))) big (0,())).bind fun y6=>(match y6 with | .inl y7=>some y7.1 | .inr y8=>some (-1))
def an_slices_IndexFunc_int:An U:=(.node none .nil (.node none (.node none .nil (.node none (.node (some ⟨[0,1,7],[],⟨[(8,.tv .int)],[]⟩,[(.ret,⟨[(4,.tv .int)],[]⟩),(.exit 0,⟨[],[]⟩)]⟩) .nil .nil) .nil)) .nil))
def fe_slices_IndexFunc_int:Fe G:=⟨[.v .l_int1,.fn .int1 .bool],[.int1],fun x=>F_slices_IndexFunc_int x.1 x.2.1⟩
theorem ok_slices_IndexFunc_int:FnOk G 154 fe_slices_IndexFunc_int:=fk (an:=an_slices_IndexFunc_int) (k:=19) (res:=[.tmp 4]) (lstK_ok G_ok (lnil)) Tryz.func154 fun _=>by kernel_rfl
def F_slices_IndexFunc_api_Block (s:List TBlock) (f:TBlock → Option Bool):Option (Int) :=
 (iterF (σ:=Int × Unit) (ρ:=(Int × Unit) ⊕ (Unit)) (fun s3=>(bif (decide (s3.1 < ((s.length:Nat):Int))) then (idx s s3.1).bind fun x4=>(f x4).bind fun r5=>(bif r5 then some (.inr (.inl (s3.1,()))) else some (.inl ((IntKind.i64.wrap (s3.1 + 1)),()))) else some (.inr (.inr ((())))))) big (0,())).bind fun y6=>(match y6 with | .inl y7=>some y7.1 | .inr y8=>some (-1))
def an_slices_IndexFunc_api_Block:An U:=(.node none .nil (.node none (.node none .nil (.node none (.node (some ⟨[0,1,7],[],⟨[(8,.tv .int)],[]⟩,[(.ret,⟨[(4,.tv .int)],[]⟩),(.exit 0,⟨[],[]⟩)]⟩) .nil .nil) .nil)) .nil))
def fe_slices_IndexFunc_api_Block:Fe G:=⟨[.v .l_Block,.fn .Block .bool],[.int1],fun x=>F_slices_IndexFunc_api_Block x.1 x.2.1⟩
theorem ok_slices_IndexFunc_api_Block:FnOk G 162 fe_slices_IndexFunc_api_Block:=fk (an:=an_slices_IndexFunc_api_Block) (k:=19) (res:=[.tmp 4]) (lstK_ok G_ok (lnil)) Tryz.func162 fun _=>by kernel_rfl
def F_motion_Travel_1 (x:TBlock) (a1:ByteArray):Option (Bool) :=
 some (x.name.toList == a1.toList)
def fe_motion_Travel_1:Fe G:=⟨[.v .Block,.rp .str],[.bool],fun x=>F_motion_Travel_1 x.1 x.2.1⟩
theorem ok_motion_Travel_1:FnOk G 163 fe_motion_Travel_1:=fk (an:=.nil) (k:=8) (res:=[.tmp 3]) (lstK_ok G_ok (lnil)) Tryz.func163 fun _=>by kernel_rfl
def F_motion_Travel_2 (x:TRope):Option (Bool) :=
 some x.hauled
def fe_motion_Travel_2:Fe G:=⟨[.v .Rope],[.bool],fun x=>F_motion_Travel_2 x.1⟩
theorem ok_motion_Travel_2:FnOk G 164 fe_motion_Travel_2:=fk (an:=.nil) (k:=5) (res:=[.tmp 2]) (lstK_ok G_ok (lnil)) Tryz.func164 fun _=>by kernel_rfl
def F_decimal_digit (c:Int):Option (Bool) :=
 ((bif (decide (c ≥ 48)) then some ((decide (c ≤ 57)),()) else some (false,())):Option (Bool × Unit)).bind fun y1=>some y1.1
def an_decimal_digit:An U:=(.node none .nil (.node (some ⟨[],[],⟨[],[]⟩,[(.normal,⟨[(2,.tv .bool)],[]⟩)]⟩) .nil .nil))
def fe_decimal_digit:Fe G:=⟨[.v .u8],[.bool],fun x=>F_decimal_digit x.1⟩
theorem ok_decimal_digit:FnOk G 167 fe_decimal_digit:=fk (an:=an_decimal_digit) (k:=9) (res:=[.tmp 2]) (lstK_ok G_ok (lnil)) Tryz.func167 fun _=>by kernel_rfl
def F_slices_IndexFunc_api_Item (s:List TItem) (f:TItem → Option Bool):Option (Int) :=
 (iterF (σ:=Int × Unit) (ρ:=(Int × Unit) ⊕ (Unit)) (fun s3=>(bif (decide (s3.1 < ((s.length:Nat):Int))) then (idx s s3.1).bind fun x4=>(f x4).bind fun r5=>(bif r5 then some (.inr (.inl (s3.1,()))) else some (.inl ((IntKind.i64.wrap (s3.1 + 1)),()))) else some (.inr (.inr ((())))))) big (0,())).bind fun y6=>(match y6 with | .inl y7=>some y7.1 | .inr y8=>some (-1))
def an_slices_IndexFunc_api_Item:An U:=(.node none .nil (.node none (.node none .nil (.node none (.node (some ⟨[0,1,7],[],⟨[(8,.tv .int)],[]⟩,[(.ret,⟨[(4,.tv .int)],[]⟩),(.exit 0,⟨[],[]⟩)]⟩) .nil .nil) .nil)) .nil))
def fe_slices_IndexFunc_api_Item:Fe G:=⟨[.v .l_Item,.fn .Item .bool],[.int1],fun x=>F_slices_IndexFunc_api_Item x.1 x.2.1⟩
theorem ok_slices_IndexFunc_api_Item:FnOk G 168 fe_slices_IndexFunc_api_Item:=fk (an:=an_slices_IndexFunc_api_Item) (k:=19) (res:=[.tmp 4]) (lstK_ok G_ok (lnil)) Tryz.func168 fun _=>by kernel_rfl
def F_batten_middle (x:TItem):Option (Int) :=
 some (IntKind.i64.wrap (x.at_ + (IntKind.i64.wrap (x.width.tdiv 2))))
def fe_batten_middle:Fe G:=⟨[.v .Item],[.int1],fun x=>F_batten_middle x.1⟩
theorem ok_batten_middle:FnOk G 173 fe_batten_middle:=fk (an:=.nil) (k:=9) (res:=[.tmp 2]) (lstK_ok G_ok (lnil)) Tryz.func173 fun _=>by kernel_rfl
def F_math_bits_Mul64 (x:Int) (y:Int):Option (Int × Int) :=
 some ((IntKind.u64.wrap ((IntKind.u64.wrap ((IntKind.u64.wrap ((x.fdiv (2 ^ min (Int.toNat 32) IntKind.u64.bits)) * (y.fdiv (2 ^ min (Int.toNat 32) IntKind.u64.bits)))) + ((IntKind.u64.wrap ((IntKind.u64.wrap ((x.fdiv (2 ^ min (Int.toNat 32) IntKind.u64.bits)) * (bitsOf .and .u64 y 4294967295))) + ((IntKind.u64.wrap ((bitsOf .and .u64 x 4294967295) * (bitsOf .and .u64 y 4294967295))).fdiv (2 ^ min (Int.toNat 32) IntKind.u64.bits)))).fdiv (2 ^ min (Int.toNat 32) IntKind.u64.bits)))) + ((IntKind.u64.wrap ((bitsOf .and .u64 (IntKind.u64.wrap ((IntKind.u64.wrap ((x.fdiv (2 ^ min (Int.toNat 32) IntKind.u64.bits)) * (bitsOf .and .u64 y 4294967295))) + ((IntKind.u64.wrap ((bitsOf .and .u64 x 4294967295) * (bitsOf .and .u64 y 4294967295))).fdiv (2 ^ min (Int.toNat 32) IntKind.u64.bits)))) 4294967295) + (IntKind.u64.wrap ((bitsOf .and .u64 x 4294967295) * (y.fdiv (2 ^ min (Int.toNat 32) IntKind.u64.bits)))))).fdiv (2 ^ min (Int.toNat 32) IntKind.u64.bits)))),(IntKind.u64.wrap (x * y)))
def fe_math_bits_Mul64:Fe G:=⟨[.v .u641,.v .u641],[.u641,.u641],fun x=>F_math_bits_Mul64 x.1 x.2.1⟩
theorem ok_math_bits_Mul64:FnOk G 174 fe_math_bits_Mul64:=fk (an:=.nil) (k:=51) (res:=[.tmp 4,.tmp 5]) (lstK_ok G_ok (lnil)) Tryz.func174 fun _=>by kernel_rfl
def F_reeving_within (n:Int) (lo:Int) (hi:Int):Option (Bool) :=
 ((bif (decide (n ≥ lo)) then some ((decide (n ≤ hi)),()) else some (false,())):Option (Bool × Unit)).bind fun y1=>some y1.1
def an_reeving_within:An U:=(.node none .nil (.node (some ⟨[],[],⟨[],[]⟩,[(.normal,⟨[(6,.tv .bool)],[]⟩)]⟩) .nil .nil))
def fe_reeving_within:Fe G:=⟨[.v .int1,.v .int1,.v .int1],[.bool],fun x=>F_reeving_within x.1 x.2.1 x.2.2.1⟩
theorem ok_reeving_within:FnOk G 179 fe_reeving_within:=fk (an:=an_reeving_within) (k:=15) (res:=[.tmp 6]) (lstK_ok G_ok (lnil)) Tryz.func179 fun _=>by kernel_rfl
def F_batten_pipe (s:TSet):Option (Int) :=
 some (IntKind.i64.wrap (s.pipe * (IntKind.i64.wrap (s.length.tdiv 1000))))
def fe_batten_pipe:Fe G:=⟨[.v .Set],[.int1],fun x=>F_batten_pipe x.1⟩
theorem ok_batten_pipe:FnOk G 188 fe_batten_pipe:=fk (an:=.nil) (k:=9) (res:=[.tmp 2]) (lstK_ok G_ok (lnil)) Tryz.func188 fun _=>by kernel_rfl
def F_motion_ranged (s:TSystem) (hauls:List Int):Option (Bool) :=
 (iterF (σ:=Int × Unit) (ρ:=(Bool × Unit) ⊕ (Unit)) (fun s5=>(bif (decide (s5.1 < ((hauls.length:Nat):Int))) then (idx hauls s5.1).bind fun x6=>((bif (decide (x6 < (-67108864))) then some (true,()) else (bif (decide (x6 > 67108864)) then some (true,()) else (bif (x6 != 0) then (idx s.ropes s5.1).bind fun x7=>some ((!x7.hauled),()) else some (false,())))):Option (Bool × Unit)).bind fun y8=>(bif y8.1 then some (.inr (.inl (false,()))) else some (.inl ((IntKind.i64.wrap (s5.1 + 1)),()))) else some (.inr (.inr ((())))))) big (0,())).bind fun y9=>(match y9 with | .inl y10=>some y10.1 | .inr y11=>some true)
def an_motion_ranged:An U:=(.node none .nil (.node none (.node none .nil (.node none (.node (some ⟨[2,7,8],[],⟨[(9,.tv .int)],[]⟩,[(.ret,⟨[(4,.tv .bool)],[]⟩),(.exit 0,⟨[],[]⟩)]⟩) (.node none .nil (.node none .nil (.node none (.node none (.node none .nil (.node (some ⟨[9],[],⟨[],[]⟩,[(.normal,⟨[(32,.tv .bool)],[]⟩)]⟩) .nil .nil)) .nil) .nil))) .nil) .nil)) .nil))
def fe_motion_ranged:Fe G:=⟨[.v .System,.v .l_int1],[.bool],fun x=>F_motion_ranged x.1 x.2.1⟩
theorem ok_motion_ranged:FnOk G 201 fe_motion_ranged:=fk (an:=an_motion_ranged) (k:=34) (res:=[.tmp 4]) (lstK_ok G_ok (lnil)) Tryz.func201 fun _=>by kernel_rfl
def F_beam_exact__fraction (a:Texact):Option (TFrac × Int) :=
 (bif (decide (((a.n.words.length:Nat):Int) > 2)) then some ((TFrac.mk 0 0),5) else (iterF (σ:=Int × TAr302 × Unit) (ρ:=TAr302 × Unit) (fun s7=>(bif (decide (s7.1 < ((a.n.words.length:Nat):Int))) then (idx a.n.words s7.1).bind fun x8=>(if (IntKind.i64.wrap (32 * s7.1)) < 0 then none else some (.inl ((IntKind.i64.wrap (s7.1 + 1)),(TAr302.mk (bitsOf .or .u64 s7.2.1.e0 (IntKind.u64.wrap ((IntKind.u64.wrap x8) * 2 ^ min (Int.toNat (IntKind.i64.wrap (32 * s7.1))) IntKind.u64.bits))) s7.2.1.e1),()))) else some (.inr (s7.2.1,())))) big (0,(TAr302.mk 0 0),())).bind fun y11=>(bif (decide (y11.1.e0 > 1152921504606846976)) then some ((TFrac.mk 0 0),5) else (bif (decide (((a.d.words.length:Nat):Int) > 2)) then some ((TFrac.mk 0 0),5) else (iterF (σ:=Int × TAr302 × Unit) (ρ:=TAr302 × Unit) (fun s13=>(bif (decide (s13.1 < ((a.d.words.length:Nat):Int))) then (idx a.d.words s13.1).bind fun x14=>(if (IntKind.i64.wrap (32 * s13.1)) < 0 then none else some (.inl ((IntKind.i64.wrap (s13.1 + 1)),(TAr302.mk s13.2.1.e0 (bitsOf .or .u64 s13.2.1.e1 (IntKind.u64.wrap ((IntKind.u64.wrap x14) * 2 ^ min (Int.toNat (IntKind.i64.wrap (32 * s13.1))) IntKind.u64.bits)))),()))) else some (.inr (s13.2.1,())))) big (0,y11.1,())).bind fun y17=>(bif (decide (y17.1.e1 > 1152921504606846976)) then some ((TFrac.mk 0 0),5) else ((bif a.n.neg then some ((TFrac.mk (IntKind.i64.wrap (0 - (IntKind.i64.wrap y17.1.e0))) (IntKind.i64.wrap y17.1.e1)),()) else some ((TFrac.mk (IntKind.i64.wrap y17.1.e0) (IntKind.i64.wrap y17.1.e1)),())):Option (TFrac × Unit)).bind fun y21=>some (y21.1,0)))))
def an_beam_exact__fraction:An U:=(.node none .nil (.node none .nil (.node none (.node none .nil (.node none (.node none (.node none .nil (.node none .nil (.node none (.node none (.node none .nil (.node none .nil (.node none (.node none .nil (.node none (.node (some ⟨[1,2,3,4,5,14,15,25,26],[2],⟨[(27,.tv .int)],[(2,.bx .ar302 [])]⟩,[(.exit 2,⟨[],[(2,.bx .ar302 [])]⟩)]⟩) .nil .nil) .nil)) .nil))) .nil) .nil))) .nil) .nil)) (.node none .nil (.node (some ⟨[2,3,9],[5],⟨[],[]⟩,[(.normal,⟨[],[(5,.bx .Frac [])]⟩)]⟩) .nil .nil)))))
def fe_beam_exact__fraction:Fe G:=⟨[.v .exact],[.Frac,.Errno],fun x=>F_beam_exact__fraction x.1⟩
theorem ok_beam_exact__fraction:FnOk G 208 fe_beam_exact__fraction:=fk (an:=an_beam_exact__fraction) (k:=64) (res:=[.cell 2 35,.tmp 3]) (lstK_ok G_ok (lnil)) Tryz.func208 fun _=>by kernel_rfl
def F_reeving_find_1 (b:TBlock) (a1:ByteArray):Option (Bool) :=
 some (b.name.toList == a1.toList)
def fe_reeving_find_1:Fe G:=⟨[.v .Block,.rp .str],[.bool],fun x=>F_reeving_find_1 x.1 x.2.1⟩
theorem ok_reeving_find_1:FnOk G 229 fe_reeving_find_1:=fk (an:=.nil) (k:=8) (res:=[.tmp 3]) (lstK_ok G_ok (lnil)) Tryz.func229 fun _=>by kernel_rfl
def F_linear_within_1 (n:Int) (a1:Int):Option (Bool) :=
 ((bif (decide (n < (IntKind.i64.wrap (0 - a1)))) then some (true,()) else some ((decide (n > a1)),())):Option (Bool × Unit)).bind fun y1=>some y1.1
def an_linear_within_1:An U:=(.node none .nil (.node (some ⟨[],[],⟨[],[]⟩,[(.normal,⟨[(3,.tv .bool)],[]⟩)]⟩) .nil .nil))
def fe_linear_within_1:Fe G:=⟨[.v .int1,.rp .int1],[.bool],fun x=>F_linear_within_1 x.1 x.2.1⟩
theorem ok_linear_within_1:FnOk G 232 fe_linear_within_1:=fk (an:=an_linear_within_1) (k:=13) (res:=[.tmp 3]) (lstK_ok G_ok (lnil)) Tryz.func232 fun _=>by kernel_rfl
end
end Go.Proofs.YtgbicnkpnhifgaaGreatDoor
