/- Joined by merge.py: Rf. -/
import Derived.Test.YtgbicnkpnhifgaaGreatDoorM02
import Derived.Test.YtgbicnkpnhifgaaGreatDoorChecked
import Derived.KernelRfl
import Derived.Shelf.RegionOpenPlain
import Derived.WalkKit
import Derived.Lib.Walk
import Derived.Lib.Hide
import Derived.Lib.SliceRun
import Derived.Lib.JoinLaws
import Derived.Lib.AppendZeros
import Derived.Lib.AppendZerosOnto
import Derived.Maps.AppendAt
import Derived.Lib.Overlaps
import Derived.Laws.Externs
import Derived.Laws.IdiomCopy
import Derived.Laws.AppendOwn
import Derived.Deep.RegionLaw
import Derived.WalkSpells
set_option linter.unusedSectionVars false
set_option linter.unusedVariables false
set_option linter.unusedSimpArgs false
namespace Go.Proofs.YtgbicnkpnhifgaaGreatDoor
open Go.RowKit Go.Lib
theorem setCells_row (g:Nat) (t:TypeId):∀ (vs:List Value) (o:Nat) (cur:Array Value) (w:World),w.heap[g]? = some (.cells cur t (0,0)) → o + vs.length ≤ cur.size →
  w.setCells g o vs = w.setRow g (cur.toList.take o ++ vs ++ cur.toList.drop (o + vs.length)).toArray
 | [],o,cur,w,hg,_=>by
  simp only [World.setCells,List.append_nil,List.length_nil,Nat.add_zero,List.take_append_drop,Array.toArray_toList]
  rw [setRow_self w g cur t (0,0) hg]
 | v :: rest,o,cur,w,hg,hl=>by
  rw [World.setCells,setCell_eq_setRow w g o cur t (0,0) v hg,setCells_row g t rest (o + 1) (cur.setIfInBounds o v) _ (setRow_heap w g cur _ t _ hg) (by simp at hl ⊢;omega),setRow_setRow]
  congr 2
  have e:=list_seg_step cur.toList o v rest (by simp at hl ⊢;omega)
  simpa [Array.toList_setIfInBounds,Nat.add_assoc] using e
theorem step_append_runI {P:Program} {ops:Array Oper} {o:Oper} {a:Act} {w:World} {K:Act → World → Prop} {Q:Exit → Act → World → Prop} {E:Prop}
  (hg:o.guard = none) (d x:Operand) (dT sT:TypeId) (hop:o.op = Op.call { callee:=Callee.builtin Builtin.append,args:=#[d,x],argTypes:=#[dT,sT] })
  (v u:Value) (hd:a.eval d = v) (hx:a.eval x = u) {v':Value} {w':World} (hr:(Builtin.append_ #[dT,sT] o.type #[v,u]).run P w = .ok v' w') (hK:K (a.put o.dst v') w') :
  if Region.wanted o (yielded ops a.tmps) = true then Oper.wp P o a w K Q else E:=by
 have hw:Region.wanted o (yielded ops a.tmps) = true:=by simp [Region.wanted,hg]
 rw [if_pos hw]
 unfold Oper.wp
 simp [execOp,hop,resolve,invoke,builtin,hd,hx,hr,Result.andThen]
 exact hK
theorem step_copy_runI' {P:Program} {ops:Array Oper} {o:Oper} {a:Act} {w:World} {K:Act → World → Prop} {Q:Exit → Act → World → Prop} {E:Prop}
  (hg:o.guard = none) (d x:Operand) (dT sT:TypeId) (hop:o.op = Op.call { callee:=Callee.builtin Builtin.copy,args:=#[d,x],argTypes:=#[dT,sT] })
  (v u:Value) (hd:a.eval d = v) (hx:a.eval x = u) {v':Value} {w':World} (hr:(Builtin.copy_ #[dT,sT] o.type #[v,u]).run P w = .ok v' w') (hK:K (a.put o.dst v') w') :
  if Region.wanted o (yielded ops a.tmps) = true then Oper.wp P o a w K Q else E:=by
 have hw:Region.wanted o (yielded ops a.tmps) = true:=by simp [Region.wanted,hg]
 rw [if_pos hw]
 unfold Oper.wp
 simp [execOp,hop,resolve,invoke,builtin,hd,hx,hr,Result.andThen]
 exact hK
theorem run_copy_rows {P:Program} (w:World) (dT sT ty elem:TypeId) (g o dLen dCap:Nat) (a:Addr) (sLen sCap size:Nat) (cur:Array Value) (t:TypeId) (cs:List Value)
  (hu:P.underlying dT = some (.slice elem)) (hs:(P.info? elem).map (·.size) = some size)
  (hg:w.heap[g]? = some (.cells cur t (0,0))) (hn:cs.length = Nat.min sLen dLen * size)
  (hsrc:∀ j v,cs[j]? = some v → w.cell? (a.add j) = some v) (hfit:o + cs.length ≤ cur.size) (h1:∀ v ∈ cs,v.oneCell' = true) :
  (Builtin.copy_ #[dT,sT] ty #[.slice (some ⟨g,o,none⟩) dLen dCap,.slice (some a) sLen sCap]).run P w =
   .ok (goInt (Nat.min sLen dLen)) (w.setRow g (cur.toList.take o ++ cs ++ cur.toList.drop (o + cs.length)).toArray):=by
 have hl:=run_loadCells_list (P:=P) w a cs hsrc
 have hst:=run_storeCells_at P g o t cs 0 cur w hg (by simpa using hfit) h1
 cases hq:P.info? elem with
 | none=>simp [hq] at hs
 | some i =>
  have hi:i.size = size:=by simpa [hq] using hs
  rw [hn] at hl
  simp [Builtin.copy_,run_underlying hu,Builtin.lenOf,Builtin.firstCells,sizeOf,typeInfo,hq,hi,hl,hst]
set_option maxHeartbeats 4000000 in
set_option maxRecDepth 1000000 in
theorem del_some (g cap i j n:Nat) (cur:Array Value) (w:World) (hg:w.heap[g]? = some (.cells cur 3 (0,0))) (hn:n ≤ cap) (hc:cap ≤ maxLen) (hs:cur.size = cap) (h1:∀ x ∈ cur.toList.take n,x.oneCell' = true) (hij:i < j) (hj:j ≤ n) :
  Calls Tryz.prog 133 #[.slice (some ⟨g,0,none⟩) n cap,.int .i64 i,.int .i64 j] w fun e w'=>e = .returned (.slice (some ⟨g,0,none⟩) (n - (j - i)) cap) ∧
   ∃ row:Array Value,w' = w.drew.setRow g row ∧ row.size = cap ∧ row.toList.take (n - (j - i)) = (cur.toList.take n).take i ++ (cur.toList.take n).drop j:=by
 obtain ⟨news,hnews⟩:∃ news,news = (cur.toList.take n).drop j:=⟨_,rfl⟩
 have hlen:news.length = n - j:=by rw [hnews];simp;omega
 have hget:∀ t u,news[t]? = some u → cur[j + t]? = some u:=by
  intro t u hu
  rw [hnews,List.getElem?_drop,List.getElem?_take] at hu
  split at hu
  ·rwa [Array.getElem?_toList] at hu
  ·cases hu
 have hcl:maxLen = 9223372036854775807:=rfl
 obtain ⟨A,hA,hsrc⟩:∃ A:Addr,(if cap = j then some (⟨g,0,none⟩:Addr) else some ⟨g,j,none⟩) = some A ∧ Hid (∀ t u,news[t]? = some u → w.drew.cell? (A.add t) = some u):=by
  by_cases h:cap = j
  ·refine ⟨⟨g,0,none⟩,by simp [h],fun t u hu=>?_⟩
   have h0:news.length = 0:=by rw [hlen];omega
   rw [List.length_eq_zero_iff.1 h0] at hu
   simp at hu
  ·refine ⟨⟨g,j,none⟩,by simp [h],fun t u hu=>?_⟩
   rw [Addr.add_lit]
   show w.cell? ⟨g,j + t,none⟩ = some u
   rw [cell_of_row w g (j + t) cur _ (0,0) hg]
   exact hget t u hu
 have s2:Hid (∀ u ∈ news,u.oneCell' = true):=by
  intro u hu
  rw [hnews] at hu
  exact h1 u (List.mem_of_mem_drop hu)
 have hgd:w.drew.heap[g]? = some (.cells cur 3 (0,0)):=hg
 obtain ⟨i0,hi0,hz0,hz1,hz2⟩:=info_parts (show (Tryz.prog.info? 3).map (fun i=>(i.zero,i.size,i.bytes)) = some (some (.int .i64 0),1,8) from by kernel_rfl)
 obtain ⟨row1,hrow1⟩:∃ row1,row1 = (cur.toList.take (i * 1) ++ news ++ cur.toList.drop (i * 1 + news.length)).toArray:=⟨_,rfl⟩
 have hap:Hid (∀ ty m c,m = n - j → (Builtin.append_ #[22,22] ty #[.slice (some ⟨g,0,none⟩) i cap,.slice (some A) m c]).run Tryz.prog w.drew = .ok (.slice (some ⟨g,0,none⟩) (i + m) cap) (w.drew.setRow g row1)):=fun ty m c hm=>by
  subst hm
  have:=run_append_room (P:=Tryz.prog) w.drew 22 ty 3 i0 Tryz.underlying22 hi0 g i cap cur hgd A (n - j) c news (by rw [hlen,hz1,Nat.mul_one]) hsrc.out s2.out (by omega) (by rw [hlen,hz1,hs];omega)
  rw [hz1] at this
  rw [this,hrow1]
 obtain ⟨W1,hW1⟩:∃ W1,W1 = w.drew.setRow g row1:=⟨_,rfl⟩
 have hr1:row1.size = cap:=by rw [hrow1];simp [hlen];omega
 have hg1:W1.heap[g]? = some (.cells row1 3 (0,0)):=by rw [hW1];exact setRow_heap w.drew g cur row1 _ (0,0) hgd
 have hclr:Hid (∀ ty,(Builtin.clear_ #[22] ty #[.slice (some ⟨g,i + (n - j),none⟩) (n - (i + (n - j))) (cap - (i + (n - j)))]).run Tryz.prog W1 = .ok (.tuple #[]) (W1.setCells g (i + (n - j)) (List.replicate (n - (i + (n - j))) (Value.int .i64 0)))):=fun ty =>
  Lib.run_clear_slice W1 _ _ ty _ Tryz.underlying22 Tryz.zeroValue3 rfl rfl g (i + (n - j)) _ _ (by omega) (fun t ht=>by rw [cell_of_row W1 g _ row1 _ (0,0) hg1,Array.getElem?_eq_getElem (by omega)];rfl) (fun t ht=>frozen_of_row W1 g _ row1 _ hg1)
 rw [← hW1] at hap
 have hic:i ≤ cap:=by omega
 have hjc:j ≤ cap:=by omega
 have X:Hid (W1.setCells g (i + (n - j)) (List.replicate (n - (i + (n - j))) (Value.int .i64 0)) = w.drew.setRow g (row1.toList.take (i + (n - j)) ++ List.replicate (n - (i + (n - j))) (Value.int .i64 0) ++ row1.toList.drop (i + (n - j) + (n - (i + (n - j))))).toArray):=by
  have:=setCells_row g 3 (List.replicate (n - (i + (n - j))) (Value.int .i64 0)) (i + (n - j)) row1 W1 hg1 (by rw [List.length_replicate,hr1];omega)
  unfold Hid
  rw [this,hW1,setRow_setRow,List.length_replicate]
 have Y:Hid ((row1.toList.take (i + (n - j)) ++ List.replicate (n - (i + (n - j))) (Value.int .i64 0) ++ row1.toList.drop (i + (n - j) + (n - (i + (n - j))))).toArray.size = cap ∧ (row1.toList.take (i + (n - j)) ++ List.replicate (n - (i + (n - j))) (Value.int .i64 0) ++ row1.toList.drop (i + (n - j) + (n - (i + (n - j))))).toArray.toList.take (n - (j - i)) = (cur.toList.take n).take i ++ (cur.toList.take n).drop j):=by
  refine ⟨by simp;omega,?_⟩
  rw [show n - (j - i) = i + (n - j) by omega]
  have e1:(row1.toList.take (i + (n - j))).length = i + (n - j):=by simp;omega
  show List.take _ (_ ++ _ ++ _) = _
  rw [List.append_assoc,List.take_append_of_le_length (by omega),List.take_of_length_le (by omega),hrow1]
  show List.take _ (_ ++ _ ++ _) = _
  have e2:(cur.toList.take (i * 1) ++ news).length = i + (n - j):=by simp [hlen];omega
  rw [List.take_append_of_le_length (by omega),List.take_of_length_le (by omega),hnews,Nat.mul_one,List.take_take,Nat.min_eq_left (by omega)]
 clear hg1 hr1 hg hgd hget hlen hnews hrow1 hW1 h1
 go_enter Tryz.func133,Tryz.ntmps133
 go_wp2_with fail
 go_region_law (refine step_append_runI rfl _ _ 22 22 rfl (.slice (some ⟨g,0,none⟩) i cap) (.slice (some A) (n - j) (cap - j)) (by simp [Act.eval,Act.put]) (by simp [Act.eval,Act.put]) (hap.out 22 (n - j) (cap - j) rfl) ?_)
 have hcl2:=hclr.out
 go_wp2
 go_ret
 exact ⟨by rw [show n - (j - i) = i + (n - j) by omega];rfl,_,X.out,Y.out.1,Y.out.2⟩
theorem own_cell {N n:Nat} {w:World} {T sz:Nat} {v:Value} {xs:List Value} (h:w.ownsRow N T sz v n xs) (hn:0 < n):∃ g cap cur,v = .slice (some ⟨g,0,none⟩) n cap ∧ N ≤ g ∧ w.heap[g]? = some (.cells cur T (0,0)) ∧ n ≤ cap ∧ cap ≤ maxLen ∧ cur.size = cap * sz ∧ cur.toList.take (n * sz) = xs:=by
 rcases h.2 with ⟨_,h0⟩ | h
 ·omega
 ·exact h
theorem grown_setRow (w:World) (g:Nat) (row:Array Value):w.grownBy (w.drew.setRow g row) (some g) :=
 ⟨rfl,rfl,rfl,by rw [size_setRow];exact Nat.le_refl _,fun k _ hk=>setRow_other w.drew g k _ (fun e=>hk (by rw [e]))⟩
set_option maxHeartbeats 4000000 in
set_option maxRecDepth 1000000 in
theorem del_row:∀ (N:Nat) (w:World) (v:Value) (n:Nat) (xs:List Value) (i j:Nat),w.ownsRow N 3 1 v n xs → (∀ x ∈ xs,x.oneCell' = true) → N ≤ w.heap.size → i ≤ j → j ≤ n → n ≤ 2147483648 →
  Calls Tryz.prog 133 #[v,.int .i64 i,.int .i64 j] w fun e w'=>∃ v',e = .returned v' ∧ w'.ownsRow N 3 1 v' (n - (j - i)) (xs.take (i * 1) ++ xs.drop (j * 1)) ∧ w.grownBy w' (blkOf v) ∧ ∀ b,blkOf v' = some b → blkOf v = some b ∨ w.heap.size ≤ b:=by
 intro N w v n xs i j hown h1 hN hij hj hn
 rcases Nat.lt_or_ge i j with hlt | hge
 ·obtain ⟨g,cap,cur,rfl,hNg,hg,hnc,hcm,hcs,htk⟩:=own_cell hown (by omega)
  rw [Nat.mul_one] at hcs htk
  refine (del_some g cap i j n cur w hg hnc hcm hcs (by rw [htk];exact h1) hlt hj).mono ?_
  rintro e w' ⟨rfl,row,rfl,hr1,hr2⟩
  have hw:(w.drew.setRow g row).heap[g]? = some (.cells row 3 (0,0)):=setRow_heap w.drew g cur row _ (0,0) hg
  refine ⟨_,rfl,⟨?_,.inr ⟨g,cap,row,rfl,hNg,hw,by omega,hcm,by omega,?_⟩⟩,grown_setRow w g row,fun b hb=>.inl hb⟩
  ·have hl:=hown.1
   simp
   omega
  ·rw [Nat.mul_one,hr2,htk,Nat.mul_one,Nat.mul_one]
 ·obtain rfl:i = j:=by omega
  have h0:Calls Tryz.prog 133 #[v,.int .i64 i,.int .i64 i] w fun e w'=>e = .returned v ∧ w' = w:=by
   have hl:=hown.1
   rcases hown.2 with ⟨rfl,rfl⟩ | ⟨g,cap,cur,rfl,hNg,hg,hnc,hcm,hcs,htk⟩
   ·obtain rfl:i = 0:=by omega
    go_enter Tryz.func133,Tryz.ntmps133
    go_wp2
    all_goals (go_ret;exact ⟨rfl,rfl⟩)
   ·clear hown htk hcs hg h1
    have hcl:maxLen = 9223372036854775807:=rfl
    go_enter Tryz.func133,Tryz.ntmps133
    go_wp2
    all_goals (go_ret;exact ⟨rfl,rfl⟩)
  refine h0.mono ?_
  rintro e w' ⟨rfl,rfl⟩
  refine ⟨v,rfl,?_,⟨rfl,rfl,rfl,Nat.le_refl _,fun _ _ _=>rfl⟩,fun b hb=>.inl hb⟩
  rw [Nat.sub_self,Nat.sub_zero,List.take_append_drop]
  exact hown
theorem info_frac:(Tryz.prog.info? 35).map (fun i=>(i.zero,i.size,i.bytes)) = some (some (.agg #[.int .i64 0,.int .i64 0]),2,16):=by kernel_rfl
theorem own_blk {N n:Nat} {w:World} {T sz:Nat} {v:Value} {xs:List Value} (h:w.ownsRow N T sz v n xs):v.ownBlock = blkOf v:=by
 rcases h.2 with ⟨rfl,_⟩ | ⟨g,c,cur,rfl,_⟩ <;> rfl
set_option maxHeartbeats 4000000 in
set_option maxRecDepth 1000000 in
theorem ins_end (N:Nat) (w:World) (v:Value) (n:Nat) (xs:List Value) (vy:Value) (ys:List Value) (hown:w.ownsRow N 35 2 v n xs) (hy:w.ownsRow N 35 2 vy 1 ys) (hy1:∀ x ∈ ys,x.oneCell' = true) (hN:N ≤ w.heap.size) (hn:n ≤ 2147483647) :
  Calls Tryz.prog 131 #[v,.int .i64 n,vy] w fun e w'=>∃ v',e = .returned v' ∧ w'.ownsRow N 35 2 v' (n + 1) (xs ++ ys) ∧ w.grownBy w' (blkOf v) ∧ ∀ b,blkOf v' = some b → blkOf v = some b ∨ w.heap.size ≤ b:=by
 obtain ⟨i0,hi0,hz0,hz1,hz2⟩:=info_parts info_frac
 obtain ⟨vb,vc,curv,rfl,_,hgv,hvn,hvm,hvs,hvt⟩:=own_cell hy (by omega)
 have hsrc:∀ j u,ys[j]? = some u → w.cell? ((⟨vb,0,none⟩:Addr).add j) = some u:=hy.cells (g:=vb) rfl
 obtain ⟨v',w',hr,ho,hg,_,hat⟩:=run_append_own_at (P:=Tryz.prog) w N 46 46 35 i0 _ 2 16 Tryz.underlying46 hi0 hz0 hz1 hz2 rfl (by decide) v n xs hown ⟨vb,0,none⟩ 1 vc ys hy.1 hsrc hy1 (by unfold maxLen;omega) (by omega) hN
 have hb1:=own_blk hown
 have hb2:=own_blk ho
 have hcl:maxLen = 9223372036854775807:=rfl
 have hfin:w.grownBy w' (blkOf v) ∧ ∀ b,blkOf v' = some b → blkOf v = some b ∨ w.heap.size ≤ b:=by
  rw [hb1] at hg hat
  rw [hb2] at hat
  refine ⟨hg,fun b hb=>?_⟩
  rcases hat with h | h
  ·rw [h] at hb;exact .inl hb
  ·rw [h] at hb;cases hb;exact .inr (Nat.le_refl _)
 have HR:=Lib.hid hr
 have HO:=Lib.hid ho
 have HF:=Lib.hid hfin
 clear hr ho hfin hg hat hb2 hsrc hy hgv hvt hvs
 rcases hown.2 with ⟨rfl,rfl⟩ | ⟨g,cap,cur,rfl,hNg,hgg,hnc,hcm,hcs,htk⟩
 ·clear hown hb1
  go_enter Tryz.func131,Tryz.ntmps131
  go_wp2_with (at_builtin;refine Lib.wpList_append_run _ rfl _ _ _ _ rfl _ _ rfl rfl _ _ HR.out ?_)
  all_goals (go_ret;exact ⟨v',rfl,HO.out,HF.out⟩)
 ·clear hown hb1 hgg htk hcs
  go_enter Tryz.func131,Tryz.ntmps131
  go_wp2_with (at_builtin;refine Lib.wpList_append_run _ rfl _ _ _ _ rfl _ _ rfl rfl _ _ HR.out ?_)
  all_goals (go_ret;exact ⟨v',rfl,HO.out,HF.out⟩)
set_option maxHeartbeats 4000000 in
set_option maxRecDepth 1000000 in
theorem ins_shift (g n c i vb vc:Nat) (cur curv:Array Value) (w:World) (hi:i < n) (hroom:n + 1 ≤ c) (hc:c ≤ maxLen) (hg:w.heap[g]? = some (.cells cur 35 (0,0))) (hcs:cur.size = c * 2)
  (hv:w.heap[vb]? = some (.cells curv 35 (0,0))) (hvc:1 ≤ vc) (hcv:curv.size = vc * 2) (hne:vb ≠ g) (h1:∀ x ∈ cur.toList.take (n * 2),x.oneCell' = true) (h1v:∀ x ∈ curv.toList.take 2,x.oneCell' = true) :
  Calls Tryz.prog 131 #[.slice (some ⟨g,0,none⟩) n c,.int .i64 i,.slice (some ⟨vb,0,none⟩) 1 vc] w fun e w'=>e = .returned (.slice (some ⟨g,0,none⟩) (n + 1) c) ∧
   ∃ row:Array Value,w' = w.drew.setRow g row ∧ row.size = c * 2 ∧ row.toList.take ((n + 1) * 2) = (cur.toList.take (n * 2)).take (i * 2) ++ curv.toList.take 2 ++ (cur.toList.take (n * 2)).drop (i * 2):=by
 obtain ⟨i0,hi0,hz0,hz1,hz2⟩:=info_parts info_frac
 have hcl:maxLen = 9223372036854775807:=rfl
 have hsz:(Tryz.prog.info? 35).map (·.size) = some 2:=by rw [hi0];simp [hz1]
 have hzo:∀ w,(Go.sizeOf 35).run Tryz.prog w = .ok 2 w:=fun w=>by simp [sizeOf,typeInfo,hi0,hz1]
 have hsa:w.shape? vb = some (35,curv.size):=by simp [World.shape?,hv]
 have hsb:w.shape? g = some (35,cur.size):=by simp [World.shape?,hg]
 have hfa:w.frozen? ⟨vb,0,none⟩ = false:=frozen_of_row w vb 0 curv _ hv
 have hfe:w.frozen? ⟨vb,curv.size,none⟩ = false:=frozen_of_row w vb _ curv _ hv
 have hov:Hid (∀ o lb cb,(callFunc 175 #[.slice (some ⟨vb,0,none⟩) 1 vc,.slice (some ⟨g,o,none⟩) lb cb]).run Tryz.prog w = .ok (.value (.bool false)) w):=fun o lb cb=>by
  rw [run_callFunc_extern Tryz.func175 (by kernel_rfl) (by kernel_rfl) (by kernel_rfl) (e:=Extern.SlicesOverlaps.overlaps #[46,46] #[4]) (by kernel_rfl),
   Lib.run_overlaps_apart w 46 4 35 Tryz.underlying46 2 hzo ⟨vb,0,none⟩ ⟨g,o,none⟩ 1 vc lb cb hne 35 35 curv.size cur.size hsa hsb (by omega) hfa hfe]
  rfl
 have hgd:w.drew.heap[g]? = some (.cells cur 35 (0,0)):=hg
 obtain ⟨tl,htl⟩:∃ tl,tl = (cur.toList.take (n * 2)).drop (i * 2):=⟨_,rfl⟩
 have htll:tl.length = (n - i) * 2:=by rw [htl];simp;omega
 have htg:∀ t u,tl[t]? = some u → cur[i * 2 + t]? = some u:=by
  intro t u hu
  rw [htl,List.getElem?_drop,List.getElem?_take] at hu
  split at hu
  ·rwa [Array.getElem?_toList] at hu
  ·cases hu
 have ht1:∀ x ∈ tl,x.oneCell' = true:=fun x hx=>h1 x (by rw [htl] at hx;exact List.mem_of_mem_drop hx)
 obtain ⟨row1,hrow1⟩:∃ row1,row1 = (cur.toList.take ((i + 1) * 2) ++ tl ++ cur.toList.drop ((i + 1) * 2 + tl.length)).toArray:=⟨_,rfl⟩
 have hr1:row1.size = c * 2:=by rw [hrow1];simp [htll];omega
 obtain ⟨W1,hW1⟩:∃ W1,W1 = w.drew.setRow g row1:=⟨_,rfl⟩
 have hg1:W1.heap[g]? = some (.cells row1 35 (0,0)):=by rw [hW1];exact setRow_heap w.drew g cur row1 _ (0,0) hgd
 have hv1:W1.heap[vb]? = some (.cells curv 35 (0,0)):=by rw [hW1,setRow_other w.drew g vb _ hne];exact hv
 have hcp1:Hid (∀ ty l1 dc l2 sc,l1 = n - i → n - i ≤ l2 → (Builtin.copy_ #[46,46] ty #[.slice (some ⟨g,(i + 1) * 2,none⟩) l1 dc,.slice (some ⟨g,i * 2,none⟩) l2 sc]).run Tryz.prog w.drew = .ok (goInt ((n - i:Nat):Int)) W1):=fun ty l1 dc l2 sc e1 e2=>by
  subst e1
  have e3:Nat.min l2 (n - i) = n - i:=Nat.min_eq_right e2
  have:=run_copy_rows (P:=Tryz.prog) w.drew 46 46 ty 35 g ((i + 1) * 2) (n - i) dc ⟨g,i * 2,none⟩ l2 sc 2 cur _ tl Tryz.underlying46 hsz hgd (by rw [e3];exact htll) (fun j u hj=>by
   rw [Addr.add_lit,cell_of_row w.drew g _ cur _ (0,0) hgd]
   exact htg j u hj) (by rw [htll];omega) ht1
  rw [this,e3,hW1,hrow1]
 obtain ⟨ys,hys⟩:∃ ys,ys = curv.toList.take 2:=⟨_,rfl⟩
 have hyl:ys.length = 2:=by rw [hys];simp;omega
 obtain ⟨row2,hrow2⟩:∃ row2,row2 = (row1.toList.take (i * 2) ++ ys ++ row1.toList.drop (i * 2 + ys.length)).toArray:=⟨_,rfl⟩
 have hcp2:Hid (∀ ty l1 dc,1 ≤ l1 → (Builtin.copy_ #[46,46] ty #[.slice (some ⟨g,i * 2,none⟩) l1 dc,.slice (some ⟨vb,0,none⟩) 1 vc]).run Tryz.prog W1 = .ok (goInt ((1:Nat):Int)) (w.drew.setRow g row2)):=fun ty l1 dc e1=>by
  have e3:Nat.min 1 l1 = 1:=Nat.min_eq_left e1
  have:=run_copy_rows (P:=Tryz.prog) W1 46 46 ty 35 g (i * 2) l1 dc ⟨vb,0,none⟩ 1 vc 2 row1 _ ys Tryz.underlying46 hsz hg1 (by rw [e3,hyl]) (fun j u hj=>by
   rw [Addr.add_lit,cell_of_row W1 vb _ curv _ (0,0) hv1,Nat.zero_add]
   rw [hys,List.getElem?_take] at hj
   split at hj
   ·rwa [Array.getElem?_toList] at hj
   ·cases hj) (by rw [hyl];omega) (by rw [hys];exact h1v)
  rw [this,e3,hW1,setRow_setRow,hrow2]
 have Y:Hid (row2.size = c * 2 ∧ row2.toList.take ((n + 1) * 2) = (cur.toList.take (n * 2)).take (i * 2) ++ ys ++ tl):=by
  refine ⟨by rw [hrow2];simp [hyl];omega,?_⟩
  have e0:row1.toList = cur.toList.take ((i + 1) * 2) ++ tl ++ cur.toList.drop ((i + 1) * 2 + tl.length):=by rw [hrow1]
  have ea:(cur.toList.take ((i + 1) * 2)).length = (i + 1) * 2:=by simp;omega
  have e1:row1.toList.take (i * 2) = (cur.toList.take (n * 2)).take (i * 2):=by
   rw [e0,List.append_assoc,List.take_append_of_le_length (by omega),List.take_take,List.take_take,Nat.min_eq_left (by omega),Nat.min_eq_left (by omega)]
  have e2:row1.toList.drop (i * 2 + ys.length) = tl ++ cur.toList.drop ((i + 1) * 2 + tl.length):=by
   rw [e0,hyl,List.append_assoc,show i * 2 + 2 = (cur.toList.take ((i + 1) * 2)).length from by omega,List.drop_left]
  rw [hrow2]
  show List.take _ (_ ++ _ ++ _) = _
  rw [e1,e2,← List.append_assoc,List.take_append_of_le_length (by simp [hyl,htll];omega),List.take_of_length_le (by simp [hyl,htll];omega)]
 rw [hys,htl] at Y
 clear hg1 hv1 hr1 hg hgd htg htll htl hrow1 hrow2 hW1 h1 hv h1v hsa hsb hfa hfe hyl hys ht1 hzo
 have hz1':¬ ((1:Int) = 0):=by omega
 have hz2':¬ ((i:Int) = (n:Int)):=by omega
 have hw1:IntKind.i64.wrap ((i:Int) + (1:Int)) = (i:Int) + (1:Int):=by rw [IntKind.wrap_i64];omega
 have hwn:IntKind.i64.wrap ((n:Int) + (1:Int)) = (n:Int) + (1:Int):=by rw [IntKind.wrap_i64];omega
 have hb1:(0:Int) ≤ (i:Int) + (1:Int):=by omega
 have hin:i ≤ n:=by omega
 have htn:((i:Int) + (1:Int)).toNat = i + 1:=by omega
 have htn2:((n:Int) + (1:Int)).toNat = n + 1:=by omega
 have hb2:¬ (c = i + 1):=by omega
 have hb3:(i:Int) ≤ (n:Int) + (1:Int):=by omega
 have hb4:¬ (c = i):=by omega
 have hov':=hov.out
 go_enter Tryz.func131,Tryz.ntmps131
 go_wp2_with (simp only [hov'])
 go_region_law (refine step_copy_runI' rfl _ _ 46 46 rfl (.slice (some ⟨g,(i + 1) * 2,none⟩) (n + 1 - (i + 1)) (c - (i + 1))) (.slice (some ⟨g,i * 2,none⟩) (n + 1 - i) (c - i)) (by simp [Act.eval,Act.put]) (by simp [Act.eval,Act.put]) (hcp1.out 3 _ _ _ _ (by omega) (by omega)) ?_)
 have hq:=hcp2.out 3 (n + 1 - i) (c - i) (by omega)
 go_wp2
 go_ret
 exact ⟨rfl,_,rfl,Y.out.1,Y.out.2⟩
set_option maxHeartbeats 4000000 in
set_option maxRecDepth 1000000 in
theorem ins_grow (g n c i vb vc:Nat) (cur curv:Array Value) (w:World) (hi:i < n) (hroom:n = c) (hn:n ≤ 2147483647) (hg:w.heap[g]? = some (.cells cur 35 (0,0))) (hcs:cur.size = c * 2)
  (hv:w.heap[vb]? = some (.cells curv 35 (0,0))) (hvc:1 ≤ vc) (hcv:curv.size = vc * 2) (h1:∀ x ∈ cur.toList.take (n * 2),x.oneCell' = true) (h1v:∀ x ∈ curv.toList.take 2,x.oneCell' = true) :
  Calls Tryz.prog 131 #[.slice (some ⟨g,0,none⟩) n c,.int .i64 i,.slice (some ⟨vb,0,none⟩) 1 vc] w fun e w'=>∃ (G:Nat) (row:Array Value),e = .returned (.slice (some ⟨w.heap.size,0,none⟩) (n + 1) G) ∧
   w.grownBy w' none ∧ w'.heap[w.heap.size]? = some (.cells row 35 (0,0)) ∧ n + 1 ≤ G ∧ G ≤ maxLen ∧ row.size = G * 2 ∧ row.toList.take ((n + 1) * 2) = (cur.toList.take (n * 2)).take (i * 2) ++ curv.toList.take 2 ++ (cur.toList.take (n * 2)).drop (i * 2):=by
 subst hroom
 obtain ⟨i0,hi0,hz0,hz1,hz2⟩:=info_parts info_frac
 have hcl:maxLen = 9223372036854775807:=rfl
 have hsz:(Tryz.prog.info? 35).map (·.size) = some 2:=by rw [hi0];simp [hz1]
 have hgw:g < w.heap.size:=(Array.getElem?_eq_some_iff.1 hg).1
 have hvw:vb < w.heap.size:=(Array.getElem?_eq_some_iff.1 hv).1
 have hold:(Builtin.firstCells i0.size i (.slice (some ⟨g,0,none⟩) i n)).run Tryz.prog w.drew = .ok (cur.toList.take (i * 2)).toArray w.drew:=by
  rw [hz1]
  exact run_firstCells_some w.drew 2 i ⟨g,0,none⟩ i n (cur.toList.take (i * 2)) (by simp;omega) (fun j u hj=>by
   rw [Addr.add_lit,cell_of_row w.drew g _ cur _ (0,0) hg,Nat.zero_add]
   rw [List.getElem?_take] at hj
   split at hj
   ·rwa [Array.getElem?_toList] at hj
   ·cases hj)
 obtain ⟨G,hG⟩:∃ G,G = grownCap w (n + 1) n 35:=⟨_,rfl⟩
 have hGn:n + 1 ≤ G:=by rw [hG];exact grownCap_ge w _ _ _
 have hG63:G ≤ maxLen:=by rw [hG];exact grownCap_le_maxLen w (n + 1) n 35 (by unfold maxLen;omega)
 have hkk:(n:Int) + 1 - (i:Int) = ((n + 1 - i:Nat):Int):=by omega
 obtain ⟨ROW,hROW⟩:∃ ROW:Array Value,ROW = (cur.toList.take (i * 2)).toArray ++ Builtin.zeroCells (Value.agg #[.int .i64 0,.int .i64 0]).cells (n + 1 - i) ++ Builtin.zeroCells (Value.agg #[.int .i64 0,.int .i64 0]).cells (G - (n + 1)):=⟨_,rfl⟩
 have hRl:ROW.size = G * 2:=by
  rw [hROW]
  simp [size_zeroCells,Value.cells]
  omega
 obtain ⟨W1,hW1⟩:∃ W1,W1 = w.drew.alloc (.cells ROW 35):=⟨_,rfl⟩
 have hrz:(Builtin.append_ #[46,3] 46 #[.slice (some ⟨g,0,none⟩) i n,.int .i64 ((n:Int) + 1 - (i:Int))]).run Tryz.prog w = .ok (.slice (some ⟨w.heap.size,0,none⟩) (n + 1) G) W1:=by
  have h:=Lib.run_append_grow_zeros w 46 3 46 35 i0 _ .i64 .i64 Tryz.underlying46 Tryz.underlying3 hi0 hz0 (some ⟨g,0,none⟩) i n (cur.toList.take (i * 2)) hold (n + 1 - i) (by omega) (by omega) (by omega) (by omega) (by rw [hz2];omega) (by rw [hz2];exact growslice_fits (by omega) (by omega))
  rw [show i + (n + 1 - i) = n + 1 by omega,← hG,← hROW,← hW1] at h
  rw [hkk]
  exact h
 have hg0:W1.heap[w.heap.size]? = some (.cells ROW 35 (0,0)):=by rw [hW1];exact heap_alloc_new w.drew _
 have hgg:W1.heap[g]? = some (.cells cur 35 (0,0)):=by rw [hW1,heap_alloc_old w.drew _ g hgw];exact hg
 have hvv:W1.heap[vb]? = some (.cells curv 35 (0,0)):=by rw [hW1,heap_alloc_old w.drew _ vb hvw];exact hv
 obtain ⟨ys,hys⟩:∃ ys,ys = curv.toList.take 2:=⟨_,rfl⟩
 have hyl:ys.length = 2:=by rw [hys];simp;omega
 obtain ⟨row1,hrow1⟩:∃ row1,row1 = (ROW.toList.take (i * 2) ++ ys ++ ROW.toList.drop (i * 2 + ys.length)).toArray:=⟨_,rfl⟩
 have hr1:row1.size = G * 2:=by rw [hrow1];simp [hyl];omega
 obtain ⟨W2,hW2⟩:∃ W2,W2 = W1.setRow w.heap.size row1:=⟨_,rfl⟩
 have hcpA:(Builtin.copy_ #[46,46] 3 #[.slice (some ⟨w.heap.size,i * 2,none⟩) (n + 1 - i) (G - i),.slice (some ⟨vb,0,none⟩) 1 vc]).run Tryz.prog W1 = .ok (goInt ((1:Nat):Int)) W2:=by
  have e3:Nat.min 1 (n + 1 - i) = 1:=Nat.min_eq_left (by omega)
  have:=run_copy_rows (P:=Tryz.prog) W1 46 46 3 35 w.heap.size (i * 2) (n + 1 - i) (G - i) ⟨vb,0,none⟩ 1 vc 2 ROW _ ys Tryz.underlying46 hsz hg0 (by rw [e3,hyl]) (fun j u hj=>by
   rw [Addr.add_lit,cell_of_row W1 vb _ curv _ (0,0) hvv,Nat.zero_add]
   rw [hys,List.getElem?_take] at hj
   split at hj
   ·rwa [Array.getElem?_toList] at hj
   ·cases hj) (by rw [hyl];omega) (by rw [hys];exact h1v)
  rw [this,e3,hW2,hrow1]
 have hg2:W2.heap[w.heap.size]? = some (.cells row1 35 (0,0)):=by rw [hW2];exact setRow_heap W1 _ ROW row1 _ (0,0) hg0
 have hgg2:W2.heap[g]? = some (.cells cur 35 (0,0)):=by rw [hW2,setRow_other W1 _ g _ (by omega)];exact hgg
 obtain ⟨tl,htl⟩:∃ tl,tl = (cur.toList.take (n * 2)).drop (i * 2):=⟨_,rfl⟩
 have htll:tl.length = (n - i) * 2:=by rw [htl];simp;omega
 have htg:∀ t u,tl[t]? = some u → cur[i * 2 + t]? = some u:=by
  intro t u hu
  rw [htl,List.getElem?_drop,List.getElem?_take] at hu
  split at hu
  ·rwa [Array.getElem?_toList] at hu
  ·cases hu
 have ht1:∀ x ∈ tl,x.oneCell' = true:=fun x hx=>h1 x (by rw [htl] at hx;exact List.mem_of_mem_drop hx)
 obtain ⟨row2,hrow2⟩:∃ row2,row2 = (row1.toList.take ((i + 1) * 2) ++ tl ++ row1.toList.drop ((i + 1) * 2 + tl.length)).toArray:=⟨_,rfl⟩
 have hr2:row2.size = G * 2:=by rw [hrow2];simp [htll];omega
 obtain ⟨W3,hW3⟩:∃ W3,W3 = W2.drew.setRow w.heap.size row2:=⟨_,rfl⟩
 have hcpB:Hid (∀ ty dc sc,(Builtin.copy_ #[46,46] ty #[.slice (some ⟨w.heap.size,(i + 1) * 2,none⟩) (n + 1 - (i + 1)) dc,.slice (some ⟨g,i * 2,none⟩) (n - i) sc]).run Tryz.prog W2.drew = .ok (goInt ((n - i:Nat):Int)) W3):=fun ty dc sc=>by
  have e3:Nat.min (n - i) (n + 1 - (i + 1)) = n - i:=by rw [show n + 1 - (i + 1) = n - i by omega];exact Nat.min_self _
  have:=run_copy_rows (P:=Tryz.prog) W2.drew 46 46 ty 35 w.heap.size ((i + 1) * 2) (n + 1 - (i + 1)) dc ⟨g,i * 2,none⟩ (n - i) sc 2 row1 _ tl Tryz.underlying46 hsz hg2 (by rw [e3,htll]) (fun j u hj=>by
   rw [Addr.add_lit,cell_of_row W2.drew g _ cur _ (0,0) hgg2]
   exact htg j u hj) (by rw [htll];omega) ht1
  rw [this,e3,hW3,hrow2]
 have Y:Hid (w.grownBy W3 none ∧ W3.heap[w.heap.size]? = some (.cells row2 35 (0,0)) ∧ n + 1 ≤ G ∧ G ≤ maxLen ∧ row2.size = G * 2 ∧ row2.toList.take ((n + 1) * 2) = (cur.toList.take (n * 2)).take (i * 2) ++ curv.toList.take 2 ++ (cur.toList.take (n * 2)).drop (i * 2)):=by
  refine ⟨⟨by rw [hW3,hW2,hW1];rfl,by rw [hW3,hW2,hW1];rfl,by rw [hW3,hW2,hW1];rfl,?_,fun k hk _=>?_⟩,?_,hGn,hG63,hr2,?_⟩
  ·rw [hW3,size_setRow]
   show w.heap.size ≤ W2.heap.size
   rw [hW2,size_setRow,hW1]
   show w.heap.size ≤ (w.drew.alloc _).heap.size
   simp
  ·rw [hW3,setRow_other W2.drew _ k _ (by omega)]
   show W2.heap[k]? = _
   rw [hW2,setRow_other W1 _ k _ (by omega),hW1]
   exact heap_alloc_old w.drew _ k hk
  ·rw [hW3];exact setRow_heap W2.drew _ row1 row2 _ (0,0) hg2
  ·have eR:ROW.toList = cur.toList.take (i * 2) ++ ((Builtin.zeroCells (Value.agg #[.int .i64 0,.int .i64 0]).cells (n + 1 - i)).toList ++ (Builtin.zeroCells (Value.agg #[.int .i64 0,.int .i64 0]).cells (G - (n + 1))).toList):=by rw [hROW];simp
   have ec:(cur.toList.take (i * 2)).length = i * 2:=by simp;omega
   have e1:row1.toList.take ((i + 1) * 2) = cur.toList.take (i * 2) ++ ys:=by
    rw [hrow1]
    show List.take _ (_ ++ _ ++ _) = _
    have eA:ROW.toList.take (i * 2) = cur.toList.take (i * 2):=by
     rw [eR,List.take_append_of_le_length (by omega),List.take_take,Nat.min_self]
    rw [eA,List.take_append_of_le_length (by simp [hyl];omega),List.take_of_length_le (by simp [hyl];omega)]
   rw [hrow2]
   show List.take _ (_ ++ _ ++ _) = _
   rw [e1,List.take_append_of_le_length (by simp [hyl,htll];omega),List.take_of_length_le (by simp [hyl,htll];omega),hys,htl,List.take_take,Nat.min_eq_left (by omega)]
 have HRZ:=Lib.hid hrz
 clear hrz hg0 hgg hvv hg2 hgg2 hr1 hr2 hold hROW hG hRl hW1 hW2 hW3 htg htll htl hrow1 hrow2 hyl hys ht1 h1 h1v hg hv hsz hkk
 have hwn:IntKind.i64.wrap ((n:Int) + (1:Int)) = (n:Int) + (1:Int):=by rw [IntKind.wrap_i64];omega
 have hws:IntKind.i64.wrap ((n:Int) + (1:Int) - (i:Int)) = (n:Int) + (1:Int) - (i:Int):=by rw [IntKind.wrap_i64];omega
 have hw1:IntKind.i64.wrap ((i:Int) + (1:Int)) = (i:Int) + (1:Int):=by rw [IntKind.wrap_i64];omega
 have hz2':¬ ((i:Int) = (n:Int)):=by omega
 have hz3:(n:Int) < (n:Int) + (1:Int):=by omega
 have hb1:(0:Int) ≤ (i:Int) + (1:Int):=by omega
 have hin:i ≤ n:=by omega
 have htn:((i:Int) + (1:Int)).toNat = i + 1:=by omega
 have hGi:¬ (G = i):=by omega
 have hGim:¬ (G = i + 1):=by omega
 have hci:¬ (n = i):=by omega
 have hb3:(i:Int) ≤ (n:Int):=by omega
 go_enter Tryz.func131,Tryz.ntmps131
 go_wp2_with (at_builtin;refine Lib.wpList_append_run _ rfl _ _ _ _ rfl _ _ rfl rfl _ _ HRZ.out ?_)
 go_region_law (refine step_copy_runI' rfl _ _ 46 46 rfl (.slice (some ⟨w.heap.size,(i + 1) * 2,none⟩) (n + 1 - (i + 1)) (G - (i + 1))) (.slice (some ⟨g,i * 2,none⟩) (n - i) (n - i)) (by simp [Act.eval,Act.put]) (by simp [Act.eval,Act.put]) (hcpB.out 3 (G - (i + 1)) (n - i)) ?_)
 go_wp2
 go_ret
 exact ⟨_,_,rfl,Y.out⟩
theorem ins_row:∀ (N:Nat) (w:World) (v:Value) (n:Nat) (xs:List Value) (i:Nat) (vy:Value) (ys:List Value),w.ownsRow N 35 2 v n xs → (∀ x ∈ xs,x.oneCell' = true) → w.ownsRow N 35 2 vy 1 ys → (∀ x ∈ ys,x.oneCell' = true) →
  (∀ b,blkOf vy = some b → blkOf v ≠ some b) → N ≤ w.heap.size → i ≤ n → n ≤ 2147483647 →
  Calls Tryz.prog 131 #[v,.int .i64 i,vy] w fun e w'=>∃ v',e = .returned v' ∧ w'.ownsRow N 35 2 v' (n + 1) (xs.take (i * 2) ++ ys ++ xs.drop (i * 2)) ∧ w.grownBy w' (blkOf v) ∧ ∀ b,blkOf v' = some b → blkOf v = some b ∨ w.heap.size ≤ b:=by
 intro N w v n xs i vy ys hown h1 hy hy1 hne hN hi hn
 rcases Nat.lt_or_ge i n with hlt | hge
 ·obtain ⟨vb,vc,curv,rfl,_,hgv,hvn,hvm,hvs,hvt⟩:=own_cell hy (by omega)
  obtain ⟨g,c,cur,rfl,hNg,hg,hnc,hcm,hcs,htk⟩:=own_cell hown (by omega)
  have hne':vb ≠ g:=fun e=>hne vb rfl (by rw [e];rfl)
  rw [Nat.one_mul] at hvt
  have hl:(xs.take (i * 2) ++ ys ++ xs.drop (i * 2)).length = (n + 1) * 2:=by
   have e1:=hown.1
   have e2:=hy.1
   simp
   omega
  rcases Nat.lt_or_ge n c with hroom | hroom
  ·refine (ins_shift g n c i vb vc cur curv w hlt hroom hcm hg hcs hgv hvn hvs hne' (by rw [htk];exact h1) (by rw [hvt];exact hy1)).mono ?_
   rintro e w' ⟨rfl,row,rfl,hr1,hr2⟩
   have hw:(w.drew.setRow g row).heap[g]? = some (.cells row 35 (0,0)):=setRow_heap w.drew g cur row _ (0,0) hg
   exact ⟨_,rfl,⟨hl,.inr ⟨g,c,row,rfl,hNg,hw,by omega,hcm,hr1,by rw [hr2,htk,hvt]⟩⟩,grown_setRow w g row,fun b hb=>.inl hb⟩
  ·refine (ins_grow g n c i vb vc cur curv w hlt (by omega) hn hg hcs hgv hvn hvs (by rw [htk];exact h1) (by rw [hvt];exact hy1)).mono ?_
   rintro e w' ⟨G,row,rfl,hgr,hw,hG1,hG2,hr1,hr2⟩
   exact ⟨_,rfl,⟨hl,.inr ⟨w.heap.size,G,row,rfl,hN,hw,hG1,hG2,hr1,by rw [hr2,htk,hvt]⟩⟩,⟨hgr.os,hgr.tape,hgr.output,hgr.size,fun k hk _=>hgr.block k hk (by simp)⟩,fun b hb=>.inr (by cases hb;exact Nat.le_refl _)⟩
 ·obtain rfl:i = n:=by omega
  have e1:=hown.1
  rw [List.take_of_length_le (by omega),List.drop_of_length_le (by omega),List.append_nil]
  exact ins_end N w v i xs vy ys hown hy hy1 hN hn
end Go.Proofs.YtgbicnkpnhifgaaGreatDoor
