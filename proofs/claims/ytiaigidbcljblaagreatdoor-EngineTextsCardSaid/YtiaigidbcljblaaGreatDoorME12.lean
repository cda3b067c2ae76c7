import Derived.Test.YtiaigidbcljblaaGreatDoorME11
import Derived.Test.YtiaigidbcljblaaGreatDoorRows
import Derived.RangeFuncNested
import Derived.RangeFuncBound
import Derived.RangeFuncCalls
import Derived.RangeFuncLeaves
import Derived.Shelf.Abstract
import Derived.Shelf.RegionOpen
import Derived.WalkKit
import Derived.OwnWalkIn
import Derived.TacticsInMore
import Derived.LoopNIn
import Derived.LoopIn
set_option linter.unusedSimpArgs false
set_option maxRecDepth 100000
set_option maxHeartbeats 40000000
namespace Go.Proofs.YtiaigidbcljblaaGreatDoor
section
open Go.RowKit
attribute [local irreducible] wpQuiet wpAnyH
def wsD(d:DiskD)(a:Int)(s:List Int):DiskD:=match writeA d a with|some _=>writeD d a s|none=>syncS (writeD d a s)
def wsA(d:DiskD)(a:Int)(s:List Int):Ans:=match writeA d a with|some x=>some x|none=>syncA (writeD d a s)
theorem stepped_room{d:DiskD}(h:d.steps≤d.room):(stepped d).room≤d.room+1:=by show max d.room (d.steps+1)≤d.room+1;omega
theorem writeD_room{d:DiskD}(h:d.steps≤d.room)(a:Int)(s:List Int):(writeD d a s).room≤d.room+2:=by
 have h1:=stepped_room h
 have h2:=addIf_room (stepped d) a s
 unfold writeD
 split
 ·omega
 ·split
  ·show(addIf (stepped d) a s).room≤_;omega
  ·split <;> omega
theorem rec_bys(g:Nat)(p:List Int)(hb:Bys p):Bys (rec g p):=fun b h=>by
 unfold rec at h
 rcases List.mem_append.1 h with h|h
 ·exact body_bys hb b (List.mem_of_mem_take h)
 ·rcases List.mem_append.1 h with h|h
  ·exact beB_bys _ _ b h
  ·exact beB_bys _ _ b h
theorem neq_nil(t:TypeId)(u:Value)(w:World):(binOp .neq 42 (.iface t u) .nilIface).run Tryz.prog w = .ok (.bool true) w:=by kernel_rfl
theorem slot_commit(f z:Int)(g:Nat)(w:World)(m:DiskM)(d:DiskD)(h:DK w m d)(hf:isI64 f)(hg:g<4294967296)(hr:d.room+3≤100000):
  Calls Tryz.prog 205 #[.pointer (some ⟨m.g,0,none⟩),.agg #[.int .i64 f,.int .i64 z],.int .u32 g] w fun e w'=>e = .returned (valE (wsA d f (rec g toll)))∧∃ m',DK w' m' (wsD d f (rec g toll))∧DT w m w' m':=by
 have hB0:Below w.heap.size w (w.alloc (.cells #[.int .i64 f,.int .i64 z] 324)):=(Below.refl _ w).alloc (Nat.le_refl _) _
 obtain⟨w1,hw1⟩:∃ w1,w1=w.alloc (.cells #[.int .i64 f,.int .i64 z] 324):=⟨_,rfl⟩
 have HK1:Hid (DK w1.drew m d):=Lib.hid (by rw[hw1];exact(h.keep hB0).drew)
 have HB1:Hid (Below w.heap.size w w1.drew):=Lib.hid (by rw[hw1];exact hB0.drew)
 have HC1:Hid (w1.drew.cell? ⟨w.heap.size,0,none⟩=some (.int .i64 f)):=Lib.hid (by rw[hw1];exact(Blk.new w _ #[.int .i64 f,.int .i64 z]).cell 0)
 have HNF:=Lib.hid (h.notFoot (Nat.le_refl w.heap.size))
 have HSR:Hid (Sec (rec g toll)):=Lib.hid ⟨rec_length g toll (by decide),rec_bys g toll toll_bys⟩
 have hst:=h.ok.st
 clear h hB0
 go_enter Tryz.func205,Tryz.ntmps205
 go_upto_region 1 with fail
 rw[← hw1]
 clear hw1
 refine held_start 7 (fun w'=>w'.cell? ⟨w.heap.size,0,none⟩=some (.int .i64 f)) (by kernel_rfl) (by kernel_rfl) (HC1.out) (fun hHeld=>?_)
 refine hMove 0 (Operand.tmp 0) (some 8) (.pointer (some ⟨m.g,0,none⟩)) (by kernel_rfl) (by kernel_rfl) (by kernel_rfl) (by kernel_rfl) (by kernel_rfl) (fun _ _ _ h=>h) (by exact rfl) hHeld ?_
 simp only[Act.put,List.setIfInBounds_toArray,List.set_cons_zero,List.set_cons_succ]
 refine hTake 1 (Op.fieldAddr 324 (Operand.tmp 4) 0) (some 9) (.pointer (some ⟨w.heap.size,0,none⟩)) (by kernel_rfl) (by kernel_rfl) (by kernel_rfl) (by kernel_rfl) (by kernel_rfl) (fun _ _ _ h=>h) (fun o ho wX hX=>by unfold execOp;simp only[ho];go_simp) hHeld ?_
 simp only[Act.put,List.setIfInBounds_toArray,List.set_cons_zero,List.set_cons_succ]
 refine hTake 2 (Op.load 3 (Operand.tmp 9)) (some 10) (.int .i64 f) (by kernel_rfl) (by kernel_rfl) (by kernel_rfl) (by kernel_rfl) (by kernel_rfl) (fun _ _ _ h=>h) (fun o ho wX hX=>by unfold execOp;simp only[ho];go_simp) hHeld ?_
 simp only[Act.put,List.setIfInBounds_toArray,List.set_cons_zero,List.set_cons_succ]
 refine hMove 3 (Operand.tmp 2) (some 11) (.int .u32 g) (by kernel_rfl) (by kernel_rfl) (by kernel_rfl) (by kernel_rfl) (by kernel_rfl) (fun _ _ _ h=>h) (by exact rfl) hHeld ?_
 simp only[Act.put,List.setIfInBounds_toArray,List.set_cons_zero,List.set_cons_succ]
 refine wpAnyH_ready (rs:=[4]) (by kernel_rfl) (by simp) ?_
 refine rCall 4 (Op.call { callee:=Callee.value (Operand.func 265),args:=#[Operand.tmp 11],argTypes:=#[51] }) (some 12) 265 (#[.int .u32 g]) (by kernel_rfl) (by kernel_rfl) (fun o ho=>by unfold execOp;simp only[ho];go_simp) ?_ AllReadyH.nil
 refine(frame_header g w1.drew hg).mono ?_
 rintro e w2 ⟨rfl,hb2⟩
 have HK2:=Lib.hid (HK1.keep hb2)
 have HB2:Hid (Below w.heap.size w w2):=Lib.hid (bstep HB1.out hb2)
 refine⟨_,rfl,Below.cell' hb2 hHeld,fun hHeld=>?_⟩
 simp only[Act.put,List.setIfInBounds_toArray,List.set_cons_zero,List.set_cons_succ]
 refine wpAnyH_ready (rs:=[5]) (by kernel_rfl) (by simp) ?_
 refine rCall 5 (Op.call { callee:=Callee.value (Operand.func 264),args:=#[Operand.tmp 8,Operand.tmp 10,Operand.tmp 12],argTypes:=#[78,3,243] }) (some 13) 264 (#[.pointer (some ⟨m.g,0,none⟩),.int .i64 f,.agg (u8s (rec g toll)).toArray]) (by kernel_rfl) (by kernel_rfl) (fun o ho=>by unfold execOp;simp only[ho];go_simp) ?_ AllReadyH.nil
 refine(disk_write f (rec g toll) w2 m d HK2.out hf HSR.out (by omega)).mono ?_
 rintro e w3 ⟨rfl,m3,hdk,hdt⟩
 rw[writeE_val]
 refine⟨_,rfl,hdt.fo.cell hHeld HNF.out,fun hHeld=>?_⟩
 simp only[Act.put,List.setIfInBounds_toArray,List.set_cons_zero,List.set_cons_succ]
 refine hTake 6 (Op.assign (Operand.tmp 13)) (some 7) (valE (writeA d f)) (by kernel_rfl) (by kernel_rfl) (by kernel_rfl) (by kernel_rfl) (by kernel_rfl) (fun _ _ _ h=>h) (fun o ho wX hX=>by unfold execOp;simp only[ho];go_simp) hHeld ?_
 simp only[Act.put,List.setIfInBounds_toArray,List.set_cons_zero,List.set_cons_succ]
 refine wpAnyH_done (by kernel_rfl) ?_ _
 clear hHeld
 have HDT:Hid (DT w m w3 m3):=Lib.hid ((DT.of_below HB2.out).trans hdt)
 have HDK:=Lib.hid hdk
 have HRM:Hid ((writeD d f (rec g toll)).room≤d.room+2):=Lib.hid (writeD_room hst f _)
 clear hdk hdt
 have hg3:m3.g=m.g:=HDT.g
 cases ha:writeA d f with
 | some x=>
  have HF:Hid (wsA d f (rec g toll)=some x∧wsD d f (rec g toll)=writeD d f (rec g toll)):=Lib.hid (by unfold wsA wsD;rw[ha];exact⟨rfl,rfl⟩)
  obtain⟨t,u,hv⟩:=valE_form x
  rw[hv]
  have HV:=Lib.hid hv
  have hne:=neq_nil t u
  clear ha hv
  go_wp2_with fail
  go_ret
  exact⟨by rw[HF.out.1,HV.out];rfl,m3,by rw[HF.out.2];exact HDK.out,HDT.out⟩
 | none=>
  have HF:Hid (wsA d f (rec g toll)=syncA (writeD d f (rec g toll))∧wsD d f (rec g toll)=syncS (writeD d f (rec g toll))):=Lib.hid (by unfold wsA wsD;rw[ha];exact⟨rfl,rfl⟩)
  have hv:valE none = .nilIface:=rfl
  rw[hv]
  clear ha
  go_wp2_with fail
  rw[← hg3]
  refine(disk_sync w3 m3 _ HDK.out (by have:=HRM.out;omega)).mono ?_
  rintro e w4 ⟨rfl,m4,hdk4,hdt4⟩
  have HD4:=Lib.hid hdk4
  have HT4:Hid (DT w m w4 m4):=Lib.hid (HDT.trans hdt4)
  clear hdk4 hdt4
  go_wp2_with fail
  go_ret
  exact⟨by rw[HF.out.1,← syncE_val];rfl,m4,by rw[HF.out.2];exact HD4.out,HT4.out⟩
theorem entRec_sec(g:Nat){q:List Int×Int}(hq:EntOk q):Sec (entRec g q):=by
 have hl:(q.1++beB 8 q.2.toNat).length=40:=by rw[List.length_append,beB_length,hq.dig.len]
 refine⟨rec_length g _ (by rw[hl];omega),rec_bys g _ fun b hb=>?_⟩
 rcases List.mem_append.1 hb with hb|hb
 ·exact hq.dig.byte b hb
 ·exact beB_bys _ _ b hb
theorem pick_sec(g:Nat){q:List Int×Int}(hq:EntOk q):Sec (if rightE q then entRec g q else zsec):=by
 split
 ·exact entRec_sec g hq
 ·exact zsec_sec
theorem setCells_partM{w:World}{g:Nat}{t:TypeId}(pre mid post new:List Value)(hB:Blk w g t (pre++mid++post).toArray)(hl:mid.length=new.length):
  Blk (w.setCells g pre.length new) g t (pre++new++post).toArray∧Off g w (w.setCells g pre.length new)∧(w.setCells g pre.length new).heap.size=w.heap.size:=by
 have h1:=setCells_blk new pre.length w _ hB
 rw[part_eqM pre mid post new hl] at h1
 have h2:=(setCells_below (Nat.le_refl g) new pre.length w)
 exact⟨h1,⟨h2.1.os,h2.1.tape,h2.1.output,by omega,fun k _ hk=>setCells_other hk new pre.length w⟩,h2.2⟩
theorem stPartM{P:Program}{ops:Array Oper}{rest:List Oper}{o:Oper}{a:Act}{w:World}{Q:Exit→Act→World→Prop}(ty:TypeId)(x y:Operand)(ho:o.op = .store ty x y)(hw:Region.wanted o (yielded ops a.tmps)=true)
  {g t:Nat} (pre mid post new:List Value) (hx:a.eval x = .pointer (some ⟨g,pre.length,none⟩)) (hy:a.eval y = .agg new.toArray) (hB:Blk w g t (pre++mid++post).toArray)
  (hi:(P.info? ty).map (·.size)=some new.length) (hl:mid.length=new.length) (h1:∀ u∈new,u.oneCell'=true)
  (h:∀ w2,Blk w2 g t (pre++new++post).toArray→Off g w w2→w2.heap.size=w.heap.size→wpList P ops Q rest (a.put o.dst undef) w2):
  wpList P ops Q (o :: rest) a w:=
 wpList_step fun K hK=>by
  rw[if_pos hw]
  refine wp_store_mid ty x y ho g pre.length new.toArray hx hy (there_blk hB (by simp;omega)) (by simpa using hi) (all_oneCell_toArray h1) ?_
  rw[List.toList_toArray]
  obtain⟨h2,h3,h4⟩:=setCells_partM pre mid post new hB hl
  exact hK _ _ (h _ h2 h3 h4)
def fillW:DiskD→Int→List (List Int)→Ans×DiskD
 | d,_,[]=>(syncA d,syncS d)
 | d,a,s :: r=>match writeA d a with|some x=>(some x,writeD d a s)|none=>fillW (writeD d a s) (a+1) r
def fillR(d:DiskD)(f z:Int)(g:Nat)(l:List (List Int×Int)):Ans×DiskD:=
 if room z<l.length then (some (13,none),d) else if l.all rightE then fillW d (f+1) (l.map (entRec g)) else (some (15,none),d)
def recsAt(g:Nat)(l:List (List Int×Int))(k:Nat):List Value:=((l.take k).map (entRec g)++List.replicate (l.length-k) zsec).flatMap u8s
theorem recsAt_zero(g:Nat)(l:List (List Int×Int)):recsAt g l 0=(List.replicate l.length zsec).flatMap u8s:=by simp[recsAt]
theorem recsAt_all(g:Nat)(l:List (List Int×Int)):recsAt g l l.length=(l.map (entRec g)).flatMap u8s:=by simp[recsAt]
theorem flat64(L:List (List Int))(h:∀ s∈L,Sec s):(L.flatMap u8s).length=L.length*64:=by
 induction L with
 | nil=>rfl
 | cons s L ih=>
  rw[List.flatMap_cons,List.length_append,ih fun x hx=>h x (by simp[hx]),sec_length (h s (by simp)),List.length_cons]
  omega
theorem recs_split(g:Nat)(l:List (List Int×Int))(hl:∀ q∈l,EntOk q)(k:Nat)(hk:k<l.length):∃ pre post,recsAt g l k=pre++u8s zsec++post∧recsAt g l (k+1)=pre++u8s (entRec g l[k])++post∧pre.length=k*64:=by
 refine⟨((l.take k).map (entRec g)).flatMap u8s,(List.replicate (l.length-(k+1)) zsec).flatMap u8s,?_,?_,?_⟩
 ·unfold recsAt
  rw[show l.length-k=(l.length-(k+1))+1 by omega,List.replicate_succ,List.flatMap_append,List.flatMap_cons,List.append_assoc]
 ·unfold recsAt
  rw[List.take_succ_eq_append_getElem hk,List.map_append,List.flatMap_append,List.flatMap_append]
  simp
 ·rw[flat64 _ (fun s hs=>by
   obtain⟨q,hq,rfl⟩:=List.mem_map.1 hs
   exact entRec_sec g (hl q (List.mem_of_mem_take hq)))]
  rw[List.length_map,List.length_take,Nat.min_eq_left (by omega)]
theorem ent_row{w:World}{A:Option Addr}{cap:Nat}{l:List (List Int×Int)}(h:Sn w 33 (.slice A l.length cap) l.length (l.flatMap entP))(hok:∀ q∈l,EntOk q)(k:Nat)(hk:k<l.length):
  ∃ b off,A=some ⟨b,off,none⟩∧w.rangeAt b (off+k*33) (entP l[k]):=by
 obtain⟨b,off,rfl,hr⟩:=h.range k hk
 rw[flatMap_pieceM entP 33 l (fun q hq=>entP_length q (hok q hq)) k hk] at hr
 exact⟨b,off,rfl,hr⟩
theorem fillW_cons(d:DiskD)(a:Int)(L:List (List Int))(k:Nat)(hk:k<L.length):fillW d a (L.drop k)=match writeA d a with|some x=>(some x,writeD d a L[k])|none=>fillW (writeD d a L[k]) (a+1) (L.drop (k+1)):=by
 rw[List.drop_eq_getElem_cons hk];rfl
theorem slot_fill(f z:Int)(g:Nat)(l:List (List Int×Int))(A:Option Addr)(cap:Nat)(w:World)(m:DiskM)(d:DiskD)(h:DK w m d)(hs:Sn w 33 (.slice A l.length cap) l.length (l.flatMap entP))(hok:∀ q∈l,EntOk q)(hf:0≤f∧f≤100000)(hz:isI64 z∧z≤4000)(hg:g<4294967296)(hln:l.length≤1000000)(hr:d.room+10000≤100000):
  Calls Tryz.prog 228 #[.pointer (some ⟨m.g,0,none⟩),.agg #[.int .i64 f,.int .i64 z],.int .u32 g,.slice A l.length cap] w fun e w'=>e = .returned (valE (fillR d f z g l).1)∧∃ m',DK w' m' (fillR d f z g l).2∧DT w m w' m':=by
 have hB0:Below w.heap.size w (w.alloc (.cells #[.int .i64 f,.int .i64 z] 324)):=(Below.refl _ w).alloc (Nat.le_refl _) _
 obtain⟨w1,hw1⟩:∃ w1,w1=w.alloc (.cells #[.int .i64 f,.int .i64 z] 324):=⟨_,rfl⟩
 have HK1:Hid (DK w1 m d):=Lib.hid (by rw[hw1];exact h.keep hB0)
 have HB1:Hid (Below w.heap.size w w1):=Lib.hid (by rw[hw1];exact hB0)
 have HS1:Hid (Sn w1 33 (.slice A l.length cap) l.length (l.flatMap entP)):=Lib.hid (by rw[hw1];exact hs.alloc _)
 have HX1:Hid (Blk w1 w.heap.size 324 #[.int .i64 f,.int .i64 z]):=Lib.hid (by rw[hw1];exact Blk.new w _ _)
 have HR1:Hid (w1.rangeAt w.heap.size 0 [.int .i64 f,.int .i64 z]):=Lib.hid (by have:=HX1.range;exact this)
 have HNF:=Lib.hid (h.notFoot (Nat.le_refl w.heap.size))
 have HOK:=Lib.hid hok
 have hst:=h.ok.st
 have hf1:0≤f:=hf.1
 have hf2:f≤100000:=hf.2
 have hrz:room z≤4000:=by unfold room;split <;> omega
 have hln0:(0:Int)≤l.length:=by omega
 have hln1:(l.length:Int)≤1000000:=by omega
 clear h hB0 hf hs hok
 go_enter Tryz.func228,Tryz.ntmps228
 go_upto_region 1 with fail
 rw[← hw1]
 clear hw1
 go_wp2_with (refine ld 324 _ rfl rfl rfl HR1.out Tryz.underlying324 rfl (by kernel_rfl) ?_)
 refine(slot_room f z w1 hz.1).mono ?_
 rintro e w2 ⟨rfl,hb2⟩
 have HB2:Hid (Below w.heap.size w w2):=Lib.hid (bstep HB1.out hb2)
 have HX2:Hid (Blk w2 w.heap.size 324 #[.int .i64 f,.int .i64 z]):=Lib.hid (HX1.keep hb2)
 have HS2:=Lib.hid (HS1.below hb2)
 have HK2:=Lib.hid (HK1.keep hb2)
 obtain⟨R,hR⟩:∃ R,R=room z:=⟨_,rfl⟩
 have HRR:=Lib.hid hR
 rw[← hR] at hrz ⊢
 clear hb2 hR
 rcases Bool.eq_false_or_eq_true (decide (R<(l.length:Int))) with t2|t2
 ·have HF:Hid (fillR d f z g l=(some (13,none),d)):=Lib.hid (by unfold fillR;rw[← HRR.out,if_pos (of_decide_eq_true t2)])
  go_wp2_with fail
  go_ret
  exact⟨by rw[HF.out];rfl,m,by rw[HF.out];exact HK2.out,DT.of_below HB2.out⟩
 ·have hlR:(l.length:Int)≤R:=by have:=of_decide_eq_false t2;omega
  have hms:∀ w,(Instr.makeSlice 46 (.int .i64 l.length) (.int .i64 l.length)).run Tryz.prog w = .ok (.slice (some ⟨w.heap.size,0,none⟩) l.length l.length) (w.alloc (.cells ((List.replicate l.length zsec).flatMap u8s).toArray 243)):=make_secs l.length (by omega)
  have HF0:Hid (fillR d f z g l=(if l.all rightE then fillW d (f+1) (l.map (entRec g)) else (some (15,none),d))):=Lib.hid (by unfold fillR;rw[← HRR.out,if_neg (of_decide_eq_false t2)])
  clear HRR
  go_upto_region 4 with fail
  obtain⟨gR,hgR⟩:∃ gR,gR=w2.heap.size:=⟨_,rfl⟩
  obtain⟨w3,hw3⟩:∃ w3,w3=w2.alloc (.cells ((List.replicate l.length zsec).flatMap u8s).toArray 243):=⟨_,rfl⟩
  have HB3:Hid (Below gR w2 w3):=Lib.hid (by rw[hw3,hgR];exact(Below.refl _ _).alloc (Nat.le_refl _) _)
  have HR3:Hid (Blk w3 gR 243 (recsAt g l 0).toArray):=Lib.hid (by rw[hw3,hgR,recsAt_zero];exact Blk.new _ _ _)
  have HGR:=Lib.hid hgR
  have hgw:w.heap.size≤gR:=by rw[hgR];exact HB2.size
  rw[← hw3,← hgR]
  clear hw3 hgR hms
  go_wp2_with fail
  go_loopw [28] (fun i wr=>∃ k:Nat,k≤l.length∧i = .int .i64 k∧Hid ((l.take k).all rightE=true)∧Hid (Blk wr gR 243 (recsAt g l k).toArray)∧Hid (Below gR w2 wr)) (fun i _=>l.length-(intOf i).toNat)
  case atStart=>exact⟨0,Nat.zero_le _,rfl,Lib.hid (by simp),HR3,HB3⟩
  case round=>
   obtain⟨k,hk,rfl,HA,HRB,HBR⟩:=hrel
   have HBW:Hid (Below w2.heap.size w2 wr):=Lib.hid (by rw[← HGR.out];exact HBR.out)
   rcases Nat.lt_or_ge k l.length with hlt|hge
   ·obtain⟨b,off,eA,hr⟩:=ent_row HS2.out HOK.out k hlt
    subst eA
    obtain⟨q,hq⟩:∃ q,q=l[k]:=⟨_,rfl⟩
    obtain⟨pre,post,hp1,hp2,hp3⟩:=recs_split g l HOK.out k hlt
    rw[← hq] at hr hp2
    have hqo:EntOk q:=by rw[hq];exact HOK.out _ (List.getElem_mem hlt)
    have HRW:Hid (wr.rangeAt b (off+k*33) (entP q)):=Lib.hid (fun i u hi=>Below.cell' HBW.out (hr i u hi))
    have HQE:Hid ((Tryz.prog.info? 172).map (·.size)=some (entP q).length∧(Tryz.prog.info? 172).map (·.size)=some (entP q).toArray.size∧zE.size=(entP q).toArray.size):=Lib.hid ⟨by rw[entP_length q hqo];kernel_rfl,by rw[List.size_toArray,entP_length q hqo];kernel_rfl,by rw[zE_size,List.size_toArray,entP_length q hqo]⟩
    have HQ1:Hid ((entP q).toArray.all (·.oneCell')=true):=Lib.hid (entC_one _ _)
    have HSP:=Lib.hid (pick_sec g hqo)
    have hi0:(0:Int)≤k:=by omega
    have hi1:(k:Int)<l.length:=by omega
    have HNX:Hid (l.all rightE=true→rightE q=true):=Lib.hid (fun e=>List.all_eq_true.1 e q (by rw[hq];exact List.getElem_mem hlt))
    have HNT:Hid (rightE q=true→(l.take (k+1)).all rightE=true):=Lib.hid (fun e=>by
     rw[List.take_succ_eq_append_getElem hlt,List.all_append,HA.out,← hq]
     simp[e])
    have HP:=Lib.hid (And.intro hp1 (And.intro hp2 hp3))
    have HSW:=Lib.hid (HBR.size)
    clear hr hq hp1 hp2 hp3
    go_wp2_with (first
     | (refine ld 172 _ rfl rfl rfl HRW.out Tryz.underlying172 rfl HQE.out.1 ?_)
     | (refine al 172 zE rfl rfl zeroE ?_)
     | (refine stNew 172 (.tmp 11) (.tmp 32) rfl rfl rfl rfl HQE.out.2.1 HQE.out.2.2 HQ1.out ?_;intro w4 hK hb4 hz4;have HB4:=Lib.hid hb4;have HR4:Hid (w4.rangeAt wr.heap.size 0 (entP q)):=Lib.hid (by have:=Blk.range (show Blk w4 wr.heap.size 172 (entP q).toArray from hK);rw[List.toList_toArray] at this;exact this);clear hK hb4 hz4)
     | (refine ld 172 _ rfl rfl rfl HR4.out Tryz.underlying172 rfl HQE.out.1 ?_))
    refine(frame_entry g q w4 hqo hg).mono ?_
    rintro e w5 ⟨rfl,hb5⟩
    have HB5:Hid (Below wr.heap.size wr w5):=Lib.hid (bstep HB4.out hb5)
    obtain⟨S,hS⟩:∃ S,S=(if rightE q then entRec g q else zsec):=⟨_,rfl⟩
    rw[← hS] at HSP ⊢
    have HSZ:Hid ((Tryz.prog.info? 243).map (·.size)=some (u8s S).toArray.size∧z64.size=(u8s S).toArray.size∧(Tryz.prog.info? 243).map (·.size)=some (u8s S).length∧(u8s zsec).length=(u8s S).length):=Lib.hid ⟨by rw[List.size_toArray,sec_length HSP.out];kernel_rfl,by rw[z64_size,List.size_toArray,sec_length HSP.out],by rw[sec_length HSP.out];kernel_rfl,by rw[sec_length HSP.out,sec_length zsec_sec]⟩
    have HSO:=Lib.hid (u8s_one S)
    have HRB5:Hid (Blk w5 gR 243 (recsAt g l k).toArray):=Lib.hid (HRB.keep HB5.out)
    have HGL:=Lib.hid HRB.lt
    clear hb5
    cases hrq:rightE q with
    | false=>
     have HF:Hid (fillR d f z g l=(some (15,none),d)):=Lib.hid (by
      rw[HF0.out,if_neg]
      intro e
      rw[HNX.out e] at hrq
      cases hrq)
     clear hrq hS HF0
     go_wp2_with (first
      | (refine al 243 z64 rfl rfl zero64 ?_)
      | (refine stNew 243 (.tmp 12) (.tmp 37) rfl rfl rfl rfl HSZ.out.1 HSZ.out.2.1 HSO.out ?_;intro w6 hK hb6 hz6;have HB6:=Lib.hid hb6;clear hK hb6 hz6))
     go_ret
     have hbl:Below w2.heap.size w2 w6:=bstep (bstep HBW.out HB5.out) HB6.out
     exact⟨by rw[HF.out];rfl,m,by rw[HF.out];exact HK2.keep hbl,DT.of_below (bstep HB2.out hbl)⟩
    | true=>
     rw[hrq] at hS
     replace hS:S=entRec g q:=hS
     have HT:=Lib.hid (HNT.out hrq)
     rw[← hS] at HP
     clear hrq hS
     have HPL:Hid (Operand.tmp 45=Operand.tmp 45):=Lib.hid rfl
     go_wp2_with (first
      | (refine al 243 z64 rfl rfl zero64 ?_)
      | (refine stNew 243 (.tmp 12) (.tmp 37) rfl rfl rfl rfl HSZ.out.1 HSZ.out.2.1 HSO.out ?_;intro w6 hK hb6 hz6;have HB6:=Lib.hid hb6;have HR6:Hid (w6.rangeAt w5.heap.size 0 (u8s S)):=Lib.hid (by have:=Blk.range (show Blk w6 w5.heap.size 243 (u8s S).toArray from hK);rw[List.toList_toArray] at this;exact this);have HRB6:Hid (Blk w6 gR 243 (pre++u8s zsec++post).toArray):=Lib.hid (by rw[← HP.out.1];exact HRB5.keep hb6);clear hK hb6 hz6)
      | (refine ld 243 _ rfl rfl rfl HR6.out Tryz.underlying243 rfl HSZ.out.2.2.1 ?_)
      | (refine stPartM 243 (.tmp 45) (.tmp 44) rfl rfl pre (u8s zsec) post (u8s S) (by rw[HP.out.2.2];rfl) rfl HRB6.out HSZ.out.2.2.1 HSZ.out.2.2.2 (u8s_mem _) ?_;intro w7 hK7 ho7 hz7;have HRB7:=Lib.hid hK7;have HO7:=Lib.hid ho7;clear hK7 ho7 hz7))
     have hb60:Below gR w2 w6:=(HBR.trans ((HB5.mono (Nat.le_of_lt HGL.out)).trans (HB6.mono (by have:=HB5.size;have:=HGL.out;omega))))
     exact⟨⟨k+1,by omega,by go_num,HT,Lib.hid (by rw[HP.out.2.1];exact HRB7.out),Lib.hid (hb60.trans (HO7.below (Nat.le_refl _) (by have:=hb60.size;have:=HGR.out;omega)))⟩,by simp[intOf];omega⟩
   ·obtain rfl:k=l.length:=by omega
    have hall:l.all rightE=true:=by have:=HA.out;rwa [List.take_length] at this
    have HF:Hid (fillR d f z g l=fillW d (f+1) (l.map (entRec g))):=Lib.hid (by rw[HF0.out,if_pos hall])
    obtain⟨L,hL⟩:∃ L,L=l.map (entRec g):=⟨_,rfl⟩
    have hLn:L.length=l.length:=by rw[hL,List.length_map]
    have HLS:Hid (∀ s∈L,Sec s):=Lib.hid (fun s hs=>by rw[hL] at hs;obtain⟨q,hq,rfl⟩:=List.mem_map.1 hs;exact entRec_sec g (HOK.out q hq))
    rw[recsAt_all,← hL] at HRB
    rw[← hL] at HF
    have HKr:Hid (DK wr m d):=Lib.hid (HK2.keep HBW.out)
    have HXr:Hid (Blk wr w.heap.size 324 #[.int .i64 f,.int .i64 z]):=Lib.hid (HX2.keep HBW.out)
    have HTr:Hid (DT w m wr m):=Lib.hid (DT.of_below (bstep HB2.out HBW.out))
    have HNG:Hid (gR ∉ foot m):=Lib.hid (fun hm=>by have:=HK2.foot_lt gR hm;have:=HGR.out;omega)
    clear hall HF0 HA hL
    have HR0:Hid ((fillR d f z g l)=fillW d (f+1+((0:Nat):Int)) (L.drop 0)):=Lib.hid (by rw[HF.out];simp)
    have hlx:(L.length:Int)≤4000:=by rw[hLn];omega
    have hll:l.length=L.length:=hLn.symm
    rw[hll]
    clear HF hll hLn
    go_wp2_with fail
    go_loopw [49] (fun i wx=>∃(k:Nat) (mk:DiskM) (dk:DiskD),k≤L.length∧i = .int .i64 k∧mk.g=m.g∧dk.room≤d.room+2*k∧Hid (DK wx mk dk)∧Hid (DT w m wx mk)∧Hid (fillR d f z g l=fillW dk (f+1+k) (L.drop k))∧Hid (Blk wx gR 243 (L.flatMap u8s).toArray∧Blk wx w.heap.size 324 #[.int .i64 f,.int .i64 z]∧gR ∉ foot mk∧w.heap.size ∉ foot mk)) (fun i _=>L.length-(intOf i).toNat)
    case atStart=>exact⟨0,m,d,Nat.zero_le _,rfl,rfl,by omega,HKr,HTr,HR0,Lib.hid ⟨HRB.out,HXr.out,HNG.out,HNF.out⟩⟩
    case round=>
     clear HR0 HKr HTr HRB HXr HNG
     obtain⟨k,mk,dk,hk,rfl,hgk,hrk,HKk,HTk,HFk,HBk⟩:=hrel
     have hsk:=HKk.ok.st
     rcases Nat.lt_or_ge k L.length with hlt|hge
     ·obtain⟨S,hS⟩:∃ S,S=L[k]:=⟨_,rfl⟩
      have HSS:Hid (Sec S):=Lib.hid (by rw[hS];exact HLS.out _ (List.getElem_mem hlt))
      have HRS:Hid (wr.rangeAt gR (k*64) (u8s S)):=Lib.hid (by
       have hB:=HBk.out.1
       intro i u hi
       rw[hB.cell]
       have hsl:(u8s S).length=64:=sec_length HSS.out
       have h1:=flatMap_pieceM u8s 64 L (fun s hs=>sec_length (HLS.out s hs)) k hlt
       rw[← hS] at h1
       rw[← h1,List.getElem?_take] at hi
       split at hi
       ·rw[List.getElem?_drop] at hi
        simpa using hi
       ·cases hi)
      have HSZ:Hid ((Tryz.prog.info? 243).map (·.size)=some (u8s S).toArray.size∧z64.size=(u8s S).toArray.size∧(Tryz.prog.info? 243).map (·.size)=some (u8s S).length):=Lib.hid ⟨by rw[List.size_toArray,sec_length HSS.out];kernel_rfl,by rw[z64_size,List.size_toArray,sec_length HSS.out],by rw[sec_length HSS.out];kernel_rfl⟩
      have HSO:=Lib.hid (u8s_one S)
      have HFS:Hid (fillR d f z g l=match writeA dk (f+1+k) with|some x=>(some x,writeD dk (f+1+k) S)|none=>fillW (writeD dk (f+1+k) S) (f+1+k+1) (L.drop (k+1))):=Lib.hid (by rw[HFk.out,fillW_cons dk _ L k hlt,hS];try rfl)
      have hi0:(0:Int)≤k:=by omega
      have hi1:(k:Int)<L.length:=by omega
      have HCB:Hid (∀ w4,Below wr.heap.size wr w4→w4.cell? ⟨w.heap.size,0,none⟩=some (.int .i64 f)):=Lib.hid (fun w4 hb=>(HBk.out.2.1.keep hb).cell 0)
      clear hS HFk
      go_wp2_with (first
       | (refine ld 243 _ rfl rfl rfl HRS.out Tryz.underlying243 rfl HSZ.out.2.2 ?_)
       | (refine al 243 z64 rfl rfl zero64 ?_)
       | (refine stNew 243 (.tmp 15) (.tmp 53) rfl rfl rfl rfl HSZ.out.1 HSZ.out.2.1 HSO.out ?_;intro w4 hK hb4 hz4;have HB4:=Lib.hid hb4;have HR4:Hid (w4.rangeAt wr.heap.size 0 (u8s S)):=Lib.hid (by have:=Blk.range (show Blk w4 wr.heap.size 243 (u8s S).toArray from hK);rw[List.toList_toArray] at this;exact this);have hc4:=HCB.out w4 hb4;clear hK hb4 hz4)
       | (refine ld 243 _ rfl rfl rfl HR4.out Tryz.underlying243 rfl HSZ.out.2.2 ?_))
      have HK4:=Lib.hid (HKk.keep HB4.out)
      rw[← hgk]
      refine(disk_write (f+1+k) S w4 mk dk HK4.out ⟨by omega,by omega⟩ HSS.out (by omega)).mono ?_
      rintro e w5 ⟨rfl,m5,hdk,hdt⟩
      rw[writeE_val]
      have HDT:Hid (DT w m w5 m5):=Lib.hid (HTk.trans ((DT.of_below HB4.out).trans hdt))
      have HDK:=Lib.hid hdk
      have hrm:=writeD_room hsk (f+1+k) S
      have HB5:Hid (Blk w5 gR 243 (L.flatMap u8s).toArray∧Blk w5 w.heap.size 324 #[.int .i64 f,.int .i64 z]∧gR ∉ foot m5∧w.heap.size ∉ foot m5):=Lib.hid (by
       have hl1:gR<w4.heap.size:=(HBk.out.1.keep HB4.out).lt
       have hl2:w.heap.size<w4.heap.size:=(HBk.out.2.1.keep HB4.out).lt
       exact⟨(hdt.off hl1 HBk.out.2.2.1).trans (HBk.out.1.keep HB4.out),(hdt.off hl2 HBk.out.2.2.2).trans (HBk.out.2.1.keep HB4.out),fun hm=>(hdt.sub _ hm).elim HBk.out.2.2.1 (fun h=>by omega),fun hm=>(hdt.sub _ hm).elim HBk.out.2.2.2 (fun h=>by omega)⟩)
      clear hdk hdt hc4
      have hg5:m5.g=m.g:=HDT.g
      cases ha:writeA dk (f+1+k) with
      | some x=>
       have HF:Hid (fillR d f z g l=(some x,writeD dk (f+1+k) S)):=Lib.hid (by rw[HFS.out,ha])
       obtain⟨t,u,hv⟩:=valE_form x
       rw[hv]
       have HV:=Lib.hid hv
       have hne:=neq_nil t u
       clear ha hv HFS
       go_wp2_with fail
       go_ret
       exact⟨by rw[HF.out,HV.out];rfl,m5,by rw[HF.out];exact HDK.out,HDT.out⟩
      | none=>
       have HF:Hid (fillR d f z g l=fillW (writeD dk (f+1+k) S) (f+1+k+1) (L.drop (k+1))):=Lib.hid (by rw[HFS.out,ha])
       have hv:valE none = .nilIface:=rfl
       rw[hv]
       clear ha HFS
       go_wp2_with fail
       exact⟨⟨k+1,m5,_,by omega,by go_num,hg5,by omega,HDK,HDT,Lib.hid (by rw[HF.out];congr 1;omega),HB5⟩,by simp[intOf];omega⟩
     ·obtain rfl:k=L.length:=by omega
      have HF:Hid (fillR d f z g l=(syncA dk,syncS dk)):=Lib.hid (by rw[HFk.out,List.drop_eq_nil_of_le (Nat.le_refl _)];rfl)
      clear HFk
      go_wp2_with fail
      rw[← hgk]
      refine(disk_sync wr mk dk HKk.out (by omega)).mono ?_
      rintro e w6 ⟨rfl,m6,hdk4,hdt4⟩
      have HD4:=Lib.hid hdk4
      have HT4:Hid (DT w m w6 m6):=Lib.hid (HTk.trans hdt4)
      clear hdk4 hdt4
      go_wp2_with fail
      go_ret
      exact⟨by rw[HF.out];show _=Ending.returned (valE (syncA dk));rw[← syncE_val];rfl,m6,by rw[HF.out];exact HD4.out,HT4.out⟩
end
section
open Go.RowKit
abbrev Terr:=Nat→Prop
structure Lies(T:Terr)(W W':World):Prop where
 os:W'.os=W.os
 tape:W'.tape=W.tape
 output:W'.output=W.output
 size:W.heap.size≤W'.heap.size
 block:∀ k,k<W.heap.size→T k→W'.heap[k]? = W.heap[k]?
structure Turn(T:Terr)(W:World)(T':Terr)(W':World):Prop where
 os:W'.os=W.os
 tape:W'.tape=W.tape
 output:W'.output=W.output
 size:W.heap.size≤W'.heap.size
 block:∀ k,k<W.heap.size→¬T k→W'.heap[k]? = W.heap[k]?
 sub:∀ k,T' k→T k∨W.heap.size≤k
theorem Lies.refl(T:Terr)(W:World):Lies T W W:=⟨rfl,rfl,rfl,Nat.le_refl _,fun _ _ _=>rfl⟩
theorem Lies.trans{T:Terr}{A B C:World}(h:Lies T A B)(k:Lies T B C):Lies T A C:=
 ⟨k.os.trans h.os,k.tape.trans h.tape,k.output.trans h.output,Nat.le_trans h.size k.size,fun i hi ht=>(k.block i (Nat.lt_of_lt_of_le hi h.size) ht).trans (h.block i hi ht)⟩
theorem Lies.mono{T T':Terr}{A B:World}(h:Lies T A B)(hs:∀ k,T' k→T k):Lies T' A B:=⟨h.os,h.tape,h.output,h.size,fun k hk ht=>h.block k hk (hs k ht)⟩
theorem Lies.alloc(T:Terr)(W:World)(o:Obj):Lies T W (W.alloc o):=⟨rfl,rfl,rfl,by simp,fun k hk _=>Below.heap_alloc W o k hk⟩
theorem Lies.putObj(T:Terr)(W:World){l:Nat}(hl:¬T l)(o:Obj):Lies T W (W.putObj l o):=⟨rfl,rfl,rfl,by simp,fun k _ ht=>World.putObj_heap_other (fun e=>hl (e ▸ ht))⟩
theorem Lies.of_below{T:Terr}{W W':World}(h:Below W.heap.size W W'):Lies T W W':=⟨h.os,h.tape,h.output,h.size,fun k hk _=>h.block k hk⟩
theorem Lies.setCell(T:Terr)(W:World)(b i:Nat)(hb:¬T b)(v:Value):Lies T W (W.setCell ⟨b,i,none⟩ v):=⟨rfl,rfl,rfl,by simp,fun k _ ht=>Below.heap_setCell W ⟨b,i,none⟩ v k (fun e=>hb (by cases e;exact ht))⟩
theorem Turn.refl(T:Terr)(W:World):Turn T W T W:=⟨rfl,rfl,rfl,Nat.le_refl _,fun _ _ _=>rfl,fun _ h=>.inl h⟩
theorem Turn.trans{T T' T'':Terr}{A B C:World}(h:Turn T A T' B)(k:Turn T' B T'' C):Turn T A T'' C:=
  ⟨k.os.trans h.os, k.tape.trans h.tape, k.output.trans h.output, Nat.le_trans h.size k.size,
   fun i hi ht => (k.block i (Nat.lt_of_lt_of_le hi h.size) (fun h' => (h.sub i h').elim ht (fun h2 => by omega))).trans (h.block i hi ht),
   fun i hi=>(k.sub i hi).elim (h.sub i) (fun h2=>.inr (Nat.le_trans h.size h2))⟩
theorem Turn.of_below{T:Terr}{W W':World}(h:Below W.heap.size W W'):Turn T W T W':=⟨h.os,h.tape,h.output,h.size,fun k hk _=>h.block k hk,fun _ h=>.inl h⟩
theorem Turn.grow{T T':Terr}{W W':World}(h:Turn T W T' W'){T'':Terr}(hs:∀ k,T'' k→T' k∨W.heap.size≤k):Turn T W T'' W':=
 ⟨h.os,h.tape,h.output,h.size,h.block,fun k hk=>(hs k hk).elim (h.sub k) .inr⟩
def Stab{β:Type}(N:Nat)(Z:Terr)(J:β→Terr→World→Prop):Prop:=∀ s T A B,J s T A→Lies (fun k=>T k∨(k<N∧¬Z k)) A B→J s T B
def SeqY(inf:Prop){α:Type}(F:Fence)(n:Nat)(P:Program)(g:Nat)(lb:Array Value)(encs:α→Array Value)(X Z:Terr)(all:List α)(w:World):Prop:=
 ∀(l:Nat) (J Jx:List α→Terr→World→Prop) (T0:Terr) (W:World),Below w.heap.size w W→w.heap.size≤l→l<W.heap.size→Stab W.heap.size Z J→Stab W.heap.size Z Jx→(∀ s T A,J s T A→∀ k,T k→k<A.heap.size) →
  (∀ pre x T W1,pre++[x] <+: all→J pre T W1→YieldAt F (n-1) P l (encs x) W1 fun e W'=>∃ T',Turn (fun k=>T k∨k=l) W1 T' W' ∧
   ((e = .returned (.bool true)∧J (pre++[x]) T' W')∨(e = .returned (.bool false)∧Jx (pre++[x]) T' W'))) →
  (∀ k,T0 k→¬X k)→J [] T0 W→(inf→∀ T W,¬J all T W) →
  CallsIn F n P g (#[.func (.yield l) #[] #[]]++lb) W fun e W'=>(∃ v,e = .returned v)∧∃ T',(J all T' W'∨(∃ pre,pre <+: all∧Jx pre T' W'))
abbrev SeqZ {α:Type} (F:Fence) (n:Nat) (P:Program) (g:Nat) (lb:Array Value) (encs:α→Array Value) (X Z:Terr) (all:List α) (w:World):Prop:=SeqY False F n P g lb encs X Z all w
def postZ{α:Type}(I:List α→Terr→World→Prop)(Ix:Code→List α→Terr→World→Prop)(xs:List α)(T:Terr)(W:World):Exit→Act→World→Prop
 | .normal,_,W'=>∃ T',Turn T W T' W'∧I xs T' W'
 | .ret,_,W'=>∃ T',Turn T W T' W'∧Ix .ret xs T' W'
 | .exit id,_,W'=>∃ T',Turn T W T' W'∧Ix (.exit id) xs T' W'
 | .goto t,_,W'=>∃ T',Turn T W T' W'∧Ix (.goto t) xs T' W'
 | .panic _,_,_=>False
 | .outgrown,_,_=>False
variable {F : Fence} {n : Nat} {P : Program}
theorem wpIn_rangeFunc_Z{α:Type}{g:Operand}{ps:Array Tmp}{assign body:Code}{Q:Exit→Act→World→Prop}{a:Act}{w:World}
  (hro:F.round=none) (h1:F.depth.isSome=true→1≤n) {gf:Nat} {lb:Array Value} (hg:a.eval g = .func (.func gf) #[] lb) (hFg:F.fn gf) (eg:∀ args w,(callFunc gf args).run P w = .ok (.enter gf args) w)
  {encs:α→Array Value} {X Z:Terr} {all:List α} {w0:World} {inf:Prop} (hseq:SeqY inf F (n-1) P gf lb encs X Z all w0)
  (hb0:Below w0.heap.size w0 w) (hps:∀ x,(encs x).size=ps.size) (hZ:∀ k,Z k→k<w.heap.size)
  (I:List α→Terr→World→Prop) (Ix:Code→List α→Terr→World→Prop) (M:List α→α→Act→Terr→World→Prop) (T0:Terr)
  (hI:Stab w.heap.size Z I) (hIx:∀ c,Stab w.heap.size Z (Ix c)) (hM:∀ pre x a',Stab w.heap.size Z (fun(_:Unit) T W=>M pre x a' T W)) (hIT:∀ s T A,I s T A→∀ k,T k→k<A.heap.size) (hT0:∀ k,T0 k→¬X k) (h0:I [] T0 w)
  (hassign:∀(l:Nat) (pre:List α) (x:α) (T:Terr) (W:World),w.heap.size≤l→pre++[x] <+: all→w.heap.size≤W.heap.size→I pre T W →
   assign.wpIn (F.inRound l) (n-1-1) P (Exit.then (fun a' W'=>∃ T',Turn T W T' W'∧M pre x a' T' W') (fun _ _ _=>False)) { tmps:=(ps.zip (encs x)).foldl (fun t (p,v)=>t.setIfInBounds p v) a.tmps,defers:=[] } W)
  (hbody:∀(l:Nat) (pre:List α) (x:α) (a':Act) (T:Terr) (W:World),w.heap.size≤l→pre++[x] <+: all→w.heap.size≤W.heap.size→M pre x a' T W→body.wpIn (F.inRound l) (n-1-1) P (postZ I Ix (pre++[x]) T W) a' W)
  (hdone:∀(D:Nat) (T:Terr) (W:World),w.heap.size≤D→I all T W→¬T D→W.heap[D]? = some (.deferred (some []))→Q .normal { a with defers:={ target:=.collected D,args:=#[] } :: a.defers } W)
  (hstop:∀(D:Nat) (c:Code) (pre:List α) (T:Terr) (W:World),w.heap.size≤D→pre <+: all→Ix c pre T W→¬T D→W.heap[D]? = some (.deferred (some []))→c.wpIn F n P Q { a with defers:={ target:=.collected D,args:=#[] } :: a.defers } W) 
  (hinf:inf→∀ T W,¬I all T W:=by exact fun h=>h.elim):
  (Code.rangeFunc g ps assign body).wpIn F n P Q a w:=by
 refine wpIn_rangeFunc ?_
 intro fn hfn
 rw[hro]
 obtain⟨rec,hrec⟩:∃ rec:LoopState→Option Code→Loop,rec=fun st pe=>{ state:=st,pending:=pe,fn,tmps:=a.tmps,params:=ps,assign,body,defers:=w.heap.size }:=⟨_,rfl⟩
 obtain⟨W1,hW1⟩:∃ W1,(w.alloc (.deferred (some []))).alloc (.loop (rec .ready none))=W1:=⟨_,rfl⟩
 have hL1:W1.heap[w.heap.size+1]? = some (.loop (rec .ready none)):=by
  rw[← hW1];have:=World.alloc_heap_new (w.alloc (.deferred (some []))) (.loop (rec .ready none));rwa [World.size_alloc] at this
 have hK1:W1.heap[w.heap.size]? = some (.deferred (some [])):=by
  rw[← hW1];exact(Below.heap_alloc _ _ _ (by simp)).trans (World.alloc_heap_new w _)
 have hLi1:∀ T,Lies T w W1:=fun T=>by rw[← hW1];exact(Lies.alloc _ _ _).trans (Lies.alloc _ _ _)
 have hI1:I [] T0 W1:=hI _ _ _ _ h0 (hLi1 _)
 have hT0w:=hIT _ _ _ h0
 have hb1:Below w0.heap.size w0 W1:=by
  rw[← hW1];exact hb0.trans ((((Below.refl _ w).alloc (Nat.le_refl _) _).alloc (by simp) _).mono hb0.size)
 have hs1:W1.heap.size=w.heap.size+2:=by rw[← hW1];simp
 have hZD:¬Z w.heap.size:=fun h=>absurd (hZ _ h) (by omega)
 have hZl:¬Z (w.heap.size+1):=fun h=>absurd (hZ _ h) (by omega)
 -- a step of the iterator: what is said of w's blocks, and the law's own two blocks, stand
 have hmonoL:∀ {T:Terr} {A B:World},Lies (fun k=>T k∨(k<W1.heap.size∧¬Z k)) A B→Lies (fun k=>T k∨(k<w.heap.size∧¬Z k)) A B:=fun h=>h.mono fun k hk=>hk.imp id fun h=>⟨by omega,h.2⟩
 have hput:∀ {T:Terr} {A:World} (hl:¬T (w.heap.size+1)) (o:Obj),Lies (fun k=>T k∨(k<w.heap.size∧¬Z k)) A (A.putObj (w.heap.size+1) o):=fun hl o=>Lies.putObj _ _ (fun h=>h.elim hl fun h=>by omega) o
 refine⟨w.heap.size+1,[{ target:=.collected w.heap.size,args:=#[] }],W1,{ target:=.fn (.func gf) lb,args:=#[.func (.yield (w.heap.size+1)) #[] #[]] },W1,gf,
  #[.func (.yield (w.heap.size+1)) #[] #[]]++lb,W1,?_,?_,?_,?_,h1,?_⟩
 ·rw[← hW1,hrec];exact run_enterLoop_outer _ _ _ _ _
 ·simp only[resolve,hg]
  simp[go_sem]
 ·intro f' hf';simp[Target.leads] at hf';subst hf';exact hFg
 ·simp[invoke,go_sem,eg]
 ·refine(hseq (w.heap.size+1)
   (fun pre T W=>(I pre T W∧¬T w.heap.size∧¬T (w.heap.size+1))∧W.heap[w.heap.size+1]? = some (.loop (rec .ready none))∧W.heap[w.heap.size]? = some (.deferred (some [])))
   (fun pre T W=>∃ c,(Ix c pre T W∧¬T w.heap.size∧¬T (w.heap.size+1))∧W.heap[w.heap.size+1]? = some (.loop (rec .done (some c)))∧W.heap[w.heap.size]? = some (.deferred (some [])))
   T0 W1 hb1 (by have:=hb0.size;omega) (by omega)
   (fun s T A B hs hli=>by
    obtain⟨⟨hi,hd,hl0⟩,hl,hk⟩:=hs
    exact⟨⟨hI _ _ _ _ hi (hmonoL hli),hd,hl0⟩,(hli.block _ (Array.getElem?_eq_some_iff.1 hl).1 (.inr ⟨by omega,hZl⟩)).trans hl,(hli.block _ (Array.getElem?_eq_some_iff.1 hk).1 (.inr ⟨by omega,hZD⟩)).trans hk⟩)
   (fun s T A B hs hli=>by
    obtain⟨c,⟨hi,hd,hl0⟩,hl,hk⟩:=hs
    exact⟨c,⟨hIx _ _ _ _ _ hi (hmonoL hli),hd,hl0⟩,(hli.block _ (Array.getElem?_eq_some_iff.1 hl).1 (.inr ⟨by omega,hZl⟩)).trans hl,(hli.block _ (Array.getElem?_eq_some_iff.1 hk).1 (.inr ⟨by omega,hZD⟩)).trans hk⟩)
   (fun s T A hs k hk=>hIT _ _ _ hs.1.1 k hk)
   ?_ hT0
   ⟨⟨hI1,fun h=>absurd (hT0w _ h) (by omega),fun h=>absurd (hT0w _ h) (by omega)⟩,hL1,hK1⟩ (fun hi T W h=>hinf hi T W h.1.1)).mono ?_
  ·-- one round
   rintro pre x T W hlen ⟨⟨hi,hd0,hl0⟩,hl,hk⟩
   have hlt:w.heap.size+1<W.heap.size:=(Array.getElem?_eq_some_iff.1 hl).1
   have hy:=run_yield (P:=P) (args:=encs x) hl (by rw[hrec];exact hps x)
   rw[hrec] at hy
   refine⟨fn,_,assign,body,hy,roundIn_of_wpIn hfn (wpIn_mono (hassign _ pre x T W (by omega) hlen (by omega) hi) ?_)⟩
   clear hy
   rintro e a' Wa hp
   cases e with
   | normal=>
    obtain⟨Ta,hta,hm⟩:=hp
    have hla:=(hta.block _ hlt hl0).trans hl
    have hka:=(hta.block _ (by omega) hd0).trans hk
    have hda:¬Ta w.heap.size:=fun h=>(hta.sub _ h).elim hd0 (fun h=>by omega)
    have hla0:¬Ta (w.heap.size+1):=fun h=>(hta.sub _ h).elim hl0 (fun h=>by omega)
    have hlta:w.heap.size+1<Wa.heap.size:=(Array.getElem?_eq_some_iff.1 hla).1
    refine⟨_,run_beginRound hla (by rw[hrec]),?_⟩
    obtain⟨W2,hW2⟩:∃ W2,W2=Wa.putObj (w.heap.size+1) (.loop { rec .ready none with state:=.busy }):=⟨_,rfl⟩
    have hl2:W2.heap[w.heap.size+1]? = some (.loop { rec .ready none with state:=.busy }):=by rw[hW2];exact World.putObj_heap_same hlta
    have hk2:W2.heap[w.heap.size]? = some (.deferred (some [])):=by rw[hW2];exact(World.putObj_heap_other (by omega)).trans hka
    have hli2:Lies (fun k=>Ta k∨(k<w.heap.size∧¬Z k)) Wa W2:=by rw[hW2];exact hput hla0 _
    have hz2:W2.heap.size=Wa.heap.size:=by rw[hW2];simp
    have ho2:∀ k,k≠w.heap.size+1→W2.heap[k]? = Wa.heap[k]?:=fun k hk=>by rw[hW2];exact World.putObj_heap_other hk
    have hm2:M pre x a' Ta W2:=hM pre x a' () _ _ _ hm hli2
    rw[← hW2]
    refine wpIn_mono (hbody _ pre x a' Ta W2 (by omega) hlen (by omega) hm2) ?_
    have fin:∀(jump:Option Code) (T3:Terr) (W3:World),Turn Ta W2 T3 W3 →
      (Instr.endRound (w.heap.size+1) jump).run P W3 = .ok (.bool jump.isNone) (W3.putObj (w.heap.size+1) (.loop (rec (if jump.isNone then .ready else .done) jump))) ∧
      (¬T3 w.heap.size∧¬T3 (w.heap.size+1))∧Lies (fun k=>T3 k∨(k<w.heap.size∧¬Z k)) W3 (W3.putObj (w.heap.size+1) (.loop (rec (if jump.isNone then .ready else .done) jump))) ∧
      Turn (fun k=>T k∨k=w.heap.size+1) W T3 (W3.putObj (w.heap.size+1) (.loop (rec (if jump.isNone then .ready else .done) jump))) ∧
      (W3.putObj (w.heap.size+1) (.loop (rec (if jump.isNone then .ready else .done) jump))).heap[w.heap.size+1]? = some (.loop (rec (if jump.isNone then .ready else .done) jump)) ∧
      (W3.putObj (w.heap.size+1) (.loop (rec (if jump.isNone then .ready else .done) jump))).heap[w.heap.size]? = some (.deferred (some [])):=fun jump T3 W3 ht3=>by
     have hl3:=(ht3.block _ (by omega) hla0).trans hl2
     have hd3:¬T3 w.heap.size:=fun h=>(ht3.sub _ h).elim hda (fun h=>by omega)
     have hl30:¬T3 (w.heap.size+1):=fun h=>(ht3.sub _ h).elim hla0 (fun h=>by omega)
     have hrun:=run_endRound (P:=P) jump hl3
     rw[hrec] at hrun ⊢
     have hlt3:=(Array.getElem?_eq_some_iff.1 hl3).1
     refine⟨hrun,⟨hd3,hl30⟩,hput hl30 _,⟨?_,?_,?_,?_,?_,?_⟩,World.putObj_heap_same hlt3,(World.putObj_heap_other (by omega)).trans ((ht3.block _ (by omega) hda).trans hk2)⟩
     ·exact ht3.os.trans (hli2.os.trans hta.os)
     ·exact ht3.tape.trans (hli2.tape.trans hta.tape)
     ·exact ht3.output.trans (hli2.output.trans hta.output)
     ·have h3:=ht3.size;have h4:=hta.size;simp;omega
     ·intro k hk hnt
      have hn1:¬T k:=fun h=>hnt (.inl h)
      have hn2:k≠w.heap.size+1:=fun h=>hnt (.inr h)
      have hs:=hta.size
      have hna:¬Ta k:=fun h=>(hta.sub _ h).elim hn1 (fun h=>by omega)
      exact(World.putObj_heap_other hn2).trans ((ht3.block k (by omega) hna).trans ((ho2 k hn2).trans (hta.block k hk hn1)))
     ·intro k hk
      have hs:=hta.size
      rcases ht3.sub k hk with h|h
      ·rcases hta.sub k h with h|h
       ·exact .inl (.inl h)
       ·exact .inr h
      ·exact .inr (by omega)
    rintro e a3 W3 hp
    cases e with
    | normal=>
     obtain⟨T3,ht3,hi3⟩:=hp
     obtain⟨hr,hn3,hli3,htu,hl4,hk4⟩:=fin none T3 W3 ht3
     exact⟨_,_,hr,T3,htu,.inl ⟨rfl,⟨hI _ _ _ _ hi3 hli3,hn3⟩,hl4,hk4⟩⟩
    | ret=>
     obtain⟨T3,ht3,hi3⟩:=hp
     obtain⟨hr,hn3,hli3,htu,hl4,hk4⟩:=fin (some .ret) T3 W3 ht3
     exact⟨_,_,hr,T3,htu,.inr ⟨rfl,.ret,⟨hIx _ _ _ _ _ hi3 hli3,hn3⟩,hl4,hk4⟩⟩
    | exit id=>
     obtain⟨T3,ht3,hi3⟩:=hp
     obtain⟨hr,hn3,hli3,htu,hl4,hk4⟩:=fin (some (.exit id)) T3 W3 ht3
     exact⟨_,_,hr,T3,htu,.inr ⟨rfl,.exit id,⟨hIx _ _ _ _ _ hi3 hli3,hn3⟩,hl4,hk4⟩⟩
    | goto t=>
     obtain⟨T3,ht3,hi3⟩:=hp
     obtain⟨hr,hn3,hli3,htu,hl4,hk4⟩:=fin (some (.goto t)) T3 W3 ht3
     exact⟨_,_,hr,T3,htu,.inr ⟨rfl,.goto t,⟨hIx _ _ _ _ _ hi3 hli3,hn3⟩,hl4,hk4⟩⟩
    | panic ch=>exact hp.elim
    | outgrown=>exact hp.elim
   | exit id=>exact hp.elim
   | goto t=>exact hp.elim
   | ret=>exact hp.elim
   | panic chain=>exact hp.elim
   | outgrown=>exact hp.elim
  ·-- behind the iterator
   rintro e W2 ⟨⟨v,rfl⟩,T,(⟨⟨hi,hd0,hl0⟩,hl,hk⟩|⟨pre,hSp,c,⟨hi,hd0,hl0⟩,hl,hk⟩)⟩
   ·exact⟨none,_,by have:=run_endLoop (P:=P) hl (by rw[hrec];simp);rw[hrec] at this;exact this,hdone _ T _ (Nat.le_refl _) (hI _ _ _ _ hi (hput hl0 _)) hd0 ((World.putObj_heap_other (by omega)).trans hk)⟩
   ·exact⟨some c,_,by have:=run_endLoop (P:=P) hl (by rw[hrec];simp);rw[hrec] at this;exact this,hstop _ c pre T _ (Nat.le_refl _) hSp (hIx c _ _ _ _ hi (hput hl0 _)) hd0 ((World.putObj_heap_other (by omega)).trans hk)⟩
end
end Go.Proofs.YtiaigidbcljblaaGreatDoor
