import Derived.Test.YtombncedfleljaaGreatMC11
set_option linter.unusedSimpArgs false
set_option maxRecDepth 100000
set_option maxHeartbeats 40000000
namespace Go.Proofs.YtombncedfleljaaGreat
open Go.RowKit
attribute [local irreducible] wpQuiet wpAnyH
theorem D7(f z:Int)(g:Nat)(l:List (List Int×Int))(A:Option Addr)(cap:Nat)(w:World)(m:DiskM)(d:DiskD)(h:DK w m d)(hs:Sn w 33 (.slice A l.length cap) l.length (l.flatMap aC))(hok:∀ q∈l,EntOk q)(hf:0≤f∧f≤100000)(hz:aK z∧z≤4000)(hg:g<4294967296)(hln:l.length≤1000000)(hr:d.room+10000≤100000):
  Calls Tryz.prog 57 #[.pointer (some ⟨m.g,0,none⟩),.agg #[.int .i64 f,.int .i64 z],.int .u32 g,.slice A l.length cap] w fun e w'=>e = .returned (cC (fillR d f z g l).1)∧∃ m',DK w' m' (fillR d f z g l).2∧DT w m w' m':=by
 have hB0:Below w.heap.size w (w.alloc (.cells #[.int .i64 f,.int .i64 z] 106)):=(Below.refl _ w).alloc (Nat.le_refl _) _;obtain⟨w1,hw1⟩:=je (w.alloc (.cells #[.int .i64 f,.int .i64 z] 106));have HK1:Hid (DK w1 m d):=jz (by rw[hw1];exact h.keep hB0);have HB1:Hid (Below w.heap.size w w1):=jz (by rw[hw1];exact hB0);have HS1:Hid (Sn w1 33 (.slice A l.length cap) l.length (l.flatMap aC)):=jz (by rw[hw1];exact hs.alloc _);have HX1:Hid (Blk w1 w.heap.size 106 #[.int .i64 f,.int .i64 z]):=jz (by rw[hw1];exact Blk.new w _ _);have HR1:Hid (w1.rangeAt w.heap.size 0 [.int .i64 f,.int .i64 z]):=jz (by have:=HX1.range;exact this);have HNF:=jz (h.notFoot (Nat.le_refl w.heap.size));have HOK:=jz hok;have hst:=h.ok.st;have hf1:0≤f:=hf.1;have hf2:f≤100000:=hf.2;have hrz:room z≤4000:=by unfold room;split <;> omega
 have hln0:(0:Int)≤l.length:=by omega
 have hln1:(l.length:Int)≤1000000:=by omega
 clear h hB0 hf hs hok;go_enter Tryz.func57,Tryz.ntmps57
 go_upto_region 1 with fail
 rw[← hw1];clear hw1;go_wp2_with (refine ld 106 _ rfl rfl rfl HR1.out Tryz.underlying106 rfl (by kernel_rfl) ?_)
 refine(n7 f z w1 hz.1).mono ?_;rintro e w2 ⟨rfl,hb2⟩;have HB2:Hid (Below w.heap.size w w2):=jz (aB HB1.out hb2);have HX2:Hid (Blk w2 w.heap.size 106 #[.int .i64 f,.int .i64 z]):=jz (HX1.keep hb2);have HS2:=jz (HS1.below hb2);have HK2:=jz (HK1.keep hb2);obtain⟨R,hR⟩:=je (room z);have HRR:=jz hR;rw[← hR] at hrz ⊢;clear hb2 hR;rcases jb (decide (R<(l.length:Int))) with t2|t2
 ·have HF:Hid (fillR d f z g l=(some (13,none),d)):=jz (by unfold fillR;rw[← HRR.out,if_pos (of_decide_eq_true t2)]);go_wp2_with fail
  go_ret;exact⟨by rw[HF.out];rfl,m,by rw[HF.out];exact HK2.out,DT.of_below HB2.out⟩
 ·have hlR:(l.length:Int)≤R:=by have:=of_decide_eq_false t2;omega
  have hms:∀ w,(Instr.makeSlice 53 (.int .i64 l.length) (.int .i64 l.length)).run Tryz.prog w = .ok (.slice (some ⟨w.heap.size,0,none⟩) l.length l.length) (w.alloc (.cells ((List.replicate l.length zsec).flatMap u8s).toArray 144)):=nY l.length (by omega);have HF0:Hid (fillR d f z g l=(if l.all aS then fillW d (f+1) (l.map (aD g)) else (some (15,none),d))):=jz (by unfold fillR;rw[← HRR.out,if_neg (of_decide_eq_false t2)]);clear HRR;go_upto_region 4 with fail
  obtain⟨gR,hgR⟩:=je w2.heap.size;obtain⟨w3,hw3⟩:=je (w2.alloc (.cells ((List.replicate l.length zsec).flatMap u8s).toArray 144));have HB3:Hid (Below gR w2 w3):=jz (by rw[hw3,hgR];exact(Below.refl _ _).alloc (Nat.le_refl _) _);have HR3:Hid (Blk w3 gR 144 (iF g l 0).toArray):=jz (by rw[hw3,hgR,yO];exact Blk.new _ _ _);have HGR:=jz hgR;have hgw:w.heap.size≤gR:=by rw[hgR];exact HB2.size
  rw[← hw3,← hgR];clear hw3 hgR hms;go_wp2_with fail
  go_loopw [28] (fun i wr=>∃ k:Nat,k≤l.length∧i = .int .i64 k∧Hid ((l.take k).all aS=true)∧Hid (Blk wr gR 144 (iF g l k).toArray)∧Hid (Below gR w2 wr)) (fun i _=>l.length-(intOf i).toNat)
  case atStart=>exact⟨0,Nat.zero_le _,rfl,jz (by simp),HR3,HB3⟩
  case round=>
   obtain⟨k,hk,rfl,HA,HRB,HBR⟩:=hrel;have HBW:Hid (Below w2.heap.size w2 wr):=jz (by rw[← HGR.out];exact HBR.out);rcases Nat.lt_or_ge k l.length with hlt|hge
   ·obtain⟨b,off,eA,hr⟩:=JE HS2.out HOK.out k hlt;subst eA;obtain⟨q,hq⟩:=je (l[k]);obtain⟨pre,post,hp1,hp2,hp3⟩:=AH g l HOK.out k hlt;rw[← hq] at hr hp2;have hqo:EntOk q:=by rw[hq];exact HOK.out _ (List.getElem_mem hlt)
    have HRW:Hid (wr.rangeAt b (off+k*33) (aC q)):=jz (fun i u hi=>Below.cell' HBW.out (hr i u hi));have HQE:Hid ((Tryz.prog.info? 35).map (·.size)=some (aC q).length∧(Tryz.prog.info? 35).map (·.size)=some (aC q).toArray.size∧zE.size=(aC q).toArray.size):=jz ⟨by rw[aH q hqo];kernel_rfl,by rw[js,aH q hqo];kernel_rfl,by rw[dR,js,aH q hqo]⟩;have HQ1:Hid ((aC q).toArray.all (·.oneCell')=true):=jz (dK _ _);have HSP:=jz (yN g hqo);have hi0:(0:Int)≤k:=by omega
    have hi1:(k:Int)<l.length:=by omega
    have HNX:Hid (l.all aS=true→aS q=true):=jz (fun e=>List.all_eq_true.1 e q (by rw[hq];exact List.getElem_mem hlt));have HNT:Hid (aS q=true→(l.take (k+1)).all aS=true):=jz (fun e=>by
     rw[List.take_succ_eq_append_getElem hlt,List.all_append,HA.out,← hq]
     simp[e])
    have HP:=jz (And.intro hp1 (And.intro hp2 hp3));have HSW:=jz (HBR.size);clear hr hq hp1 hp2 hp3;go_wp2_with (first
     | (refine ld 35 _ rfl rfl rfl HRW.out Tryz.underlying35 rfl HQE.out.1 ?_)
     | (refine al 35 zE rfl rfl iE ?_)
     | (refine cR 35 (.tmp 11) (.tmp 32) rfl rfl rfl rfl HQE.out.2.1 HQE.out.2.2 HQ1.out ?_;intro w4 hK hb4 hz4;have HB4:=jz hb4;have HR4:Hid (w4.rangeAt wr.heap.size 0 (aC q)):=jz (by have:=Blk.range (show Blk w4 wr.heap.size 35 (aC q).toArray from hK);rw[jt] at this;exact this);clear hK hb4 hz4)
     | (refine ld 35 _ rfl rfl rfl HR4.out Tryz.underlying35 rfl HQE.out.1 ?_))
    refine(o7 g q w4 hqo hg).mono ?_;rintro e w5 ⟨rfl,hb5⟩;have HB5:Hid (Below wr.heap.size wr w5):=jz (aB HB4.out hb5);obtain⟨S,hS⟩:=je ((if aS q then aD g q else zsec));rw[← hS] at HSP ⊢;have HSZ:Hid ((Tryz.prog.info? 144).map (·.size)=some (u8s S).toArray.size∧z64.size=(u8s S).toArray.size∧(Tryz.prog.info? 144).map (·.size)=some (u8s S).length∧(u8s zsec).length=(u8s S).length):=jz ⟨by rw[js,aG HSP.out];kernel_rfl,by rw[cN,js,aG HSP.out],by rw[aG HSP.out];kernel_rfl,by rw[aG HSP.out,aG eC]⟩;have HSO:=jz (cS S);have HRB5:Hid (Blk w5 gR 144 (iF g l k).toArray):=jz (HRB.keep HB5.out);have HGL:=jz HRB.lt;clear hb5;cases hrq:aS q with
    | false=>
     have HF:Hid (fillR d f z g l=(some (15,none),d)):=jz (by
      rw[HF0.out,if_neg]
      intro e
      rw[HNX.out e] at hrq
      cases hrq)
     clear hrq hS HF0;go_wp2_with (first
      | (refine al 144 z64 rfl rfl cK ?_)
      | (refine cR 144 (.tmp 12) (.tmp 37) rfl rfl rfl rfl HSZ.out.1 HSZ.out.2.1 HSO.out ?_;intro w6 hK hb6 hz6;have HB6:=jz hb6;clear hK hb6 hz6))
     go_ret;have hbl:Below w2.heap.size w2 w6:=aB (aB HBW.out HB5.out) HB6.out;exact⟨by rw[HF.out];rfl,m,by rw[HF.out];exact HK2.keep hbl,DT.of_below (aB HB2.out hbl)⟩
    | true=>
     rw[hrq] at hS;replace hS:S=aD g q:=hS;have HT:=jz (HNT.out hrq);rw[← hS] at HP;clear hrq hS;have HPL:Hid (Operand.tmp 45=Operand.tmp 45):=jz rfl;go_wp2_with (first
      | (refine al 144 z64 rfl rfl cK ?_)
      | (refine cR 144 (.tmp 12) (.tmp 37) rfl rfl rfl rfl HSZ.out.1 HSZ.out.2.1 HSO.out ?_;intro w6 hK hb6 hz6;have HB6:=jz hb6;have HR6:Hid (w6.rangeAt w5.heap.size 0 (u8s S)):=jz (by have:=Blk.range (show Blk w6 w5.heap.size 144 (u8s S).toArray from hK);rw[jt] at this;exact this);have HRB6:Hid (Blk w6 gR 144 (pre++u8s zsec++post).toArray):=jz (by rw[← HP.out.1];exact HRB5.keep hb6);clear hK hb6 hz6)
      | (refine ld 144 _ rfl rfl rfl HR6.out Tryz.underlying144 rfl HSZ.out.2.2.1 ?_)
      | (refine eT 144 (.tmp 45) (.tmp 44) rfl rfl pre (u8s zsec) post (u8s S) (by rw[HP.out.2.2];rfl) rfl HRB6.out HSZ.out.2.2.1 HSZ.out.2.2.2 (bS _) ?_;intro w7 hK7 ho7 hz7;have HRB7:=jz hK7;have HO7:=jz ho7;clear hK7 ho7 hz7))
     have hb60:Below gR w2 w6:=(HBR.trans ((HB5.mono (Nat.le_of_lt HGL.out)).trans (HB6.mono (by have:=HB5.size;have:=HGL.out;omega))));exact⟨⟨k+1,by omega,by go_num,HT,jz (by rw[HP.out.2.1];exact HRB7.out),jz (hb60.trans (HO7.below (Nat.le_refl _) (by have:=hb60.size;have:=HGR.out;omega)))⟩,by simp[intOf];omega⟩
   ·obtain rfl:k=l.length:=by omega
    have hall:l.all aS=true:=by have:=HA.out;rwa [List.take_length] at this
    have HF:Hid (fillR d f z g l=fillW d (f+1) (l.map (aD g))):=jz (by rw[HF0.out,if_pos hall]);obtain⟨L,hL⟩:=je (l.map (aD g));have hLn:L.length=l.length:=by rw[hL,List.length_map]
    have HLS:Hid (∀ s∈L,Sec s):=jz (fun s hs=>by rw[hL] at hs;obtain⟨q,hq,rfl⟩:=List.mem_map.1 hs;exact dX g (HOK.out q hq));rw[AG,← hL] at HRB;rw[← hL] at HF;have HKr:Hid (DK wr m d):=jz (HK2.keep HBW.out);have HXr:Hid (Blk wr w.heap.size 106 #[.int .i64 f,.int .i64 z]):=jz (HX2.keep HBW.out);have HTr:Hid (DT w m wr m):=jz (DT.of_below (aB HB2.out HBW.out));have HNG:Hid (gR ∉ bJ m):=jz (fun hm=>by have:=HK2.foot_lt gR hm;have:=HGR.out;omega);clear hall HF0 HA hL;have HR0:Hid ((fillR d f z g l)=fillW d (f+1+((0:Nat):Int)) (L.drop 0)):=jz (by rw[HF.out];simp);have hlx:(L.length:Int)≤4000:=by rw[hLn];omega
    have hll:l.length=L.length:=hLn.symm;rw[hll];clear HF hll hLn;go_wp2_with fail
    go_loopw [49] (fun i wx=>∃(k:Nat) (mk:DiskM) (dk:DiskD),k≤L.length∧i = .int .i64 k∧mk.g=m.g∧dk.room≤d.room+2*k∧Hid (DK wx mk dk)∧Hid (DT w m wx mk)∧Hid (fillR d f z g l=fillW dk (f+1+k) (L.drop k))∧Hid (Blk wx gR 144 (L.flatMap u8s).toArray∧Blk wx w.heap.size 106 #[.int .i64 f,.int .i64 z]∧gR ∉ bJ mk∧w.heap.size ∉ bJ mk)) (fun i _=>L.length-(intOf i).toNat)
    case atStart=>exact⟨0,m,d,Nat.zero_le _,rfl,rfl,by omega,HKr,HTr,HR0,jz ⟨HRB.out,HXr.out,HNG.out,HNF.out⟩⟩
    case round=>
     clear HR0 HKr HTr HRB HXr HNG;obtain⟨k,mk,dk,hk,rfl,hgk,hrk,HKk,HTk,HFk,HBk⟩:=hrel;have hsk:=HKk.ok.st;rcases Nat.lt_or_ge k L.length with hlt|hge
     ·obtain⟨S,hS⟩:=je (L[k]);have HSS:Hid (Sec S):=jz (by rw[hS];exact HLS.out _ (List.getElem_mem hlt));have HRS:Hid (wr.rangeAt gR (k*64) (u8s S)):=jz (by
       have hB:=HBk.out.1
       intro i u hi
       rw[hB.cell]
       have hsl:(u8s S).length=64:=aG HSS.out
       have h1:=dL u8s 64 L (fun s hs=>aG (HLS.out s hs)) k hlt
       rw[← hS] at h1
       rw[← h1,List.getElem?_take] at hi
       split at hi
       ·rw[List.getElem?_drop] at hi
        simpa using hi
       ·cases hi)
      have HSZ:Hid ((Tryz.prog.info? 144).map (·.size)=some (u8s S).toArray.size∧z64.size=(u8s S).toArray.size∧(Tryz.prog.info? 144).map (·.size)=some (u8s S).length):=jz ⟨by rw[js,aG HSS.out];kernel_rfl,by rw[cN,js,aG HSS.out],by rw[aG HSS.out];kernel_rfl⟩;have HSO:=jz (cS S);have HFS:Hid (fillR d f z g l=match writeA dk (f+1+k) with|some x=>(some x,writeD dk (f+1+k) S)|none=>fillW (writeD dk (f+1+k) S) (f+1+k+1) (L.drop (k+1))):=jz (by rw[HFk.out,AI dk _ L k hlt,hS];rfl);have hi0:(0:Int)≤k:=by omega
      have hi1:(k:Int)<L.length:=by omega
      have HCB:Hid (∀ w4,Below wr.heap.size wr w4→w4.cell? ⟨w.heap.size,0,none⟩=some (.int .i64 f)):=jz (fun w4 hb=>(HBk.out.2.1.keep hb).cell 0);clear hS HFk;go_wp2_with (first
       | (refine ld 144 _ rfl rfl rfl HRS.out Tryz.underlying144 rfl HSZ.out.2.2 ?_)
       | (refine al 144 z64 rfl rfl cK ?_)
       | (refine cR 144 (.tmp 15) (.tmp 53) rfl rfl rfl rfl HSZ.out.1 HSZ.out.2.1 HSO.out ?_;intro w4 hK hb4 hz4;have HB4:=jz hb4;have HR4:Hid (w4.rangeAt wr.heap.size 0 (u8s S)):=jz (by have:=Blk.range (show Blk w4 wr.heap.size 144 (u8s S).toArray from hK);rw[jt] at this;exact this);have hc4:=HCB.out w4 hb4;clear hK hb4 hz4)
       | (refine ld 144 _ rfl rfl rfl HR4.out Tryz.underlying144 rfl HSZ.out.2.2 ?_))
      have HK4:=jz (HKk.keep HB4.out);rw[← hgk];refine(mI (f+1+k) S w4 mk dk HK4.out ⟨by omega,by omega⟩ HSS.out (by omega)).mono ?_;rintro e w5 ⟨rfl,m5,hdk,hdt⟩;rw[mJ];have HDT:Hid (DT w m w5 m5):=jz (HTk.trans ((DT.of_below HB4.out).trans hdt));have HDK:=jz hdk;have hrm:=kU hsk (f+1+k) S;have HB5:Hid (Blk w5 gR 144 (L.flatMap u8s).toArray∧Blk w5 w.heap.size 106 #[.int .i64 f,.int .i64 z]∧gR ∉ bJ m5∧w.heap.size ∉ bJ m5):=jz (by
       have hl1:gR<w4.heap.size:=(HBk.out.1.keep HB4.out).lt
       have hl2:w.heap.size<w4.heap.size:=(HBk.out.2.1.keep HB4.out).lt
       exact⟨(hdt.off hl1 HBk.out.2.2.1).trans (HBk.out.1.keep HB4.out),(hdt.off hl2 HBk.out.2.2.2).trans (HBk.out.2.1.keep HB4.out),fun hm=>(hdt.sub _ hm).elim HBk.out.2.2.1 (fun h=>by omega),fun hm=>(hdt.sub _ hm).elim HBk.out.2.2.2 (fun h=>by omega)⟩)
      clear hdk hdt hc4;have hg5:m5.g=m.g:=HDT.g;cases ha:writeA dk (f+1+k) with
      | some x=>
       have HF:Hid (fillR d f z g l=(some x,writeD dk (f+1+k) S)):=jz (by rw[HFS.out,ha]);obtain⟨t,u,hv⟩:=cV x;rw[hv];have HV:=jz hv;have hne:=dS t u;clear ha hv HFS;go_wp2_with fail
       go_ret;exact⟨by rw[HF.out,HV.out];rfl,m5,by rw[HF.out];exact HDK.out,HDT.out⟩
      | none=>
       have HF:Hid (fillR d f z g l=fillW (writeD dk (f+1+k) S) (f+1+k+1) (L.drop (k+1))):=jz (by rw[HFS.out,ha]);have hv:cC none = .nilIface:=rfl;rw[hv];clear ha HFS;go_wp2_with fail
       exact⟨⟨k+1,m5,_,by omega,by go_num,hg5,by omega,HDK,HDT,jz (by rw[HF.out];congr 1;omega),HB5⟩,by simp[intOf];omega⟩
     ·obtain rfl:k=L.length:=by omega
      have HF:Hid (fillR d f z g l=(syncA dk,syncS dk)):=jz (by rw[HFk.out,List.drop_eq_nil_of_le (Nat.le_refl _)];rfl);clear HFk;go_wp2_with fail
      rw[← hgk];refine(lH wr mk dk HKk.out (by omega)).mono ?_;rintro e w6 ⟨rfl,m6,hdk4,hdt4⟩;have HD4:=jz hdk4;have HT4:Hid (DT w m w6 m6):=jz (HTk.trans hdt4);clear hdk4 hdt4;go_wp2_with fail
      go_ret;exact⟨by rw[HF.out];show _=Ending.returned (cC (syncA dk));rw[← lJ];rfl,m6,by rw[HF.out];exact HD4.out,HT4.out⟩
end Go.Proofs.YtombncedfleljaaGreat
