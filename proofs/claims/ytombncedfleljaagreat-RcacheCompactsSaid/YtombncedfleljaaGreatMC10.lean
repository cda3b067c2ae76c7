import Derived.Test.YtombncedfleljaaGreatMC9
import Derived.Test.YtombncedfleljaaGreatMC8
import Derived.Laws.Shifts
set_option linter.unusedSimpArgs false
set_option maxRecDepth 100000
set_option maxHeartbeats 40000000
namespace Go.Proofs.YtombncedfleljaaGreat
section
open Go.RowKit
attribute [local irreducible] wpQuiet wpAnyH
def zE:Array Value:=(aC (List.replicate 32 0,0)).toArray
theorem iE:∀ w,(zeroValue 35).run Tryz.prog w = .ok (.agg zE) w:=fun w=>by unfold zE;kernel_rfl
theorem n9:Tryz.prog.built 35 []=some zE:=by unfold zE;kernel_rfl
theorem dR:zE.size=33:=by simp[zE,aC,cY,u8s]
theorem vT:zE.all (·.oneCell')=true:=dK _ _
def fB(s:List Int):Option (Nat×(List Int×Int)):=match prs s with
 | none=>none
 | some (g,p)=>if p.length=40∧beN (p.drop 32)≤4611686018427387904 then some (g,(p.take 32,(beN (p.drop 32):Int))) else none
theorem B9{s:List Int}{g:Nat}{p:List Int}(h:prs s=some (g,p)):p.length≤54:=by
 unfold prs at h;split at h
 ·cases h
 ·rename_i hn;split at h
  ·cases h
  ·split at h
   ·cases h
   ·injection h with h
    injection h with _ h
    rw[← h,List.length_take];omega
theorem cE{P:Program}{w:World}{fn:Func}{p u x:Tmp}{ty:TypeId}(h:fn.results=#[.tmp u,.cell p ty,.tmp x])(tmps:Array Value){b off:Nat}{cs:List Value}{d:TypeDesc}(hp:tmps.getD p undef = .pointer (some ⟨b,off,none⟩))(hc:w.rangeAt b off cs)
  (hu:P.underlying ty=some d) (hd:d.isRow=true) (hi:(P.info? ty).map (·.size)=some cs.length):(results fn tmps).run P w = .ok (.tuple #[tmps.getD u undef,.agg cs.toArray,tmps.getD x undef]) w:=by
 have h1:tmps[p]?.getD undef = .pointer (some ⟨b,off,none⟩):=by simpa using hp
 simp[results,h,h1,asAddr,Sem.run_bind,Result.andThen,run_loadVar_mid w b off ty cs d hc hu hd hi]
theorem D4(r:Nat)(v:Value)(p:List Int)(w:World)(h:RD w r v p false)(hl:p.length≤1000000):
  Calls Tryz.prog 145 #[.pointer (some ⟨r,0,none⟩),.int .i64 32] w fun e w'=>Off r w w'∧∃ x v' xs ys bad,e = .returned x∧xs.length≤32∧Sn w' 1 x xs.length (u8s xs)∧RD w' r v' ys bad∧(∀ b,v'.ownBlock=some b→v.ownBlock=some b) ∧
   ((bad=false∧32≤p.length∧xs=p.take 32∧ys=p.drop 32)∨(bad=true∧p.length<32∧xs=[]∧ys=[])):=by
 refine(FL r v p false 32 w h hl (by omega)).mono ?_;rintro e w1 ⟨ho,⟨_,h32,x,v',rfl,hs,hR,hob⟩|⟨hbad,rfl,hR⟩⟩
 ·have hlen:(p.take 32).length=32:=by rw[List.length_take];omega
  exact⟨ho,x,v',p.take 32,p.drop 32,false,rfl,by omega,by rw[hlen];exact hs,hR,hob,.inl ⟨rfl,h32,rfl,rfl⟩⟩
 ·refine⟨ho,_,_,[],[],true,rfl,by simp,⟨none,0,rfl,Nat.le_refl _,rfl,fun h=>absurd h (by simp)⟩,hR,(fun b e=>by cases e),.inr ⟨rfl,?_,rfl,rfl⟩⟩;rcases hbad with h|h
  ·cases h
  ·exact h
theorem I9(r:Nat)(v:Value)(ys:List Int)(bad:Bool)(w:World)(h:RD w r v ys bad)(hb:Bys ys)(hl:ys.length≤1000000):
  Calls Tryz.prog 121 #[.pointer (some ⟨r,0,none⟩),.int .i64 8] w fun e w'=>Off r w w'∧∃(N:Nat) (v':Value) (zs:List Int) (bad':Bool),e = .returned (.int .u64 N)∧N<18446744073709551616∧RD w' r v' zs bad' ∧
   ((bad=false∧8≤ys.length∧bad'=false∧N=beN (ys.take 8)∧zs=ys.drop 8)∨((bad=true∨ys.length<8)∧bad'=true)):=by
 refine(fT r v ys bad 8 w h hb hl (by omega) (by omega)).mono ?_;rintro e w1 ⟨ho,⟨hbad,h8,v',rfl,hR⟩|⟨hbad,rfl,hR⟩⟩
 ·refine⟨ho,_,v',_,false,rfl,?_,hR,.inl ⟨hbad,h8,rfl,rfl,rfl⟩⟩;have:=jO (ys.take 8) (fun b hb'=>hb b (List.mem_of_mem_take hb'));rw[List.length_take,Nat.min_eq_left h8] at this;exact this
 ·exact⟨ho,0,_,_,true,rfl,by omega,hR,.inr ⟨hbad,rfl⟩⟩
def D5(xs:List Int):Array Value:=((u8s xs).zipIdx 0).foldl (fun(cs:Array Value) (x:Value×Nat)=>cs.setIfInBounds x.2 x.1) zE
theorem D6(xs:List Int):(D5 xs).size=33:=by
 have key:∀(l:List (Value×Nat)) (cs:Array Value),(l.foldl (fun(cs:Array Value) (x:Value×Nat)=>cs.setIfInBounds x.2 x.1) cs).size=cs.size:=by
  intro l;induction l with
  | nil=>intro cs;rfl
  | cons x l ih=>intro cs;rw[List.foldl_cons,ih,Array.size_setIfInBounds]
 unfold D5;rw[key,dR]
theorem FN(xs:List Int)(t:Int)(h:xs.length=32):(D5 xs).setIfInBounds 32 (.int .i64 t)=(cY xs t).toArray:=tY xs t h zE dR
theorem RD.off{w w':World}{r g:Nat}{v:Value}{xs:List Int}{bad:Bool}(h:RD w r v xs bad)(ho:Off g w w')(hr:r≠g)(hv:∀ b,v.ownBlock=some b→b≠g):RD w' r v xs bad:=by
 refine⟨ho.blk h.1 hr,?_⟩;obtain⟨A,cap,rfl,hc,hl,hx⟩:=h.2;refine⟨A,cap,rfl,hc,hl,fun hp=>?_⟩;obtain⟨b,off,rfl,hcell⟩:=hx hp;exact⟨b,off,rfl,fun j u hj=>ho.cell (hcell j u hj) (hv b rfl)⟩
theorem nD(s:List Int)(w:World)(hl:s.length=64)(hb:Bys s):
  Calls Tryz.prog 124 #[.agg (u8s s).toArray] w fun e w'=>Below w.heap.size w w' ∧
   ((fB s=none∧e = .returned (.tuple #[.int .u32 0,.agg zE,.bool false]))∨(∃ g q,fB s=some (g,q)∧e = .returned (.tuple #[.int .u32 g,.agg (aC q).toArray,.bool true]))):=by
 have hul:(u8s s).length=64:=by rw[aP,hl]
 have HZ:Hid ((Tryz.prog.info? 35).map (·.size)=some zE.size∧zE.all (·.oneCell')=true):=jz ⟨by rw[dR];kernel_rfl,vT⟩;obtain⟨wa,hwa⟩:=je (w.alloc (.cells (u8s s).toArray 144));obtain⟨gE,hgE⟩:=je wa.heap.size;obtain⟨w1,hw1⟩:=je (wa.alloc (.cells zE 35));have hB1:Blk w1 w.heap.size 144 (u8s s).toArray:=by rw[hw1,hwa];exact(Blk.new _ _ _).alloc _
 have hr1:=hB1.range;rw[jt] at hr1;have HR1:=jz hr1;have HBE:Hid (Blk w1 gE 35 zE):=jz (by rw[hw1,hgE];exact Blk.new _ _ _);have HB1:Hid (Below w.heap.size w w1):=jz (by rw[hw1,hwa];exact((Below.refl _ w).alloc (Nat.le_refl _) _).alloc (by simp) _);have HGE:Hid (w.heap.size≤gE):=jz (by rw[hgE,hwa];simp);clear hB1 hr1;go_enter Tryz.func124,Tryz.ntmps124
 go_upto_region 1 with (refine al 35 zE rfl rfl iE ?_)
 rw[← hwa,← hw1,show w.heap.size+1=gE by rw[hgE,hwa];simp];clear hwa hw1 hgE;go_wp2_with (refine ld 144 _ rfl rfl rfl HR1.out Tryz.underlying144 rfl (by rw[hul];kernel_rfl) ?_)
 refine(o8 s w1 hl hb).mono ?_;rintro e w2 ⟨hb2,⟨hn,rfl⟩|⟨g,p,v,hp,rfl,hs⟩⟩
 ·have HE2:=jz (HBE.keep hb2);have HB2:Hid (Below w.heap.size w w2):=jz (aB HB1.out hb2);have HN:Hid (fB s=none):=jz (by unfold fB;rw[hn]);clear hn hb2;go_wp2_with (first
   | (refine bld 35 #[] rfl rfl rfl n9 ?_)
   | (refine bC 35 (.tmp 3) (.tmp 19) rfl rfl rfl rfl HE2.out HZ.out.1 rfl HZ.out.2 ?_;intro w3 hB3 hb3 _ _;have HB3:=jz hB3;have HE3:=jz hb3;clear hB3 hb3))
  have hr:=HB3.range;exact bodyPost_ret (cE rfl _ rfl hr Tryz.underlying35 rfl (by rw[Array.length_toList];exact HZ.out.1)) rfl ⟨HB2.trans (HE3.mono HGE.out),.inl ⟨HN.out,rfl⟩⟩
 ·obtain⟨gT,hgT⟩:=je w2.heap.size;obtain⟨w3,hw3⟩:=je (w2.alloc (.cells zE 35));have HB3:Hid (Below w.heap.size w w3):=jz (by rw[hw3];exact(aB HB1.out hb2).alloc (aB HB1.out hb2).size _);have HE3:Hid (Blk w3 gE 35 zE):=jz (by rw[hw3];exact(HBE.keep hb2).alloc _);have HT3:Hid (Blk w3 gT 35 zE):=jz (by rw[hw3,hgT];exact Blk.new _ _ _);have HS3:Hid (Sn w3 1 v p.length (u8s p)):=jz (by rw[hw3];exact hs.alloc _);have hlt:gE<gT:=by have h1:=HBE.lt;have h2:=hb2.size;omega
  have hTs:gT<w3.heap.size:=HT3.lt;have HP:=jz hp;have HPB:=jz (nC hb hp);have hpl:p.length≤54:=B9 hp;clear hp hs hb2;go_upto_region 5 with (refine al 35 zE rfl rfl iE ?_)
  rw[← hw3,← hgT];clear hw3 hgT;go_wp2_with fail
  refine(DZ _ p w3 HS3.out (by omega)).mono ?_;rintro e w4 ⟨r,v4,rfl,hR4,hfr,hr4,hb4⟩;have HB4:Hid (Below w.heap.size w w4.drew):=jz (aB HB3.out hb4).drew;have HE4:Hid (Blk w4.drew gE 35 zE):=jz (HE3.keep hb4.drew);have HT4:Hid (Blk w4.drew gT 35 zE):=jz (HT3.keep hb4.drew);have HR4:Hid (RD w4.drew r v4 p false):=jz hR4;have HFR:=jz hfr;have hTr:gT<r:=by omega
  have HSZ:=jz hb4.size;clear hR4 hfr hr4 hb4;go_upto_region 6 with fail
  refine aQ 5 (fun _=>True) (by kernel_rfl) (by kernel_rfl) (trivial) (fun hH=>?_);refine jT 0 (.fieldAddr 35 (.tmp 8) 0) (some 22) (.pointer (some ⟨gT,0,none⟩)) hH ?_;simp only[jq];refine jT 1 (.slice 33 (.tmp 22) none none none) (some 23) (.slice (some ⟨gT,0,none⟩) 32 32) hH ?_;simp only[jq];refine jM 2 (.tmp 9) (some 24) (.pointer (some ⟨r,0,none⟩)) hH ?_;simp only[jq];refine jW [3] ?_;refine jC 3 (.call { callee:=.value (.func 145),args:=#[.tmp 24,.const (.int .i64 32)],argTypes:=#[195,3] }) (some 25) 145 (#[.pointer (some ⟨r,0,none⟩),.int .i64 32]) ?_ jN;refine(D4 r v4 p w4.drew HR4.out (by omega)).mono ?_;rintro e w5 ⟨ho5,x,v5,xs,ys,bad,rfl,hxl,hsx,hR5,hob,hcs⟩;have HB5:Hid (Below w.heap.size w w5):=jz (HB4.trans (ho5.below (by have:=HGE.out;omega) HB4.size));have HE5:Hid (Blk w5 gE 35 zE):=jz (ho5.blk HE4.out (by omega));have HT5:Hid (Blk w5 gT 35 zE):=jz (ho5.blk HT4.out (by omega));have HR5:=jz hR5;have HOB:=jz hob;have HCS:=jz hcs;have HSX:=jz hsx;have HTH5:Hid (w5.there gT 0 xs.length):=jz (cZ HT5.out (by rw[dR];omega));clear hR5 hob hcs hsx ho5;refine⟨_,rfl,trivial,fun hH=>?_⟩;simp only[jq];refine jW [4] ?_;refine KI 4 (dT:=78) (sT:=78) (elem:=5) (.tmp 23) (.tmp 25) (some 26) (by kernel_rfl) (by kernel_rfl) (by exact rfl) (by exact rfl) Tryz.underlying78 (by kernel_rfl) HSX.out hxl HTH5.out (bS _) trivial ?_ jN;simp only[jq];refine wpAnyH_done (by kernel_rfl) ?_ _;clear hH;have HB6:Hid (Below w.heap.size w (w5.setCells gT 0 (u8s xs))):=jz (HB5.trans (aO (by have:=HGE.out;omega) _ _ _).1);obtain⟨w6,hw6⟩:=je (w5.setCells gT 0 (u8s xs));have HE6:Hid (Blk w6 gE 35 zE):=jz (by rw[hw6];exact(dA gT _ 0 w5).blk HE5.out (by omega));have HT6:Hid (Blk w6 gT 35 (D5 xs)):=jz (by rw[hw6];exact dQ _ _ _ _ HT5.out);have HR6:Hid (RD w6 r v5 ys bad):=jz (by rw[hw6];exact HR5.off (dA gT _ 0 w5) (by omega) (fun b e=>by have:=HFR.out b (HOB.out b e);omega));rw[← hw6] at HB6 ⊢;have HYB:Hid (Bys ys):=jz (by
   rcases HCS.out with ⟨_,_,_,e⟩|⟨_,_,_,e⟩
   ·rw[e];exact fun b hb=>HPB.out b (List.mem_of_mem_drop hb)
   ·rw[e];exact fun b hb=>by cases hb)
  have hyl:ys.length≤1000000:=by
   rcases HCS.out with ⟨_,_,_,e⟩|⟨_,_,_,e⟩
   ·rw[e,List.length_drop];omega
   ·rw[e];simp
  clear hw6;go_wp2_with fail
  refine(I9 r v5 ys bad w6 HR6.out HYB.out hyl).mono ?_;rintro e w7 ⟨ho7,N,v7,zs,bad7,rfl,hN,hR7,hcs7⟩;have HB7:Hid (Below w.heap.size w w7):=jz (HB6.trans (ho7.below (by have:=HGE.out;omega) HB6.size));have HE7:Hid (Blk w7 gE 35 zE):=jz (ho7.blk HE6.out (by omega));have HT7:Hid (Blk w7 gT 35 (D5 xs)):=jz (ho7.blk HT6.out (by omega));have HR7:=jz hR7;have HC7:=jz hcs7;clear ho7 hR7 hcs7;go_wp2_with fail
  refine(IZ r v7 zs bad7 w7 HR7.out).mono ?_;rintro e w8 ⟨rfl,rfl⟩;obtain⟨D,hD⟩:=je ((!bad7 && decide (zs.length=0)));rw[← hD];have HD:=jz hD;clear hD;have HDT:Hid (D=true→xs=p.take 32∧p.length=40∧N=beN (p.drop 32)):=jz (fun e=>by
   have h:=HD.out
   rw[e] at h
   have h1:bad7=false:=by
    revert h
    cases bad7
    ·intro _;rfl
    ·intro h;simp at h
   have h2:zs.length=0:=by rw[h1] at h;simpa using h.symm
   rcases HC7.out with ⟨hb0,h8,_,hNv,hz⟩|⟨_,hb1⟩
   ·rcases HCS.out with ⟨_,h32,hxs,hys⟩|⟨hb1,_⟩
    ·rw[hz,hys,List.length_drop,List.length_drop] at h2
     rw[hys,List.length_drop] at h8
     refine⟨hxs,by omega,?_⟩
     rw[hNv,hys,List.take_of_length_le (by rw[List.length_drop];omega)]
    ·rw[hb0] at hb1;cases hb1
   ·rw[h1] at hb1;cases hb1)
  have HDF:Hid (D=false→fB s=none):=jz (fun e=>by
   unfold fB
   rw[HP.out]
   simp only
   rw[if_neg]
   rintro⟨h40,_⟩
   have h:=HD.out
   rw[e] at h
   rcases HCS.out with ⟨hb0,h32,hxs,hys⟩|⟨_,h32,_⟩
   ·rcases HC7.out with ⟨_,h8,hb7,hNv,hz⟩|⟨hb1,_⟩
    ·rw[hb7,hz,hys,List.length_drop,List.length_drop,h40] at h
     simp at h
    ·rw[hb0,hys,List.length_drop,h40] at hb1
     simp at hb1
   ·omega)
  clear HD HC7 HCS;cases D with
  | false=>
   go_wp2_with (first
    | (refine bld 35 #[] rfl rfl rfl n9 ?_)
    | (refine bC 35 (.tmp 3) (.tmp 36) rfl rfl rfl rfl HE7.out HZ.out.1 rfl HZ.out.2 ?_;intro w9 hB9 hb9 _ _;have HB9:=jz hB9;have HE9:=jz hb9;clear hB9 hb9))
   have hr:=HB9.range;exact bodyPost_ret (cE rfl _ rfl hr Tryz.underlying35 rfl (by rw[Array.length_toList];exact HZ.out.1)) rfl ⟨HB7.trans (HE9.mono HGE.out),.inl ⟨HDF.out (by simp),rfl⟩⟩
  | true=>
   rcases jb (decide ((4611686018427387904:Int)<(N:Int))) with t1|t1
   ·have HNN:Hid (fB s=none):=jz (by
     unfold fB
     rw[HP.out]
     simp only
     rw[if_neg]
     rintro⟨_,h⟩
     have:=of_decide_eq_true t1
     have:=(HDT.out rfl).2.2
     omega)
    go_wp2_with (first
     | (refine bld 35 #[] rfl rfl rfl n9 ?_)
     | (refine bC 35 (.tmp 3) (.tmp 36) rfl rfl rfl rfl HE7.out HZ.out.1 rfl HZ.out.2 ?_;intro w9 hB9 hb9 _ _;have HB9:=jz hB9;have HE9:=jz hb9;clear hB9 hb9))
    have hr:=HB9.range;exact bodyPost_ret (cE rfl _ rfl hr Tryz.underlying35 rfl (by rw[Array.length_toList];exact HZ.out.1)) rfl ⟨HB7.trans (HE9.mono HGE.out),.inl ⟨HNN.out,rfl⟩⟩
   ·have hN62:(N:Int)≤4611686018427387904:=by have:=of_decide_eq_false t1;omega
    have hN0:(0:Int)≤N:=by omega
    have hcv:IntKind.i64.wrap (N:Int)=(N:Int):=IntWalk.i64_in _ (by omega);have HXL:Hid (xs.length=32):=jz (by have:=HDT.out rfl;rw[this.1,List.length_take];omega);have HPE:Hid (fB s=some (g,(xs,(N:Int)))):=jz (by
     have h:=HDT.out rfl
     unfold fB
     rw[HP.out]
     simp only
     rw[if_pos ⟨h.2.1,by rw[← h.2.2];omega⟩,← h.1,← h.2.2])
    have hc32:w7.cell? ⟨gT,32,none⟩=some ((D5 xs)[32]'(by rw[D6];omega)):=by rw[HT7.cell 32];exact Array.getElem?_eq_getElem _
    have hf32:=HT7.frozen 32;clear HDF;go_upto_region 11 with fail
    have HB8:Hid (Below w.heap.size w (w7.setCell ⟨gT,32,none⟩ (.int .i64 (N:Int))).drew):=jz ((HB7.trans ((Off.refl gT w7).set 32 _ |>.below (by have:=HGE.out;omega) HB7.size)).drew);have HE8:Hid (Blk (w7.setCell ⟨gT,32,none⟩ (.int .i64 (N:Int))).drew gE 35 zE):=jz (((Off.refl gT w7).set 32 _).blk HE7.out (by omega));have HT8:Hid (Blk (w7.setCell ⟨gT,32,none⟩ (.int .i64 (N:Int))).drew gT 35 (cY xs N).toArray):=jz (by have:=HT7.set_ 32 (.int .i64 (N:Int));rw[FN _ _ HXL.out] at this;exact this);obtain⟨w8,hw8⟩:=je (w7.setCell ⟨gT,32,none⟩ (.int .i64 (N:Int)));rw[← hw8] at HB8 HE8 HT8 ⊢;have hEL:(cY xs (N:Int)).length=33:=by simp[cY,aP,HXL.out]
    have HEL:Hid ((Tryz.prog.info? 35).map (·.size)=some (cY xs (N:Int)).length):=jz (by rw[hEL];kernel_rfl);have HE1:Hid (∀ u∈cY xs (N:Int),u.oneCell'=true):=jz (fun u hu=>by
     simp only[cY,List.mem_append,List.mem_singleton] at hu
     rcases hu with hu|rfl
     ·exact bS _ u hu
     ·rfl)
    have HTR:Hid (w8.drew.rangeAt gT 0 (cY xs (N:Int))):=jz (by have:=HT8.range;rw[jt] at this;exact this);have HTH:Hid (w8.drew.there gE 0 (cY xs (N:Int)).length):=jz (cZ HE8.out (by rw[hEL,dR];exact Nat.le_refl _));have HTR2:Hid ((w8.drew.setCells gE 0 (cY xs (N:Int))).rangeAt gT 0 (cY xs (N:Int))):=jz (fun i u hi=>(World.cell?_of_block (a:=⟨gT,0+i,none⟩) (bA (show gT≠gE by omega) _ _ _)).trans (HTR.out i u hi));clear hw8 hc32 hf32 hEL;refine aQ 5 (fun w'=>w'.rangeAt gT 0 (cY xs (N:Int))) (by kernel_rfl) (by kernel_rfl) (HTR.out) (fun hH=>?_);refine jM 0 (.tmp 5) (some 40) (.int .u32 g) hH ?_;simp only[jq];refine jL 1 35 (.tmp 8) (some 41) (cs:=cY xs (N:Int)) (fun _ hX=>hX) Tryz.underlying35 rfl HEL.out hH ?_;simp only[jq];refine jT 2 (.assign (.tmp 40)) (some 2) (.int .u32 g) hH ?_;simp only[jq];refine jW [3] ?_;refine jR 3 35 (.tmp 3) (.tmp 41) none (cs:=cY xs (N:Int)) HTH.out HEL.out HE1.out HTR2.out ?_ jN;simp only[jq];replace hH:=HTR2.out;refine jT 4 (.assign (.const (.bool true))) (some 4) (.bool true) hH ?_;simp only[jq];refine wpAnyH_done (by kernel_rfl) ?_ _;clear hH;have hrr:=World.rangeAt_setCells_same w8.drew gE 0 (cY xs (N:Int)) HTH.out;have HBF:Hid (Below w.heap.size w (w8.drew.setCells gE 0 (cY xs (N:Int)))):=jz (HB8.trans (aO HGE.out _ _ _).1);obtain⟨w9,hw9⟩:=je (w8.drew.setCells gE 0 (cY xs (N:Int)));rw[← hw9] at hrr HBF ⊢;clear hw9;have HRR:=jz hrr;clear hrr;go_wp2_with fail
    exact bodyPost_ret (cE rfl _ rfl HRR.out Tryz.underlying35 rfl HEL.out) rfl ⟨HBF.out,.inr ⟨g,_,HPE.out,rfl⟩⟩
section
variable {P : Program}
theorem s2a{ops:Array Oper}{rest:List Oper}{o:Oper}{a:Act}{w:World}{Q:Exit→Act→World→Prop}(arr:TypeId)(x:Operand)(ho:o.op = .sliceToArrayPointer arr x)(hw:Region.wanted o (yielded ops a.tmps)=true)
  {A:Option Addr} {n cap m:Nat} {e:TypeId} (hv:a.eval x = .slice A n cap) (hu:P.underlying arr=some (.array m e)) (hn:m≤n)
  (h:wpList P ops Q rest (a.put o.dst (.pointer A)) w):wpList P ops Q (o :: rest) a w:=
 wpList_step fun K hK=>by
  rw[if_pos hw];unfold Oper.wp;have hrun:(execOp a.eval o).run P w = .ok (.value (.pointer A)) w:=by
   unfold execOp;simp only[ho,hv,Instr.arrayAt];simp only[Sem.run_bind,Sem.run_pure,Result.andThen_ok,run_underlying hu,if_neg (Nat.not_lt.2 hn)]
  rw[hrun,Oper.upon_value];exact hK _ _ h
theorem pv{ops:Array Oper}{rest:List Oper}{o:Oper}{a:Act}{w:World}{Q:Exit→Act→World→Prop}(op:Op)(_:o.op=op)(hw:Region.wanted o (yielded ops a.tmps)=true)
  {v:Value} (hrun:(execOp a.eval o).run P w = .ok (.value v) w) (h:wpList P ops Q rest (a.put o.dst v) w):wpList P ops Q (o :: rest) a w:=
 wpList_step fun K hK=>by
  rw[if_pos hw];unfold Oper.wp;rw[hrun,Oper.upon_value];exact hK _ _ h
end
def spX(x:Nat):Nat:=(x*6364136223846793005+1442695040888963407) % 18446744073709551616
def spB(x:Nat):Int:=((x/8589934592 % 256:Nat):Int)
def vU(x:Nat):Nat→Nat
 | 0=>x
 | n+1=>spX (vU x n)
def spL(x:Nat)(n:Nat):List Int:=(List.range n).map fun j=>spB (vU x (j+1))
theorem rF(x n:Nat):(spL x n).length=n:=by simp[spL]
theorem JA(x n:Nat):Bys (spL x n):=fun b hb=>by
 simp only[spL,List.mem_map] at hb;obtain⟨j,_,rfl⟩:=hb;unfold spB;omega
theorem FO(x n:Nat):spL x (n+1)=spL x n++[spB (vU x (n+1))]:=by simp[spL,List.range_succ]
theorem CC{x:Nat}(h:x<18446744073709551616):∀ n,vU x n<18446744073709551616
 | 0=>h
 | n+1=>Nat.mod_lt _ (by omega)
theorem pW(s:List Int)(h:s.length=32):s=(List.range 32).map (fun i=>s.getD i 0):=by
 apply List.ext_getElem
 ·simp[h]
 ·intro i h1 h2;simp[h1]
theorem tZ(s:List Int)(t:Int)(h:s.length=32):Tryz.prog.built 35 [(0,.agg (u8s s).toArray),(1,.int .i64 t)]=some (aC (s,t)).toArray:=by
 rw[pW s h];generalize (fun i=>s.getD i 0)=D
 kernel_rfl
def LM(n:Nat)(t:Int):List Int×Int:=(spL n 32,t)
theorem CD(n:Nat)(t:Int)(ht:aK t):EntOk (LM n t):=⟨⟨rF _ _,JA _ _⟩,ht⟩
theorem AE(x n:Nat)(w:World)(hx:x<18446744073709551616)(hn:n≤100000):
  Calls Tryz.prog 28 #[.int .u64 x,.int .i64 n] w fun e w'=>∃ v,e = .returned v∧w'.ownsRow w.heap.size 5 1 v n (u8s (spL x n))∧Below w.heap.size w w':=by
 have HX:=jz hx;clear hx;go_enter Tryz.func28,Tryz.ntmps28
 go_wp2_with fail
 go_loopw [5,6,7] (fun out y i wr=>∃ k:Nat,k≤n∧i = .int .i64 k∧y = .int .u64 (vU x k)∧Hid (wr.ownsRow w.heap.size 5 1 out k (u8s (spL x k)))∧Hid (Below w.heap.size w wr)) (fun _ _ i _=>n-(intOf i).toNat)
 case atStart=>exact⟨0,Nat.zero_le _,rfl,rfl,jz (World.ownsRow_nil _ _ _ _),jz (Below.refl _ _)⟩
 case round=>
  obtain⟨k,hk,rfl,rfl,HO,HB⟩:=hrel;have hszr:=HB.size;rcases Nat.lt_or_ge k n with hlt|hge
  ·have hb:=CC HX.out k;have k1:IntKind.u64.wrap (IntKind.u64.wrap ((vU x k:Int)*6364136223846793005)+1442695040888963407)=(vU x (k+1):Int):=by
    show _=((spX (vU x k):Nat):Int);unfold IntKind.wrap spX;simp only[IntKind.signed,IntKind.bits];simp
   have hy:=CC HX.out (k+1);have HSU:=jz (FO x k);obtain⟨y,hyd⟩:=je (vU x (k+1));have HYD:=jz hyd;rw[← hyd] at k1 hy HSU;clear hyd;have hsh:(Int.fdiv (y:Int) 8589934592)=((y/8589934592:Nat):Int):=by rw[Int.fdiv_eq_ediv_of_nonneg _ (by omega)];omega
   have k3:IntKind.u8.wrap ((y/8589934592:Nat):Int)=spB y:=by unfold IntKind.wrap spB;simp[IntKind.signed,IntKind.bits]
   go_wp2_with (first|(refine pv (v:=.int .u64 ((y:Int).fdiv 8589934592)) (Op.binOp BinOp.shr 80 (Operand.tmp 18) (Operand.const (Value.int IntKind.u64 33)) 104) rfl rfl (by kernel_rfl) ?_;rw[hsh])|(at_builtin;refine app pS (.tmp 17) (.tmp 21) rfl rfl (by rfl) (World.ownsRow.alloc HO.out _) (by rfl) (Sn.new wr (u8s [spB y]).toArray 5 1 1 rfl) (bS [spB y]) (by unfold maxLen;omega) (by omega) (by simp;omega) ?_;intro v3 w3 hown hgrow _;rw[jt,← eI] at hown;have HO3:=jz hown;have HB3:=jz ((HB.alloc hszr _).grown hgrow (by simp;omega) (fun g hg=>(World.ownsRow.lt HO.out g hg).1));clear hown hgrow))
   exact⟨⟨k+1,by omega,by go_num,by rw[HYD.out],jz (by rw[HSU.out];exact HO3.out),HB3⟩,by simp[intOf];omega⟩
  ·obtain rfl:k=n:=by omega
   go_wp2_with fail
   go_ret;exact⟨_,rfl,HO.out,HB.out⟩
end
section
open Go.RowKit
attribute [local irreducible] wpQuiet wpAnyH
section
variable {P : Program}
theorem KQ{ops:Array Oper}{rest:List Oper}{o:Oper}{a:Act}{w:World}{Q:Exit→Act→World→Prop}(t t2:TypeId)(x y:Operand)(ho:o.op = .binOp .shr t x y t2)(hw:Region.wanted o (yielded ops a.tmps)=true)
  {k yk:IntKind} {n m:Nat} (hx:a.eval x = .int k n) (hy:a.eval y = .int yk m) (hm:m≤k.bits)
  (h:wpList P ops Q rest (a.put o.dst (.int k ((n/2 ^ m:Nat):Int))) w):wpList P ops Q (o :: rest) a w:=
 wpList_step fun K hK=>by
  rw[if_pos hw];unfold Oper.wp;have hrun:(execOp a.eval o).run P w = .ok (.value (.int k ((n/2 ^ m:Nat):Int))) w:=by
   unfold execOp;simp only[ho,hx,hy];have hs:(binOp .shr t (.int k n) (.int yk m)).run P w = .ok (.int k ((n/2 ^ m:Nat):Int)) w:=by
    show(Op.shift .shr k n yk m).run P w=_;rw[shift_shr k yk n m (by omega) (by omega)];simp
   have hg:(eqGuard .shr t x y (.int k n) (.int yk m)).run P w = .ok () w:=rfl;simp only[Sem.run_bind,hg,hs,Result.andThen_ok];rfl
  rw[hrun,Oper.upon_value];exact hK _ _ h
end
def rk(x c k:Nat):Nat:=kI k (x ^^^ c) ^^^ (c/2 ^ k)
theorem JB(x c:Nat):rk x c 0=x:=by
 unfold rk kI;rw[Nat.pow_zero,Nat.div_one,Nat.xor_assoc,Nat.xor_self,Nat.xor_zero]
theorem FP(a b:Nat):(a ^^^ b)/2=a/2 ^^^ b/2:=by
 have:=Nat.shiftRight_xor_distrib (a:=a) (b:=b) (i:=1);simpa [Nat.shiftRight_eq_div_pow] using this
theorem FQ(a b:Nat):(a ^^^ b) % 2=a % 2 ^^^ b % 2:=by
 have:=Nat.xor_mod_two_pow (a:=a) (b:=b) (n:=1);simpa using this
theorem KR(x c k:Nat):(rk x c k % 2) ^^^ (c/2 ^ k % 2)=kI k (x ^^^ c) % 2:=by
 unfold rk;rw[FQ,Nat.xor_assoc,Nat.xor_self,Nat.xor_zero]
theorem JC(x c k:Nat):rk x c (k+1)=if kI k (x ^^^ c) % 2=1 then (rk x c k/2) ^^^ 2197175160 else rk x c k/2:=by
 have e:c/2 ^ (k+1)=c/2 ^ k/2:=by rw[Nat.pow_succ,Nat.div_div_eq_div_mul]
 unfold rk;rw[show kI (k+1) (x ^^^ c)=kN (kI k (x ^^^ c)) from rfl,FP,e];unfold kN;split
 ·rw[Nat.xor_assoc,Nat.xor_comm 2197175160,← Nat.xor_assoc]
 ·rfl
theorem LN{x c:Nat}(hx:x<4294967296)(hc:c<256)(k:Nat):rk x c k<4294967296:=
 Nat.xor_lt_two_pow (n:=32) (qR (Nat.xor_lt_two_pow (n:=32) (by omega) (by omega)) k) (Nat.lt_of_le_of_lt (Nat.div_le_self _ _) (by omega))
theorem FS{x c:Nat}(hc:c<256):rk x c 8=DQ (x ^^^ c):=by
 unfold rk;rw[Nat.div_eq_of_lt (show c<2 ^ 8 by omega),Nat.xor_zero];rfl
theorem AF(l:List Int)(v:Value)(w:World)(hs:Sn w 1 v l.length (u8s l))(hb:Bys l)(hl:l.length≤1000000):
  Calls Tryz.prog 164 #[.int .u32 0,v] w fun e w'=>e = .returned (.int .u32 (bQ l))∧Below w.heap.size w w':=by
 obtain⟨A,cap,rfl,hcap,_,_⟩:=id hs;have HS:=jz hs;have HB:=jz hb;clear hs hb;have hru:cG 4294967295 []=4294967295:=by unfold cG;rfl
 go_enter Tryz.func164,Tryz.ntmps164
 go_wp2_with fail
 go_loopw [5,6] (fun r i wr=>∃ k:Nat,k≤l.length∧i = .int .i64 k∧r = .int .u32 (cG 4294967295 (l.take k))∧wr=w) (fun _ i _=>l.length-(intOf i).toNat)
 case atStart=>exact⟨0,Nat.zero_le _,rfl,by rw[List.take_zero,hru];rfl,rfl⟩
 case round=>
  obtain⟨k,hk,rfl,rfl,hW⟩:=hrel;rw[hW];clear hW;rcases Nat.lt_or_ge k l.length with hlt|hge
  ·obtain⟨A',cap',hv,_,_,hx⟩:=HS.out;injection hv with hv _ hv2
   obtain⟨b,off,he,hcell⟩:=hx (by omega);subst hv hv2 he;have hc0:=HB.out l[k] (List.getElem_mem hlt);have hi:=hcell k _ (jI l k hlt);obtain⟨c,hc⟩:∃ c:Nat,l[k]=c:=⟨l[k].toNat,by omega⟩;have HSNOC:Hid (cG 4294967295 (l.take (k+1))=rk (cG 4294967295 (l.take k)) c 8):=jz (by
    rw[FS (by omega),oZ _ _ _ hlt,hc];rfl)
   rw[hc] at hi hc0;have hx0:cG 4294967295 (l.take k)<4294967296:=i9 _ (fun b hb=>HB.out b (List.mem_of_mem_take hb)) _ (by omega);obtain⟨x,hxd⟩:=je (cG 4294967295 (l.take k));rw[← hxd] at HSNOC hx0 ⊢;have hi0:(0:Int)≤k:=by omega
   have hi1:(k:Int)<l.length:=by omega
   clear hxd hc hcell hx;go_wp2_with fail
   go_loopw [5,7] (fun r i wr=>∃ j:Nat,j≤8∧i = .int .i64 j∧r = .int .u32 (rk x c j)∧wr=w) (fun _ i _=>8-(intOf i).toNat)
   case atStart=>exact⟨0,Nat.zero_le _,rfl,by rw[JB],rfl⟩
   case round=>
    obtain⟨j,hj,rfl,rfl,hW⟩:=hrel;rw[hW];clear hW;rcases Nat.lt_or_ge j 8 with hj8|hj8
    ·have hr:=LN (x:=x) (c:=c) hx0 (by omega) j;have o1:=u32_xor_nat (rk x c j % 2) (c/2 ^ j % 2) (by omega) (by omega);rw[KR] at o1;have hn:=JC x c j;have o2:=u32_xor_nat (rk x c j/2) 2197175160 (by omega) (by omega);have hj0:(0:Int)≤j:=by omega
     have hj1:(j:Int)<8:=by omega
     have hcj:c/2 ^ j<256:=Nat.lt_of_le_of_lt (Nat.div_le_self _ _) (by omega);have HN:=jz hn;clear hn;have o1':bits .xor .u32 ((rk x c j:Int) % 2) (((c/2 ^ j:Nat):Int) % 2)=((kI j (x ^^^ c) % 2:Nat):Int):=o1;have o2':bits .xor .u32 ((rk x c j:Int)/2) 2197175160=((rk x c j/2 ^^^ 2197175160:Nat):Int):=o2;have e:((c/2 ^ j:Nat):Int)=(c:Int)/2 ^ j:=by simp
     rw[e] at o1';clear o1 o2 e;rcases Nat.mod_two_eq_zero_or_one (kI j (x ^^^ c)) with h2|h2
     all_goals
      rw[h2] at o1' HN;go_wp2_with (refine KQ _ _ _ _ rfl rfl (n:=c) (m:=j) rfl rfl (by show j≤8;omega) ?_)
      exact⟨⟨j+1,by omega,by go_num,by rw[HN.out];simp,trivial⟩,by simp[intOf];omega⟩
    ·obtain rfl:j=8:=by omega
     go_wp2_with fail
     exact⟨⟨k+1,by omega,by go_num,by rw[HSNOC.out],trivial⟩,by simp[intOf];omega⟩
  ·obtain rfl:k=l.length:=by omega
   rw[List.take_length];have h1:=i9 l HB.out 4294967295 (by omega);have HCS:Hid (((bQ l:Nat):Int)=4294967295-(cG 4294967295 l:Int)):=jz (by unfold bQ;omega);go_wp2_with fail
   go_ret;exact⟨by rw[HCS.out];rfl,Below.refl _ _⟩
theorem JD(l:List Int)(v:Value)(w:World)(hs:Sn w 1 v l.length (u8s l))(hb:Bys l)(hl:l.length≤1000000):
  Calls Tryz.prog 159 #[v] w fun e w'=>e = .returned (.int .u32 (bQ l))∧Below w.heap.size w w':=by
 obtain⟨A,cap,rfl,_,_,_⟩:=id hs;go_enter Tryz.func159,Tryz.ntmps159
 go_wp2_with fail
 refine(AF l _ w hs hb hl).mono ?_;rintro e w1 ⟨rfl,hb1⟩;go_wp2_with fail
 go_ret;exact⟨rfl,hb1⟩
end
section
open Go.RowKit
attribute [local irreducible] wpQuiet wpAnyH
def wsD(d:DiskD)(a:Int)(s:List Int):DiskD:=match writeA d a with|some _=>writeD d a s|none=>syncS (writeD d a s)
def wsA(d:DiskD)(a:Int)(s:List Int):Ans:=match writeA d a with|some x=>some x|none=>syncA (writeD d a s)
theorem nE{d:DiskD}(h:d.steps≤d.room):(stepped d).room≤d.room+1:=by show max d.room (d.steps+1)≤d.room+1;omega
theorem kU{d:DiskD}(h:d.steps≤d.room)(a:Int)(s:List Int):(writeD d a s).room≤d.room+2:=by
 have h1:=nE h;have h2:=AA (stepped d) a s;unfold writeD;split
 ·omega
 ·split
  ·show(addIf (stepped d) a s).room≤_;omega
  ·split <;> omega
theorem qA(g:Nat)(p:List Int)(hb:Bys p):Bys (rec g p):=fun b h=>by
 unfold rec at h;rcases List.mem_append.1 h with h|h
 ·exact qS hb b (List.mem_of_mem_take h)
 ·rcases List.mem_append.1 h with h|h
  ·exact gF _ _ b h
  ·exact gF _ _ b h
theorem dS(t:TypeId)(u:Value)(w:World):(binOp .neq 42 (.iface t u) .nilIface).run Tryz.prog w = .ok (.bool true) w:=by kernel_rfl
theorem pA(f z:Int)(g:Nat)(w:World)(m:DiskM)(d:DiskD)(h:DK w m d)(hf:aK f)(hg:g<4294967296)(hr:d.room+3≤100000):
  Calls Tryz.prog 58 #[.pointer (some ⟨m.g,0,none⟩),.agg #[.int .i64 f,.int .i64 z],.int .u32 g] w fun e w'=>e = .returned (cC (wsA d f (rec g toll)))∧∃ m',DK w' m' (wsD d f (rec g toll))∧DT w m w' m':=by
 have hB0:Below w.heap.size w (w.alloc (.cells #[.int .i64 f,.int .i64 z] 106)):=(Below.refl _ w).alloc (Nat.le_refl _) _;obtain⟨w1,hw1⟩:=je (w.alloc (.cells #[.int .i64 f,.int .i64 z] 106));have HK1:Hid (DK w1.drew m d):=jz (by rw[hw1];exact(h.keep hB0).drew);have HB1:Hid (Below w.heap.size w w1.drew):=jz (by rw[hw1];exact hB0.drew);have HC1:Hid (w1.drew.cell? ⟨w.heap.size,0,none⟩=some (.int .i64 f)):=jz (by rw[hw1];exact(Blk.new w _ #[.int .i64 f,.int .i64 z]).cell 0);have HNF:=jz (h.notFoot (Nat.le_refl w.heap.size));have HSR:Hid (Sec (rec g toll)):=jz ⟨d9 g toll (by decide),qA g toll jD⟩;have hst:=h.ok.st;clear h hB0;go_enter Tryz.func58,Tryz.ntmps58
 go_upto_region 1 with fail
 rw[← hw1];clear hw1;refine aQ 7 (fun w'=>w'.cell? ⟨w.heap.size,0,none⟩=some (.int .i64 f)) (by kernel_rfl) (by kernel_rfl) (HC1.out) (fun hH=>?_);refine jM 0 (.tmp 0) (some 8) (.pointer (some ⟨m.g,0,none⟩)) hH ?_;simp only[jq];refine jT 1 (.fieldAddr 106 (.tmp 4) 0) (some 9) (.pointer (some ⟨w.heap.size,0,none⟩)) hH ?_;simp only[jq];refine jT 2 (.load 3 (.tmp 9)) (some 10) (.int .i64 f) hH ?_;simp only[jq];refine jM 3 (.tmp 2) (some 11) (.int .u32 g) hH ?_;simp only[jq];refine jW [4] ?_;refine jC 4 (.call { callee:=.value (.func 82),args:=#[.tmp 11],argTypes:=#[59] }) (some 12) 82 (#[.int .u32 g]) ?_ jN;refine(vS g w1.drew hg).mono ?_;rintro e w2 ⟨rfl,hb2⟩;have HK2:=jz (HK1.keep hb2);have HB2:Hid (Below w.heap.size w w2):=jz (aB HB1.out hb2);refine⟨_,rfl,Below.cell' hb2 hH,fun hH=>?_⟩;simp only[jq];refine jW [5] ?_;refine jC 5 (.call { callee:=.value (.func 81),args:=#[.tmp 8,.tmp 10,.tmp 12],argTypes:=#[25,3,144] }) (some 13) 81 (#[.pointer (some ⟨m.g,0,none⟩),.int .i64 f,.agg (u8s (rec g toll)).toArray]) ?_ jN;refine(mI f (rec g toll) w2 m d HK2.out hf HSR.out (by omega)).mono ?_;rintro e w3 ⟨rfl,m3,hdk,hdt⟩;rw[mJ];refine⟨_,rfl,hdt.fo.cell hH HNF.out,fun hH=>?_⟩;simp only[jq];refine jT 6 (.assign (.tmp 13)) (some 7) (cC (writeA d f)) hH ?_;simp only[jq];refine wpAnyH_done (by kernel_rfl) ?_ _;clear hH;have HDT:Hid (DT w m w3 m3):=jz ((DT.of_below HB2.out).trans hdt);have HDK:=jz hdk;have HRM:Hid ((writeD d f (rec g toll)).room≤d.room+2):=jz (kU hst f _);clear hdk hdt;have hg3:m3.g=m.g:=HDT.g;cases ha:writeA d f with
 | some x=>
  have HF:Hid (wsA d f (rec g toll)=some x∧wsD d f (rec g toll)=writeD d f (rec g toll)):=jz (by unfold wsA wsD;rw[ha];exact⟨rfl,rfl⟩);obtain⟨t,u,hv⟩:=cV x;rw[hv];have HV:=jz hv;have hne:=dS t u;clear ha hv;go_wp2_with fail
  go_ret;exact⟨by rw[HF.out.1,HV.out];rfl,m3,by rw[HF.out.2];exact HDK.out,HDT.out⟩
 | none=>
  have HF:Hid (wsA d f (rec g toll)=syncA (writeD d f (rec g toll))∧wsD d f (rec g toll)=syncS (writeD d f (rec g toll))):=jz (by unfold wsA wsD;rw[ha];exact⟨rfl,rfl⟩);have hv:cC none = .nilIface:=rfl;rw[hv];clear ha;go_wp2_with fail
  rw[← hg3];refine(lH w3 m3 _ HDK.out (by have:=HRM.out;omega)).mono ?_;rintro e w4 ⟨rfl,m4,hdk4,hdt4⟩;have HD4:=jz hdk4;have HT4:Hid (DT w m w4 m4):=jz (HDT.trans hdt4);clear hdk4 hdt4;go_wp2_with fail
  go_ret;exact⟨by rw[HF.out.1,← lJ];rfl,m4,by rw[HF.out.2];exact HD4.out,HT4.out⟩
def putD(d:DiskD)(f z p:Int)(g:Nat)(q:List Int×Int):DiskD:=if p<1 then d else if room z<p then d else if aS q then wsD d (f+p) (aD g q) else d
def putA(d:DiskD)(f z p:Int)(g:Nat)(q:List Int×Int):Ans:=if p<1 then some (13,none) else if room z<p then some (13,none) else if aS q then wsA d (f+p) (aD g q) else some (15,none)
theorem dX(g:Nat){q:List Int×Int}(hq:EntOk q):Sec (aD g q):=by
 have hl:(q.1++beB 8 q.2.toNat).length=40:=by rw[List.length_append,bB,hq.dig.len]
 refine⟨d9 g _ (by rw[hl];omega),qA g _ fun b hb=>?_⟩;rcases List.mem_append.1 hb with hb|hb
 ·exact hq.dig.byte b hb
 ·exact gF _ _ b hb
theorem yN(g:Nat){q:List Int×Int}(hq:EntOk q):Sec (if aS q then aD g q else zsec):=by
 split
 ·exact dX g hq
 ·exact eC
theorem FT(f z p:Int)(g:Nat)(q:List Int×Int)(w:World)(m:DiskM)(d:DiskD)(h:DK w m d)(hf:0≤f∧f≤100000)(hz:aK z∧z≤100000)(hp:aK p)(hg:g<4294967296)(hq:EntOk q)(hr:d.room+3≤100000):
  Calls Tryz.prog 55 #[.pointer (some ⟨m.g,0,none⟩),.agg #[.int .i64 f,.int .i64 z],.int .i64 p,.int .u32 g,.agg (aC q).toArray] w fun e w'=>e = .returned (cC (putA d f z p g q))∧∃ m',DK w' m' (putD d f z p g q)∧DT w m w' m':=by
 have hB0:Below w.heap.size w ((w.alloc (.cells #[.int .i64 f,.int .i64 z] 106)).alloc (.cells (aC q).toArray 35)):=((Below.refl _ w).alloc (Nat.le_refl _) _).alloc (by simp) _;obtain⟨w1,hw1⟩:=je ((w.alloc (.cells #[.int .i64 f,.int .i64 z] 106)).alloc (.cells (aC q).toArray 35));have HK1:Hid (DK w1 m d):=jz (by rw[hw1];exact h.keep hB0);have HB1:Hid (Below w.heap.size w w1):=jz (by rw[hw1];exact hB0);have HX1:Hid (Blk w1 w.heap.size 106 #[.int .i64 f,.int .i64 z]):=jz (by rw[hw1];exact(Blk.new w _ _).alloc _);have HR1:Hid (w1.rangeAt w.heap.size 0 [.int .i64 f,.int .i64 z]):=jz (by have:=HX1.range;exact this);have HE1:Hid (Blk w1 (w.heap.size+1) 35 (aC q).toArray):=jz (by rw[hw1];exact Blk.newAt _ _ _ _ (by simp));have HNF:=jz (h.notFoot (Nat.le_refl w.heap.size));have HSR:Hid (Sec (aD g q)):=jz (dX g hq);have HSP:=jz (yN g hq);have HEL:Hid ((Tryz.prog.info? 35).map (·.size)=some (aC q).length):=jz (by rw[aH q hq];kernel_rfl);have HPZ:Hid ((Tryz.prog.info? 144).map (·.size)=some (u8s (if aS q then aD g q else zsec)).toArray.size∧z64.size=(u8s (if aS q then aD g q else zsec)).toArray.size):=jz ⟨by rw[js,aG HSP.out];kernel_rfl,by rw[cN,js,aG HSP.out]⟩;have hst:=h.ok.st;have hf1:0≤f:=hf.1;have hf2:f≤100000:=hf.2;have hp1 : -9223372036854775808≤p:=hp.1;have hp2:p≤9223372036854775807:=hp.2;have hrz:room z≤100000:=by unfold room;split <;> omega
 clear h hB0 hf hp;rcases jb (decide (p<1)) with t1|t1
 ·have HF:Hid (putA d f z p g q=some (13,none)∧putD d f z p g q=d):=jz (by unfold putA putD;rw[if_pos (of_decide_eq_true t1),if_pos (of_decide_eq_true t1)];exact⟨rfl,rfl⟩);go_enter Tryz.func55,Tryz.ntmps55
  go_upto_region 1 with fail
  rw[← hw1];clear hw1;go_wp2_with fail
  go_ret;exact⟨by rw[HF.out.1];rfl,m,by rw[HF.out.2];exact HK1.out,DT.of_below HB1.out⟩
 ·have hp0:¬p<1:=of_decide_eq_false t1;go_enter Tryz.func55,Tryz.ntmps55
  go_upto_region 1 with fail
  rw[← hw1];clear hw1;go_wp2_with (refine ld 106 _ rfl rfl rfl HR1.out Tryz.underlying106 rfl (by kernel_rfl) ?_)
  refine(n7 f z w1 hz.1).mono ?_;rintro e w2 ⟨rfl,hb2⟩;have HB2:Hid (Below w.heap.size w w2):=jz (aB HB1.out hb2);have HX2:Hid (Blk w2 w.heap.size 106 #[.int .i64 f,.int .i64 z]):=jz (HX1.keep hb2);have HE2:Hid (w2.rangeAt (w.heap.size+1) 0 (aC q)):=jz (by have:=(HE1.keep hb2).range;rw[jt] at this;exact this);have HK2:=jz (HK1.keep hb2);obtain⟨R,hR⟩:=je (room z);have HRR:=jz hR;rw[← hR] at hrz ⊢;clear hb2 hR;rcases jb (decide (R<p)) with t2|t2
  ·have HF:Hid (putA d f z p g q=some (13,none)∧putD d f z p g q=d):=jz (by unfold putA putD;rw[if_neg (show ¬p<1 by omega),if_neg (show ¬p<1 by omega),← HRR.out,if_pos (of_decide_eq_true t2),if_pos (of_decide_eq_true t2)];exact⟨rfl,rfl⟩);clear hp0;go_wp2_with fail
   go_ret;exact⟨by rw[HF.out.1];rfl,m,by rw[HF.out.2];exact HK2.out,DT.of_below HB2.out⟩
  ·have hp3:p≤R:=by have:=of_decide_eq_false t2;omega
   have HF0:Hid (putA d f z p g q=(if aS q then wsA d (f+p) (aD g q) else some (15,none))∧putD d f z p g q=(if aS q then wsD d (f+p) (aD g q) else d)):=jz (by unfold putA putD;rw[if_neg (show ¬p<1 by omega),if_neg (show ¬p<1 by omega),← HRR.out,if_neg (of_decide_eq_false t2),if_neg (of_decide_eq_false t2)];exact⟨rfl,rfl⟩);have hp4:1≤p:=by omega
   clear hp0 HRR;go_wp2_with (refine ld 35 _ rfl rfl rfl HE2.out Tryz.underlying35 rfl HEL.out ?_)
   refine(o7 g q w2 hq hg).mono ?_;rintro e w3 ⟨rfl,hb3⟩;have HB3:Hid (Below w.heap.size w w3):=jz (aB HB2.out hb3);have HX3:Hid (Blk w3 w.heap.size 106 #[.int .i64 f,.int .i64 z]):=jz (HX2.keep hb3);have HK3:=jz (HK2.keep hb3);have hlt3:w.heap.size<w3.heap.size:=HX3.lt;clear hb3;obtain⟨S,hS⟩:=je ((if aS q then aD g q else zsec));rw[← hS] at HPZ HSP ⊢;have HS1:=jz (cS S);cases hrq:aS q with
   | false=>
    have HF:Hid (putA d f z p g q=some (15,none)∧putD d f z p g q=d):=jz (by rw[HF0.out.1,HF0.out.2,hrq];exact⟨rfl,rfl⟩);clear hrq hS HF0;go_wp2_with (first
     | (refine al 144 z64 rfl rfl cK ?_)
     | (refine cR 144 (.tmp 11) (.tmp 27) rfl rfl rfl rfl HPZ.out.1 HPZ.out.2 HS1.out ?_;intro w4 hK hb4 hz4;have HB4:=jz hb4;clear hK hb4 hz4))
    go_ret;exact⟨by rw[HF.out.1];rfl,m,by rw[HF.out.2];exact HK3.keep HB4.out,DT.of_below (HB3.trans (HB4.mono HB3.size))⟩
   | true=>
    rw[hrq] at hS HF0;replace hS:S=aD g q:=hS;replace HF0:Hid (putA d f z p g q=wsA d (f+p) (aD g q)∧putD d f z p g q=wsD d (f+p) (aD g q)):=HF0;rw[← hS] at HF0;clear hrq hS;have hcb:∀ w4,Below w3.heap.size w3 w4→w4.cell? ⟨w.heap.size,0,none⟩=some (.int .i64 f):=fun w4 hb=>(HX3.keep hb).cell 0
    have HCB:=jz hcb;have HUS:Hid ((Tryz.prog.info? 144).map (·.size)=some (u8s S).length):=jz (by rw[aG HSP.out];kernel_rfl);clear hcb;go_wp2_with (first
     | (refine al 144 z64 rfl rfl cK ?_)
     | (refine cR 144 (.tmp 11) (.tmp 27) rfl rfl rfl rfl HPZ.out.1 HPZ.out.2 HS1.out ?_;intro w4 hK hb4 hz4;have HB4:=jz hb4;have HR4:Hid (w4.rangeAt w3.heap.size 0 (u8s S)):=jz (by have:=Blk.range (show Blk w4 w3.heap.size 144 (u8s S).toArray from hK);rw[jt] at this;exact this);have hc4:=HCB.out w4 hb4;clear hK hb4 hz4)
     | (refine ld 144 _ rfl rfl rfl HR4.out Tryz.underlying144 rfl HUS.out ?_))
    have HK4:=jz (HK3.keep HB4.out);have HB40:Hid (Below w.heap.size w w4):=jz (HB3.trans (HB4.mono HB3.size));refine(mI (f+p) S w4 m d HK4.out ⟨by omega,by omega⟩ HSP.out (by omega)).mono ?_;rintro e w5 ⟨rfl,m5,hdk,hdt⟩;rw[mJ];have HDT:Hid (DT w m w5 m5):=jz ((DT.of_below HB40.out).trans hdt);have HDK:=jz hdk;have HRM:Hid ((writeD d (f+p) S).room≤d.room+2):=jz (kU hst (f+p) _);clear hdk hdt hc4;have hg3:m5.g=m.g:=HDT.g;cases ha:writeA d (f+p) with
    | some x=>
     have HF:Hid (putA d f z p g q=some x∧putD d f z p g q=writeD d (f+p) S):=jz (by rw[HF0.out.1,HF0.out.2];unfold wsA wsD;rw[ha];exact⟨rfl,rfl⟩);obtain⟨t,u,hv⟩:=cV x;rw[hv];have HV:=jz hv;have hne:=dS t u;clear ha hv;go_wp2_with fail
     go_ret;exact⟨by rw[HF.out.1,HV.out];rfl,m5,by rw[HF.out.2];exact HDK.out,HDT.out⟩
    | none=>
     have HF:Hid (putA d f z p g q=syncA (writeD d (f+p) S)∧putD d f z p g q=syncS (writeD d (f+p) S)):=jz (by rw[HF0.out.1,HF0.out.2];unfold wsA wsD;rw[ha];exact⟨rfl,rfl⟩);have hv:cC none = .nilIface:=rfl;rw[hv];clear ha;go_wp2_with fail
     rw[← hg3];refine(lH w5 m5 _ HDK.out (by have:=HRM.out;omega)).mono ?_;rintro e w6 ⟨rfl,m6,hdk4,hdt4⟩;have HD4:=jz hdk4;have HT4:Hid (DT w m w6 m6):=jz (HDT.trans hdt4);clear hdk4 hdt4;go_wp2_with fail
     go_ret;exact⟨by rw[HF.out.1,← lJ];rfl,m6,by rw[HF.out.2];exact HD4.out,HT4.out⟩
end
end Go.Proofs.YtombncedfleljaaGreat
