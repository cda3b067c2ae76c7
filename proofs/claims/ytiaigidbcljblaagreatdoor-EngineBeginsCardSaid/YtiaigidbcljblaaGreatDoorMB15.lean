import Derived.Test.YtiaigidbcljblaaGreatDoorMB9
import Derived.Test.YtiaigidbcljblaaGreatDoorMB10
set_option linter.unusedSimpArgs false
set_option maxRecDepth 100000
set_option maxHeartbeats 40000000
namespace Go.Proofs.YtiaigidbcljblaaGreatDoor
open Go.Proofs.Tryz
section
open Go.RowKit
attribute [local irreducible] wpQuiet wpAnyH
def zE:Wa:=(aN (List.replicate 32 0,0)).toArray
theorem sG:∀ w,(zeroValue 172).run prog w = .ok (.agg zE) w:=λw=>by unfold zE;kernel_rfl
theorem F6:prog.built 172 []=some zE:=by unfold zE;kernel_rfl
theorem lC:zE.size=33:=by simp[zE,aN,cR,u8s]
theorem O1:zE.all (·.oneCell')=true:=iI _ _
def pD(s:Wl):Option (Nat×(Wl×Int)):=match prs s with
 | none=>none
 | some (g,p)=>if p.length=40/\beN (p.drop 32)<=4611686018427387904 then some (g,(p.take 32,(beN (p.drop 32):Int))) else none
theorem TK{s:Wl}{g:Nat}{p:Wl}(h:prs s=some (g,p)):p.length<=54:=by
 unfold prs at h;split at h
 ·cases h
 ·rename_i j;split at h
  ·cases h
  ·split at h
   ·cases h
   ·injection h with h
    injection h with _ h
    rw[<- h,jv];omega
theorem eH{P:Program}{w:Wd}{fn:Func}{p u x:Tmp}{ty:TypeId}(h:fn.results=#[.tmp u,.cell p ty,.tmp x])(tmps:Wa){b off:Nat}{cs:Wv}{d:TypeDesc}(D:tmps.getD p undef = .pointer (some ⟨b,off,none⟩))(j:w.rangeAt b off cs)
  (I:P.underlying ty=some d) (hd:d.isRow=true) (hi:(P.info? ty).map (·.size)=some cs.length):(results fn tmps).run P w = .ok (.tuple #[tmps.getD u undef,.agg cs.toArray,tmps.getD x undef]) w:=by
 have h1:tmps[p]?.getD undef = .pointer (some ⟨b,off,none⟩):=by simpa using D
 simp[results,h,h1,asAddr,Sem.run_bind,Result.andThen,run_loadVar_mid w b off ty cs d j I hd hi]
theorem KZ(r:Nat)(v:Value)(p:Wl)(w:Wd)(h:RD w r v p false)(V:p.length<=1000000):
  Wc 223 #[.pointer (some ⟨r,0,none⟩),.int .i64 32] w λe w'=>Off r w w'/\∃ x v' I R bad,e = .returned x/\I.length<=32/\Sn w' 1 x I.length (u8s I)/\RD w' r v' R bad/\(∀ b,v'.ownBlock=some b->v.ownBlock=some b) /\
   ((bad=false/\32<=p.length/\I=p.take 32/\R=p.drop 32)\/(bad=true/\p.length<32/\I=[]/\R=[])):=by
 refine(CC r v p false 32 w h V (by omega)).mono ?_;rintro e Z ⟨U,⟨_,J,x,v',rfl,hs,K,O⟩|⟨j,rfl,K⟩⟩
 ·have D:(p.take 32).length=32:=by rw[jv];omega
  exact⟨U,x,v',p.take 32,p.drop 32,false,rfl,by omega,by rw[D];exact hs,K,O,.inl ⟨rfl,J,rfl,rfl⟩⟩
 ·refine⟨U,_,_,[],[],true,rfl,by simp,⟨none,0,rfl,ja _,rfl,λh=>absurd h (by simp)⟩,K,(λb e=>by cases e),.inr ⟨rfl,?_,rfl,rfl⟩⟩;rcases j with h|h
  ·cases h
  ·exact h
theorem TL(r:Nat)(v:Value)(D:Wl)(bad:Bool)(w:Wd)(h:RD w r v D bad)(hb:Bys D)(R:D.length<=1000000):
  Wc 159 #[.pointer (some ⟨r,0,none⟩),.int .i64 8] w λe w'=>Off r w w'/\∃(N:Nat) (v':Value) (zs:Wl) (j:Bool),e = .returned (.int .u64 N)/\N<18446744073709551616/\RD w' r v' zs j /\
   ((bad=false/\8<=D.length/\j=false/\N=beN (D.take 8)/\zs=D.drop 8)\/((bad=true\/D.length<8)/\j=true)):=by
 refine(gP r v D bad 8 w h hb R (by omega) (by omega)).mono ?_;rintro e U ⟨O,⟨x,K,v',rfl,I⟩|⟨x,rfl,I⟩⟩
 ·refine⟨O,_,v',_,false,rfl,?_,I,.inl ⟨x,K,rfl,rfl,rfl⟩⟩;have:=mX (D.take 8) (λb J=>hb b (j7 J));rw[jv,Nat.min_eq_left K] at this;exact this
 ·exact⟨O,0,_,_,true,rfl,by omega,I,.inr ⟨x,rfl⟩⟩
def K0(xs:Wl):Wa:=((u8s xs).zipIdx 0).foldl (fun(cs:Wa) (x:Value×Nat)=>cs.setIfInBounds x.2 x.1) zE
theorem K2(j:Wl):(K0 j).size=33:=by
 have key:∀(l:List (Value×Nat)) (cs:Wa),(l.foldl (fun(cs:Wa) (x:Value×Nat)=>cs.setIfInBounds x.2 x.1) cs).size=cs.size:=by
  intro l;induction l with
  | nil=>intro cs;rfl
  | cons x l ih=>intro cs;rw[List.foldl_cons,ih,Array.size_setIfInBounds]
 unfold K0;rw[key,lC]
theorem O2(j:Wl)(t:Int)(h:j.length=32):(K0 j).setIfInBounds 32 (.int .i64 t)=(cR j t).toArray:=yA j t h zE lC
theorem RD.off{w w':Wd}{r g:Nat}{v:Value}{I:Wl}{bad:Bool}(h:RD w r v I bad)(D:Off g w w')(U:r≠g)(V:∀ b,v.ownBlock=some b->b≠g):RD w' r v I bad:=by
 refine⟨D.blk h.1 U,?_⟩;obtain⟨A,cap,rfl,J,O,Z⟩:=h.2;refine⟨A,cap,rfl,J,O,λR=>?_⟩;obtain⟨b,off,rfl,x⟩:=Z R;exact⟨b,off,rfl,λj u K=>D.cell (x j u K) (V b rfl)⟩
theorem pV(s:Wl)(w:Wd)(hl:s.length=64)(hb:Bys s):
  Wc 311 #[.agg (u8s s).toArray] w λe w'=>Bw w w' /\
   ((pD s=none/\e = .returned (.tuple #[.int .u32 0,.agg zE,.bool false]))\/(∃ g q,pD s=some (g,q)/\e = .returned (.tuple #[.int .u32 g,.agg (aN q).toArray,.bool true]))):=by
 have r5:(u8s s).length=64:=by rw[aI,hl]
 have HZ:Hid ((prog.info? 172).map (·.size)=some zE.size/\zE.all (·.oneCell')=true):=jz ⟨by rw[lC];kernel_rfl,O1⟩;obtain⟨wa,V⟩:=je (w.alloc (.cells (u8s s).toArray 243));obtain⟨O,a7⟩:=je wa.heap.size;obtain⟨w1,a4⟩:=je (wa.alloc (.cells zE 172));have g3:Blk w1 w.heap.size 243 (u8s s).toArray:=by rw[a4,V];exact(Blk.new _ _ _).alloc _
 have e1:=g3.range;rw[jt] at e1;have n6:=jz e1;have c5:Hid (Blk w1 O 172 zE):=jz (by rw[a4,a7];exact Blk.new _ _ _);have b7:Hid (Bw w w1):=jz (by rw[a4,V];exact((ji _ w).alloc (ja _) _).alloc (by simp) _);have HGE:Hid (w.heap.size<=O):=jz (by rw[a7,V];simp);clear g3 e1;go_enter func311,ntmps311
 go_upto_region 1 with (refine al 172 zE rfl rfl sG ?_)
 rw[<- V,<- a4,show w.heap.size+1=O by rw[a7,V];simp];clear V a4 a7;go_wp2_with (refine ld 243 _ rfl rfl rfl n6 underlying243 rfl (by rw[r5];kernel_rfl) ?_)
 refine(sC s w1 hl hb).mono ?_;rintro e w2 ⟨K,⟨hn,rfl⟩|⟨g,p,v,hp,rfl,hs⟩⟩
 ·have m5:=jz (c5.keep K);have m2:Hid (Bw w w2):=jz (aA b7 K);have HN:Hid (pD s=none):=jz (by unfold pD;rw[hn]);clear hn K;go_wp2_with (first
   | (refine bld 172 #[] rfl rfl rfl F6 ?_)
   | (refine aO 172 (.tmp 3) (.tmp 19) rfl rfl rfl rfl m5 HZ.out.1 rfl HZ.out.2 ?_;intro w3 g8 h6 _ _;have c2:=jz g8;have c9:=jz h6;clear g8 h6))
  have hr:=c2.range;exact bodyPost_ret (eH rfl _ rfl hr underlying172 rfl (by rw[jk];exact HZ.out.1)) rfl ⟨m2.trans (c9.mono HGE),.inl ⟨HN,rfl⟩⟩
 ·obtain⟨j,e0⟩:=je w2.heap.size;obtain⟨w3,U⟩:=je (w2.alloc (.cells zE 172));have c2:Hid (Bw w w3):=jz (by rw[U];exact(aA b7 K).alloc (aA b7 K).size _);have c9:Hid (Blk w3 O 172 zE):=jz (by rw[U];exact(c5.keep K).alloc _);have f5:Hid (Blk w3 j 172 zE):=jz (by rw[U,e0];exact Blk.new _ _ _);have q5:Hid (Sn w3 1 v p.length (u8s p)):=jz (by rw[U];exact hs.alloc _);have t2:O<j:=by have h1:=c5.lt;have h2:=K.size;omega
  have s5:j<w3.heap.size:=f5.lt;have HP:=jz hp;have n3:=jz (AA hb hp);have t3:p.length<=54:=TK hp;clear hp hs K;go_upto_region 5 with (refine al 172 zE rfl rfl sG ?_)
  rw[<- U,<- e0];clear U e0;go_wp2_with fail
  refine(x8 _ p w3 q5 (by omega)).mono ?_;rintro e w4 ⟨r,v4,rfl,h3,hfr,r3,a2⟩;have f0:Hid (Bw w w4.drew):=jz (aA c2 a2).drew;have m6:Hid (Blk w4.drew O 172 zE):=jz (c9.keep a2.drew);have q7:Hid (Blk w4.drew j 172 zE):=jz (f5.keep a2.drew);have q0:Hid (RD w4.drew r v4 p false):=jz h3;have n0:=jz hfr;have s4:j<r:=by omega
  have s1:=jz a2.size;clear h3 hfr r3 a2;go_upto_region 6 with fail
  refine bP 5 (λ_=>True) (by kernel_rfl) (by kernel_rfl) (trivial) (λhH=>?_);refine jT 0 (.fieldAddr 172 (.tmp 8) 0) (some 22) (.pointer (some ⟨j,0,none⟩)) hH ?_;simp only[jq];refine jT 1 (.slice 26 (.tmp 22) none none none) (some 23) (.slice (some ⟨j,0,none⟩) 32 32) hH ?_;simp only[jq];refine jM 2 (.tmp 9) (some 24) (.pointer (some ⟨r,0,none⟩)) hH ?_;simp only[jq];refine jW [3] ?_;refine jC 3 (.call { callee:=.value (.func 223),args:=#[.tmp 24,.const (.int .i64 32)],argTypes:=#[276,3] }) (some 25) 223 (#[.pointer (some ⟨r,0,none⟩),.int .i64 32]) ?_ jN;refine(KZ r v4 p w4.drew q0 (by omega)).mono ?_;rintro e w5 ⟨a8,x,v5,I,ys,bad,rfl,r6,k2,h4,k1,h9⟩;have m3:Hid (Bw w w5):=jz (f0.trans (a8.below (by have:=HGE.out;omega) f0.size));have m8:Hid (Blk w5 O 172 zE):=jz (a8.blk m6 (by omega));have f6:Hid (Blk w5 j 172 zE):=jz (a8.blk q7 (by omega));have q1:=jz h4;have n2:=jz k1;have a0:=jz h9;have q6:=jz k2;have f9:Hid (w5.there j 0 I.length):=jz (cA f6 (by rw[lC];omega));clear h4 k1 h9 k2 a8;refine⟨_,rfl,trivial,λhH=>?_⟩;simp only[jq];refine jW [4] ?_;refine VQ 4 (dT:=68) (sT:=68) (elem:=5) (.tmp 23) (.tmp 25) (some 26) (by kernel_rfl) (by kernel_rfl) (by exact rfl) (by exact rfl) underlying68 (by kernel_rfl) q6 r6 f9 (bR _) trivial ?_ jN;simp only[jq];refine wpAnyH_done (by kernel_rfl) ?_ _;clear hH;have c3:Hid (Bw w (w5.setCells j 0 (u8s I))):=jz (m3.trans (aS (by have:=HGE.out;omega) _ _ _).1);obtain⟨w6,a5⟩:=je (w5.setCells j 0 (u8s I));have m9:Hid (Blk w6 O 172 zE):=jz (by rw[a5];exact(b9 j _ 0 w5).blk m8 (by omega));have r0:Hid (Blk w6 j 172 (K0 I)):=jz (by rw[a5];exact dJ _ _ _ _ f6);have q2:Hid (RD w6 r v5 ys bad):=jz (by rw[a5];exact q1.off (b9 j _ 0 w5) (by omega) (λb e=>by have:=n0.out b (n2 b e);omega));rw[<- a5] at c3 ⊢;have r1:Hid (Bys ys):=jz (by
   rcases a0 with ⟨_,_,_,e⟩|⟨_,_,_,e⟩
   ·rw[e];exact λb hb=>n3.out b (List.mem_of_mem_drop hb)
   ·rw[e];exact λb hb=>by cases hb)
  have r7:ys.length<=1000000:=by
   rcases a0 with ⟨_,_,_,e⟩|⟨_,_,_,e⟩
   ·rw[e,List.length_drop];omega
   ·rw[e];simp
  clear a5;go_wp2_with fail
  refine(TL r v5 ys bad w6 q2 r1 r7).mono ?_;rintro e w7 ⟨a9,N,v7,zs,R,rfl,hN,h5,b1⟩;have a6:Hid (Bw w w7):=jz (c3.trans (a9.below (by have:=HGE.out;omega) c3.size));have HE7:Hid (Blk w7 O 172 zE):=jz (a9.blk m9 (by omega));have d2:Hid (Blk w7 j 172 (K0 I)):=jz (a9.blk r0 (by omega));have q3:=jz h5;have c6:=jz b1;clear a9 h5 b1;go_wp2_with fail
  refine(IZ r v7 zs R w7 q3).mono ?_;rintro e w8 ⟨rfl,rfl⟩;obtain⟨D,hD⟩:=je ((!R && decide (zs.length=0)));rw[<- hD];have HD:=jz hD;clear hD;have c7:Hid (D=true->I=p.take 32/\p.length=40/\N=beN (p.drop 32)):=jz (λe=>by
   have h:=HD.out
   rw[e] at h
   have h1:R=false:=by
    revert h
    cases R
    ·intro _;rfl
    ·intro h;simp at h
   have h2:zs.length=0:=by rw[h1] at h;simpa using h.symm
   rcases c6 with ⟨d7,h8,_,h0,hz⟩|⟨_,J⟩
   ·rcases a0 with ⟨_,g2,m1,Z⟩|⟨J,_⟩
    ·rw[hz,Z,List.length_drop,List.length_drop] at h2
     rw[Z,List.length_drop] at h8
     refine⟨m1,by omega,?_⟩
     rw[h0,Z,List.take_of_length_le (by rw[List.length_drop];omega)]
    ·rw[d7] at J;cases J
   ·rw[h1] at J;cases J)
  have f3:Hid (D=false->pD s=none):=jz (λe=>by
   unfold pD
   rw[HP.out]
   simp only
   rw[jQ]
   rintro⟨h40,_⟩
   have h:=HD.out
   rw[e] at h
   rcases a0 with ⟨d7,g2,m1,Z⟩|⟨_,g2,_⟩
   ·rcases c6 with ⟨_,h8,r2,h0,hz⟩|⟨J,_⟩
    ·rw[r2,hz,Z,List.length_drop,List.length_drop,h40] at h
     simp at h
    ·rw[d7,Z,List.length_drop,h40] at J
     simp at J
   ·omega)
  clear HD c6 a0;cases D with
  | false=>
   go_wp2_with (first
    | (refine bld 172 #[] rfl rfl rfl F6 ?_)
    | (refine aO 172 (.tmp 3) (.tmp 36) rfl rfl rfl rfl HE7 HZ.out.1 rfl HZ.out.2 ?_;intro w9 a1 a3 _ _;have c4:=jz a1;have d0:=jz a3;clear a1 a3))
   have hr:=c4.range;exact bodyPost_ret (eH rfl _ rfl hr underlying172 rfl (by rw[jk];exact HZ.out.1)) rfl ⟨a6.trans (d0.mono HGE),.inl ⟨f3 (by simp),rfl⟩⟩
  | true=>
   rcases jb (decide ((4611686018427387904:Int)<(N:Int))) with t1|t1
   ·have n1:Hid (pD s=none):=jz (by
     unfold pD
     rw[HP.out]
     simp only
     rw[jQ]
     rintro⟨_,h⟩
     have:=of_decide_eq_true t1
     have:=(c7.out rfl).2.2
     omega)
    go_wp2_with (first
     | (refine bld 172 #[] rfl rfl rfl F6 ?_)
     | (refine aO 172 (.tmp 3) (.tmp 36) rfl rfl rfl rfl HE7 HZ.out.1 rfl HZ.out.2 ?_;intro w9 a1 a3 _ _;have c4:=jz a1;have d0:=jz a3;clear a1 a3))
    have hr:=c4.range;exact bodyPost_ret (eH rfl _ rfl hr underlying172 rfl (by rw[jk];exact HZ.out.1)) rfl ⟨a6.trans (d0.mono HGE),.inl ⟨n1,rfl⟩⟩
   ·have s0:(N:Int)<=4611686018427387904:=by have:=of_decide_eq_false t1;omega
    have s3:(0:Int)<=N:=by omega
    have t0:IntKind.i64.wrap (N:Int)=(N:Int):=IntWalk.i64_in _ (by omega);have g1:Hid (I.length=32):=jz (by have:=c7.out rfl;rw[this.1,jv];omega);have n4:Hid (pD s=some (g,(I,(N:Int)))):=jz (by
     have h:=c7.out rfl
     unfold pD
     rw[HP.out]
     simp only
     rw[jP ⟨h.2.1,by rw[<- h.2.2];omega⟩,<- h.1,<- h.2.2])
    have h7:w7.cell? ⟨j,32,none⟩=some ((K0 I)[32]'(by rw[K2];omega)):=by rw[d2.cell 32];exact Array.getElem?_eq_getElem _
    have k0:=d2.frozen 32;clear f3;go_upto_region 11 with fail
    have f1:Hid (Bw w (w7.setCell ⟨j,32,none⟩ (.int .i64 (N:Int))).drew):=jz ((a6.trans ((Off.refl j w7).set 32 _ |>.below (by have:=HGE.out;omega) a6.size)).drew);have f4:Hid (Blk (w7.setCell ⟨j,32,none⟩ (.int .i64 (N:Int))).drew O 172 zE):=jz (((Off.refl j w7).set 32 _).blk HE7 (by omega));have f7:Hid (Blk (w7.setCell ⟨j,32,none⟩ (.int .i64 (N:Int))).drew j 172 (cR I N).toArray):=jz (by have:=d2.set_ 32 (.int .i64 (N:Int));rw[O2 _ _ g1.out] at this;exact this);obtain⟨w8,k3⟩:=je (w7.setCell ⟨j,32,none⟩ (.int .i64 (N:Int)));rw[<- k3] at f1 f4 f7 ⊢;have d5:(cR I (N:Int)).length=33:=by simp[cR,aI,g1.out]
    have d1:Hid ((prog.info? 172).map (·.size)=some (cR I (N:Int)).length):=jz (by rw[d5];kernel_rfl);have m4:Hid (∀ u∈cR I (N:Int),u.oneCell'=true):=jz (λu hu=>by
     simp only[cR,ju,List.mem_singleton] at hu
     rcases hu with hu|rfl
     ·exact bR _ u hu
     ·rfl)
    have g0:Hid (w8.drew.rangeAt j 0 (cR I (N:Int))):=jz (by have:=f7.range;rw[jt] at this;exact this);have f8:Hid (w8.drew.there O 0 (cR I (N:Int)).length):=jz (cA f4 (by rw[d5,lC];exact ja _));have b0:Hid ((w8.drew.setCells O 0 (cR I (N:Int))).rangeAt j 0 (cR I (N:Int))):=jz (λi u hi=>(World.cell?_of_block (a:=⟨j,0+i,none⟩) (bB (show j≠O by omega) _ _ _)).trans (g0 i u hi));clear k3 h7 k0 d5;refine bP 5 (λw'=>w'.rangeAt j 0 (cR I (N:Int))) (by kernel_rfl) (by kernel_rfl) (g0) (λhH=>?_);refine jM 0 (.tmp 5) (some 40) (.int .u32 g) hH ?_;simp only[jq];refine jL 1 172 (.tmp 8) (some 41) (cs:=cR I (N:Int)) (λ_ hX=>hX) underlying172 rfl d1 hH ?_;simp only[jq];refine jT 2 (.assign (.tmp 40)) (some 2) (.int .u32 g) hH ?_;simp only[jq];refine jW [3] ?_;refine jR 3 172 (.tmp 3) (.tmp 41) none (cs:=cR I (N:Int)) f8 d1 m4 b0 ?_ jN;simp only[jq];replace hH:=b0.out;refine jT 4 (.assign (.const (.bool true))) (some 4) (.bool true) hH ?_;simp only[jq];refine wpAnyH_done (by kernel_rfl) ?_ _;clear hH;have e8:=World.rangeAt_setCells_same w8.drew O 0 (cR I (N:Int)) f8.out;have f2:Hid (Bw w (w8.drew.setCells O 0 (cR I (N:Int)))):=jz (f1.trans (aS HGE _ _ _).1);obtain⟨w9,k4⟩:=je (w8.drew.setCells O 0 (cR I (N:Int)));rw[<- k4] at e8 f2 ⊢;clear k4;have q4:=jz e8;clear e8;go_wp2_with fail
    exact bodyPost_ret (eH rfl _ rfl q4 underlying172 rfl d1) rfl ⟨f2,.inr ⟨g,_,n4,rfl⟩⟩
def wsD(d:DiskD)(a:Int)(s:Wl):DiskD:=match fN d a with|some _=>bG d a s|none=>cG (bG d a s)
def wsA(d:DiskD)(a:Int)(s:Wl):Ans:=match fN d a with|some x=>some x|none=>jX (bG d a s)
theorem pW{d:DiskD}(h:d.steps<=d.room):(aW d).room<=d.room+1:=by show max d.room (d.steps+1)<=d.room+1;omega
theorem nI{d:DiskD}(h:d.steps<=d.room)(a:Int)(s:Wl):(bG d a s).room<=d.room+2:=by
 have h1:=pW h;have j:=FN (aW d) a s;unfold bG;split
 ·omega
 ·split
  ·show(jV (aW d) a s).room<=_;omega
  ·split <;> omega
theorem JN(g:Nat)(p:Wl)(hb:Bys p):Bys (rec g p):=λb h=>by
 unfold rec at h;rcases List.mem_append.1 h with h|h
 ·exact CJ hb b (j7 h)
 ·rcases List.mem_append.1 h with h|h
  ·exact iZ _ _ b h
  ·exact iZ _ _ b h
theorem cV(t:TypeId)(u:Value)(w:Wd):(binOp .neq 42 (.iface t u) .nilIface).run prog w = .ok (.bool true) w:=by kernel_rfl
theorem sH(f z:Int)(g:Nat)(w:Wd)(m:DiskM)(d:DiskD)(h:DK w m d)(hf:aD f)(hg:g<4294967296)(hr:d.room+3<=100000):
  Wc 205 #[.pointer (some ⟨m.g,0,none⟩),.agg #[.int .i64 f,.int .i64 z],.int .u32 g] w λe w'=>e = .returned (bK (wsA d f (rec g toll)))/\∃ m',DK w' m' (wsD d f (rec g toll))/\DT w m w' m':=by
 have O:Bw w (w.alloc (.cells #[.int .i64 f,.int .i64 z] 324)):=(ji _ w).alloc (ja _) _;obtain⟨w1,j⟩:=je (w.alloc (.cells #[.int .i64 f,.int .i64 z] 324));have a5:Hid (DK w1.drew m d):=jz (by rw[j];exact(h.keep O).drew);have a1:Hid (Bw w w1.drew):=jz (by rw[j];exact O.drew);have a3:Hid (w1.drew.cell? ⟨w.heap.size,0,none⟩=some (.int .i64 f)):=jz (by rw[j];exact(Blk.new w _ #[.int .i64 f,.int .i64 z]).cell 0);have a7:=jz (h.notFoot (ja w.heap.size));have a9:Hid (Sec (rec g toll)):=jz ⟨jO g toll (by decide),JN g toll CQ⟩;have b7:=h.ok.st;clear h O;go_enter func205,ntmps205
 go_upto_region 1 with fail
 rw[<- j];clear j;refine bP 7 (λw'=>w'.cell? ⟨w.heap.size,0,none⟩=some (.int .i64 f)) (by kernel_rfl) (by kernel_rfl) (a3) (λD=>?_);refine jM 0 (.tmp 0) (some 8) (.pointer (some ⟨m.g,0,none⟩)) D ?_;simp only[jq];refine jT 1 (.fieldAddr 324 (.tmp 4) 0) (some 9) (.pointer (some ⟨w.heap.size,0,none⟩)) D ?_;simp only[jq];refine jT 2 (.load 3 (.tmp 9)) (some 10) (.int .i64 f) D ?_;simp only[jq];refine jM 3 (.tmp 2) (some 11) (.int .u32 g) D ?_;simp only[jq];refine jW [4] ?_;refine jC 4 (.call { callee:=.value (.func 265),args:=#[.tmp 11],argTypes:=#[51] }) (some 12) 265 (#[.int .u32 g]) ?_ jN;refine(z7 g w1.drew hg).mono ?_;rintro e w2 ⟨rfl,R⟩;have a6:=jz (a5.keep R);have a2:Hid (Bw w w2):=jz (aA a1 R);refine⟨_,rfl,j9 R D,λD=>?_⟩;simp only[jq];refine jW [5] ?_;refine jC 5 (.call { callee:=.value (.func 264),args:=#[.tmp 8,.tmp 10,.tmp 12],argTypes:=#[78,3,243] }) (some 13) 264 (#[.pointer (some ⟨m.g,0,none⟩),.int .i64 f,.agg (u8s (rec g toll)).toArray]) ?_ jN;refine(o7 f (rec g toll) w2 m d a6 hf a9 (by omega)).mono ?_;rintro e w3 ⟨rfl,m3,a0,U⟩;rw[o9];refine⟨_,rfl,U.fo.cell D a7,λD=>?_⟩;simp only[jq];refine jT 6 (.assign (.tmp 13)) (some 7) (bK (fN d f)) D ?_;simp only[jq];refine wpAnyH_done (by kernel_rfl) ?_ _;clear D;have K:Hid (DT w m w3 m3):=jz ((DT.of_below a2).trans U);have V:=jz a0;have a8:Hid ((bG d f (rec g toll)).room<=d.room+2):=jz (nI b7 f _);clear a0 U;have b1:m3.g=m.g:=K.g;cases ha:fN d f with
 | some x=>
  have Z:Hid (wsA d f (rec g toll)=some x/\wsD d f (rec g toll)=bG d f (rec g toll)):=jz (by unfold wsA wsD;rw[ha];exact⟨rfl,rfl⟩);obtain⟨t,u,hv⟩:=bU x;rw[hv];have HV:=jz hv;have c2:=cV t u;clear ha hv;go_wp2_with fail
  go_ret;exact⟨by rw[Z.out.1,HV.out];rfl,m3,by rw[Z.out.2];exact V,K⟩
 | none=>
  have Z:Hid (wsA d f (rec g toll)=jX (bG d f (rec g toll))/\wsD d f (rec g toll)=cG (bG d f (rec g toll))):=jz (by unfold wsA wsD;rw[ha];exact⟨rfl,rfl⟩);have hv:bK none = .nilIface:=rfl;rw[hv];clear ha;go_wp2_with fail
  rw[<- b1];refine(n9 w3 m3 _ V (by have:=a8.out;omega)).mono ?_;rintro e w4 ⟨rfl,m4,I,J⟩;have a4:=jz I;have b0:Hid (DT w m w4 m4):=jz (K.trans J);clear I J;go_wp2_with fail
  go_ret;exact⟨by rw[Z.out.1,<- oA];rfl,m4,by rw[Z.out.2];exact a4,b0⟩
def oN(d:DiskD)(f z p:Int)(g:Nat)(q:Wl×Int):DiskD:=if p<1 then d else if room z<p then d else if cO q then wsD d (f+p) (cP g q) else d
def mT(d:DiskD)(f z p:Int)(g:Nat)(q:Wl×Int):Ans:=if p<1 then some (13,none) else if room z<p then some (13,none) else if cO q then wsA d (f+p) (cP g q) else some (15,none)
theorem mE(g:Nat){q:Wl×Int}(j:EntOk q):Sec (cP g q):=by
 have x:(q.1++beB 8 q.2.toNat).length=40:=by rw[jj,bQ,j.dig.len]
 refine⟨jO g _ (by rw[x];omega),JN g _ λb hb=>?_⟩;rcases List.mem_append.1 hb with hb|hb
 ·exact j.dig.byte b hb
 ·exact iZ _ _ b hb
theorem DB(g:Nat){q:Wl×Int}(j:EntOk q):Sec (if cO q then cP g q else zsec):=by
 split
 ·exact mE g j
 ·exact iJ
theorem O3(f z p:Int)(g:Nat)(q:Wl×Int)(w:Wd)(m:DiskM)(d:DiskD)(h:DK w m d)(hf:0<=f/\f<=100000)(hz:aD z/\z<=100000)(hp:aD p)(hg:g<4294967296)(hq:EntOk q)(hr:d.room+3<=100000):
  Wc 277 #[.pointer (some ⟨m.g,0,none⟩),.agg #[.int .i64 f,.int .i64 z],.int .i64 p,.int .u32 g,.agg (aN q).toArray] w λe w'=>e = .returned (bK (mT d f z p g q))/\∃ m',DK w' m' (oN d f z p g q)/\DT w m w' m':=by
 have a6:Bw w ((w.alloc (.cells #[.int .i64 f,.int .i64 z] 324)).alloc (.cells (aN q).toArray 172)):=((ji _ w).alloc (ja _) _).alloc (by simp) _;obtain⟨w1,D⟩:=je ((w.alloc (.cells #[.int .i64 f,.int .i64 z] 324)).alloc (.cells (aN q).toArray 172));have b7:Hid (DK w1 m d):=jz (by rw[D];exact h.keep a6);have a8:Hid (Bw w w1):=jz (by rw[D];exact a6);have c5:Hid (Blk w1 w.heap.size 324 #[.int .i64 f,.int .i64 z]):=jz (by rw[D];exact(Blk.new w _ _).alloc _);have f0:Hid (w1.rangeAt w.heap.size 0 [.int .i64 f,.int .i64 z]):=jz (by have:=c5.range;exact this);have d7:Hid (Blk w1 (w.heap.size+1) 172 (aN q).toArray):=jz (by rw[D];exact Blk.newAt _ _ _ _ (by simp));have g1:=jz (h.notFoot (ja w.heap.size));have g2:Hid (Sec (cP g q)):=jz (mE g hq);have U:=jz (DB g hq);have e1:Hid ((prog.info? 172).map (·.size)=some (aN q).length):=jz (by rw[aZ q hq];kernel_rfl);have O:Hid ((prog.info? 243).map (·.size)=some (u8s (if cO q then cP g q else zsec)).toArray.size/\z64.size=(u8s (if cO q then cP g q else zsec)).toArray.size):=jz ⟨by rw[js,aF U.out];kernel_rfl,by rw[cS,js,aF U.out]⟩;have f9:=h.ok.st;have g3:0<=f:=hf.1;have g8:f<=100000:=hf.2;have h2 : -9223372036854775808<=p:=hp.1;have h3:p<=9223372036854775807:=hp.2;have f8:room z<=100000:=by unfold room;split <;> omega
 clear h a6 hf hp;rcases jb (decide (p<1)) with t1|t1
 ·have I:Hid (mT d f z p g q=some (13,none)/\oN d f z p g q=d):=jz (by unfold mT oN;rw[jP (of_decide_eq_true t1),jP (of_decide_eq_true t1)];exact⟨rfl,rfl⟩);go_enter func277,ntmps277
  go_upto_region 1 with fail
  rw[<- D];clear D;go_wp2_with fail
  go_ret;exact⟨by rw[I.out.1];rfl,m,by rw[I.out.2];exact b7,DT.of_below a8⟩
 ·have d1:¬p<1:=of_decide_eq_false t1;go_enter func277,ntmps277
  go_upto_region 1 with fail
  rw[<- D];clear D;go_wp2_with (refine ld 324 _ rfl rfl rfl f0 underlying324 rfl (by kernel_rfl) ?_)
  refine(qZ f z w1 hz.1).mono ?_;rintro e w2 ⟨rfl,V⟩;have a9:Hid (Bw w w2):=jz (aA a8 V);have f5:Hid (Blk w2 w.heap.size 324 #[.int .i64 f,.int .i64 z]):=jz (c5.keep V);have e0:Hid (w2.rangeAt (w.heap.size+1) 0 (aN q)):=jz (by have:=(d7.keep V).range;rw[jt] at this;exact this);have c2:=jz (b7.keep V);obtain⟨R,hR⟩:=je (room z);have a5:=jz hR;rw[<- hR] at f8 ⊢;clear V hR;rcases jb (decide (R<p)) with t2|t2
  ·have I:Hid (mT d f z p g q=some (13,none)/\oN d f z p g q=d):=jz (by unfold mT oN;rw[jQ (show ¬p<1 by omega),jQ (show ¬p<1 by omega),<- a5.out,jP (of_decide_eq_true t2),jP (of_decide_eq_true t2)];exact⟨rfl,rfl⟩);clear d1;go_wp2_with fail
   go_ret;exact⟨by rw[I.out.1];rfl,m,by rw[I.out.2];exact c2,DT.of_below a9⟩
  ·have h4:p<=R:=by have:=of_decide_eq_false t2;omega
   have j:Hid (mT d f z p g q=(if cO q then wsA d (f+p) (cP g q) else some (15,none))/\oN d f z p g q=(if cO q then wsD d (f+p) (cP g q) else d)):=jz (by unfold mT oN;rw[jQ (show ¬p<1 by omega),jQ (show ¬p<1 by omega),<- a5.out,jQ (of_decide_eq_false t2),jQ (of_decide_eq_false t2)];exact⟨rfl,rfl⟩);have h5:1<=p:=by omega
   clear d1 a5;go_wp2_with (refine ld 172 _ rfl rfl rfl e0 underlying172 rfl e1 ?_)
   refine(sD g q w2 hq hg).mono ?_;rintro e w3 ⟨rfl,a1⟩;have a0:Hid (Bw w w3):=jz (aA a9 a1);have c6:Hid (Blk w3 w.heap.size 324 #[.int .i64 f,.int .i64 z]):=jz (f5.keep a1);have c3:=jz (c2.keep a1);have g0:w.heap.size<w3.heap.size:=c6.lt;clear a1;obtain⟨S,hS⟩:=je ((if cO q then cP g q else zsec));rw[<- hS] at O U ⊢;have c4:=jz (dI S);cases hrq:cO q with
   | false=>
    have I:Hid (mT d f z p g q=some (15,none)/\oN d f z p g q=d):=jz (by rw[j.out.1,j.out.2,hrq];exact⟨rfl,rfl⟩);clear hrq hS j;go_wp2_with (first
     | (refine al 243 z64 rfl rfl dG ?_)
     | (refine bZ 243 (.tmp 11) (.tmp 27) rfl rfl rfl rfl O.out.1 O.out.2 c4 ?_;intro Z hK J a7;have K:=jz J;clear hK J a7))
    go_ret;exact⟨by rw[I.out.1];rfl,m,by rw[I.out.2];exact c3.keep K,DT.of_below (a0.trans (K.mono a0.size))⟩
   | true=>
    rw[hrq] at hS j;replace hS:S=cP g q:=hS;replace j:Hid (mT d f z p g q=wsA d (f+p) (cP g q)/\oN d f z p g q=wsD d (f+p) (cP g q)):=j;rw[<- hS] at j;clear hrq hS;have c7:∀ Z,Bw w3 Z->Z.cell? ⟨w.heap.size,0,none⟩=some (.int .i64 f):=λZ hb=>(c6.keep hb).cell 0
    have d2:=jz c7;have f4:Hid ((prog.info? 243).map (·.size)=some (u8s S).length):=jz (by rw[aF U.out];kernel_rfl);clear c7;go_wp2_with (first
     | (refine al 243 z64 rfl rfl dG ?_)
     | (refine bZ 243 (.tmp 11) (.tmp 27) rfl rfl rfl rfl O.out.1 O.out.2 c4 ?_;intro Z hK J a7;have K:=jz J;have f1:Hid (Z.rangeAt w3.heap.size 0 (u8s S)):=jz (by have:=Blk.range (show Blk Z w3.heap.size 243 (u8s S).toArray from hK);rw[jt] at this;exact this);have f6:=d2.out Z J;clear hK J a7)
     | (refine ld 243 _ rfl rfl rfl f1 underlying243 rfl f4 ?_))
    have e8:=jz (c3.keep K);have b0:Hid (Bw w Z):=jz (a0.trans (K.mono a0.size));refine(o7 (f+p) S Z m d e8 ⟨by omega,by omega⟩ U (by omega)).mono ?_;rintro e w5 ⟨rfl,m5,c9,d0⟩;rw[o9];have a4:Hid (DT w m w5 m5):=jz ((DT.of_below b0).trans d0);have b1:=jz c9;have f2:Hid ((bG d (f+p) S).room<=d.room+2):=jz (nI f9 (f+p) _);clear c9 d0 f6;have f7:m5.g=m.g:=a4.g;cases ha:fN d (f+p) with
    | some x=>
     have I:Hid (mT d f z p g q=some x/\oN d f z p g q=bG d (f+p) S):=jz (by rw[j.out.1,j.out.2];unfold wsA wsD;rw[ha];exact⟨rfl,rfl⟩);obtain⟨t,u,hv⟩:=bU x;rw[hv];have HV:=jz hv;have h0:=cV t u;clear ha hv;go_wp2_with fail
     go_ret;exact⟨by rw[I.out.1,HV.out];rfl,m5,by rw[I.out.2];exact b1,a4⟩
    | none=>
     have I:Hid (mT d f z p g q=jX (bG d (f+p) S)/\oN d f z p g q=cG (bG d (f+p) S)):=jz (by rw[j.out.1,j.out.2];unfold wsA wsD;rw[ha];exact⟨rfl,rfl⟩);have hv:bK none = .nilIface:=rfl;rw[hv];clear ha;go_wp2_with fail
     rw[<- f7];refine(n9 w5 m5 _ b1 (by have:=f2.out;omega)).mono ?_;rintro e w6 ⟨rfl,m6,a2,a3⟩;have d5:=jz a2;have f3:Hid (DT w m w6 m6):=jz (a4.trans a3);clear a2 a3;go_wp2_with fail
     go_ret;exact⟨by rw[I.out.1,<- oA];rfl,m6,by rw[I.out.2];exact d5,f3⟩
theorem gD{w:Wd}{g:Nat}{t:TypeId}(j D x new:Wv)(J:Blk w g t (j++D++x).toArray)(O:D.length=new.length):
  Blk (w.setCells g j.length new) g t (j++new++x).toArray/\Off g w (w.setCells g j.length new)/\(w.setCells g j.length new).heap.size=w.heap.size:=by
 have h1:=dJ new j.length w _ J;rw[uF j D x new O] at h1;have I:=(aS (ja g) new j.length w);exact⟨h1,⟨I.1.os,I.1.tape,I.1.output,by omega,λk _ K=>bB K new j.length w⟩,I.2⟩
theorem TM{P:Program}{ops:Array Oper}{rest:List Oper}{o:Oper}{a:Act}{w:Wd}{Q:Exit->Act->Wd->Prop}(ty:TypeId)(x y:Operand)(ho:o.op = .store ty x y)(hw:Region.wanted o (yielded ops a.tmps)=true)
  {g t:Nat} (D I j new:Wv) (hx:a.eval x = .pointer (some ⟨g,D.length,none⟩)) (hy:a.eval y = .agg new.toArray) (J:Blk w g t (D++I++j).toArray)
  (hi:(P.info? ty).map (·.size)=some new.length) (Z:I.length=new.length) (h1:∀ u∈new,u.oneCell'=true)
  (h:∀ w2,Blk w2 g t (D++new++j).toArray->Off g w w2->w2.heap.size=w.heap.size->wpList P ops Q rest (a.put o.dst undef) w2):
  wpList P ops Q (o :: rest) a w:=
 wpList_step λK V=>by
  rw[jP hw];refine wp_store_mid ty x y ho g D.length new.toArray hx hy (cA J (by simp;omega)) (by simpa using hi) (all_oneCell_toArray h1) ?_;rw[jt];obtain⟨O,R,U⟩:=gD D I j new J Z;exact V _ _ (h _ O R U)
def iX:DiskD->Int->List Wl->Ans×DiskD
 | d,_,[]=>(jX d,cG d)
 | d,a,s :: r=>match fN d a with|some x=>(some x,bG d a s)|none=>iX (bG d a s) (a+1) r
def dE(d:DiskD)(f z:Int)(g:Nat)(l:List (Wl×Int)):Ans×DiskD:=
 if room z<l.length then (some (13,none),d) else if l.all cO then iX d (f+1) (l.map (cP g)) else (some (15,none),d)
def kG(g:Nat)(l:List (Wl×Int))(k:Nat):Wv:=((l.take k).map (cP g)++List.replicate (l.length-k) zsec).flatMap u8s
theorem DC(g:Nat)(l:List (Wl×Int)):kG g l 0=(List.replicate l.length zsec).flatMap u8s:=by simp[kG]
theorem F7(g:Nat)(l:List (Wl×Int)):kG g l l.length=(l.map (cP g)).flatMap u8s:=by simp[kG]
theorem WP(L:List Wl)(h:∀ s∈L,Sec s):(L.flatMap u8s).length=L.length*64:=by
 induction L with
 | nil=>rfl
 | cons s L ih=>
  rw[List.flatMap_cons,jj,ih λx j=>h x (by simp[j]),aF (h s (by simp)),List.length_cons];omega
theorem F8(g:Nat)(l:List (Wl×Int))(I:∀ q∈l,EntOk q)(k:Nat)(D:k<l.length):∃ x j,kG g l k=x++u8s zsec++j/\kG g l (k+1)=x++u8s (cP g l[k])++j/\x.length=k*64:=by
 refine⟨((l.take k).map (cP g)).flatMap u8s,(List.replicate (l.length-(k+1)) zsec).flatMap u8s,?_,?_,?_⟩
 ·unfold kG;rw[show l.length-k=(l.length-(k+1))+1 by omega,List.replicate_succ,List.flatMap_append,List.flatMap_cons,List.append_assoc]
 ·unfold kG;rw[j6 D,List.map_append,List.flatMap_append,List.flatMap_append];simp
 ·rw[WP _ (λs hs=>by
   obtain⟨q,J,rfl⟩:=List.mem_map.1 hs
   exact mE g (I q (j7 J)))]
  rw[List.length_map,jv,Nat.min_eq_left (by omega)]
theorem TN{w:Wd}{A:Option Addr}{cap:Nat}{l:List (Wl×Int)}(h:Sn w 33 (.slice A l.length cap) l.length (l.flatMap aN))(j:∀ q∈l,EntOk q)(k:Nat)(x:k<l.length):
  ∃ b off,A=some ⟨b,off,none⟩/\w.rangeAt b (off+k*33) (aN l[k]):=by
 obtain⟨b,off,rfl,D⟩:=h.range k x;rw[eK aN 33 l (λq I=>aZ q (j q I)) k x] at D;exact⟨b,off,rfl,D⟩
theorem F9(d:DiskD)(a:Int)(L:List Wl)(k:Nat)(j:k<L.length):iX d a (L.drop k)=match fN d a with|some x=>(some x,bG d a L[k])|none=>iX (bG d a L[k]) (a+1) (L.drop (k+1)):=by
 rw[List.drop_eq_getElem_cons j];rfl
theorem K3(f z:Int)(g:Nat)(l:List (Wl×Int))(A:Option Addr)(cap:Nat)(w:Wd)(m:DiskM)(d:DiskD)(h:DK w m d)(hs:Sn w 33 (.slice A l.length cap) l.length (l.flatMap aN))(h7:∀ q∈l,EntOk q)(hf:0<=f/\f<=100000)(hz:aD z/\z<=4000)(hg:g<4294967296)(t4:l.length<=1000000)(hr:d.room+10000<=100000):
  Wc 228 #[.pointer (some ⟨m.g,0,none⟩),.agg #[.int .i64 f,.int .i64 z],.int .u32 g,.slice A l.length cap] w λe w'=>e = .returned (bK (dE d f z g l).1)/\∃ m',DK w' m' (dE d f z g l).2/\DT w m w' m':=by
 have f0:Bw w (w.alloc (.cells #[.int .i64 f,.int .i64 z] 324)):=(ji _ w).alloc (ja _) _;obtain⟨w1,a2⟩:=je (w.alloc (.cells #[.int .i64 f,.int .i64 z] 324));have m1:Hid (DK w1 m d):=jz (by rw[a2];exact h.keep f0);have k1:Hid (Bw w w1):=jz (by rw[a2];exact f0);have q0:Hid (Sn w1 33 (.slice A l.length cap) l.length (l.flatMap aN)):=jz (by rw[a2];exact hs.alloc _);have g3:Hid (Blk w1 w.heap.size 324 #[.int .i64 f,.int .i64 z]):=jz (by rw[a2];exact Blk.new w _ _);have n1:Hid (w1.rangeAt w.heap.size 0 [.int .i64 f,.int .i64 z]):=jz (by have:=g3.range;exact this);have m3:=jz (h.notFoot (ja w.heap.size));have c2:=jz h7;have v3:=h.ok.st;have s5:0<=f:=hf.1;have t0:f<=100000:=hf.2;have r5:room z<=4000:=by unfold room;split <;> omega
 have s0:(0:Int)<=l.length:=by omega
 have s1:(l.length:Int)<=1000000:=by omega
 clear h f0 hf hs h7;go_enter func228,ntmps228
 go_upto_region 1 with fail
 rw[<- a2];clear a2;go_wp2_with (refine ld 324 _ rfl rfl rfl n1 underlying324 rfl (by kernel_rfl) ?_)
 refine(qZ f z w1 hz.1).mono ?_;rintro e w2 ⟨rfl,a7⟩;have a9:Hid (Bw w w2):=jz (aA k1 a7);have q3:Hid (Blk w2 w.heap.size 324 #[.int .i64 f,.int .i64 z]):=jz (g3.keep a7);have q1:=jz (q0.below a7);have b7:=jz (m1.keep a7);obtain⟨R,hR⟩:=je (room z);have e8:=jz hR;rw[<- hR] at r5 ⊢;clear a7 hR;rcases jb (decide (R<(l.length:Int))) with t2|t2
 ·have J:Hid (dE d f z g l=(some (13,none),d)):=jz (by unfold dE;rw[<- e8.out,jP (of_decide_eq_true t2)]);go_wp2_with fail
  go_ret;exact⟨by rw[J.out];rfl,m,by rw[J.out];exact b7,DT.of_below a9⟩
 ·have t3:(l.length:Int)<=R:=by have:=of_decide_eq_false t2;omega
  have r3:∀ w,(Instr.makeSlice 46 (.int .i64 l.length) (.int .i64 l.length)).run prog w = .ok (.slice (some ⟨w.heap.size,0,none⟩) l.length l.length) (w.alloc (.cells ((List.replicate l.length zsec).flatMap u8s).toArray 243)):=x6 l.length (by omega);have b0:Hid (dE d f z g l=(if l.all cO then iX d (f+1) (l.map (cP g)) else (some (15,none),d))):=jz (by unfold dE;rw[<- e8.out,jQ (of_decide_eq_false t2)]);clear e8;go_upto_region 4 with fail
  obtain⟨K,a1⟩:=je w2.heap.size;obtain⟨w3,c5⟩:=je (w2.alloc (.cells ((List.replicate l.length zsec).flatMap u8s).toArray 243));have k2:Hid (Below K w2 w3):=jz (by rw[c5,a1];exact(ji _ _).alloc (ja _) _);have n2:Hid (Blk w3 K 243 (kG g l 0).toArray):=jz (by rw[c5,a1,DC];exact Blk.new _ _ _);have e0:=jz a1;have t1:w.heap.size<=K:=by rw[a1];exact a9.size
  rw[<- c5,<- a1];clear c5 a1 r3;go_wp2_with fail
  go_loopw [28] (λi wr=>∃ k:Nat,k<=l.length/\i = .int .i64 k/\Hid ((l.take k).all cO=true)/\Hid (Blk wr K 243 (kG g l k).toArray)/\Hid (Below K w2 wr)) (λi _=>l.length-(intOf i).toNat)
  case atStart=>exact⟨0,j0 _,rfl,jz (by simp),n2,k2⟩
  case round=>
   obtain⟨k,hk,rfl,HA,a4,d5⟩:=hrel;have a3:Hid (Bw w2 wr):=jz (by show Below _ _ _;rw[<- e0.out];exact d5);rcases jo k l.length with D|q6
   ·obtain⟨b,off,eA,hr⟩:=TN q1 c2 k D;subst eA;obtain⟨q,hq⟩:=je (l[k]);obtain⟨k0,d1,h8,f2,h9⟩:=F8 g l c2 k D;rw[<- hq] at hr f2;have a8:EntOk q:=by rw[hq];exact c2 _ (List.getElem_mem D)
    have n6:Hid (wr.rangeAt b (off+k*33) (aN q)):=jz (λi u hi=>j9 a3 (hr i u hi));have c3:Hid ((prog.info? 172).map (·.size)=some (aN q).length/\(prog.info? 172).map (·.size)=some (aN q).toArray.size/\zE.size=(aN q).toArray.size):=jz ⟨by rw[aZ q a8];kernel_rfl,by rw[js,aZ q a8];kernel_rfl,by rw[lC,js,aZ q a8]⟩;have n0:Hid ((aN q).toArray.all (·.oneCell')=true):=jz (iI _ _);have a5:=jz (DB g a8);have q7:(0:Int)<=k:=by omega
    have r0:(k:Int)<l.length:=by omega
    have m8:Hid (l.all cO=true->cO q=true):=jz (λe=>List.all_eq_true.1 e q (by rw[hq];exact List.getElem_mem D));have m4:Hid (cO q=true->(l.take (k+1)).all cO=true):=jz (λe=>by
     rw[j6 D,List.all_append,HA.out,<- hq]
     simp[e])
    have HP:=jz (And.intro h8 (And.intro f2 h9));have s4:=jz (d5.size);clear hr hq h8 f2 h9;go_wp2_with (first
     | (refine ld 172 _ rfl rfl rfl n6 underlying172 rfl c3.out.1 ?_)
     | (refine al 172 zE rfl rfl sG ?_)
     | (refine bZ 172 (.tmp 11) (.tmp 32) rfl rfl rfl rfl c3.out.2.1 c3.out.2.2 n0 ?_;intro O hK V f3;have I:=jz V;have e1:Hid (O.rangeAt wr.heap.size 0 (aN q)):=jz (by have:=Blk.range (show Blk O wr.heap.size 172 (aN q).toArray from hK);rw[jt] at this;exact this);clear hK V f3)
     | (refine ld 172 _ rfl rfl rfl e1 underlying172 rfl c3.out.1 ?_))
    refine(sD g q O a8 hg).mono ?_;rintro e w5 ⟨rfl,h0⟩;have U:Hid (Bw wr w5):=jz (aA I h0);obtain⟨S,hS⟩:=je ((if cO q then cP g q else zsec));rw[<- hS] at a5 ⊢;have j:Hid ((prog.info? 243).map (·.size)=some (u8s S).toArray.size/\z64.size=(u8s S).toArray.size/\(prog.info? 243).map (·.size)=some (u8s S).length/\(u8s zsec).length=(u8s S).length):=jz ⟨by rw[js,aF a5.out];kernel_rfl,by rw[cS,js,aF a5.out],by rw[aF a5.out];kernel_rfl,by rw[aF a5.out,aF iJ]⟩;have c4:=jz (dI S);have g0:Hid (Blk w5 K 243 (kG g l k).toArray):=jz (a4.keep U);have f6:=jz a4.lt;clear h0;cases hrq:cO q with
    | false=>
     have J:Hid (dE d f z g l=(some (15,none),d)):=jz (by
      rw[b0.out,jQ]
      intro e
      rw[m8.out e] at hrq
      cases hrq)
     clear hrq hS b0;go_wp2_with (first
      | (refine al 243 z64 rfl rfl dG ?_)
      | (refine bZ 243 (.tmp 12) (.tmp 37) rfl rfl rfl rfl j.out.1 j.out.2.1 c4 ?_;intro w6 hK Z f4;have d2:=jz Z;clear hK Z f4))
     go_ret;have h2:Bw w2 w6:=aA (aA a3 U) d2.out;exact⟨by rw[J.out];rfl,m,by rw[J.out];exact b7.keep h2,DT.of_below (aA a9 h2)⟩
    | true=>
     rw[hrq] at hS;replace hS:S=cP g q:=hS;have HT:=jz (m4 hrq);rw[<- hS] at HP;clear hrq hS;have s3:Hid (Operand.tmp 45=Operand.tmp 45):=jz rfl;go_wp2_with (first
      | (refine al 243 z64 rfl rfl dG ?_)
      | (refine bZ 243 (.tmp 12) (.tmp 37) rfl rfl rfl rfl j.out.1 j.out.2.1 c4 ?_;intro w6 hK Z f4;have d2:=jz Z;have n3:Hid (w6.rangeAt w5.heap.size 0 (u8s S)):=jz (by have:=Blk.range (show Blk w6 w5.heap.size 243 (u8s S).toArray from hK);rw[jt] at this;exact this);have g1:Hid (Blk w6 K 243 (k0++u8s zsec++d1).toArray):=jz (by rw[<- HP.out.1];exact g0.keep Z);clear hK Z f4)
      | (refine ld 243 _ rfl rfl rfl n3 underlying243 rfl j.out.2.2.1 ?_)
      | (refine TM 243 (.tmp 45) (.tmp 44) rfl rfl k0 (u8s zsec) d1 (u8s S) (by rw[HP.out.2.2];rfl) rfl g1 j.out.2.2.1 j.out.2.2.2 (bR _) ?_;intro w7 g8 h6 r7;have g2:=jz g8;have m9:=jz h6;clear g8 h6 r7))
     have c7:Below K w2 w6:=(d5.trans ((U.mono (Nat.le_of_lt f6)).trans (d2.mono (by have:=U.size;have:=f6.out;omega))));exact⟨⟨k+1,by omega,by go_num,HT,jz (by rw[HP.out.2.1];exact g2),jz (c7.trans (m9.below (ja _) (by have:=c7.size;have:=e0.out;omega)))⟩,by simp[intOf];omega⟩
   ·obtain rfl:k=l.length:=by omega
    have c6:l.all cO=true:=by have:=HA.out;rwa [List.take_length] at this
    have J:Hid (dE d f z g l=iX d (f+1) (l.map (cP g))):=jz (by rw[b0.out,jP c6]);obtain⟨L,hL⟩:=je (l.map (cP g));have f1:L.length=l.length:=by rw[hL,List.length_map]
    have f7:Hid (∀ s∈L,Sec s):=jz (λs hs=>by rw[hL] at hs;obtain⟨q,hq,rfl⟩:=List.mem_map.1 hs;exact mE g (c2 q hq));rw[F7,<- hL] at a4;rw[<- hL] at J;have HKr:Hid (DK wr m d):=jz (b7.keep a3);have HXr:Hid (Blk wr w.heap.size 324 #[.int .i64 f,.int .i64 z]):=jz (q3.keep a3);have HTr:Hid (DT w m wr m):=jz (DT.of_below (aA a9 a3));have f8:Hid (K ∉ aX m):=jz (λhm=>by have:=b7.foot_lt K hm;have:=e0.out;omega);clear c6 b0 HA hL;have f9:Hid ((dE d f z g l)=iX d (f+1+((0:Nat):Int)) (L.drop 0)):=jz (by rw[J.out];simp);have t5:(L.length:Int)<=4000:=by rw[f1];omega
    have h5:l.length=L.length:=f1.symm;rw[h5];clear J h5 f1;go_wp2_with fail
    go_loopw [49] (λi wx=>∃(k:Nat) (mk:DiskM) (dk:DiskD),k<=L.length/\i = .int .i64 k/\mk.g=m.g/\dk.room<=d.room+2*k/\Hid (DK wx mk dk)/\Hid (DT w m wx mk)/\Hid (dE d f z g l=iX dk (f+1+k) (L.drop k))/\Hid (Blk wx K 243 (L.flatMap u8s).toArray/\Blk wx w.heap.size 324 #[.int .i64 f,.int .i64 z]/\K ∉ aX mk/\w.heap.size ∉ aX mk)) (λi _=>L.length-(intOf i).toNat)
    case atStart=>exact⟨0,m,d,j0 _,rfl,rfl,by omega,HKr,HTr,f9,jz ⟨a4,HXr,f8,m3⟩⟩
    case round=>
     clear f9 HKr HTr a4 HXr f8;obtain⟨k,mk,dk,hk,rfl,h4,t7,HKk,HTk,HFk,HBk⟩:=hrel;have r6:=HKk.ok.st;rcases jo k L.length with D|q6
     ·obtain⟨S,hS⟩:=je (L[k]);have a6:Hid (Sec S):=jz (by rw[hS];exact f7 _ (List.getElem_mem D));have n4:Hid (wr.rangeAt K (k*64) (u8s S)):=jz (by
       have hB:=HBk.out.1
       intro i u hi
       rw[hB.cell]
       have v0:(u8s S).length=64:=aF a6.out
       have h1:=eK u8s 64 L (λs hs=>aF (f7 s hs)) k D
       rw[<- hS] at h1
       rw[<- h1,List.getElem?_take] at hi
       split at hi
       ·rw[List.getElem?_drop] at hi
        simpa using hi
       ·cases hi)
      have j:Hid ((prog.info? 243).map (·.size)=some (u8s S).toArray.size/\z64.size=(u8s S).toArray.size/\(prog.info? 243).map (·.size)=some (u8s S).length):=jz ⟨by rw[js,aF a6.out];kernel_rfl,by rw[cS,js,aF a6.out],by rw[aF a6.out];kernel_rfl⟩;have c4:=jz (dI S);have b1:Hid (dE d f z g l=match fN dk (f+1+k) with|some x=>(some x,bG dk (f+1+k) S)|none=>iX (bG dk (f+1+k) S) (f+1+k+1) (L.drop (k+1))):=jz (by rw[HFk.out,F9 dk _ L k D,hS];try rfl);have q7:(0:Int)<=k:=by omega
      have r0:(k:Int)<L.length:=by omega
      have k3:Hid (∀ O,Bw wr O->O.cell? ⟨w.heap.size,0,none⟩=some (.int .i64 f)):=jz (λO hb=>(HBk.out.2.1.keep hb).cell 0);clear hS HFk;go_wp2_with (first
       | (refine ld 243 _ rfl rfl rfl n4 underlying243 rfl j.out.2.2 ?_)
       | (refine al 243 z64 rfl rfl dG ?_)
       | (refine bZ 243 (.tmp 15) (.tmp 53) rfl rfl rfl rfl j.out.1 j.out.2.1 c4 ?_;intro O hK V f3;have I:=jz V;have e1:Hid (O.rangeAt wr.heap.size 0 (u8s S)):=jz (by have:=Blk.range (show Blk O wr.heap.size 243 (u8s S).toArray from hK);rw[jt] at this;exact this);have q4:=k3.out O V;clear hK V f3)
       | (refine ld 243 _ rfl rfl rfl e1 underlying243 rfl j.out.2.2 ?_))
      have m2:=jz (HKk.keep I);rw[<- h4];refine(o7 (f+1+k) S O mk dk m2 ⟨by omega,by omega⟩ a6 (by omega)).mono ?_;rintro e w5 ⟨rfl,m5,h3,a0⟩;rw[o9];have d7:Hid (DT w m w5 m5):=jz (HTk.trans ((DT.of_below I).trans a0));have f5:=jz h3;have t9:=nI r6 (f+1+k) S;have U:Hid (Blk w5 K 243 (L.flatMap u8s).toArray/\Blk w5 w.heap.size 324 #[.int .i64 f,.int .i64 z]/\K ∉ aX m5/\w.heap.size ∉ aX m5):=jz (by
       have r1:K<O.heap.size:=(HBk.out.1.keep I).lt
       have r2:w.heap.size<O.heap.size:=(HBk.out.2.1.keep I).lt
       exact⟨(a0.off r1 HBk.out.2.2.1).trans (HBk.out.1.keep I),(a0.off r2 HBk.out.2.2.2).trans (HBk.out.2.1.keep I),λhm=>(a0.sub _ hm).elim HBk.out.2.2.1 (λh=>by omega),λhm=>(a0.sub _ hm).elim HBk.out.2.2.2 (λh=>by omega)⟩)
      clear h3 a0 q4;have q5:m5.g=m.g:=d7.g;cases ha:fN dk (f+1+k) with
      | some x=>
       have J:Hid (dE d f z g l=(some x,bG dk (f+1+k) S)):=jz (by rw[b1.out,ha]);obtain⟨t,u,hv⟩:=bU x;rw[hv];have HV:=jz hv;have t6:=cV t u;clear ha hv b1;go_wp2_with fail
       go_ret;exact⟨by rw[J.out,HV.out];rfl,m5,by rw[J.out];exact f5,d7⟩
      | none=>
       have J:Hid (dE d f z g l=iX (bG dk (f+1+k) S) (f+1+k+1) (L.drop (k+1))):=jz (by rw[b1.out,ha]);have hv:bK none = .nilIface:=rfl;rw[hv];clear ha b1;go_wp2_with fail
       exact⟨⟨k+1,m5,_,by omega,by go_num,q5,by omega,f5,d7,jz (by rw[J.out];congr 1;omega),U⟩,by simp[intOf];omega⟩
     ·obtain rfl:k=L.length:=by omega
      have J:Hid (dE d f z g l=(jX dk,cG dk)):=jz (by rw[HFk.out,List.drop_eq_nil_of_le (ja _)];rfl);clear HFk;go_wp2_with fail
      rw[<- h4];refine(n9 wr mk dk HKk (by omega)).mono ?_;rintro e w6 ⟨rfl,m6,c9,d0⟩;have k4:=jz c9;have q2:Hid (DT w m w6 m6):=jz (HTk.trans d0);clear c9 d0;go_wp2_with fail
      go_ret;exact⟨by rw[J.out];show _=Ending.returned (bK (jX dk));rw[<- oA];rfl,m6,by rw[J.out];exact k4,q2⟩
end
section
open Go.RowKit
attribute [local irreducible] wpQuiet wpAnyH
attribute [local go_sem] Oper.semAt_some
theorem Turn.blk{T x:bJ}{W W':Wd}(h:Turn T W x W'){g:Nat}{t:TypeId}{cs:Wa}(j:Blk W g t cs)(hg:¬T g):Blk W' g t cs:=(h.block g j.lt hg).trans j
theorem Lies.blk{T:bJ}{W W':Wd}(h:Lies T W W'){g:Nat}{t:TypeId}{cs:Wa}(j:Blk W g t cs)(hg:T g):Blk W' g t cs:=(h.block g j.lt hg).trans j
def rdA(d:DiskD)(a:Int):Ans:=if d.down then some (12,none) else if jJ d a then none else some (15,some a)
theorem TO(d:DiskD)(a:Int):rdE d a=bK (rdA d a):=by
 unfold rdE rdA;split;· rfl
 split <;> rfl
def d8(d:DiskD)(a:Int):Nat->List (Wl×Ans)
 | 0=>[]
 | n+1=>(rdS d a,rdA d a) :: if rdA d a=none then d8 d (a+1) n else []
def TP(x:Wl×Ans):Wa:=#[.agg (u8s x.1).toArray,bK x.2]
theorem tN{d:DiskD}(h:DOk d)(a:Int):Sec (rdS d a):=by
 unfold rdS;split
 ·exact iJ
 ·split
  ·rename_i hb;unfold jJ at hb;simp at hb;exact I0 h a hb.1 hb.2
  ·exact iJ
def XS(N gs gd:Nat):bJ:=λk=>k<N\/k=gs\/k=gd
structure SIt(wN:Wd)(gs gd:Nat)(f z:Int)(g:Nat)(T:bJ)(wr:Wd):Prop where
 bs:Blk wr gs 324 #[.int .i64 f,.int .i64 z]
 bd:Blk wr gd 78 #[.pointer (some ⟨g,0,none⟩)]
 bel:Bw wN wr
 nT:∀ k,T k->¬XS wN.heap.size gs gd k
theorem O4(f:Int)(z:Nat)(O:Wd)(m:DiskM)(d:DiskD)(gs gd:Nat)(w:Wd)(hK:DK O m d)(hb:Bw O w)(h1:Blk w gs 324 #[.int .i64 f,.int .i64 z])(h2:Blk w gd 78 #[.pointer (some ⟨m.g,0,none⟩)])
  (c4:O.heap.size<=gs/\O.heap.size<=gd) (hf:0<=f/\f<=100000) (hz:z<=100000):
  SeqZ Fence.wide 9 prog 328 #[.pointer (some ⟨gs,0,none⟩),.pointer (some ⟨gd,0,none⟩)] TP (XS O.heap.size gs gd) (λ_=>False) (d8 d f z) w:=by
 intro ly J Jx T0 W hW f4 f5 hJ g1 g0 hY b7 h0 _;have a4:Hid (SIt O gs gd f z m.g T0 W):=jz ⟨h1.keep hW,h2.keep hW,aA hb hW,b7⟩;have f6:=h1.lt;have f7:=h2.lt;have d7:=jz (show gs≠ly/\gd≠ly/\O.heap.size<=ly by have:=hb.size;omega);have b0:=jz h0;have HK:=jz hK;have f8:=jz c4;have g2:0<=f:=hf.1;have g3:f<=100000:=hf.2;clear h1 h2 b7 h0 hK hb c4 hf;refine callsIn_of_wp func328 rfl trivial ?_ rfl;simp only[ntmps328,js,List.length_cons,List.length_nil,Nat.reduceAdd,Nat.reduceSub,Array.replicate_succ,Array.replicate_zero,List.push_toArray,List.append_toArray,List.nil_append,List.cons_append];refine wpIn_wide.2 ?_;have c1:=a4.bs.cell 1;simp only[jf,jh,jg] at c1;have h7:(0:Int)<=z:=by omega
 go_wp2_with fail
 clear c1;go_loopw [9] (λi wr=>∃(k:Nat) (I:List (Wl×Ans)) (T:bJ),k<=z/\i = .int .i64 k/\Hid (J I T wr)/\Hid (SIt O gs gd f z m.g T wr)/\Hid (d8 d f z=I++d8 d (f+k) (z-k))) (λi _=>z-(intOf i).toNat)
 case atStart=>exact⟨0,[],T0,j0 _,rfl,b0,a4,jz (by simp)⟩
 case round=>
  clear b0 a4;obtain⟨k,I,T,hk,rfl,HJ,HI,HL⟩:=hrel;rcases jo k z with h5|g8
  ·have c0:=HI.bs.cell 0;have d0:=HI.bd.cell 0;simp only[jf,jg] at c0 d0;have HKr:Hid (DK wr m d):=jz (HK.keep HI.bel);have U:d8 d (f+k) (z-k)=(rdS d (f+k),rdA d (f+k)) :: if rdA d (f+k)=none then d8 d (f+k+1) (z-(k+1)) else []:=by
    rw[show z-k=(z-(k+1))+1 by omega];rfl
   have d5:=jz U;obtain⟨S,hS⟩:=je (rdS d (f+k));have a5:Hid (Sec S):=jz (by rw[hS];exact tN HKr.ok _);have a6:Hid ((prog.info? 243).map (·.size)=some (u8s S).toArray.size/\z64.size=(u8s S).toArray.size/\(prog.info? 243).map (·.size)=some (u8s S).length):=jz ⟨by rw[js,aF a5.out];kernel_rfl,by rw[cS,js,aF a5.out],by rw[aF a5.out];kernel_rfl⟩;have f0:=jz (dI S);have h3:(0:Int)<=k:=by omega
   have h4:(k:Int)<z:=by omega
   obtain⟨x,D⟩:=je (rdA d (f+k));have e8:Hid (Wc 261 #[.pointer (some ⟨m.g,0,none⟩),.int .i64 (f+k)] wr (Rt wr (.tuple #[.agg (u8s S).toArray,bK x]))):=jz (by
    rw[hS,D,<- TO]
    exact x7 (f+k) wr m d HKr ⟨by omega,by omega⟩)
   have a3:I++[(S,x)] <+: d8 d f z:=by rw[HL.out,U,hS,D];exact⟨if rdA d (f+k)=none then d8 d (f+k+1) (z-(k+1)) else [],by simp⟩
   have a2:=jz a3;have d1:Hid (x≠none->d8 d f z=I++[(S,x)]):=jz (λhn=>by rw[HL.out,U,hS,D,jQ (by rw[<- D];exact hn)]);have e0:Hid (x=none->d8 d f z=(I++[(S,x)])++d8 d (f+((k+1:Nat):Int)) (z-(k+1))):=jz (λhn=>by
    rw[HL.out,U,hS,D,jP (by rw[<- D];exact hn)]
    have:f+(k:Int)+1=f+((k+1:Nat):Int):=by omega
    rw[this];simp)
   clear U d5 hS D a3 HL HKr;go_upto_region 4 with (first
    | (go_at_call 261;refine e8.mono ?_;rintro e w1 ⟨rfl,c2⟩;have c7:=jz c2;clear c2)
    | (refine al 243 z64 rfl rfl dG ?_)
    | (refine bZ 243 (.tmp 5) (.tmp 19) rfl rfl rfl rfl a6.out.1 a6.out.2.1 f0 ?_;intro w2 b1 c3 c5;have c9:=jz c3;have e1:Hid (w2.rangeAt w1.heap.size 0 (u8s S)):=jz (by have:=Blk.range (show Blk w2 w1.heap.size 243 (u8s S).toArray from b1);rw[jt] at this;exact this);have f9:=jz c5;clear b1 c3 c5))
   have a0:Hid (Bw wr w2):=jz (aA c7 c9);have a7:J I T w2:=hJ _ _ _ _ HJ (Lies.of_below a0);obtain⟨fn,tmps,c6,body,hy,hR⟩:=hY _ _ T w2 a2 a7;have a9:=jz (HI.bs.keep a0);have a8:=jz (HI.bd.keep a0);have K:Hid (Bw O w2):=jz (aA HI.bel a0);dsimp only [TP] at hy;refine(wpIn_wide (n:=9)).1 ?_;gi_wp2_with (refine iLd 243 _ rfl zW rfl rfl e1 underlying243 rfl a6.out.2.2 ?_)
   refine hR.mono ?_;rintro e wD ⟨T',Z,⟨rfl,R⟩|⟨rfl,R⟩⟩
   ·have V:∀ k,(T k\/k=ly)->¬XS O.heap.size gs gd k:=λj h D=>h.elim (λh=>HI.nT j h D) (λe=>by
     have h1:=d7.out
     subst e
     rcases D with D|D|D
     ·omega
     ·exact h1.1 D.symm
     ·exact h1.2.1 D.symm)
    have f3:=K.size;have f1:=a9.lt;have f2:=a8.lt;have d2:Hid (SIt O gs gd f z m.g T' wD):=jz ⟨Z.blk a9 (λh=>V _ h (.inr (.inl rfl))),Z.blk a8 (λh=>V _ h (.inr (.inr rfl))),
     ⟨Z.os.trans K.os,Z.tape.trans K.tape,Z.output.trans K.output,jm K.size Z.size,λj hj=>(Z.block j (by omega) (λh=>V _ h (.inl hj))).trans (K.block j hj)⟩,
     λj hj D=>(Z.sub j hj).elim (λh=>V j h D) (λh=>by
      rcases D with D|D|D <;> omega)⟩
    have a1:=jz R;clear hR hy Z V f3 f1 f2 R a7 hY;cases x with
    | none=>
     have hv:bK none = .nilIface:=rfl;rw[hv];gi_wp2_with fail
     go_wp2_with fail
     exact⟨⟨k+1,_,T',by omega,by go_num,a1,d2,jz (e0 (by simp))⟩,by simp[intOf];omega⟩
    | some y=>
     obtain⟨t,u,hv⟩:=bU y;rw[hv];have h6:=cV t u;clear hv;gi_wp2_with fail
     go_wp2_with fail
     refine bodyPost_ret (results_none rfl _ _ _) rfl ?_;exact⟨⟨_,rfl⟩,T',.inl (by rw[d1.out (by simp)];exact a1)⟩
   ·have a1:=jz R;clear hR hy Z R a7 hY;gi_wp2_with fail
    go_wp2_with fail
    refine bodyPost_ret (results_none rfl _ _ _) rfl ?_;exact⟨⟨_,rfl⟩,T',.inr ⟨_,a2,a1⟩⟩
  ·obtain rfl:k=z:=by omega
   have HF:Hid (J (d8 d f k) T wr):=jz (by rw[HL.out,Nat.sub_self];show J (I++[]) T wr;rw[List.append_nil];exact HJ);clear HL HJ;go_wp2_with fail
   go_end0
   exact⟨⟨_,rfl⟩,T,.inl HF⟩
end
section
open Go.RowKit
attribute [local irreducible] wpQuiet wpAnyH
theorem K4{P:Program}{n m l f:Nat}{tmps:Wa}{j body:Code}{w:Wd}{R:Ending->Wd->Prop}(h:RoundIn Fence.wide n P l f tmps j body w R):RoundIn Fence.wide m P l f tmps j body w R:=
 ⟨trivial,λc cs _=>h.2 c cs (room_wide _)⟩
theorem K5{P:Program}{n m l:Nat}{args:Wa}{w:Wd}{R:Ending->Wd->Prop}(h:YieldAt Fence.wide n P l args w R):YieldAt Fence.wide m P l args w R:=by
 obtain⟨fn,tmps,j,body,h1,x⟩:=h;exact⟨fn,tmps,j,body,h1,K4 x⟩
theorem SeqZ.any{j:Prop}{P:Program}{α:Type}{n m g:Nat}{lb:Wa}{encs:α->Wa}{X Z:bJ}{all:List α}{w:Wd}(h:NW j Fence.wide n P g lb encs X Z all w):NW j Fence.wide m P g lb encs X Z all w:=
 λl J Jx K W R U V a4 a5 a6 a7 a8 a9 D=>callsIn_wide.2 (callsIn_wide.1 (h l J Jx K W R U V a4 a5 a6 (λI x T O b1 b2=>K5 (a7 I x T O b1 b2)) a8 a9 D))
abbrev cH:=Wl×Int
abbrev SSt:=Option Nat×List cH
def kH(st:SSt)(s:Wl):Option SSt:=match st.1 with
 | none=>(oM s).map (λg=>(some g,[]))
 | some g=>match pD s with|some (g',e)=>if g'=g then some (some g,st.2++[e]) else none|none=>none
def dF:SSt->List (Wl×Ans)->SSt×Ans
 | st,[]=>(st,none)
 | _,(_,some y) :: _=>((none,[]),some y)
 | st,(s,none) :: r=>match kH st s with|some st'=>dF st' r|none=>(st,none)
def YH(all:List (Wl×Ans))(pre:List (Wl×Ans))(st:SSt):Prop:=∀ rest,all=pre++rest->dF (none,[]) all=dF st rest
def stZ:Wa:=#[.bool false,.int .u32 0,.slice none 0 0]
theorem vJ:∀ w,(zeroValue 392).run prog w = .ok (.agg stZ) w:=λw=>by unfold stZ;kernel_rfl
theorem WQ:prog.built 392 []=some stZ:=by unfold stZ;kernel_rfl
def stC(st:SSt)(v:Value):Wa:=#[.bool st.1.isSome,.int .u32 (st.1.getD 0:Nat),v]
theorem TQ{s:Wl}(hb:Bys s){g:Nat}{e:cH}(h:pD s=some (g,e)):EntOk e:=by
 unfold pD at h;cases hp:prs s with
 | none=>rw[hp] at h;cases h
 | some x=>
  obtain⟨D,p⟩:=x;rw[hp] at h;simp only at h;split at h
  ·rename_i I;injection h with h
   injection h with _ h
   rw[<- h];refine⟨⟨by show(p.take 32).length=32;rw[jv];omega,λb j=>AA hb hp b (j7 j)⟩,?_⟩;show aD ((beN (p.drop 32):Nat):Int);exact⟨by omega,by omega⟩
  ·cases h
theorem K6{st j:SSt}{s:Wl}(h:kH st s=some j):j.2.length<=st.2.length+1/\j.1≠none:=by
 unfold kH at h;cases h1:st.1 with
 | none=>
  rw[h1] at h;simp only[Option.map_eq_some_iff] at h;obtain⟨g,_,rfl⟩:=h;simp
 | some g=>
  rw[h1] at h;simp only at h;split at h
  ·split at h
   ·injection h with h;rw[<- h];simp
   ·cases h
  ·cases h
theorem yN{d:DiskD}(h:DOk d):∀(n:Nat) (a:Int),∀ x∈d8 d a n,Sec x.1
 | 0,_,x,hx=>by cases hx
 | n+1,a,x,hx=>by
  unfold d8 at hx;rcases List.mem_cons.1 hx with rfl|hx
  ·exact tN h a
  ·split at hx
   ·exact yN h n _ x hx
   ·cases hx
theorem yO(d:DiskD):∀(n:Nat) (a:Int),(d8 d a n).length<=n
 | 0,_=>ja _
 | n+1,a=>by
  unfold d8;rw[List.length_cons];split
  ·have:=yO d n (a+1);omega
  ·simp
theorem pX{w w':Wd}{base e s n:Nat}{v:Value}{x:Wv}(h:w.ownsRow base e s v n x)(hb:∀ b,v.ownBlock=some b->w'.heap[b]? = w.heap[b]?):w'.ownsRow base e s v n x:=by
 refine⟨h.1,?_⟩;rcases h.2 with D|⟨g,cap,j,rfl,hg,I,r⟩
 ·exact .inl D
 ·exact .inr ⟨g,cap,j,rfl,hg,by rw[hb g rfl];exact I,r⟩
structure SS(w:Wd)(N:Nat)(k:Nat)(st:SSt)(v:Value)(T:bJ)(U:Wd):Prop where
 b4:Blk U (N+1) 392 stZ
 b5:Blk U (N+2) 42 #[.nilIface]
 b6:Blk U (N+3) 392 (stC st v)
 own:U.ownsRow (N+6) 172 33 v st.2.length (st.2.flatMap aN)
 ownT:∀ j,v.ownBlock=some j->T j
 bel:Below N w U
 tin:T (N+1)/\T (N+2)/\T (N+3)
 tsub:∀ j,T j->j=N+1\/j=N+2\/j=N+3\/N+6<=j
 tlt:∀ j,T j->j<U.heap.size
 size:N+6<=U.heap.size
 ok:∀ q∈st.2,EntOk q
 len:st.2.length<=k
 nil:st.1=none->st.2=[]/\v = .slice none 0 0
theorem SS.stab{w:Wd}{N k:Nat}{st:SSt}{v:Value}{T:bJ}{A B:Wd}(h:SS w N k st v T A){M:Nat}(I:N+6<=M)(x:Lies (λk=>T k\/(k<M/\¬False)) A B):SS w N k st v T B where
 b4:=x.blk h.b4 (.inl h.tin.1)
 b5:=x.blk h.b5 (.inl h.tin.2.1)
 b6:=x.blk h.b6 (.inl h.tin.2.2)
 own:=pX h.own (λj D=>x.block j (h.own.lt j D).2 (.inl (h.ownT j D)))
 ownT:=h.ownT
 bel:=⟨x.os.trans h.bel.os,x.tape.trans h.bel.tape,x.output.trans h.bel.output,jm h.bel.size x.size,λj D=>(x.block j (by have:=h.size;omega) (.inr ⟨by omega,λh=>h⟩)).trans (h.bel.block j D)⟩
 tin:=h.tin
 tsub:=h.tsub
 tlt:=λj D=>jp (h.tlt j D) x.size
 size:=jm h.size x.size
 ok:=h.ok
 len:=h.len
 nil:=h.nil
theorem DD(g:Nat)(f z:Int)(w:Wd):
  Wc 309 #[.pointer (some ⟨g,0,none⟩),.agg #[.int .i64 f,.int .i64 z]] w λe w'=>e = .returned (.func (.func 328) #[] #[.pointer (some ⟨w.heap.size+1,0,none⟩),.pointer (some ⟨w.heap.size,0,none⟩)])/\w'=(w.alloc (.cells #[.pointer (some ⟨g,0,none⟩)] 78)).alloc (.cells #[.int .i64 f,.int .i64 z] 324):=by
 go_enter func309,ntmps309
 go_wp2_with fail
 go_ret;exact⟨rfl,rfl⟩
end
section
open Go.RowKit
attribute [local irreducible] wpQuiet wpAnyH
attribute [local go_sem] Oper.semAt_some
theorem aG(w:Wd)(o:Obj):Bw w (w.alloc o):=(ji _ w).alloc (ja _) _
theorem Turn.setCell{T j:bJ}{A B:Wd}(h:Turn T A j B){b:Nat}(hb:T b)(i:Nat)(v:Value):Turn T A j (B.setCell ⟨b,i,none⟩ v):=
 ⟨h.os,h.tape,h.output,by have:=h.size;simpa using this,λk D x=>(Below.heap_setCell B ⟨b,i,none⟩ v k (λe=>x (by rw[e];exact hb))).trans (h.block k D x),h.sub⟩
theorem Turn.below{T j:bJ}{A B C:Wd}(h:Turn T A j B)(hb:Bw B C):Turn T A j C:=
 ⟨hb.os.trans h.os,hb.tape.trans h.tape,hb.output.trans h.output,jm h.size hb.size,λk x D=>(hb.block k (jp x h.size)).trans (h.block k x D),h.sub⟩
theorem Turn.grown{T j:bJ}{A B C:Wd}(h:Turn T A j B){row:Option Nat}(hg:B.grownBy C row)(I:∀ k,row=some k->T k):Turn T A j C:=
 ⟨hg.os.trans h.os,hg.tape.trans h.tape,hg.output.trans h.output,jm h.size hg.size,λk x D=>(hg.block k (jp x h.size) (λe=>D (I k e.symm))).trans (h.block k x D),h.sub⟩
theorem Turn.one{T:bJ}{A B:Wd}{b:Nat}(hb:T b)(h:Below b A B)(x:∀ k,k≠b->B.heap[k]? = A.heap[k]?)(hs:A.heap.size<=B.heap.size):Turn T A T B:=
 ⟨h.os,h.tape,h.output,hs,λk _ j=>x k (λe=>j (by rw[e];exact hb)),λ_ h=>.inl h⟩
theorem SS.below{w:Wd}{N k:Nat}{st:SSt}{v:Value}{T:bJ}{A B:Wd}(h:SS w N k st v T A)(hb:Bw A B):SS w N k st v T B:=h.stab (M:=N+6) (ja _) (Lies.of_below hb)
theorem SS.head{w:Wd}{N k:Nat}{v:Value}{T:bJ}{U:Wd}(h:SS w N k (none,[]) v T U)(g:Nat):SS w N (k+1) (some g,[]) v T ((U.setCell ⟨N+3,0,none⟩ (.bool true)).setCell ⟨N+3,1,none⟩ (.int .u32 g)) where
 b4:=(h.b4.far (by simp) _).far (by simp) _
 b5:=(h.b5.far (by simp) _).far (by simp) _
 b6:=((h.b6.set_ 0 _).set_ 1 _)
 own:=by
  obtain⟨_,D⟩:=h.nil rfl;rw[D];exact World.ownsRow_nil _ _ _ _
 ownT:=h.ownT
 bel:=(h.bel.setCell (p:=⟨N+3,0,none⟩) (by simp) _).setCell (p:=⟨N+3,1,none⟩) (by simp) _
 tin:=h.tin
 tsub:=h.tsub
 tlt:=λj x=>by have:=h.tlt j x;simpa using this
 size:=by have:=h.size;simpa using this
 ok:=h.ok
 len:=by simp
 nil:=λe=>by cases e
theorem YI{F:Fence}{n:Nat}{P:Program}{ops:Array Oper}{rest:List Oper}{o:Oper}{a:Act}{w:Wd}{Q:Exit->Act->Wd->Prop}{t e s bytes:Nat}(T:SlT P t e s bytes)(x:Operand)(D:∀ f,F.fn f)
  (j:o.op = .buildSlice t 1 #[(0,x)]) (J:Region.wanted o (yielded ops a.tmps)=true) {cs:Wv} (K:a.eval x = .agg cs.toArray) (I:cs.length=s) (hs:s<=1000)
  (h:wpListIn F n P ops Q rest (a.put o.dst (.slice (some ⟨w.heap.size,0,none⟩) 1 1)) (w.alloc (.cells cs.toArray e))):wpListIn F n P ops Q (o :: rest) a w:=by
 refine SI (v:=.slice (some ⟨w.heap.size,0,none⟩) 1 1) (w':=w.alloc (.cells cs.toArray e)) D (fun ρ=>Oper.semAt_eq _ _ _ (λc=>by rw[j];exact λe=>by cases e)) J ?_ h;have hrun:=qS T cs I hs w;unfold execOp;simp only[j,Sem.run_bind,List.map_toArray,List.map_cons,List.map_nil,K,hrun,Result.andThen_ok];rfl
theorem YJ:SlT prog 52 172 33 40:=SlT.mk' underlying52 (z:=.agg zE) (by unfold zE;kernel_rfl) rfl (by decide)
theorem O5(q:cH):∀ u∈aN q,u.oneCell'=true:=λu j=>by
 simp only[aN,cR,ju,List.mem_singleton] at j;rcases j with j|rfl
 ·exact bR _ u j
 ·rfl
theorem O6{w:Wd}{base e s n:Nat}{v:Value}{j:Wv}(h:w.ownsRow base e s v n j){g:Nat}(hg:g<base)(i:Nat)(u:Value):(w.setCell ⟨g,i,none⟩ u).ownsRow base e s v n j:=
 pX h λb hb=>Below.heap_setCell w ⟨g,i,none⟩ u b (by have:=(h.lt b hb).1;simp;omega)
theorem SS.push{w:Wd}{N k g:Nat}{se:List cH}{v v':Value}{T:bJ}{K D:Wd}(h:SS w N k (some g,se) v T K){q:cH}(hq:EntOk q){M:Nat}
    (I:D.ownsRow (N+6) 172 33 v' (se.length+1) (se.flatMap aN++aN q)) (x:K.grownBy D v.ownBlock) (R:v'.ownBlock=v.ownBlock\/v'.ownBlock=some K.heap.size) (hM:N+6<=M/\M<=K.heap.size):
    SS w N (k+1) (some g,se++[q]) v' (λj=>T j\/(M<=j/\j<D.heap.size)) (D.setCell ⟨N+3,2,none⟩ v'):=by
  have Z:∀ j,j<N+6->some j≠v.ownBlock:=λj hj e=>by have:=(h.own.lt j e.symm).1;omega
  have hs:=x.size;have hN:=h.size;have U:∀ j,j<N+6->D.heap[j]? = K.heap[j]?:=λj hj=>x.block j (by omega) (Z j hj)
  have J:∀ j,j<N+6->j≠N+3->(D.setCell ⟨N+3,2,none⟩ v').heap[j]? = K.heap[j]?:=λj hj V=>(Below.heap_setCell D ⟨N+3,2,none⟩ v' j V).trans (U j hj)
  refine { b4 := (J _ (by omega) (by omega)).trans h.b4, b5 := (J _ (by omega) (by omega)).trans h.b5, b6 := ?_, own := ?_, ownT := ?_, bel := ?_, tin := ⟨.inl h.tin.1, .inl h.tin.2.1, .inl h.tin.2.2⟩
           tsub := λj hj => hj.elim (h.tsub j) (λV => .inr (.inr (.inr (by omega)))), tlt := λj hj => hj.elim (λh1 => by have := h.tlt j h1; simp; omega) (λV => by simp; exact V.2)
           size:=by simp;omega,ok:=?_,len:=by have:=h.len;simp at this ⊢;omega,nil:=λe=>by cases e }
  · exact Blk.set_ (show Blk D (N+3) _ (stC (some g,se) v) from(U _ (by omega)).trans h.b6) 2 v'
  · have:=O6 I (g:=N+3) (by omega) 2 v';rw[jj,List.flatMap_append];simpa using this
  · intro j hj;rcases R with e|e
    · exact .inl (h.ownT j (by rw[<- e];exact hj))
    · rw[e] at hj;injection hj with hj
      have:=(I.lt j (by rw[e,hj])).2;exact .inr ⟨by omega,this⟩
  · have O:=h.bel;refine⟨x.os.trans O.os,x.tape.trans O.tape,x.output.trans O.output,by have:=O.size;simp;omega,λj hj=>(J j (by omega) (by omega)).trans (O.block j hj)⟩
  · intro y hy;rcases List.mem_append.1 hy with hy|hy
    · exact h.ok y hy
    · rw[List.mem_singleton] at hy;rw[hy];exact hq
theorem TR:stZ.all (·.oneCell')=true:=all_oneCell_toArray (cs:=[.bool false,.int .u32 0,.slice none 0 0]) λu j=>by
 simp only[jl,j8,or_false] at j;rcases j with rfl|rfl|rfl <;> rfl
structure SX(w:Wd)(N:Nat)(all:List (Wl×Ans))(T:bJ)(U:Wd):Prop where
 ex:∃ y,dF (none,[]) all=((none,[]),some y)/\Blk U (N+2) 42 #[bK (some y)]
 b4:Blk U (N+1) 392 stZ
 bel:Below N w U
 tin:T (N+1)/\T (N+2)
theorem SX.stab{w:Wd}{N:Nat}{all:List (Wl×Ans)}{T:bJ}{A B:Wd}(h:SX w N all T A){M:Nat}(J:N+6<=M)(x:Lies (λk=>T k\/(k<M/\¬False)) A B):SX w N all T B:=by
 obtain⟨y,h1,D⟩:=h.ex;exact⟨⟨y,h1,x.blk D (.inl h.tin.2)⟩,x.blk h.b4 (.inl h.tin.1),⟨x.os.trans h.bel.os,x.tape.trans h.bel.tape,x.output.trans h.bel.output,jm h.bel.size x.size,λj I=>(x.block j (by have:=h.b4.lt;omega) (.inr ⟨by omega,λh=>h⟩)).trans (h.bel.block j I)⟩,h.tin⟩
theorem K7(f:Int)(z:Nat)(w:Wd)(m:DiskM)(d:DiskD)(h:DK w m d)(hf:0<=f/\f<=100000)(hz:z<=10000):
  Wc 263 #[.pointer (some ⟨m.g,0,none⟩),.agg #[.int .i64 f,.int .i64 z]] w λe w'=>Bw w w'/\∃ v,e = .returned (.tuple #[.agg (stC (dF (none,[]) (d8 d f z)).1 v),bK (dF (none,[]) (d8 d f z)).2])/\w'.ownsRow w.heap.size 172 33 v (dF (none,[]) (d8 d f z)).1.2.length ((dF (none,[]) (d8 d f z)).1.2.flatMap aN)/\(∀ q∈(dF (none,[]) (d8 d f z)).1.2,EntOk q):=by
 have f8:=yN h.ok z f;have n3:=yO d z f;obtain⟨all,h8⟩:=je (d8 d f z);rw[<- h8] at f8 n3 ⊢;have k2:=jz f8;clear f8;refine m0 func263 rfl ?_;simp only[ntmps263,js,List.length_cons,List.length_nil,Nat.reduceAdd,Nat.reduceSub,Array.replicate_succ,Array.replicate_zero,List.push_toArray,List.append_toArray,List.nil_append,List.cons_append];refine wpIn_wide.2 ?_;go_wp2_with (first
  | (refine al 392 stZ rfl rfl vJ ?_)
  | (go_at_call 309;refine(DD m.g f z _).mono ?_;rintro e W ⟨rfl,hW⟩))
 simp only[World.size_alloc,Nat.add_assoc,Nat.reduceAdd] at hW ⊢;rw[<- hW];have k0:Bw w W:=by rw[hW];exact aA (aA (aA (aA (aA (aG _ _) (aG _ _)) (aG _ _)) (aG _ _)) (aG _ _)) (aG _ _)
 have s3:W.heap.size=w.heap.size+6:=by rw[hW];simp
 have m8:Blk W (w.heap.size+1) 392 stZ:=by rw[hW];exact((((Blk.newAt _ _ _ _ (by simp)).alloc _).alloc _).alloc _).alloc _
 have f6:Blk W (w.heap.size+2) 42 #[.nilIface]:=by rw[hW];exact(((Blk.newAt _ _ _ _ (by simp)).alloc _).alloc _).alloc _
 have m9:Blk W (w.heap.size+3) 392 stZ:=by rw[hW];exact((Blk.newAt _ _ _ _ (by simp)).alloc _).alloc _
 have n1:Blk W (w.heap.size+4) 78 #[.pointer (some ⟨m.g,0,none⟩)]:=by rw[hW];exact(Blk.newAt _ _ _ _ (by simp)).alloc _
 have n2:Blk W (w.heap.size+5) 324 #[.int .i64 f,.int .i64 z]:=by rw[hW];exact Blk.newAt _ _ _ _ (by simp)
 have g2:=jz (O4 f z w m d (w.heap.size+5) (w.heap.size+4) W h k0 n2 n1 ⟨by omega,by omega⟩ hf (by omega))
 have q7:Hid (SS w w.heap.size 0 (none,[]) (.slice none 0 0) (λk=>k=w.heap.size+1\/k=w.heap.size+2\/k=w.heap.size+3) W):=jz {
  b4:=m8,b5:=f6,b6:=m9
  own:=World.ownsRow_nil _ _ _ _
  ownT:=λk h=>by cases h
  bel:=k0
  tin:=⟨.inl rfl,.inr (.inl rfl),.inr (.inr rfl)⟩
  tsub:=λj hj=>by rcases hj with h|h|h <;> simp[h]
  tlt:=λj hj=>by rcases hj with h|h|h <;> omega
  size:=by omega
  ok:=λq hq=>by cases hq
  len:=ja _
  nil:=λ_=>⟨rfl,rfl⟩ }
 rw[<- h8] at g2;clear m8 f6 m9 n1 n2 k0 hW h8 h;refine(wpIn_wide (n:=9)).1 ?_;refine gQ (w0:=W) (all:=all) (encs:=TP) (Z:=λ_=>False) (X:=XS w.heap.size (w.heap.size+5) (w.heap.size+4)) rfl (λh=>by cases h) (gf:=328) (lb:=#[.pointer (some ⟨w.heap.size+5,0,none⟩),.pointer (some ⟨w.heap.size+4,0,none⟩)]) rfl trivial (enters_of func328 (by kernel_rfl) rfl)
  (SeqZ.any g2) (ji _ _) (λ_=>rfl) (λk h=>h.elim)
  (λR T U=>∃ st v,SS w w.heap.size R.length st v T U/\YH all R st)
  (λc R T U=>(c = .ret/\SX w w.heap.size all T U)\/(c = .exit 0/\∃ st v,SS w w.heap.size R.length st v T U/\dF (none,[]) all=(st,none)))
  (λR x a' T U=>∃ st v b7,SS w w.heap.size R.length st v T U/\YH all R st/\Blk U b7 243 (u8s x.1).toArray/\w.heap.size+6<=b7/\v.ownBlock≠some b7/\T b7/\a'={ tmps:=#[.pointer (some ⟨m.g,0,none⟩),.agg #[.int .i64 f,.int .i64 z],undef,.pointer (some ⟨w.heap.size,0,none⟩),.pointer (some ⟨w.heap.size+1,0,none⟩),.pointer (some ⟨w.heap.size+2,0,none⟩),.pointer (some ⟨w.heap.size+3,0,none⟩),.pointer (some ⟨b7,0,none⟩),bK x.2,undef,undef,undef,undef,undef,.pointer (some ⟨m.g,0,none⟩),.agg #[.int .i64 f,.int .i64 z],.func (.func 328) #[] #[.pointer (some ⟨w.heap.size+5,0,none⟩),.pointer (some ⟨w.heap.size+4,0,none⟩)],.agg (u8s x.1).toArray,bK x.2,undef,undef,undef,undef,undef,undef,undef,undef,undef,undef,undef,undef,undef,undef,undef,undef,undef,undef,undef,undef,undef,undef,undef,undef,undef,undef,undef,undef,undef,undef,undef,undef,undef,undef,undef,undef,undef,undef],defers:=[] })
  (λk=>k=w.heap.size+1\/k=w.heap.size+2\/k=w.heap.size+3)
  (λst T A' B h d5=>by
   obtain⟨s,v,h,hr⟩:=h
   exact⟨s,v,h.stab (M:=W.heap.size) (by omega) d5,hr⟩)
  (λc st T A' B h d5=>by
   rcases h with ⟨hc,h⟩|⟨hc,s,v,h,hr⟩
   ·exact .inl ⟨hc,h.stab (M:=W.heap.size) (by omega) d5⟩
   ·exact .inr ⟨hc,s,v,h.stab (M:=W.heap.size) (by omega) d5,hr⟩)
  (λR x a' _ T A' B h d5=>by
   obtain⟨s,v,b7,h,hr,h7,hl,hn,ht,ha⟩:=h
   exact⟨s,v,b7,h.stab (M:=W.heap.size) (by omega) d5,hr,d5.blk h7 (.inl ht),hl,hn,ht,ha⟩)
  (λst T A' h k hk=>by
   obtain⟨s,v,h,_⟩:=h
   exact h.tlt k hk)
  (λk hk hx=>by
   rcases hk with h|h|h <;> rcases hx with h'|h'|h' <;> omega)
  ⟨_,_,q7,λrest e=>by rw[e];rfl⟩
  ?assign ?body ?done ?stop
 case assign=>
  rintro ln R x T U r2 a2 r6 ⟨st,v,hI,b0⟩;have HI:=jz hI;have m4:=jz b0;have a8:Hid (Sec x.1):=jz (k2 x (a2.subset (by simp)));have m5:Hid ((prog.info? 243).map (·.size)=some (u8s x.1).toArray.size/\z64.size=(u8s x.1).toArray.size):=jz ⟨by rw[js,aF a8.out];kernel_rfl,by rw[cS,js,aF a8.out]⟩;clear hI a2 b0;simp only[TP,List.zip_toArray,List.zip_cons_cons,List.zip_nil_left,List.zip_nil_right,List.foldl_toArray,List.foldl_toArray',List.foldl_cons,List.foldl_nil,List.setIfInBounds_toArray,List.set_cons_succ,List.set_cons_zero];gi_wp2_with (first
   | (refine iAl 243 _ rfl (bO _) rfl dG ?_)
   | (refine o4 (cells:=(u8s x.1).toArray) (old:=z64) 243 (.tmp 7) (.tmp 17) rfl (bO _) rfl (by rfl) (by rfl) (by exact m5.out.1) (by exact m5.out.2) (by exact dI _) ?_;intro U2 h6))
  have K:Bw U U2:=by rw[h6];exact aG _ _
  have n0:Blk U2 U.heap.size 243 (u8s x.1).toArray:=by rw[h6];exact Blk.new _ _ _
  have h2:=HI.stab (M:=w.heap.size+6) (ja _) (Lies.of_below K);have s5:=n0.lt;rw[<- h6];refine⟨λk=>T k\/k=U.heap.size,(Turn.of_below K).grow (λk hk=>hk.imp id (λh=>by omega)),st,v,U.heap.size,⟨h2.b4,h2.b5,h2.b6,h2.own,λj hj=>.inl (h2.ownT j hj),h2.bel,⟨.inl h2.tin.1,.inl h2.tin.2.1,.inl h2.tin.2.2⟩,λj hj=>hj.elim (h2.tsub j) (λe=>by have:=HI.size;omega),λj hj=>hj.elim (h2.tlt j) (λe=>by omega),h2.size,h2.ok,h2.len,h2.nil⟩,m4,n0,HI.size,(λe=>by have:=(HI.own.lt _ e).2;omega),.inr rfl,by trivial⟩
 case body=>
  rintro ln R ⟨s,an⟩ a' T U r2 a2 r6 ⟨st,v,b7,hI,b0,h7,s4,r3,n6,rfl⟩;have a8:Hid (Sec s):=jz (k2 (s,an) (a2.subset (by simp)));obtain⟨rest,d7⟩:=a2;have a1:Hid (dF (none,[]) all=dF st ((s,an) :: rest)):=jz (b0 ((s,an) :: rest) (by rw[<- d7];simp));have c9:=jz d7;have HI:=jz hI;have m4:=jz b0;have m3:Hid (U.rangeAt b7 0 (u8s s)):=jz (by have:=h7.range;rw[jt] at this;exact this);have m6:Hid ((prog.info? 243).map (·.size)=some (u8s s).length):=jz (by rw[aF a8.out];kernel_rfl);have s1:=jz n6;clear d7 hI b0 h7 r3 n6;dsimp only;cases an with
  | some y=>
   have k4:Hid (dF (none,[]) all=((none,[]),some y)):=jz (by rw[a1.out];rfl);obtain⟨t,u,hv⟩:=bU y;have HV:=jz hv;rw[hv];have t0:=cV t u;clear hv;gi_wp2_with (refine iSt (cells:=stZ) 392 (.tmp 4) (.tmp 21) rfl (bO _) rfl (by rfl) (by rfl) HI.b4 (by kernel_rfl) rfl TR ?_;intro U2 hB hb ho e8;have q3:=jz hB;have r0:Hid (Turn T U T U2):=jz (Turn.one HI.tin.1 hb ho (by omega));have a3:Hid (Blk U2 (w.heap.size+2) 42 #[.nilIface]):=jz ((ho _ (by omega)).trans HI.b5);have c5:=a3.cell 0;have f5:=a3.frozen 0;simp only[jf,jg] at c5;have h0:Hid (Bw w U2):=jz (HI.bel.trans (hb.mono (by omega)));clear hB hb ho e8)
   refine⟨T,r0.setCell HI.tin.2.1 0 _,.inl ⟨rfl,⟨y,k4,?_⟩,q3.far (by simp) _,h0.setCell (p:=⟨w.heap.size+2,0,none⟩) (by simp) _,HI.tin.1,HI.tin.2.1⟩⟩;rw[HV.out];exact a3.set_ 0 _
  | none=>
   have hv:bK none = .nilIface:=rfl;rw[hv];obtain⟨so,se⟩:=st;cases so with
   | none=>
    obtain⟨n4,t2⟩:=HI.nil rfl;dsimp only at n4;subst n4;have c0:=HI.b6.cell 0;simp only[stC,jf,jg,Option.isSome_none] at c0;gi_wp2_with (refine iLd 243 _ rfl (bO _) rfl (by rfl) m3 underlying243 rfl m6 ?_)
    refine⟨trivial,(inR ln (o8 s U a8.out.1 a8.out.2)).mono ?_⟩;rintro e U2 ⟨K,⟨hp,rfl⟩|⟨g,hp,rfl⟩⟩
    ·have HF:Hid (dF (none,[]) all=((none,[]),none)):=jz (by rw[a1.out];unfold dF kH;simp only[hp,Option.map_none]);have J:=jz (HI.below K);have a7:=jz K;clear hp K c0;gi_wp2_with fail
     exact⟨T,Turn.of_below a7,.inr ⟨by simp,_,v,⟨J.b4,J.b5,J.b6,J.own,J.ownT,J.bel,J.tin,J.tsub,J.tlt,J.size,J.ok,by simp,J.nil⟩,HF⟩⟩
    ·have HF:Hid (dF (none,[]) all=dF (some g,[]) rest):=jz (by rw[a1.out];conv=>lhs;unfold dF kH;simp only[hp,Option.map_some]);have J:=jz (HI.below K);have a7:=jz K;have d0:=J.b6.cell 0;have d1:=(J.b6.set_ 0 (.bool true)).cell 1;have e0:=J.b6.frozen 0;have e1:=(J.b6.set_ 0 (.bool true)).frozen 1;simp only[stC,jf,List.setIfInBounds_toArray,List.set_cons_zero,jg,jh,Option.isSome_none] at d0 d1;clear hp K c0;gi_wp2_with fail
     refine⟨T,((Turn.of_below a7).setCell HI.tin.2.2 0 _).setCell HI.tin.2.2 1 _,(some g,[]),v,?_,λa0 e=>?_⟩
     ·have:=J.head g;rw[jj,List.length_singleton];exact this
     ·have:a0=rest:=by rw[<- c9.out] at e;simpa using e.symm
      rw[this];exact HF.out
   | some g0=>
    have c0:=HI.b6.cell 0;simp only[stC,jf,jg,Option.isSome_some] at c0;gi_wp2_with (refine iLd 243 _ rfl (bO _) rfl (by rfl) m3 underlying243 rfl m6 ?_)
    refine⟨trivial,(inR ln (pV s U a8.out.1 a8.out.2)).mono ?_⟩;rintro e U2 ⟨K,⟨hp,rfl⟩|⟨g,q,hp,rfl⟩⟩
    ·have HF:Hid (dF (none,[]) all=((some g0,se),none)):=jz (by rw[a1.out];unfold dF kH;simp only[hp]);have J:=jz (HI.below K);have a7:=jz K;clear hp K c0;gi_wp2_with (first
      | (refine iAl 172 _ rfl (bO _) rfl sG ?_)
      | (refine o4 (cells:=zE) 172 (.tmp 12) (.tmp 40) rfl (bO _) rfl (by rfl) (by rfl) (by rw[lC];kernel_rfl) rfl O1 ?_;intro U3 I;have a6:Bw U2 U3:=(by rw[I];exact aG _ _);have HI3:=jz (J.below a6);have f0:=jz a6;clear a6 I))
     exact⟨T,(Turn.of_below a7).below f0,.inr ⟨by simp,_,v,⟨HI3.b4,HI3.b5,HI3.b6,HI3.own,HI3.ownT,HI3.bel,HI3.tin,HI3.tsub,HI3.tlt,HI3.size,HI3.ok,by have:=HI3.len;simp at this ⊢;omega,HI3.nil⟩,HF⟩⟩
    ·have J:=jz (HI.below K);have a7:=jz K;have f9:=TQ a8.out.2 hp;have HQO:=jz f9;have m2:=jz hp;have f4:Hid ((prog.info? 172).map (·.size)=some (aN q).length/\(prog.info? 172).map (·.size)=some (aN q).toArray.size/\zE.size=(aN q).toArray.size):=jz ⟨by rw[aZ q f9];kernel_rfl,by rw[js,aZ q f9];kernel_rfl,by rw[lC,js,aZ q f9]⟩;clear hp K c0 f9;obtain⟨A,cap,rfl,_⟩:=bN HI.own;by_cases tg:g=g0
     ·subst tg;have HF:Hid (dF (none,[]) all=dF (some g,se++[q]) rest):=jz (by rw[a1.out];conv=>lhs;unfold dF kH;simp only[m2.out,if_true]);have s0:se.length<=10000:=by have:=HI.len;have h2:R.length<=all.length:=(by rw[<- c9.out];simp);dsimp only at this;omega
      gi_wp2_with (first
       | (refine iAl 172 _ rfl (bO _) rfl sG ?_)
       | (refine o4 (cells:=(aN q).toArray) 172 (.tmp 12) (.tmp 40) rfl (bO _) rfl (by rfl) (by rfl) f4.out.2.1 f4.out.2.2 (iI _ _) ?_;intro U3 I;have a6:Bw U2 U3:=(by rw[I];exact aG _ _);have HI3:=jz (J.below a6);have f0:=jz a6;have q6:Hid (U3.rangeAt U2.heap.size 0 (aN q)):=jz (by rw[I];have:=(Blk.new U2 172 (aN q).toArray).range;rw[jt] at this;exact this);have c1:=HI3.b6.cell 1;have c2:=HI3.b6.cell 2;simp only[stC,jf,jg,jh,Option.getD_some] at c1 c2;have t1:=HI3.size;clear a6 I)
       | (refine iLd 172 (.tmp 12) rfl (bO _) rfl (by rfl) q6 underlying172 rfl f4.out.1 ?_)
       | (refine YI YJ (.tmp 52) (bO _) rfl rfl (cs:=aN q) (by rfl) (aZ q HQO) (by omega) ?_)
       | (refine YC YJ (.tmp 51) (.tmp 53) (bO _) rfl rfl (by rfl) (World.ownsRow.alloc HI3.own _) (by rfl) (Sn.new U3 (aN q).toArray 172 33 1 (by rw[js,aZ q HQO.out])) (λu hu=>O5 q u (by simpa using hu)) (by unfold maxLen;simp;omega) (by simp;omega) (by simp;omega) ?_;intro v' W7 O d2 g3;obtain⟨A7,r7,rfl,_⟩:=bN O;rw[jt] at O;have h9:=aG U3 (.cells (aN q).toArray 172);have f3:=jz (HI3.below h9);have k1:Blk W7 (w.heap.size+3) 392 (stC (some g,se) (.slice A se.length cap)):=((d2.block (w.heap.size+3) f3.b6.lt (λe=>by have:=(f3.own.lt _ e.symm).1;omega)).trans f3.b6);have c7:=k1.cell 2;have f7:=k1.frozen 2;simp only[stC,jf,jg,jh] at c7;have q5:=jz O;have m1:=jz d2;have q4:=jz g3;have k3:=jz h9;clear O d2 g3 h9 k1))
      have hP:=f3.push HQO (M:=U.heap.size) q5 m1 q4 ⟨HI.size,by have:=a7.size;have:=f0.size;have:=k3.size;omega⟩;have c4:∀ a0,all=R++[(s,none)]++a0->dF (none,[]) all=dF (some g,se++[q]) a0:=λa0 e=>by
       have:a0=rest:=by rw[<- c9.out] at e;simpa using e.symm
       rw[this];exact HF.out
      have g1:=hP;rw[show R.length+1=(R++[(s,(none:Ans))]).length by simp] at g1;refine⟨λk=>T k\/(U.heap.size<=k/\k<W7.heap.size),(((((Turn.of_below a7).below f0).below k3).grown m1 (λk e=>f3.ownT k e)).setCell HI.tin.2.2 2 _).grow (λk hk=>hk.imp id (λh=>h.1)),?_⟩
      first
       | exact⟨some g,se++[q],⟨_,g1⟩,c4⟩
       | exact⟨some g,se++[q],⟨_,hP⟩,c4⟩
       | exact⟨some g,se++[q],_,g1,c4⟩
       | exact⟨(some g,se++[q]),_,g1,c4⟩
       | exact⟨(some g,se++[q]),_,hP,c4⟩
     ·have HF:Hid (dF (none,[]) all=((some g0,se),none)):=jz (by rw[a1.out];unfold dF kH;simp only[m2.out,jQ tg]);have t3:¬((g:Int)=(g0:Int)):=λe=>tg (by omega)
      gi_wp2_with (first
       | (refine iAl 172 _ rfl (bO _) rfl sG ?_)
       | (refine o4 (cells:=(aN q).toArray) 172 (.tmp 12) (.tmp 40) rfl (bO _) rfl (by rfl) (by rfl) f4.out.2.1 f4.out.2.2 (iI _ _) ?_;intro U3 I;have a6:Bw U2 U3:=(by rw[I];exact aG _ _);have HI3:=jz (J.below a6);have f0:=jz a6;have c1:=HI3.b6.cell 1;simp only[stC,jf,jg,jh,Option.getD_some] at c1;clear a6 I))
      exact⟨T,(Turn.of_below a7).below f0,.inr ⟨by simp,_,_,⟨HI3.b4,HI3.b5,HI3.b6,HI3.own,HI3.ownT,HI3.bel,HI3.tin,HI3.tsub,HI3.tlt,HI3.size,HI3.ok,by have:=HI3.len;simp at this ⊢;omega,HI3.nil⟩,HF⟩⟩
 case done=>
  rintro D T U hD ⟨st,v,h,b0⟩ f2 c3;have a4:Hid (dF (none,[]) all=(st,none)):=jz (by have:=b0 [] (by simp);rw[this];rfl);obtain⟨A,cap,rfl,_⟩:=bN h.own;have HH:=jz h;have h3:Hid (U.rangeAt (w.heap.size+3) 0 (stC st (.slice A st.2.length cap)).toList):=jz h.b6.range;have f1:=jz (And.intro f2 c3);have h4:Hid ((prog.info? 392).map (·.size)=some (stC st (.slice A st.2.length cap)).toList.length):=jz (by show _=some 3;kernel_rfl);have a5:Hid ((prog.info? 392).map (·.size)=some (stC st (.slice A st.2.length cap)).toList.toArray.size/\stZ.size=(stC st (.slice A st.2.length cap)).toList.toArray.size/\(stC st (.slice A st.2.length cap)).toList.toArray.all (·.oneCell')=true):=jz ⟨by show _=some 3;kernel_rfl,rfl,all_oneCell_toArray (λu hu=>by
   simp only[stC,jl,j8,or_false] at hu
   rcases hu with rfl|rfl|rfl <;> rfl)⟩
  clear h b0 f2 c3;gi_wp2_with fail
  go_wp2_with (first
   | (refine ld 392 (.tmp 6) rfl rfl rfl h3 underlying392 rfl h4 ?_)
   | (refine aO 392 (.tmp 4) (.tmp 56) rfl rfl rfl rfl HH.b4 a5.out.1 a5.out.2.1 a5.out.2.2 ?_;intro U2 hB hb ho e8;have HB:=jz hB;have HO:=jz ho;have HBl:=jz hb;have r1:=jz e8;have a3:Hid (Blk U2 (w.heap.size+2) 42 #[.nilIface]):=jz ((ho _ (by omega)).trans HH.b5);have c5:=a3.cell 0;have f5:=a3.frozen 0;simp only[jf,jg] at c5;clear hB hb ho e8))
  obtain⟨U3,I⟩:=je (U2.setCell ⟨w.heap.size+2,0,none⟩ .nilIface);rw[<- I];have a9:∀ k,k≠w.heap.size+1->k≠w.heap.size+2->U3.heap[k]? = U.heap[k]?:=λk h1 h2=>by
   rw[I];exact(Below.heap_setCell U2 ⟨w.heap.size+2,0,none⟩ _ k h2).trans (HO k h1)
  have hrun:=run_takeDeferred (P:=prog) (show U3.heap[D]? = some (.deferred (some [])) from(a9 D (by omega) (by omega)).trans f1.out.2);have V:Blk (U3.putObj D (.deferred none)) (w.heap.size+1) 392 (stC st (.slice A st.2.length cap)).toList.toArray:=(World.putObj_heap_other (by omega)).trans (by rw[I];exact HB.far (by simp) _);have b1:Blk (U3.putObj D (.deferred none)) (w.heap.size+2) 42 #[.nilIface]:=(World.putObj_heap_other (by omega)).trans (by rw[I];exact a3.set_ 0 _);have c6:Bw w (U3.putObj D (.deferred none)):=by
   have h5:=HH.bel;have hb:=HBl.out;refine⟨by rw[I];exact hb.os.trans h5.os,by rw[I];exact hb.tape.trans h5.tape,by rw[I];exact hb.output.trans h5.output,?_,λk hk=>(World.putObj_heap_other (by omega)).trans ((a9 k (by omega) (by omega)).trans (h5.block k hk))⟩;rw[I];have:=h5.size;have:=hb.size;simp;omega
  have O:(U3.putObj D (.deferred none)).ownsRow w.heap.size 172 33 (.slice A st.2.length cap) st.2.length (st.2.flatMap aN):=
   bE (pX HH.own (λk hk=>by
    have h1:=(HH.own.lt k hk).1
    exact(World.putObj_heap_other (λe=>f1.out.1 (by rw[<- e];exact HH.ownT k hk))).trans (a9 k (by omega) (by omega)))) (by omega)
  have q0:(U3.putObj D (.deferred none)).cell? ⟨w.heap.size+1,0,none⟩=some (.bool st.1.isSome):=V.cell 0;have q1:(U3.putObj D (.deferred none)).cell? ⟨w.heap.size+1,1,none⟩=some (.int .u32 (st.1.getD 0:Nat)):=V.cell 1;have q2:(U3.putObj D (.deferred none)).cell? ⟨w.heap.size+1,2,none⟩=some (.slice A st.2.length cap):=V.cell 2;have r5:=b1.cell 0;simp only[jf,jg] at r5;refine⟨by simp,.inl ⟨_,_,rfl,hrun,?_⟩⟩;refine⟨.tuple #[.agg (stC st (.slice A st.2.length cap)),.nilIface],?_,c6,_,by rw[a4.out];rfl,by rw[a4.out];exact O,by rw[a4.out];exact HH.ok⟩;clear V b1 c6 O hrun a9 I;simp[results,Tryz.results263,go_sem,q0,q1,q2,r5,stC]
 case stop=>
  rintro D c R T U hD a2 h f2 c3;have f1:=jz (And.intro f2 c3);rcases h with ⟨rfl,h⟩|⟨rfl,st,v,h,g8⟩
  ·obtain⟨y,hy,f6⟩:=h.ex;have hrun:=run_takeDeferred (P:=prog) c3;have V:Blk (U.putObj D (.deferred none)) (w.heap.size+1) 392 stZ:=(World.putObj_heap_other (by omega)).trans h.b4;have b1:Blk (U.putObj D (.deferred none)) (w.heap.size+2) 42 #[bK (some y)]:=(World.putObj_heap_other (by omega)).trans f6;have c6:Bw w (U.putObj D (.deferred none)):=by
    have h5:=h.bel;exact⟨h5.os,h5.tape,h5.output,by simpa using h5.size,λk hk=>(World.putObj_heap_other (by omega)).trans (h5.block k hk)⟩
   have q0:(U.putObj D (.deferred none)).cell? ⟨w.heap.size+1,0,none⟩=some (.bool false):=V.cell 0;have q1:(U.putObj D (.deferred none)).cell? ⟨w.heap.size+1,1,none⟩=some (.int .u32 0):=V.cell 1;have q2:(U.putObj D (.deferred none)).cell? ⟨w.heap.size+1,2,none⟩=some (.slice none 0 0):=V.cell 2;have r5:(U.putObj D (.deferred none)).cell? ⟨w.heap.size+2,0,none⟩=some (bK (some y)):=b1.cell 0;have h0:=jz c6;have a1:=jz hrun;have HY:=jz hy;clear h V b1 c6 c3 hrun a2 hy f6;gi_wp2_with fail
   refine⟨by simp,.inl ⟨_,_,rfl,a1,?_⟩⟩;refine⟨.tuple #[.agg stZ,bK (some y)],by simp[results,Tryz.results263,go_sem,q0,q1,q2,r5,stZ],h0,.slice none 0 0,by rw[HY.out];rfl,by rw[HY.out];exact World.ownsRow_nil _ _ _ _,by rw[HY.out];exact λq hq=>by cases hq⟩
  ·have a4:=jz g8;clear g8;obtain⟨A,cap,rfl,_⟩:=bN h.own;have HH:=jz h;have h3:Hid (U.rangeAt (w.heap.size+3) 0 (stC st (.slice A st.2.length cap)).toList):=jz h.b6.range;have f1:=jz (And.intro f2 c3);have h4:Hid ((prog.info? 392).map (·.size)=some (stC st (.slice A st.2.length cap)).toList.length):=jz (by show _=some 3;kernel_rfl);have a5:Hid ((prog.info? 392).map (·.size)=some (stC st (.slice A st.2.length cap)).toList.toArray.size/\stZ.size=(stC st (.slice A st.2.length cap)).toList.toArray.size/\(stC st (.slice A st.2.length cap)).toList.toArray.all (·.oneCell')=true):=jz ⟨by show _=some 3;kernel_rfl,rfl,all_oneCell_toArray (λu hu=>by
    simp only[stC,jl,j8,or_false] at hu
    rcases hu with rfl|rfl|rfl <;> rfl)⟩
   clear h f2 c3 a2;gi_wp2_with fail
   go_wp2_with (first
    | (refine ld 392 (.tmp 6) rfl rfl rfl h3 underlying392 rfl h4 ?_)
    | (refine aO 392 (.tmp 4) (.tmp 56) rfl rfl rfl rfl HH.b4 a5.out.1 a5.out.2.1 a5.out.2.2 ?_;intro U2 hB hb ho e8;have HB:=jz hB;have HO:=jz ho;have HBl:=jz hb;have r1:=jz e8;have a3:Hid (Blk U2 (w.heap.size+2) 42 #[.nilIface]):=jz ((ho _ (by omega)).trans HH.b5);have c5:=a3.cell 0;have f5:=a3.frozen 0;simp only[jf,jg] at c5;clear hB hb ho e8))
   obtain⟨U3,I⟩:=je (U2.setCell ⟨w.heap.size+2,0,none⟩ .nilIface);rw[<- I];have a9:∀ k,k≠w.heap.size+1->k≠w.heap.size+2->U3.heap[k]? = U.heap[k]?:=λk h1 h2=>by
    rw[I];exact(Below.heap_setCell U2 ⟨w.heap.size+2,0,none⟩ _ k h2).trans (HO k h1)
   have hrun:=run_takeDeferred (P:=prog) (show U3.heap[D]? = some (.deferred (some [])) from(a9 D (by omega) (by omega)).trans f1.out.2);have V:Blk (U3.putObj D (.deferred none)) (w.heap.size+1) 392 (stC st (.slice A st.2.length cap)).toList.toArray:=(World.putObj_heap_other (by omega)).trans (by rw[I];exact HB.far (by simp) _);have b1:Blk (U3.putObj D (.deferred none)) (w.heap.size+2) 42 #[.nilIface]:=(World.putObj_heap_other (by omega)).trans (by rw[I];exact a3.set_ 0 _);have c6:Bw w (U3.putObj D (.deferred none)):=by
    have h5:=HH.bel;have hb:=HBl.out;refine⟨by rw[I];exact hb.os.trans h5.os,by rw[I];exact hb.tape.trans h5.tape,by rw[I];exact hb.output.trans h5.output,?_,λk hk=>(World.putObj_heap_other (by omega)).trans ((a9 k (by omega) (by omega)).trans (h5.block k hk))⟩;rw[I];have:=h5.size;have:=hb.size;simp;omega
   have O:(U3.putObj D (.deferred none)).ownsRow w.heap.size 172 33 (.slice A st.2.length cap) st.2.length (st.2.flatMap aN):=
    bE (pX HH.own (λk hk=>by
     have h1:=(HH.own.lt k hk).1
     exact(World.putObj_heap_other (λe=>f1.out.1 (by rw[<- e];exact HH.ownT k hk))).trans (a9 k (by omega) (by omega)))) (by omega)
   have q0:(U3.putObj D (.deferred none)).cell? ⟨w.heap.size+1,0,none⟩=some (.bool st.1.isSome):=V.cell 0;have q1:(U3.putObj D (.deferred none)).cell? ⟨w.heap.size+1,1,none⟩=some (.int .u32 (st.1.getD 0:Nat)):=V.cell 1;have q2:(U3.putObj D (.deferred none)).cell? ⟨w.heap.size+1,2,none⟩=some (.slice A st.2.length cap):=V.cell 2;have r5:=b1.cell 0;simp only[jf,jg] at r5;refine⟨by simp,.inl ⟨_,_,rfl,hrun,?_⟩⟩;refine⟨.tuple #[.agg (stC st (.slice A st.2.length cap)),.nilIface],?_,c6,_,by rw[a4.out];rfl,by rw[a4.out];exact O,by rw[a4.out];exact HH.ok⟩;clear V b1 c6 O hrun a9 I;simp[results,Tryz.results263,go_sem,q0,q1,q2,r5,stC]
end
section
open Go.RowKit
attribute [local irreducible] wpQuiet wpAnyH
theorem K8(l:Wl):∀ x,l.foldl (λx c=>x*256+c.toNat) x=x*256 ^ l.length+beN l:=by
 induction l with
 | nil=>intro x;simp[beN]
 | cons c l ih=>
  intro x;rw[List.foldl_cons,ih,show beN (c :: l)=(c :: l).foldl (λx c=>x*256+c.toNat) 0 from rfl,List.foldl_cons,ih,List.length_cons,Nat.pow_succ,Nat.zero_mul,Nat.zero_add];rw[Nat.add_mul,Nat.mul_assoc,Nat.mul_comm 256,Nat.add_assoc]
theorem O7(c:Int)(l:Wl):beN (c :: l)=c.toNat*256 ^ l.length+beN l:=by
 rw[show beN (c :: l)=(c :: l).foldl (λx c=>x*256+c.toNat) 0 from rfl,List.foldl_cons,K8,Nat.zero_mul,Nat.zero_add]
theorem TS{s:Wl}{g:Nat}{p:Wl}(h:prs s=some (g,p)):g=beN ((s.drop 60).take 4):=by
 unfold prs at h;split at h
 ·cases h
 ·split at h
  ·cases h
  ·split at h
   ·cases h
   ·injection h with h;injection h with h _;exact h.symm
theorem K9(n:Nat):beN (List.replicate n 0)=0:=by
 induction n with
 | zero=>rfl
 | succ n ih=>rw[List.replicate_succ,O7,ih];simp
theorem O8{g:Nat}{p:Wl}(h:prs zsec=some (g,p)):p=[]:=by
 unfold prs at h;rw[show zsec.take 2=List.replicate 2 0 by unfold zsec;rw[List.take_replicate];rfl,K9] at h;split at h
 ·cases h
 ·split at h
  ·cases h
  ·split at h
   ·cases h
   ·injection h with h;injection h with _ h;rw[<- h,List.take_zero]
theorem LC:oM zsec=none:=by
 unfold oM;split
 ·rename_i g p h;rw[O8 h,jQ (by decide)]
 ·rfl
structure St(w0 w:Wd)(m:DiskM)(d:DiskD):Prop where
 dk:DK w m d
 ft:∀ k∈aX m,w0.heap.size<=k
 bel:Bw w0 w
def Apart(m:DiskM)(g:Nat):Prop:=g ∉ aX m/\∀ k,aD k->∀ v,m.cv k=some v->v.ownBlock≠some g
theorem Apart.next{w w':Wd}{m m':DiskM}{g:Nat}(h:Apart m g)(hg:g<w.heap.size)(ht:DT w m w' m'):Apart m' g:=
 ⟨λj=>by
  rcases ht.sub g j with j|j
  ·exact h.1 j
  ·omega,λk x v D e=>by
  rcases ht.cv k v D with h1|h1
  ·exact h.2 k x v h1 e
  ·have:=h1 g e;omega⟩
theorem DK.cv_lt{w:Wd}{m:DiskM}{d:DiskD}(h:DK w m d){k:Int}(D:aD k){v:Value}(j:m.cv k=some v):∀ b,v.ownBlock=some b->b<w.heap.size:=λb e=>by
 have:=h.crv k D;cases hc:d.cr k with
 | none=>rw[hc] at this;rw[this] at j;cases j
 | some cs=>
  rw[hc] at this;obtain⟨v2,h1,_,x⟩:=this;rw[j] at h1;injection h1 with h1
  subst h1;exact(x b e).2
theorem Apart.fresh{w:Wd}{m:DiskM}{d:DiskD}{g:Nat}(h:DK w m d)(hg:w.heap.size<=g):Apart m g:=
 ⟨h.notFoot hg,λk j v x e=>by have:=h.cv_lt j x g e;omega⟩
theorem DK.offK{w w':Wd}{m:DiskM}{d:DiskD}{b:Nat}(h:DK w m d)(I:∀ k,k≠b->w'.heap[k]? = w.heap[k]?)(hs:w.heap.size<=w'.heap.size)(ha:Apart m b):DK w' m d where
 blk:=(I m.g (λe=>ha.1 (e ▸ iR m))).trans h.blk
 sec:=aP h.sec λx J=>I x (λe=>ha.1 (e ▸ pO J))
 opn:=aP h.opn λx J=>I x (λe=>ha.1 (e ▸ tH J))
 last:=h.last.of_block (I _ (λe=>ha.1 (e ▸ nX m)))
 fl:=h.fl.of_block (I _ (λe=>ha.1 (e ▸ nY m)))
 cr:=h.cr.of_block (I _ (λe=>ha.1 (e ▸ l9 m)))
 nd:=h.nd
 flv:=h.flv
 crv:=λk hi=>by
  have:=h.crv k hi;cases hc:d.cr k with
  | none=>rw[hc] at this;exact this
  | some cs=>
   rw[hc] at this;obtain⟨v,h1,R,O⟩:=this;refine⟨v,h1,?_,λb hb=>⟨(O b hb).1,jp (O b hb).2 hs⟩⟩;have K:=ha.2 k hi v h1;obtain⟨A,cap,rfl,Z,q2,J⟩:=R;refine⟨A,cap,rfl,Z,q2,λV=>?_⟩;obtain⟨g,o,rfl,D⟩:=J V;exact⟨g,o,rfl,λj u U=>(World.cell?_of_block (a:=⟨g,o+j,none⟩) (I g (λe=>K (by rw[e];rfl)))).trans (D j u U)⟩
 ok:=h.ok
structure LB(w:Wd)(m:DiskM)(g:Nat)(t:TypeId)(cs:Wa):Prop where
 blk:Blk w g t cs
 nf:g ∉ aX m
structure LS(w:Wd)(m:DiskM)(s:Nat)(v:Value)(n:Nat)(xs:Wv):Prop where
 sn:Sn w s v n xs
 nf:∀ b,v.ownBlock=some b->b ∉ aX m/\b<w.heap.size
theorem St.keep{w0 w w':Wd}{m:DiskM}{d:DiskD}(h:St w0 w m d)(hb:Bw w w'):St w0 w' m d:=⟨h.dk.keep hb,h.ft,aA h.bel hb⟩
theorem St.next{w0 w w':Wd}{m m':DiskM}{d d':DiskD}(h:St w0 w m d)(j:DK w' m' d')(ht:DT w m w' m'):St w0 w' m' d':=
 ⟨j,ht.le h.ft h.bel.size,h.bel.trans (ht.below h.ft h.bel.size)⟩
theorem St.drew{w0 w:Wd}{m:DiskM}{d:DiskD}(h:St w0 w m d)(n:Nat):St w0 (w.drewN n) m d:=h.keep (bY (ji _ _) n)
theorem LB.keep{w w':Wd}{m:DiskM}{g:Nat}{t:TypeId}{cs:Wa}(h:LB w m g t cs)(hb:Bw w w'):LB w' m g t cs:=⟨h.blk.keep hb,h.nf⟩
theorem LB.next{w w':Wd}{m m':DiskM}{g:Nat}{t:TypeId}{cs:Wa}(h:LB w m g t cs)(ht:DT w m w' m'):LB w' m' g t cs:=
 ⟨(ht.off h.blk.lt h.nf).trans h.blk,λj=>by
  rcases ht.sub g j with j|j
  ·exact h.nf j
  ·have:=h.blk.lt;omega⟩
theorem LB.old{w0 w:Wd}{m:DiskM}{d:DiskD}{g:Nat}{t:TypeId}{cs:Wa}(h:St w0 w m d)(hb:Blk w0 g t cs):LB w m g t cs:=
 ⟨hb.keep h.bel,λj=>by have:=h.ft g j;have:=hb.lt;omega⟩
theorem LB.fresh{w w':Wd}{m:DiskM}{d:DiskD}{g:Nat}{t:TypeId}{cs:Wa}(h:DK w m d)(hg:w.heap.size<=g)(hb:Blk w' g t cs):LB w' m g t cs:=⟨hb,h.notFoot hg⟩
theorem LS.keep{w w':Wd}{m:DiskM}{s n:Nat}{v:Value}{j:Wv}(h:LS w m s v n j)(hb:Bw w w'):LS w' m s v n j:=
 ⟨h.sn.below hb,λb e=>⟨(h.nf b e).1,jp (h.nf b e).2 hb.size⟩⟩
theorem LS.next{w w':Wd}{m m':DiskM}{s n:Nat}{v:Value}{x:Wv}(h:LS w m s v n x)(ht:DT w m w' m'):LS w' m' s v n x:=
 ⟨ht.fo.sn h.sn (λb e=>(h.nf b e).1),λb e=>⟨λj=>by
  rcases ht.sub b j with j|j
  ·exact(h.nf b e).1 j
  ·have:=(h.nf b e).2;omega,jp (h.nf b e).2 ht.fo.size⟩⟩
theorem LS.old{w0 w:Wd}{m:DiskM}{d:DiskD}{s n:Nat}{v:Value}{x:Wv}(h:St w0 w m d)(hs:Sn w0 s v n x)(j:∀ b,v.ownBlock=some b->b<w0.heap.size):LS w m s v n x:=
 ⟨hs.below h.bel,λb e=>⟨λD=>by have:=h.ft b D;have:=j b e;omega,jp (j b e) h.bel.size⟩⟩
theorem LS.own{w w':Wd}{m:DiskM}{d:DiskD}{t s n:Nat}{v:Value}{x:Wv}(h:DK w m d)(j:w'.ownsRow w.heap.size t s v n x):LS w' m s v n x:=
 ⟨Sn.own j,λb e=>⟨h.notFoot (World.ownsRow.lt j b e).1,(World.ownsRow.lt j b e).2⟩⟩
theorem Sn.take{w:Wd}{s n cap:Nat}{A:Option Addr}{K:Wv}(h:Sn w s (.slice A n cap) n K)(k:Nat)(O:k<=n):Sn w s (.slice A k cap) k (K.take (k*s)):=by
 obtain⟨U,I,hv,J,V,R⟩:=h;injection hv with hA _ hc
 subst hA hc;have:=Nat.mul_le_mul_right s O;refine⟨_,_,rfl,by omega,by rw[jv];omega,λZ=>?_⟩;obtain⟨b,off,rfl,x⟩:=R (by omega);refine⟨b,off,rfl,λj u D=>x j u ?_⟩;rw[List.getElem?_take] at D;split at D
 ·exact D
 ·cases D
def qD(sec:List Wl)(opn:List (Int×Wl))(st r:Nat):DiskD:={ sec:=sec,opn:=opn,down:=false,steps:=st,fl:=λ_=>false,cr:=λ_=>none,room:=r }
theorem WR(n:Nat):eT n=qD (List.replicate n zsec) [] 0 0:=rfl
theorem yP(sec:List Wl)(opn:List (Int×Wl))(st r:Nat):aW (qD sec opn st r)=qD sec opn (st+1) (max r (st+1)):=by
 unfold aW qD;simp
theorem GA(sec:List Wl)(opn:List (Int×Wl))(st r:Nat):i7 (qD sec opn st r)=0:=rfl
theorem VZ{sec:List Wl}{opn:List (Int×Wl)}{st r:Nat}{a:Int}(h:0<=a)(j:a<sec.length):jJ (qD sec opn st r) a=true:=by
 unfold jJ;rw[decide_eq_true h,Bool.true_and];exact decide_eq_true j
theorem DE{sec:List Wl}{opn:List (Int×Wl)}{st r:Nat}{a:Int}(h:0<=a)(j:a<sec.length):fN (qD sec opn st r) a=none:=by
 unfold fN;rw[GA,VZ h j];rfl
theorem DF{sec:List Wl}{opn:List (Int×Wl)}{st r:Nat}{a:Int}(h:0<=a)(j:a<sec.length)(s:Wl):bG (qD sec opn st r) a s=qD sec (opn++[(a,s)]) (st+1) (max r (st+1)+1):=by
 unfold bG;rw[GA,yP];unfold jV;rw[VZ h j];rfl
theorem TT(sec:List Wl)(opn:List (Int×Wl))(st r:Nat):jX (qD sec opn st r)=none:=rfl
theorem JO(sec:List Wl)(opn:List (Int×Wl))(st r:Nat):cG (qD sec opn st r)=qD (lR sec opn opn.length) [] (st+1) (max r (st+1)):=by
 unfold cG;rw[GA,yP];rfl
theorem YK{sec:List Wl}{opn:List (Int×Wl)}{st r:Nat}{a:Int}(h:0<=a)(j:a<sec.length)(s:Wl):wsA (qD sec opn st r) a s=none:=by
 unfold wsA;rw[DE h j,DF h j];rfl
theorem YL{sec:List Wl}{st r:Nat}{a:Int}(h:0<=a)(j:a<sec.length)(s:Wl):∃ r',st+2<=r'/\r'<=max r (st+2)+1/\wsD (qD sec [] st r) a s=qD (sec.set a.toNat s) [] (st+2) r':=by
 refine⟨max (max r (st+1)+1) (st+2),by omega,by omega,?_⟩;unfold wsD;rw[DE h j,DF h j];show cG _=_;rw[JO];rfl
theorem vK{d:DiskD}(hd:d.down=false)(D:d.opn=[]):∀(n:Nat) (a:Int),0<=a->a.toNat+n<=d.sec.length->d8 d a n=((d.sec.drop a.toNat).take n).map (λs=>(s,none))
 | 0,a,_,_=>by simp[d8]
 | n+1,a,h0,h=>by
  have j:a.toNat<d.sec.length:=by omega
  have x:jJ d a=true:=by unfold jJ;simp;omega
  have I:rdA d a=none:=by unfold rdA;rw[hd,x];rfl
  have e2:rdS d a=d.sec[a.toNat]:=by
   unfold rdS;rw[hd,x];show rdD d a=_;unfold rdD;rw[D];simp[j]
  rw[d8,I,jP rfl,e2,vK hd D n (a+1) (by omega) (by omega),List.drop_eq_getElem_cons j,List.take_succ_cons,List.map_cons,show(a+1).toNat=a.toNat+1 by omega]
def gF:SSt->List Wl->SSt
 | st,[]=>st
 | st,s :: r=>match kH st s with|some st'=>gF st' r|none=>st
theorem vL:∀(L:List Wl) (st:SSt),dF st (L.map (λs=>(s,none)))=(gF st L,none)
 | [],st=>rfl
 | s :: r,st=>by
  rw[List.map_cons];unfold dF gF;cases h:kH st s with
  | none=>rfl
  | some st'=>exact vL r st'
theorem sI(g:Nat):∀(L:List Wl) (es:List cH),∃ more,gF (some g,es) L=(some g,es++more)/\more.length<=L.length
 | [],es=>⟨[],by simp[gF],ja _⟩
 | s :: L,es=>by
  rw[gF];unfold kH;cases hp:pD s with
  | none=>exact⟨[],by simp,by simp⟩
  | some x=>
   obtain⟨g',e⟩:=x;by_cases hg:g'=g
   ·obtain⟨m,j,D⟩:=sI g L (es++[e]);refine⟨e :: m,?_,by simp;omega⟩;simp only[jP hg,j,List.append_assoc,List.singleton_append]
   ·refine⟨[],?_,by simp⟩;simp only[jQ hg,List.append_nil]
end
end Go.Proofs.YtiaigidbcljblaaGreatDoor
