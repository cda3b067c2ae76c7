import Derived.Test.YtjjlaipkkdncfaaGreatDoorMV8
import Derived.Test.YtjjlaipkkdncfaaGreatDoorMV9
set_option linter.unusedSimpArgs false
set_option maxRecDepth 100000
set_option maxHeartbeats 40000000
namespace Go.Proofs.YtjjlaipkkdncfaaGreatDoor
open Go.Proofs.Tryz
open Go.RowKit
attribute [local irreducible] wpQuiet wpAnyH
def zE:Wa:=(aO (List.replicate 32 0,0)).toArray
theorem rS:∀ w,(zeroValue 26).run prog w = .ok (.agg zE) w:=λw=>by unfold zE;kernel_rfl
theorem EO:prog.built 26 []=some zE:=by unfold zE;kernel_rfl
theorem jV:zE.size=33:=by simp[zE,aO,cS,u8s]
theorem MJ:zE.all (·.oneCell')=true:=gO _ _
def oF(s:Wl):Option (Nat×(Wl×Int)):=match prs s with
 | none=>none
 | some (g,p)=>if p.length=40/\beN (p.drop 32)<=4611686018427387904 then some (g,(p.take 32,(beN (p.drop 32):Int))) else none
theorem QR{s:Wl}{g:Nat}{p:Wl}(h:prs s=some (g,p)):p.length<=54:=by
 unfold prs at h;split at h
 ·cases h
 ·rename_i D;split at h
  ·cases h
  ·split at h
   ·cases h
   ·injection h with h
    injection h with _ h
    rw[<- h,jv];omega
theorem eG{P:Program}{w:Wd}{fn:Func}{p u x:Tmp}{ty:TypeId}(h:fn.results=#[.tmp u,.cell p ty,.tmp x])(tmps:Wa){b off:Nat}{cs:Wv}{d:TypeDesc}(I:tmps.getD p undef = .pointer (some ⟨b,off,none⟩))(D:w.rangeAt b off cs)
  (J:P.underlying ty=some d) (hd:d.isRow=true) (hi:(P.info? ty).map (·.size)=some cs.length):(results fn tmps).run P w = .ok (.tuple #[tmps.getD u undef,.agg cs.toArray,tmps.getD x undef]) w:=by
 have h1:tmps[p]?.getD undef = .pointer (some ⟨b,off,none⟩):=by simpa using I
 simp[results,h,h1,asAddr,Sem.run_bind,Result.andThen,run_loadVar_mid w b off ty cs d D J hd hi]
theorem JM(r:Nat)(v:Value)(p:Wl)(w:Wd)(h:RD w r v p false)(hl:p.length<=1000000):
  Wc 169 #[.pointer (some ⟨r,0,none⟩),.int .i64 32] w λe w'=>Off r w w'/\∃ x v' K V D,e = .returned x/\K.length<=32/\Sn w' 1 x K.length (u8s K)/\RD w' r v' V D/\(∀ b,v'.ownBlock=some b->v.ownBlock=some b) /\
   ((D=false/\32<=p.length/\K=p.take 32/\V=p.drop 32)\/(D=true/\p.length<32/\K=[]/\V=[])):=by
 refine(AZ r v p false 32 w h hl (by omega)).mono ?_;rintro e w1 ⟨Z,⟨_,O,x,v',rfl,hs,R,U⟩|⟨I,rfl,R⟩⟩
 ·have J:(p.take 32).length=32:=by rw[jv];omega
  exact⟨Z,x,v',p.take 32,p.drop 32,false,rfl,by omega,by rw[J];exact hs,R,U,.inl ⟨rfl,O,rfl,rfl⟩⟩
 ·refine⟨Z,_,_,[],[],true,rfl,by simp,⟨none,0,rfl,ja _,rfl,λh=>absurd h (by simp)⟩,R,(λb e=>by cases e),.inr ⟨rfl,?_,rfl,rfl⟩⟩;rcases I with h|h
  ·cases h
  ·exact h
theorem QT(r:Nat)(v:Value)(K:Wl)(J:Bool)(w:Wd)(h:RD w r v K J)(hb:Bys K)(Z:K.length<=1000000):
  Wc 112 #[.pointer (some ⟨r,0,none⟩),.int .i64 8] w λe w'=>Off r w w'/\∃(N:Nat) (v':Value) (zs:Wl) (D:Bool),e = .returned (.int .u64 N)/\N<18446744073709551616/\RD w' r v' zs D /\
   ((J=false/\8<=K.length/\D=false/\N=beN (K.take 8)/\zs=K.drop 8)\/((J=true\/K.length<8)/\D=true)):=by
 refine(gA r v K J 8 w h hb Z (by omega) (by omega)).mono ?_;rintro e w1 ⟨V,⟨I,U,v',rfl,O⟩|⟨I,rfl,O⟩⟩
 ·refine⟨V,_,v',_,false,rfl,?_,O,.inl ⟨I,U,rfl,rfl,rfl⟩⟩;have:=mI (K.take 8) (λb R=>hb b (j7 R));rw[jv,Nat.min_eq_left U] at this;exact this
 ·exact⟨V,0,_,_,true,rfl,by omega,O,.inr ⟨I,rfl⟩⟩
def JN(xs:Wl):Wa:=((u8s xs).zipIdx 0).foldl (fun(cs:Wa) (x:Value×Nat)=>cs.setIfInBounds x.2 x.1) zE
theorem JO(D:Wl):(JN D).size=33:=by
 have key:∀(l:List (Value×Nat)) (cs:Wa),(l.foldl (fun(cs:Wa) (x:Value×Nat)=>cs.setIfInBounds x.2 x.1) cs).size=cs.size:=by
  intro l;induction l with
  | nil=>intro cs;rfl
  | cons x l ih=>intro cs;rw[List.foldl_cons,ih,Array.size_setIfInBounds]
 unfold JN;rw[key,jV]
theorem MK(D:Wl)(t:Int)(h:D.length=32):(JN D).setIfInBounds 32 (.int .i64 t)=(cS D t).toArray:=xK D t h zE jV
theorem RD.off{w w':Wd}{r g:Nat}{v:Value}{K:Wl}{I:Bool}(h:RD w r v K I)(J:Off g w w')(Z:r≠g)(hv:∀ b,v.ownBlock=some b->b≠g):RD w' r v K I:=by
 refine⟨J.blk h.1 Z,?_⟩;obtain⟨A,cap,rfl,O,U,hx⟩:=h.2;refine⟨A,cap,rfl,O,U,λV=>?_⟩;obtain⟨b,off,rfl,D⟩:=hx V;exact⟨b,off,rfl,λj u R=>J.cell (D j u R) (hv b rfl)⟩
theorem pA(s:Wl)(w:Wd)(hl:s.length=64)(hb:Bys s):
  Wc 158 #[.agg (u8s s).toArray] w λe w'=>Bw w w' /\
   ((oF s=none/\e = .returned (.tuple #[.int .u32 0,.agg zE,.bool false]))\/(∃ g q,oF s=some (g,q)/\e = .returned (.tuple #[.int .u32 g,.agg (aO q).toArray,.bool true]))):=by
 have n7:(u8s s).length=64:=by rw[aK,hl]
 have HZ:Hid ((prog.info? 26).map (·.size)=some zE.size/\zE.all (·.oneCell')=true):=jz ⟨by rw[jV];kernel_rfl,MJ⟩;obtain⟨wa,Z⟩:=je (w.alloc (.cells (u8s s).toArray 195));obtain⟨R,a8⟩:=je wa.heap.size;obtain⟨w1,a5⟩:=je (wa.alloc (.cells zE 26));have f4:Blk w1 w.heap.size 195 (u8s s).toArray:=by rw[a5,Z];exact(Blk.new _ _ _).alloc _
 have d4:=f4.range;rw[jt] at d4;have m2:=jz d4;have c3:Hid (Blk w1 R 26 zE):=jz (by rw[a5,a8];exact Blk.new _ _ _);have b3:Hid (Bw w w1):=jz (by rw[a5,Z];exact((ji _ w).alloc (ja _) _).alloc (by simp) _);have HGE:Hid (w.heap.size<=R):=jz (by rw[a8,Z];simp);clear f4 d4;go_enter func158,ntmps158
 go_upto_region 1 with (refine al 26 zE rfl rfl rS ?_)
 rw[<- Z,<- a5,show w.heap.size+1=R by rw[a8,Z];simp];clear Z a5 a8;go_wp2_with (refine ld 195 _ rfl rfl rfl m2 underlying195 rfl (by rw[n7];kernel_rfl) ?_)
 refine(rO s w1 hl hb).mono ?_;rintro e w2 ⟨O,⟨hn,rfl⟩|⟨g,p,v,hp,rfl,hs⟩⟩
 ·have k0:=jz (c3.keep O);have h6:Hid (Bw w w2):=jz (aB b3 O);have HN:Hid (oF s=none):=jz (by unfold oF;rw[hn]);clear hn O;go_wp2_with (first
   | (refine bld 26 #[] rfl rfl rfl EO ?_)
   | (refine aN 26 (.tmp 3) (.tmp 19) rfl rfl rfl rfl k0 HZ.out.1 rfl HZ.out.2 ?_;intro w3 f5 g0 _ _;have b7:=jz f5;have c6:=jz g0;clear f5 g0))
  have hr:=b7.range;exact bodyPost_ret (eG rfl _ rfl hr underlying26 rfl (by rw[jk];exact HZ.out.1)) rfl ⟨h6.trans (c6.mono HGE),.inl ⟨HN,rfl⟩⟩
 ·obtain⟨I,d3⟩:=je w2.heap.size;obtain⟨w3,V⟩:=je (w2.alloc (.cells zE 26));have b7:Hid (Bw w w3):=jz (by rw[V];exact(aB b3 O).alloc (aB b3 O).size _);have c6:Hid (Blk w3 R 26 zE):=jz (by rw[V];exact(c3.keep O).alloc _);have e4:Hid (Blk w3 I 26 zE):=jz (by rw[V,d3];exact Blk.new _ _ _);have m9:Hid (Sn w3 1 v p.length (u8s p)):=jz (by rw[V];exact hs.alloc _);have q4:R<I:=by have h1:=c3.lt;have h2:=O.size;omega
  have q2:I<w3.heap.size:=e4.lt;have HP:=jz hp;have k7:=jz (y5 hb hp);have q5:p.length<=54:=QR hp;clear hp hs O;go_upto_region 5 with (refine al 26 zE rfl rfl rS ?_)
  rw[<- V,<- d3];clear V d3;go_wp2_with fail
  refine(xJ _ p w3 m9 (by omega)).mono ?_;rintro e w4 ⟨r,v4,rfl,f7,hfr,n6,a3⟩;have d7:Hid (Bw w w4.drew):=jz (aB b7 a3).drew;have k1:Hid (Blk w4.drew R 26 zE):=jz (c6.keep a3.drew);have n1:Hid (Blk w4.drew I 26 zE):=jz (e4.keep a3.drew);have m3:Hid (RD w4.drew r v4 p false):=jz f7;have k4:=jz hfr;have q1:I<r:=by omega
  have p9:=jz a3.size;clear f7 hfr n6 a3;go_upto_region 6 with fail
  refine cC 5 (λ_=>True) (by kernel_rfl) (by kernel_rfl) (trivial) (λhH=>?_);refine jT 0 (.fieldAddr 26 (.tmp 8) 0) (some 22) (.pointer (some ⟨I,0,none⟩)) hH ?_;simp only[jq];refine jT 1 (.slice 24 (.tmp 22) none none none) (some 23) (.slice (some ⟨I,0,none⟩) 32 32) hH ?_;simp only[jq];refine jM 2 (.tmp 9) (some 24) (.pointer (some ⟨r,0,none⟩)) hH ?_;simp only[jq];refine jW [3] ?_;refine jC 3 (.call { callee:=.value (.func 169),args:=#[.tmp 24,.const (.int .i64 32)],argTypes:=#[209,3] }) (some 25) 169 (#[.pointer (some ⟨r,0,none⟩),.int .i64 32]) ?_ jN;refine(JM r v4 p w4.drew m3 (by omega)).mono ?_;rintro e w5 ⟨a9,x,v5,J,ys,f2,rfl,p6,h0,f8,g8,g2⟩;have h7:Hid (Bw w w5):=jz (d7.trans (a9.below (by have:=HGE.out;omega) d7.size));have k2:Hid (Blk w5 R 26 zE):=jz (a9.blk k1 (by omega));have e5:Hid (Blk w5 I 26 zE):=jz (a9.blk n1 (by omega));have m4:=jz f8;have k6:=jz g8;have a1:=jz g2;have n0:=jz h0;have e8:Hid (w5.there I 0 J.length):=jz (bX e5 (by rw[jV];omega));clear f8 g8 g2 h0 a9;refine⟨_,rfl,trivial,λhH=>?_⟩;simp only[jq];refine jW [4] ?_;refine TG 4 (dT:=60) (sT:=60) (elem:=5) (.tmp 23) (.tmp 25) (some 26) (by kernel_rfl) (by kernel_rfl) (by exact rfl) (by exact rfl) underlying60 (by kernel_rfl) n0 p6 e8 (cI _) trivial ?_ jN;simp only[jq];refine wpAnyH_done (by kernel_rfl) ?_ _;clear hH;have b9:Hid (Bw w (w5.setCells I 0 (u8s J))):=jz (h7.trans (aU (by have:=HGE.out;omega) _ _ _).1);obtain⟨w6,a6⟩:=je (w5.setCells I 0 (u8s J));have k3:Hid (Blk w6 R 26 zE):=jz (by rw[a6];exact(eS I _ 0 w5).blk k2 (by omega));have n2:Hid (Blk w6 I 26 (JN J)):=jz (by rw[a6];exact dM _ _ _ _ e5);have m5:Hid (RD w6 r v5 ys f2):=jz (by rw[a6];exact m4.off (eS I _ 0 w5) (by omega) (λb e=>by have:=k4.out b (k6 b e);omega));rw[<- a6] at b9 ⊢;have n3:Hid (Bys ys):=jz (by
   rcases a1 with ⟨_,_,_,e⟩|⟨_,_,_,e⟩
   ·rw[e];exact λb hb=>k7.out b (List.mem_of_mem_drop hb)
   ·rw[e];exact λb hb=>by cases hb)
  have p7:ys.length<=1000000:=by
   rcases a1 with ⟨_,_,_,e⟩|⟨_,_,_,e⟩
   ·rw[e,List.length_drop];omega
   ·rw[e];simp
  clear a6;go_wp2_with fail
  refine(QT r v5 ys f2 w6 m5 n3 p7).mono ?_;rintro e w7 ⟨b0,N,v7,zs,U,rfl,hN,f9,b2⟩;have a7:Hid (Bw w w7):=jz (b9.trans (b0.below (by have:=HGE.out;omega) b9.size));have HE7:Hid (Blk w7 R 26 zE):=jz (b0.blk k3 (by omega));have d0:Hid (Blk w7 I 26 (JN J)):=jz (b0.blk n2 (by omega));have m6:=jz f9;have c4:=jz b2;clear b0 f9 b2;go_wp2_with fail
  refine(GO r v7 zs U w7 m6).mono ?_;rintro e w8 ⟨rfl,rfl⟩;obtain⟨D,hD⟩:=je ((!U && decide (zs.length=0)));rw[<- hD];have HD:=jz hD;clear hD;have c5:Hid (D=true->J=p.take 32/\p.length=40/\N=beN (p.drop 32)):=jz (λe=>by
   have h:=HD.out
   rw[e] at h
   have h1:U=false:=by
    revert h
    cases U
    ·intro _;rfl
    ·intro h;simp at h
   have h2:zs.length=0:=by rw[h1] at h;simpa using h.symm
   rcases c4 with ⟨d2,h8,_,f6,hz⟩|⟨_,K⟩
   ·rcases a1 with ⟨_,f3,h5,a0⟩|⟨K,_⟩
    ·rw[hz,a0,List.length_drop,List.length_drop] at h2
     rw[a0,List.length_drop] at h8
     refine⟨h5,by omega,?_⟩
     rw[f6,a0,List.take_of_length_le (by rw[List.length_drop];omega)]
    ·rw[d2] at K;cases K
   ·rw[h1] at K;cases K)
  have e2:Hid (D=false->oF s=none):=jz (λe=>by
   unfold oF
   rw[HP.out]
   simp only
   rw[jQ]
   rintro⟨h40,_⟩
   have h:=HD.out
   rw[e] at h
   rcases a1 with ⟨d2,f3,h5,a0⟩|⟨_,f3,_⟩
   ·rcases c4 with ⟨_,h8,n4,f6,hz⟩|⟨K,_⟩
    ·rw[n4,hz,a0,List.length_drop,List.length_drop,h40] at h
     simp at h
    ·rw[d2,a0,List.length_drop,h40] at K
     simp at K
   ·omega)
  clear HD c4 a1;cases D with
  | false=>
   go_wp2_with (first
    | (refine bld 26 #[] rfl rfl rfl EO ?_)
    | (refine aN 26 (.tmp 3) (.tmp 36) rfl rfl rfl rfl HE7 HZ.out.1 rfl HZ.out.2 ?_;intro w9 a2 a4 _ _;have c2:=jz a2;have c7:=jz a4;clear a2 a4))
   have hr:=c2.range;exact bodyPost_ret (eG rfl _ rfl hr underlying26 rfl (by rw[jk];exact HZ.out.1)) rfl ⟨a7.trans (c7.mono HGE),.inl ⟨e2 (by simp),rfl⟩⟩
  | true=>
   rcases jb (decide ((4611686018427387904:Int)<(N:Int))) with t1|t1
   ·have k5:Hid (oF s=none):=jz (by
     unfold oF
     rw[HP.out]
     simp only
     rw[jQ]
     rintro⟨_,h⟩
     have:=of_decide_eq_true t1
     have:=(c5.out rfl).2.2
     omega)
    go_wp2_with (first
     | (refine bld 26 #[] rfl rfl rfl EO ?_)
     | (refine aN 26 (.tmp 3) (.tmp 36) rfl rfl rfl rfl HE7 HZ.out.1 rfl HZ.out.2 ?_;intro w9 a2 a4 _ _;have c2:=jz a2;have c7:=jz a4;clear a2 a4))
    have hr:=c2.range;exact bodyPost_ret (eG rfl _ rfl hr underlying26 rfl (by rw[jk];exact HZ.out.1)) rfl ⟨a7.trans (c7.mono HGE),.inl ⟨k5,rfl⟩⟩
   ·have p8:(N:Int)<=4611686018427387904:=by have:=of_decide_eq_false t1;omega
    have q0:(0:Int)<=N:=by omega
    have q3:IntKind.i64.wrap (N:Int)=(N:Int):=IntWalk.i64_in _ (by omega);have f1:Hid (J.length=32):=jz (by have:=c5.out rfl;rw[this.1,jv];omega);have m1:Hid (oF s=some (g,(J,(N:Int)))):=jz (by
     have h:=c5.out rfl
     unfold oF
     rw[HP.out]
     simp only
     rw[jP ⟨h.2.1,by rw[<- h.2.2];omega⟩,<- h.1,<- h.2.2])
    have g1:w7.cell? ⟨I,32,none⟩=some ((JN J)[32]'(by rw[JO];omega)):=by rw[d0.cell 32];exact Array.getElem?_eq_getElem _
    have g3:=d0.frozen 32;clear e2;go_upto_region 11 with fail
    have e0:Hid (Bw w (w7.setCell ⟨I,32,none⟩ (.int .i64 (N:Int))).drew):=jz ((a7.trans ((Off.refl I w7).set 32 _ |>.below (by have:=HGE.out;omega) a7.size)).drew);have e3:Hid (Blk (w7.setCell ⟨I,32,none⟩ (.int .i64 (N:Int))).drew R 26 zE):=jz (((Off.refl I w7).set 32 _).blk HE7 (by omega));have e6:Hid (Blk (w7.setCell ⟨I,32,none⟩ (.int .i64 (N:Int))).drew I 26 (cS J N).toArray):=jz (by have:=d0.set_ 32 (.int .i64 (N:Int));rw[MK _ _ f1.out] at this;exact this);obtain⟨w8,h3⟩:=je (w7.setCell ⟨I,32,none⟩ (.int .i64 (N:Int)));rw[<- h3] at e0 e3 e6 ⊢;have d1:(cS J (N:Int)).length=33:=by simp[cS,aK,f1.out]
    have c9:Hid ((prog.info? 26).map (·.size)=some (cS J (N:Int)).length):=jz (by rw[d1];kernel_rfl);have h9:Hid (∀ u∈cS J (N:Int),u.oneCell'=true):=jz (λu hu=>by
     simp only[cS,ju,List.mem_singleton] at hu
     rcases hu with hu|rfl
     ·exact cI _ u hu
     ·rfl)
    have f0:Hid (w8.drew.rangeAt I 0 (cS J (N:Int))):=jz (by have:=e6.range;rw[jt] at this;exact this);have e7:Hid (w8.drew.there R 0 (cS J (N:Int)).length):=jz (bX e3 (by rw[d1,jV];exact ja _));have b1:Hid ((w8.drew.setCells R 0 (cS J (N:Int))).rangeAt I 0 (cS J (N:Int))):=jz (λi u hi=>(World.cell?_of_block (a:=⟨I,0+i,none⟩) (bF (show I≠R by omega) _ _ _)).trans (f0 i u hi));clear h3 g1 g3 d1;refine cC 5 (λw'=>w'.rangeAt I 0 (cS J (N:Int))) (by kernel_rfl) (by kernel_rfl) (f0) (λhH=>?_);refine jM 0 (.tmp 5) (some 40) (.int .u32 g) hH ?_;simp only[jq];refine jL 1 26 (.tmp 8) (some 41) (cs:=cS J (N:Int)) (λ_ hX=>hX) underlying26 rfl c9 hH ?_;simp only[jq];refine jT 2 (.assign (.tmp 40)) (some 2) (.int .u32 g) hH ?_;simp only[jq];refine jW [3] ?_;refine jR 3 26 (.tmp 3) (.tmp 41) none (cs:=cS J (N:Int)) e7 c9 h9 b1 ?_ jN;simp only[jq];replace hH:=b1.out;refine jT 4 (.assign (.const (.bool true))) (some 4) (.bool true) hH ?_;simp only[jq];refine wpAnyH_done (by kernel_rfl) ?_ _;clear hH;have d5:=World.rangeAt_setCells_same w8.drew R 0 (cS J (N:Int)) e7.out;have e1:Hid (Bw w (w8.drew.setCells R 0 (cS J (N:Int)))):=jz (e0.trans (aU HGE _ _ _).1);obtain⟨w9,h4⟩:=je (w8.drew.setCells R 0 (cS J (N:Int)));rw[<- h4] at d5 e1 ⊢;clear h4;have m8:=jz d5;clear d5;go_wp2_with fail
    exact bodyPost_ret (eG rfl _ rfl m8 underlying26 rfl c9) rfl ⟨e1,.inr ⟨g,_,m1,rfl⟩⟩
def wsD(d:DiskD)(a:Int)(s:Wl):DiskD:=match fJ d a with|some _=>bH d a s|none=>cJ (bH d a s)
def wsA(d:DiskD)(a:Int)(s:Wl):Ans:=match fJ d a with|some x=>some x|none=>iU (bH d a s)
theorem pB{d:DiskD}(h:d.steps<=d.room):(aW d).room<=d.room+1:=by show max d.room (d.steps+1)<=d.room+1;omega
theorem mS{d:DiskD}(h:d.steps<=d.room)(a:Int)(s:Wl):(bH d a s).room<=d.room+2:=by
 have h1:=pB h;have D:=EK (aW d) a s;unfold bH;split
 ·omega
 ·split
  ·show(iT (aW d) a s).room<=_;omega
  ·split <;> omega
theorem G3(g:Nat)(p:Wl)(hb:Bys p):Bys (rec g p):=λb h=>by
 unfold rec at h;rcases List.mem_append.1 h with h|h
 ·exact BG hb b (j7 h)
 ·rcases List.mem_append.1 h with h|h
  ·exact fR _ _ b h
  ·exact fR _ _ b h
theorem dR(t:TypeId)(u:Value)(w:Wd):(binOp .neq 46 (.iface t u) .nilIface).run prog w = .ok (.bool true) w:=by kernel_rfl
theorem rT(f z:Int)(g:Nat)(w:Wd)(m:DiskM)(d:DiskD)(h:DK w m d)(hf:aI f)(hg:g<4294967296)(hr:d.room+3<=100000):
  Wc 70 #[.pointer (some ⟨m.g,0,none⟩),.agg #[.int .i64 f,.int .i64 z],.int .u32 g] w λe w'=>e = .returned (bV (wsA d f (rec g toll)))/\∃ m',DK w' m' (wsD d f (rec g toll))/\DT w m w' m':=by
 have R:Bw w (w.alloc (.cells #[.int .i64 f,.int .i64 z] 138)):=(ji _ w).alloc (ja _) _;obtain⟨w1,D⟩:=je (w.alloc (.cells #[.int .i64 f,.int .i64 z] 138));have a5:Hid (DK w1.drew m d):=jz (by rw[D];exact(h.keep R).drew);have a1:Hid (Bw w w1.drew):=jz (by rw[D];exact R.drew);have a3:Hid (w1.drew.cell? ⟨w.heap.size,0,none⟩=some (.int .i64 f)):=jz (by rw[D];exact(Blk.new w _ #[.int .i64 f,.int .i64 z]).cell 0);have a7:=jz (h.notFoot (ja w.heap.size));have a9:Hid (Sec (rec g toll)):=jz ⟨iS g toll (by decide),G3 g toll BK⟩;have b2:=h.ok.st;clear h R;go_enter func70,ntmps70
 go_upto_region 1 with fail
 rw[<- D];clear D;refine cC 7 (λw'=>w'.cell? ⟨w.heap.size,0,none⟩=some (.int .i64 f)) (by kernel_rfl) (by kernel_rfl) (a3) (λI=>?_);refine jM 0 (.tmp 0) (some 8) (.pointer (some ⟨m.g,0,none⟩)) I ?_;simp only[jq];refine jT 1 (.fieldAddr 138 (.tmp 4) 0) (some 9) (.pointer (some ⟨w.heap.size,0,none⟩)) I ?_;simp only[jq];refine jT 2 (.load 3 (.tmp 9)) (some 10) (.int .i64 f) I ?_;simp only[jq];refine jM 3 (.tmp 2) (some 11) (.int .u32 g) I ?_;simp only[jq];refine jW [4] ?_;refine jC 4 (.call { callee:=.value (.func 109),args:=#[.tmp 11],argTypes:=#[34] }) (some 12) 109 (#[.int .u32 g]) ?_ jN;refine(y4 g w1.drew hg).mono ?_;rintro e w2 ⟨rfl,U⟩;have a6:=jz (a5.keep U);have a2:Hid (Bw w w2):=jz (aB a1 U);refine⟨_,rfl,j9 U I,λI=>?_⟩;simp only[jq];refine jW [5] ?_;refine jC 5 (.call { callee:=.value (.func 108),args:=#[.tmp 8,.tmp 10,.tmp 12],argTypes:=#[43,3,195] }) (some 13) 108 (#[.pointer (some ⟨m.g,0,none⟩),.int .i64 f,.agg (u8s (rec g toll)).toArray]) ?_ jN;refine(oA f (rec g toll) w2 m d a6 hf a9 (by omega)).mono ?_;rintro e w3 ⟨rfl,m3,a0,V⟩;rw[oC];refine⟨_,rfl,V.fo.cell I a7,λI=>?_⟩;simp only[jq];refine jT 6 (.assign (.tmp 13)) (some 7) (bV (fJ d f)) I ?_;simp only[jq];refine wpAnyH_done (by kernel_rfl) ?_ _;clear I;have O:Hid (DT w m w3 m3):=jz ((DT.of_below a2).trans V);have Z:=jz a0;have a8:Hid ((bH d f (rec g toll)).room<=d.room+2):=jz (mS b2 f _);clear a0 V;have b1:m3.g=m.g:=O.g;cases ha:fJ d f with
 | some x=>
  have HF:Hid (wsA d f (rec g toll)=some x/\wsD d f (rec g toll)=bH d f (rec g toll)):=jz (by unfold wsA wsD;rw[ha];exact⟨rfl,rfl⟩);obtain⟨t,u,hv⟩:=cH x;rw[hv];have HV:=jz hv;have b3:=dR t u;clear ha hv;go_wp2_with fail
  go_ret;exact⟨by rw[HF.out.1,HV.out];rfl,m3,by rw[HF.out.2];exact Z,O⟩
 | none=>
  have HF:Hid (wsA d f (rec g toll)=iU (bH d f (rec g toll))/\wsD d f (rec g toll)=cJ (bH d f (rec g toll))):=jz (by unfold wsA wsD;rw[ha];exact⟨rfl,rfl⟩);have hv:bV none = .nilIface:=rfl;rw[hv];clear ha;go_wp2_with fail
  rw[<- b1];refine(nI w3 m3 _ Z (by have:=a8.out;omega)).mono ?_;rintro e w4 ⟨rfl,m4,J,K⟩;have a4:=jz J;have b0:Hid (DT w m w4 m4):=jz (O.trans K);clear J K;go_wp2_with fail
  go_ret;exact⟨by rw[HF.out.1,<- nJ];rfl,m4,by rw[HF.out.2];exact a4,b0⟩
def lC(d:DiskD)(f z p:Int)(g:Nat)(q:Wl×Int):DiskD:=if p<1 then d else if room z<p then d else if bG q then wsD d (f+p) (cG g q) else d
def jD(d:DiskD)(f z p:Int)(g:Nat)(q:Wl×Int):Ans:=if p<1 then some (13,none) else if room z<p then some (13,none) else if bG q then wsA d (f+p) (cG g q) else some (15,none)
theorem lP(g:Nat){q:Wl×Int}(D:EntOk q):Sec (cG g q):=by
 have I:(q.1++beB 8 q.2.toNat).length=40:=by rw[jj,bE,D.dig.len]
 refine⟨iS g _ (by rw[I];omega),G3 g _ λb hb=>?_⟩;rcases List.mem_append.1 hb with hb|hb
 ·exact D.dig.byte b hb
 ·exact fR _ _ b hb
theorem B0(g:Nat){q:Wl×Int}(D:EntOk q):Sec (if bG q then cG g q else zsec):=by
 split
 ·exact lP g D
 ·exact gP
theorem ML(f z p:Int)(g:Nat)(q:Wl×Int)(w:Wd)(m:DiskM)(d:DiskD)(h:DK w m d)(hf:0<=f/\f<=100000)(hz:aI z/\z<=100000)(hp:aI p)(hg:g<4294967296)(hq:EntOk q)(hr:d.room+3<=100000):
  Wc 141 #[.pointer (some ⟨m.g,0,none⟩),.agg #[.int .i64 f,.int .i64 z],.int .i64 p,.int .u32 g,.agg (aO q).toArray] w λe w'=>e = .returned (bV (jD d f z p g q))/\∃ m',DK w' m' (lC d f z p g q)/\DT w m w' m':=by
 have a6:Bw w ((w.alloc (.cells #[.int .i64 f,.int .i64 z] 138)).alloc (.cells (aO q).toArray 26)):=((ji _ w).alloc (ja _) _).alloc (by simp) _;obtain⟨w1,I⟩:=je ((w.alloc (.cells #[.int .i64 f,.int .i64 z] 138)).alloc (.cells (aO q).toArray 26));have b2:Hid (DK w1 m d):=jz (by rw[I];exact h.keep a6);have a8:Hid (Bw w w1):=jz (by rw[I];exact a6);have c2:Hid (Blk w1 w.heap.size 138 #[.int .i64 f,.int .i64 z]):=jz (by rw[I];exact(Blk.new w _ _).alloc _);have d5:Hid (w1.rangeAt w.heap.size 0 [.int .i64 f,.int .i64 z]):=jz (by have:=c2.range;exact this);have d1:Hid (Blk w1 (w.heap.size+1) 26 (aO q).toArray):=jz (by rw[I];exact Blk.newAt _ _ _ _ (by simp));have f0:=jz (h.notFoot (ja w.heap.size));have f1:Hid (Sec (cG g q)):=jz (lP g hq);have V:=jz (B0 g hq);have d3:Hid ((prog.info? 26).map (·.size)=some (aO q).length):=jz (by rw[bC q hq];kernel_rfl);have U:Hid ((prog.info? 195).map (·.size)=some (u8s (if bG q then cG g q else zsec)).toArray.size/\z64.size=(u8s (if bG q then cG g q else zsec)).toArray.size):=jz ⟨by rw[js,aH V.out];kernel_rfl,by rw[cT,js,aH V.out]⟩;have e7:=h.ok.st;have f2:0<=f:=hf.1;have f3:f<=100000:=hf.2;have f5 : -9223372036854775808<=p:=hp.1;have f6:p<=9223372036854775807:=hp.2;have e6:room z<=100000:=by unfold room;split <;> omega
 clear h a6 hf hp;rcases jb (decide (p<1)) with t1|t1
 ·have J:Hid (jD d f z p g q=some (13,none)/\lC d f z p g q=d):=jz (by unfold jD lC;rw[jP (of_decide_eq_true t1),jP (of_decide_eq_true t1)];exact⟨rfl,rfl⟩);go_enter func141,ntmps141
  go_upto_region 1 with fail
  rw[<- I];clear I;go_wp2_with fail
  go_ret;exact⟨by rw[J.out.1];rfl,m,by rw[J.out.2];exact b2,DT.of_below a8⟩
 ·have c7:¬p<1:=of_decide_eq_false t1;go_enter func141,ntmps141
  go_upto_region 1 with fail
  rw[<- I];clear I;go_wp2_with (refine ld 138 _ rfl rfl rfl d5 underlying138 rfl (by kernel_rfl) ?_)
  refine(qB f z w1 hz.1).mono ?_;rintro e w2 ⟨rfl,Z⟩;have a9:Hid (Bw w w2):=jz (aB a8 Z);have e3:Hid (Blk w2 w.heap.size 138 #[.int .i64 f,.int .i64 z]):=jz (c2.keep Z);have d2:Hid (w2.rangeAt (w.heap.size+1) 0 (aO q)):=jz (by have:=(d1.keep Z).range;rw[jt] at this;exact this);have b3:=jz (b2.keep Z);obtain⟨R,hR⟩:=je (room z);have a5:=jz hR;rw[<- hR] at e6 ⊢;clear Z hR;rcases jb (decide (R<p)) with t2|t2
  ·have J:Hid (jD d f z p g q=some (13,none)/\lC d f z p g q=d):=jz (by unfold jD lC;rw[jQ (show ¬p<1 by omega),jQ (show ¬p<1 by omega),<- a5.out,jP (of_decide_eq_true t2),jP (of_decide_eq_true t2)];exact⟨rfl,rfl⟩);clear c7;go_wp2_with fail
   go_ret;exact⟨by rw[J.out.1];rfl,m,by rw[J.out.2];exact b3,DT.of_below a9⟩
  ·have f7:p<=R:=by have:=of_decide_eq_false t2;omega
   have D:Hid (jD d f z p g q=(if bG q then wsA d (f+p) (cG g q) else some (15,none))/\lC d f z p g q=(if bG q then wsD d (f+p) (cG g q) else d)):=jz (by unfold jD lC;rw[jQ (show ¬p<1 by omega),jQ (show ¬p<1 by omega),<- a5.out,jQ (of_decide_eq_false t2),jQ (of_decide_eq_false t2)];exact⟨rfl,rfl⟩);have f8:1<=p:=by omega
   clear c7 a5;go_wp2_with (refine ld 26 _ rfl rfl rfl d2 underlying26 rfl d3 ?_)
   refine(rP g q w2 hq hg).mono ?_;rintro e w3 ⟨rfl,a1⟩;have a0:Hid (Bw w w3):=jz (aB a9 a1);have c3:Hid (Blk w3 w.heap.size 138 #[.int .i64 f,.int .i64 z]):=jz (e3.keep a1);have b7:=jz (b3.keep a1);have e8:w.heap.size<w3.heap.size:=c3.lt;clear a1;obtain⟨S,hS⟩:=je ((if bG q then cG g q else zsec));rw[<- hS] at U V ⊢;have b9:=jz (dL S);cases hrq:bG q with
   | false=>
    have J:Hid (jD d f z p g q=some (15,none)/\lC d f z p g q=d):=jz (by rw[D.out.1,D.out.2,hrq];exact⟨rfl,rfl⟩);clear hrq hS D;go_wp2_with (first
     | (refine al 195 z64 rfl rfl dH ?_)
     | (refine bQ 195 (.tmp 11) (.tmp 27) rfl rfl rfl rfl U.out.1 U.out.2 b9 ?_;intro w4 hK K a7;have O:=jz K;clear hK K a7))
    go_ret;exact⟨by rw[J.out.1];rfl,m,by rw[J.out.2];exact b7.keep O,DT.of_below (a0.trans (O.mono a0.size))⟩
   | true=>
    rw[hrq] at hS D;replace hS:S=cG g q:=hS;replace D:Hid (jD d f z p g q=wsA d (f+p) (cG g q)/\lC d f z p g q=wsD d (f+p) (cG g q)):=D;rw[<- hS] at D;clear hrq hS;have c4:∀ w4,Bw w3 w4->w4.cell? ⟨w.heap.size,0,none⟩=some (.int .i64 f):=λw4 hb=>(c3.keep hb).cell 0
    have c9:=jz c4;have e2:Hid ((prog.info? 195).map (·.size)=some (u8s S).length):=jz (by rw[aH V.out];kernel_rfl);clear c4;go_wp2_with (first
     | (refine al 195 z64 rfl rfl dH ?_)
     | (refine bQ 195 (.tmp 11) (.tmp 27) rfl rfl rfl rfl U.out.1 U.out.2 b9 ?_;intro w4 hK K a7;have O:=jz K;have d7:Hid (w4.rangeAt w3.heap.size 0 (u8s S)):=jz (by have:=Blk.range (show Blk w4 w3.heap.size 195 (u8s S).toArray from hK);rw[jt] at this;exact this);have e4:=c9.out w4 K;clear hK K a7)
     | (refine ld 195 _ rfl rfl rfl d7 underlying195 rfl e2 ?_))
    have d4:=jz (b7.keep O);have b0:Hid (Bw w w4):=jz (a0.trans (O.mono a0.size));refine(oA (f+p) S w4 m d d4 ⟨by omega,by omega⟩ V (by omega)).mono ?_;rintro e w5 ⟨rfl,m5,c5,c6⟩;rw[oC];have a4:Hid (DT w m w5 m5):=jz ((DT.of_below b0).trans c6);have b1:=jz c5;have e0:Hid ((bH d (f+p) S).room<=d.room+2):=jz (mS e7 (f+p) _);clear c5 c6 e4;have e5:m5.g=m.g:=a4.g;cases ha:fJ d (f+p) with
    | some x=>
     have J:Hid (jD d f z p g q=some x/\lC d f z p g q=bH d (f+p) S):=jz (by rw[D.out.1,D.out.2];unfold wsA wsD;rw[ha];exact⟨rfl,rfl⟩);obtain⟨t,u,hv⟩:=cH x;rw[hv];have HV:=jz hv;have f4:=dR t u;clear ha hv;go_wp2_with fail
     go_ret;exact⟨by rw[J.out.1,HV.out];rfl,m5,by rw[J.out.2];exact b1,a4⟩
    | none=>
     have J:Hid (jD d f z p g q=iU (bH d (f+p) S)/\lC d f z p g q=cJ (bH d (f+p) S)):=jz (by rw[D.out.1,D.out.2];unfold wsA wsD;rw[ha];exact⟨rfl,rfl⟩);have hv:bV none = .nilIface:=rfl;rw[hv];clear ha;go_wp2_with fail
     rw[<- e5];refine(nI w5 m5 _ b1 (by have:=e0.out;omega)).mono ?_;rintro e w6 ⟨rfl,m6,a2,a3⟩;have d0:=jz a2;have e1:Hid (DT w m w6 m6):=jz (a4.trans a3);clear a2 a3;go_wp2_with fail
     go_ret;exact⟨by rw[J.out.1,<- nJ];rfl,m6,by rw[J.out.2];exact d0,e1⟩
theorem fS{w:Wd}{g:Nat}{t:TypeId}(D mid I new:Wv)(K:Blk w g t (D++mid++I).toArray)(R:mid.length=new.length):
  Blk (w.setCells g D.length new) g t (D++new++I).toArray/\Off g w (w.setCells g D.length new)/\(w.setCells g D.length new).heap.size=w.heap.size:=by
 have h1:=dM new D.length w _ K;rw[tT D mid I new R] at h1;have J:=(aU (ja g) new D.length w);exact⟨h1,⟨J.1.os,J.1.tape,J.1.output,by omega,λk _ O=>bF O new D.length w⟩,J.2⟩
theorem QU{P:Program}{ops:Array Oper}{rest:List Oper}{o:Oper}{a:Act}{w:Wd}{Q:Exit->Act->Wd->Prop}(ty:TypeId)(x y:Operand)(ho:o.op = .store ty x y)(hw:Region.wanted o (yielded ops a.tmps)=true)
  {g t:Nat} (I mid D new:Wv) (hx:a.eval x = .pointer (some ⟨g,I.length,none⟩)) (hy:a.eval y = .agg new.toArray) (O:Blk w g t (I++mid++D).toArray)
  (hi:(P.info? ty).map (·.size)=some new.length) (hl:mid.length=new.length) (h1:∀ u∈new,u.oneCell'=true)
  (h:∀ J,Blk J g t (I++new++D).toArray->Off g w J->J.heap.size=w.heap.size->wpList P ops Q rest (a.put o.dst undef) J):
  wpList P ops Q (o :: rest) a w:=
 wpList_step λK Z=>by
  rw[jP hw];refine wp_store_mid ty x y ho g I.length new.toArray hx hy (bX O (by simp;omega)) (by simpa using hi) (all_oneCell_toArray h1) ?_;rw[jt];obtain⟨R,U,V⟩:=fS I mid D new O hl;exact Z _ _ (h _ R U V)
def iG:DiskD->Int->List Wl->Ans×DiskD
 | d,_,[]=>(iU d,cJ d)
 | d,a,s :: r=>match fJ d a with|some x=>(some x,bH d a s)|none=>iG (bH d a s) (a+1) r
def dE(d:DiskD)(f z:Int)(g:Nat)(l:List (Wl×Int)):Ans×DiskD:=
 if room z<l.length then (some (13,none),d) else if l.all bG then iG d (f+1) (l.map (cG g)) else (some (15,none),d)
def iW(g:Nat)(l:List (Wl×Int))(k:Nat):Wv:=((l.take k).map (cG g)++List.replicate (l.length-k) zsec).flatMap u8s
theorem B6(g:Nat)(l:List (Wl×Int)):iW g l 0=(List.replicate l.length zsec).flatMap u8s:=by simp[iW]
theorem EP(g:Nat)(l:List (Wl×Int)):iW g l l.length=(l.map (cG g)).flatMap u8s:=by simp[iW]
theorem T7(L:List Wl)(h:∀ s∈L,Sec s):(L.flatMap u8s).length=L.length*64:=by
 induction L with
 | nil=>rfl
 | cons s L ih=>
  rw[List.flatMap_cons,jj,ih λx D=>h x (by simp[D]),aH (h s (by simp)),List.length_cons];omega
theorem EQ(g:Nat)(l:List (Wl×Int))(K:∀ q∈l,EntOk q)(k:Nat)(J:k<l.length):∃ I D,iW g l k=I++u8s zsec++D/\iW g l (k+1)=I++u8s (cG g l[k])++D/\I.length=k*64:=by
 refine⟨((l.take k).map (cG g)).flatMap u8s,(List.replicate (l.length-(k+1)) zsec).flatMap u8s,?_,?_,?_⟩
 ·unfold iW;rw[show l.length-k=(l.length-(k+1))+1 by omega,List.replicate_succ,List.flatMap_append,List.flatMap_cons,List.append_assoc]
 ·unfold iW;rw[j6 J,List.map_append,List.flatMap_append,List.flatMap_append];simp
 ·rw[T7 _ (λs hs=>by
   obtain⟨q,O,rfl⟩:=List.mem_map.1 hs
   exact lP g (K q (j7 O)))]
  rw[List.length_map,jv,Nat.min_eq_left (by omega)]
theorem QV{w:Wd}{A:Option Addr}{cap:Nat}{l:List (Wl×Int)}(h:Sn w 33 (.slice A l.length cap) l.length (l.flatMap aO))(D:∀ q∈l,EntOk q)(k:Nat)(I:k<l.length):
  ∃ b off,A=some ⟨b,off,none⟩/\w.rangeAt b (off+k*33) (aO l[k]):=by
 obtain⟨b,off,rfl,J⟩:=h.range k I;rw[eK aO 33 l (λq K=>bC q (D q K)) k I] at J;exact⟨b,off,rfl,J⟩
theorem ES(d:DiskD)(a:Int)(L:List Wl)(k:Nat)(D:k<L.length):iG d a (L.drop k)=match fJ d a with|some x=>(some x,bH d a L[k])|none=>iG (bH d a L[k]) (a+1) (L.drop (k+1)):=by
 rw[List.drop_eq_getElem_cons D];rfl
theorem JP(f z:Int)(g:Nat)(l:List (Wl×Int))(A:Option Addr)(cap:Nat)(w:Wd)(m:DiskM)(d:DiskD)(h:DK w m d)(hs:Sn w 33 (.slice A l.length cap) l.length (l.flatMap aO))(g1:∀ q∈l,EntOk q)(hf:0<=f/\f<=100000)(hz:aI z/\z<=4000)(hg:g<4294967296)(q5:l.length<=1000000)(hr:d.room+10000<=100000):
  Wc 177 #[.pointer (some ⟨m.g,0,none⟩),.agg #[.int .i64 f,.int .i64 z],.int .u32 g,.slice A l.length cap] w λe w'=>e = .returned (bV (dE d f z g l).1)/\∃ m',DK w' m' (dE d f z g l).2/\DT w m w' m':=by
 have d7:Bw w (w.alloc (.cells #[.int .i64 f,.int .i64 z] 138)):=(ji _ w).alloc (ja _) _;obtain⟨w1,a3⟩:=je (w.alloc (.cells #[.int .i64 f,.int .i64 z] 138));have h5:Hid (DK w1 m d):=jz (by rw[a3];exact h.keep d7);have h0:Hid (Bw w w1):=jz (by rw[a3];exact d7);have k7:Hid (Sn w1 33 (.slice A l.length cap) l.length (l.flatMap aO)):=jz (by rw[a3];exact hs.alloc _);have f3:Hid (Blk w1 w.heap.size 138 #[.int .i64 f,.int .i64 z]):=jz (by rw[a3];exact Blk.new w _ _);have k2:Hid (w1.rangeAt w.heap.size 0 [.int .i64 f,.int .i64 z]):=jz (by have:=f3.range;exact this);have h7:=jz (h.notFoot (ja w.heap.size));have b7:=jz g1;have r2:=h.ok.st;have q1:0<=f:=hf.1;have q2:f<=100000:=hf.2;have n6:room z<=4000:=by unfold room;split <;> omega
 have p7:(0:Int)<=l.length:=by omega
 have p8:(l.length:Int)<=1000000:=by omega
 clear h d7 hf hs g1;go_enter func177,ntmps177
 go_upto_region 1 with fail
 rw[<- a3];clear a3;go_wp2_with (refine ld 138 _ rfl rfl rfl k2 underlying138 rfl (by kernel_rfl) ?_)
 refine(qB f z w1 hz.1).mono ?_;rintro e w2 ⟨rfl,a8⟩;have b0:Hid (Bw w w2):=jz (aB h0 a8);have m3:Hid (Blk w2 w.heap.size 138 #[.int .i64 f,.int .i64 z]):=jz (f3.keep a8);have m1:=jz (k7.below a8);have b3:=jz (h5.keep a8);obtain⟨R,hR⟩:=je (room z);have d5:=jz hR;rw[<- hR] at n6 ⊢;clear a8 hR;rcases jb (decide (R<(l.length:Int))) with t2|t2
 ·have K:Hid (dE d f z g l=(some (13,none),d)):=jz (by unfold dE;rw[<- d5.out,jP (of_decide_eq_true t2)]);go_wp2_with fail
  go_ret;exact⟨by rw[K.out];rfl,m,by rw[K.out];exact b3,DT.of_below b0⟩
 ·have q4:(l.length:Int)<=R:=by have:=of_decide_eq_false t2;omega
  have n4:∀ w,(Instr.makeSlice 84 (.int .i64 l.length) (.int .i64 l.length)).run prog w = .ok (.slice (some ⟨w.heap.size,0,none⟩) l.length l.length) (w.alloc (.cells ((List.replicate l.length zsec).flatMap u8s).toArray 195)):=xG l.length (by omega);have b1:Hid (dE d f z g l=(if l.all bG then iG d (f+1) (l.map (cG g)) else (some (15,none),d))):=jz (by unfold dE;rw[<- d5.out,jQ (of_decide_eq_false t2)]);clear d5;go_upto_region 4 with fail
  obtain⟨O,a2⟩:=je w2.heap.size;obtain⟨w3,c3⟩:=je (w2.alloc (.cells ((List.replicate l.length zsec).flatMap u8s).toArray 195));have h2:Hid (Below O w2 w3):=jz (by rw[c3,a2];exact(ji _ _).alloc (ja _) _);have k3:Hid (Blk w3 O 195 (iW g l 0).toArray):=jz (by rw[c3,a2,B6];exact Blk.new _ _ _);have d3:=jz a2;have q3:w.heap.size<=O:=by rw[a2];exact b0.size
  rw[<- c3,<- a2];clear c3 a2 n4;go_wp2_with fail
  go_loopw [28] (λi wr=>∃ k:Nat,k<=l.length/\i = .int .i64 k/\Hid ((l.take k).all bG=true)/\Hid (Blk wr O 195 (iW g l k).toArray)/\Hid (Below O w2 wr)) (λi _=>l.length-(intOf i).toNat)
  case atStart=>exact⟨0,j0 _,rfl,jz (by simp),k3,h2⟩
  case round=>
   obtain⟨k,hk,rfl,HA,a5,d1⟩:=hrel;have a4:Hid (Bw w2 wr):=jz (by show Below _ _ _;rw[<- d3.out];exact d1);rcases jo k l.length with I|m9
   ·obtain⟨b,off,eA,hr⟩:=QV m1 b7 k I;subst eA;obtain⟨q,hq⟩:=je (l[k]);obtain⟨g8,c9,g2,e1,g3⟩:=EQ g l b7 k I;rw[<- hq] at hr e1;have a9:EntOk q:=by rw[hq];exact b7 _ (List.getElem_mem I)
    have k6:Hid (wr.rangeAt b (off+k*33) (aO q)):=jz (λi u hi=>j9 a4 (hr i u hi));have b9:Hid ((prog.info? 26).map (·.size)=some (aO q).length/\(prog.info? 26).map (·.size)=some (aO q).toArray.size/\zE.size=(aO q).toArray.size):=jz ⟨by rw[bC q a9];kernel_rfl,by rw[js,bC q a9];kernel_rfl,by rw[jV,js,bC q a9]⟩;have k1:Hid ((aO q).toArray.all (·.oneCell')=true):=jz (gO _ _);have a6:=jz (B0 g a9);have n0:(0:Int)<=k:=by omega
    have n1:(k:Int)<l.length:=by omega
    have h9:Hid (l.all bG=true->bG q=true):=jz (λe=>List.all_eq_true.1 e q (by rw[hq];exact List.getElem_mem I));have h8:Hid (bG q=true->(l.take (k+1)).all bG=true):=jz (λe=>by
     rw[j6 I,List.all_append,HA.out,<- hq]
     simp[e])
    have HP:=jz (And.intro g2 (And.intro e1 g3));have q0:=jz (d1.size);clear hr hq g2 e1 g3;go_wp2_with (first
     | (refine ld 26 _ rfl rfl rfl k6 underlying26 rfl b9.out.1 ?_)
     | (refine al 26 zE rfl rfl rS ?_)
     | (refine bQ 26 (.tmp 11) (.tmp 32) rfl rfl rfl rfl b9.out.2.1 b9.out.2.2 k1 ?_;intro U hK Z e2;have J:=jz Z;have d4:Hid (U.rangeAt wr.heap.size 0 (aO q)):=jz (by have:=Blk.range (show Blk U wr.heap.size 26 (aO q).toArray from hK);rw[jt] at this;exact this);clear hK Z e2)
     | (refine ld 26 _ rfl rfl rfl d4 underlying26 rfl b9.out.1 ?_))
    refine(rP g q U a9 hg).mono ?_;rintro e w5 ⟨rfl,f5⟩;have V:Hid (Bw wr w5):=jz (aB J f5);obtain⟨S,hS⟩:=je ((if bG q then cG g q else zsec));rw[<- hS] at a6 ⊢;have D:Hid ((prog.info? 195).map (·.size)=some (u8s S).toArray.size/\z64.size=(u8s S).toArray.size/\(prog.info? 195).map (·.size)=some (u8s S).length/\(u8s zsec).length=(u8s S).length):=jz ⟨by rw[js,aH a6.out];kernel_rfl,by rw[cT,js,aH a6.out],by rw[aH a6.out];kernel_rfl,by rw[aH a6.out,aH gP]⟩;have c2:=jz (dL S);have f0:Hid (Blk w5 O 195 (iW g l k).toArray):=jz (a5.keep V);have e5:=jz a5.lt;clear f5;cases hrq:bG q with
    | false=>
     have K:Hid (dE d f z g l=(some (15,none),d)):=jz (by
      rw[b1.out,jQ]
      intro e
      rw[h9.out e] at hrq
      cases hrq)
     clear hrq hS b1;go_wp2_with (first
      | (refine al 195 z64 rfl rfl dH ?_)
      | (refine bQ 195 (.tmp 12) (.tmp 37) rfl rfl rfl rfl D.out.1 D.out.2.1 c2 ?_;intro w6 hK a0 e3;have d0:=jz a0;clear hK a0 e3))
     go_ret;have f6:Bw w2 w6:=aB (aB a4 V) d0.out;exact⟨by rw[K.out];rfl,m,by rw[K.out];exact b3.keep f6,DT.of_below (aB b0 f6)⟩
    | true=>
     rw[hrq] at hS;replace hS:S=cG g q:=hS;have HT:=jz (h8 hrq);rw[<- hS] at HP;clear hrq hS;have p9:Hid (Operand.tmp 45=Operand.tmp 45):=jz rfl;go_wp2_with (first
      | (refine al 195 z64 rfl rfl dH ?_)
      | (refine bQ 195 (.tmp 12) (.tmp 37) rfl rfl rfl rfl D.out.1 D.out.2.1 c2 ?_;intro w6 hK a0 e3;have d0:=jz a0;have k4:Hid (w6.rangeAt w5.heap.size 0 (u8s S)):=jz (by have:=Blk.range (show Blk w6 w5.heap.size 195 (u8s S).toArray from hK);rw[jt] at this;exact this);have f1:Hid (Blk w6 O 195 (g8++u8s zsec++c9).toArray):=jz (by rw[<- HP.out.1];exact f0.keep a0);clear hK a0 e3)
      | (refine ld 195 _ rfl rfl rfl k4 underlying195 rfl D.out.2.2.1 ?_)
      | (refine QU 195 (.tmp 45) (.tmp 44) rfl rfl g8 (u8s zsec) c9 (u8s S) (by rw[HP.out.2.2];rfl) rfl f1 D.out.2.2.1 D.out.2.2.2 (cI _) ?_;intro w7 f4 g0 p6;have f2:=jz f4;have k0:=jz g0;clear f4 g0 p6))
     have c5:Below O w2 w6:=(d1.trans ((V.mono (Nat.le_of_lt e5)).trans (d0.mono (by have:=V.size;have:=e5.out;omega))));exact⟨⟨k+1,by omega,by go_num,HT,jz (by rw[HP.out.2.1];exact f2),jz (c5.trans (k0.below (ja _) (by have:=c5.size;have:=d3.out;omega)))⟩,by simp[intOf];omega⟩
   ·obtain rfl:k=l.length:=by omega
    have c4:l.all bG=true:=by have:=HA.out;rwa [List.take_length] at this
    have K:Hid (dE d f z g l=iG d (f+1) (l.map (cG g))):=jz (by rw[b1.out,jP c4]);obtain⟨L,hL⟩:=je (l.map (cG g));have e0:L.length=l.length:=by rw[hL,List.length_map]
    have e6:Hid (∀ s∈L,Sec s):=jz (λs hs=>by rw[hL] at hs;obtain⟨q,hq,rfl⟩:=List.mem_map.1 hs;exact lP g (b7 q hq));rw[EP,<- hL] at a5;rw[<- hL] at K;have HKr:Hid (DK wr m d):=jz (b3.keep a4);have HXr:Hid (Blk wr w.heap.size 138 #[.int .i64 f,.int .i64 z]):=jz (m3.keep a4);have HTr:Hid (DT w m wr m):=jz (DT.of_below (aB b0 a4));have e7:Hid (O ∉ aZ m):=jz (λhm=>by have:=b3.foot_lt O hm;have:=d3.out;omega);clear c4 b1 HA hL;have e8:Hid ((dE d f z g l)=iG d (f+1+((0:Nat):Int)) (L.drop 0)):=jz (by rw[K.out];simp);have q6:(L.length:Int)<=4000:=by rw[e0];omega
    have f9:l.length=L.length:=e0.symm;rw[f9];clear K f9 e0;go_wp2_with fail
    go_loopw [49] (λi wx=>∃(k:Nat) (mk:DiskM) (dk:DiskD),k<=L.length/\i = .int .i64 k/\mk.g=m.g/\dk.room<=d.room+2*k/\Hid (DK wx mk dk)/\Hid (DT w m wx mk)/\Hid (dE d f z g l=iG dk (f+1+k) (L.drop k))/\Hid (Blk wx O 195 (L.flatMap u8s).toArray/\Blk wx w.heap.size 138 #[.int .i64 f,.int .i64 z]/\O ∉ aZ mk/\w.heap.size ∉ aZ mk)) (λi _=>L.length-(intOf i).toNat)
    case atStart=>exact⟨0,m,d,j0 _,rfl,rfl,by omega,HKr,HTr,e8,jz ⟨a5,HXr,e7,h7⟩⟩
    case round=>
     clear e8 HKr HTr a5 HXr e7;obtain⟨k,mk,dk,hk,rfl,f8,q8,HKk,HTk,HFk,HBk⟩:=hrel;have n7:=HKk.ok.st;rcases jo k L.length with I|m9
     ·obtain⟨S,hS⟩:=je (L[k]);have a7:Hid (Sec S):=jz (by rw[hS];exact e6 _ (List.getElem_mem I));have k5:Hid (wr.rangeAt O (k*64) (u8s S)):=jz (by
       have hB:=HBk.out.1
       intro i u hi
       rw[hB.cell]
       have r1:(u8s S).length=64:=aH a7.out
       have h1:=eK u8s 64 L (λs hs=>aH (e6 s hs)) k I
       rw[<- hS] at h1
       rw[<- h1,List.getElem?_take] at hi
       split at hi
       ·rw[List.getElem?_drop] at hi
        simpa using hi
       ·cases hi)
      have D:Hid ((prog.info? 195).map (·.size)=some (u8s S).toArray.size/\z64.size=(u8s S).toArray.size/\(prog.info? 195).map (·.size)=some (u8s S).length):=jz ⟨by rw[js,aH a7.out];kernel_rfl,by rw[cT,js,aH a7.out],by rw[aH a7.out];kernel_rfl⟩;have c2:=jz (dL S);have b2:Hid (dE d f z g l=match fJ dk (f+1+k) with|some x=>(some x,bH dk (f+1+k) S)|none=>iG (bH dk (f+1+k) S) (f+1+k+1) (L.drop (k+1))):=jz (by rw[HFk.out,ES dk _ L k I,hS];try rfl);have n0:(0:Int)<=k:=by omega
      have n1:(k:Int)<L.length:=by omega
      have h3:Hid (∀ U,Bw wr U->U.cell? ⟨w.heap.size,0,none⟩=some (.int .i64 f)):=jz (λU hb=>(HBk.out.2.1.keep hb).cell 0);clear hS HFk;go_wp2_with (first
       | (refine ld 195 _ rfl rfl rfl k5 underlying195 rfl D.out.2.2 ?_)
       | (refine al 195 z64 rfl rfl dH ?_)
       | (refine bQ 195 (.tmp 15) (.tmp 53) rfl rfl rfl rfl D.out.1 D.out.2.1 c2 ?_;intro U hK Z e2;have J:=jz Z;have d4:Hid (U.rangeAt wr.heap.size 0 (u8s S)):=jz (by have:=Blk.range (show Blk U wr.heap.size 195 (u8s S).toArray from hK);rw[jt] at this;exact this);have m4:=h3.out U Z;clear hK Z e2)
       | (refine ld 195 _ rfl rfl rfl d4 underlying195 rfl D.out.2.2 ?_))
      have h6:=jz (HKk.keep J);rw[<- f8];refine(oA (f+1+k) S U mk dk h6 ⟨by omega,by omega⟩ a7 (by omega)).mono ?_;rintro e w5 ⟨rfl,m5,f7,a1⟩;rw[oC];have d2:Hid (DT w m w5 m5):=jz (HTk.trans ((DT.of_below J).trans a1));have e4:=jz f7;have r0:=mS n7 (f+1+k) S;have V:Hid (Blk w5 O 195 (L.flatMap u8s).toArray/\Blk w5 w.heap.size 138 #[.int .i64 f,.int .i64 z]/\O ∉ aZ m5/\w.heap.size ∉ aZ m5):=jz (by
       have n2:O<U.heap.size:=(HBk.out.1.keep J).lt
       have n3:w.heap.size<U.heap.size:=(HBk.out.2.1.keep J).lt
       exact⟨(a1.off n2 HBk.out.2.2.1).trans (HBk.out.1.keep J),(a1.off n3 HBk.out.2.2.2).trans (HBk.out.2.1.keep J),λhm=>(a1.sub _ hm).elim HBk.out.2.2.1 (λh=>by omega),λhm=>(a1.sub _ hm).elim HBk.out.2.2.2 (λh=>by omega)⟩)
      clear f7 a1 m4;have m8:m5.g=m.g:=d2.g;cases ha:fJ dk (f+1+k) with
      | some x=>
       have K:Hid (dE d f z g l=(some x,bH dk (f+1+k) S)):=jz (by rw[b2.out,ha]);obtain⟨t,u,hv⟩:=cH x;rw[hv];have HV:=jz hv;have q7:=dR t u;clear ha hv b2;go_wp2_with fail
       go_ret;exact⟨by rw[K.out,HV.out];rfl,m5,by rw[K.out];exact e4,d2⟩
      | none=>
       have K:Hid (dE d f z g l=iG (bH dk (f+1+k) S) (f+1+k+1) (L.drop (k+1))):=jz (by rw[b2.out,ha]);have hv:bV none = .nilIface:=rfl;rw[hv];clear ha b2;go_wp2_with fail
       exact⟨⟨k+1,m5,_,by omega,by go_num,m8,by omega,e4,d2,jz (by rw[K.out];congr 1;omega),V⟩,by simp[intOf];omega⟩
     ·obtain rfl:k=L.length:=by omega
      have K:Hid (dE d f z g l=(iU dk,cJ dk)):=jz (by rw[HFk.out,List.drop_eq_nil_of_le (ja _)];rfl);clear HFk;go_wp2_with fail
      rw[<- f8];refine(nI wr mk dk HKk (by omega)).mono ?_;rintro e w6 ⟨rfl,m6,c6,c7⟩;have h4:=jz c6;have m2:Hid (DT w m w6 m6):=jz (HTk.trans c7);clear c6 c7;go_wp2_with fail
      go_ret;exact⟨by rw[K.out];show _=Ending.returned (bV (iU dk));rw[<- nJ];rfl,m6,by rw[K.out];exact h4,m2⟩
end Go.Proofs.YtjjlaipkkdncfaaGreatDoor
