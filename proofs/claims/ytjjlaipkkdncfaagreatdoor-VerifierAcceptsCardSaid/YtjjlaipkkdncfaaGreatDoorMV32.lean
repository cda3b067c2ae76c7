import Derived.Test.YtjjlaipkkdncfaaGreatDoorMV25
import Derived.Test.YtjjlaipkkdncfaaGreatDoorMV26
set_option linter.unusedVariables false
set_option linter.unusedSimpArgs false
set_option maxRecDepth 100000
set_option maxHeartbeats 40000000
namespace Go.Proofs.YtjjlaipkkdncfaaGreatDoor
open Go.Proofs.Tryz
section
open Go.RowKit
attribute [local irreducible] wpQuiet wpAnyH
structure RX7(w0 W:Wd)(g:Nat)(bl ky f:Nat->Nat):Prop where
 be:Bw w0 W
 lo:w0.heap.size<=g
 p:AB W g 41 16 (c8 bl)
 n:AB W (g+1) 41 16 (c8 ky)
 b:AB W (g+1+1) 285 256 (c8 bO)
 z:AB W (g+1+1+1) 41 16 (c8 λ_=>0)
 m:AB W (g+1+1+1+1) 41 16 (c8 f)
theorem RX7.set{w0 W:Wd}{g:Nat}{bl ky f:Nat->Nat}(h:RX7 w0 W g bl ky f)(i v:Nat):RX7 w0 (W.setCell ⟨g+1+1+1+1,i,none⟩ (.int .u8 (v:Nat))) g bl ky (aY f i v):=
 ⟨h.be.setCell (by have:=h.lo;show w0.heap.size<=g+1+1+1+1;omega) _,h.lo,h.p.far (by show g≠g+1+1+1+1;omega) _,h.n.far (by show g+1≠g+1+1+1+1;omega) _,h.b.far (by show g+1+1≠g+1+1+1+1;omega) _,h.z.far (by show g+1+1+1≠g+1+1+1+1;omega) _,by have:=h.m.set i (.int .u8 (v:Nat));rwa [cY] at this⟩
theorem RX7.keep{w0 W W':Wd}{g:Nat}{bl D f:Nat->Nat}(h:RX7 w0 W g bl D f)(hb:Bw W W'):RX7 w0 W' g bl D f:=⟨aB h.be hb,h.lo,h.p.keep hb,h.n.keep hb,h.b.keep hb,h.z.keep hb,h.m.keep hb⟩
theorem RX7.drew{w0 W:Wd}{g:Nat}{bl D f:Nat->Nat}(h:RX7 w0 W g bl D f):RX7 w0 W.drew g bl D f:=⟨h.be.drew,h.lo,h.p,h.n,h.b,h.z,h.m⟩
theorem RX7.fn{w0 W:Wd}{g:Nat}{bl D f f':Nat->Nat}(h:RX7 w0 W g bl D f)(e:f=f'):RX7 w0 W g bl D f':=e ▸ h
theorem RX7.above{w0 W W':Wd}{g h:Nat}{bl D f:Nat->Nat}(H:RX7 w0 W g bl D f)(I:g+1+1+1+1<h)(hb:Below h W W'):RX7 w0 W' g bl D f:=
 ⟨H.be.trans (hb.mono (by have:=H.lo;omega)),H.lo,H.p.below hb (by omega),H.n.below hb (by omega),H.b.below hb (by omega),H.z.below hb (by omega),H.m.below hb I⟩
def upF(F:Nat->Nat)(n:Nat):Nat->Nat:=λq=>if q<n then F q else 0
theorem OX(F:Nat->Nat)(n:Nat):upF F n n=0:=jQ (Nat.lt_irrefl n)
theorem OY(F:Nat->Nat){n q:Nat}(h:q<n):upF F n q=F q:=jP h
theorem IN(F:Nat->Nat)(n:Nat):aY (upF F n) n (F n)=upF F (n+1):=uU F n 0
theorem DL(F:Nat->Nat):upF F 0=λ_=>0:=by funext q;exact jQ (by omega)
theorem UU{s:Nat->Nat}(hs:aQ s)(r c:Nat)(D:r<4):fL nmR s (r+4*c)=twR (s (r+4*c)) ^^^ twR (s ((r+1) % 4+4*c)) ^^^ s ((r+1) % 4+4*c) ^^^ s ((r+2) % 4+4*c) ^^^ s ((r+3) % 4+4*c):=by
 unfold fL;rw[RM (λi=>hs _),show(r+4*c) % 4=r by omega,show(r+4*c)/4=c by omega,show(r+0) % 4=r by omega]
theorem ixR(r c d D:Nat)(K:r<4)(J:c<4)(hd:d<=3)(I:D=4*c):∃ R m j:Nat,(r:Int)+(d:Int)=(R:Int)/\(R:Int) % 4=(m:Int)/\Int.tmod (R:Int) 4=(m:Int)/\(m:Int)+(D:Int)=(j:Int)/\(j:Int)<16/\j<16/\(r+d) % 4+4*c=j/\IntKind.i64.wrap (R:Int)=(R:Int)/\IntKind.i64.wrap (m:Int)=(m:Int)/\IntKind.i64.wrap (j:Int)=(j:Int):=by
 refine⟨r+d,(r+d) % 4,(r+d) % 4+4*c,by omega,by omega,?_,by omega,by omega,by omega,rfl,bY _ (by omega) (by omega),bY _ (by omega) (by omega),bY _ (by omega) (by omega)⟩;rw[Int.tmod_eq_emod_of_nonneg (by omega)];omega
theorem FP(bl ky:Nat->Nat)(last:Bool)(w:Wd)(e5:aQ bl)(f3:aQ ky):Wc 239 #[.agg (arr 16 (c8 bl)).toArray,.agg (arr 16 (c8 ky)).toArray,.bool last,.agg (arr 256 (c8 bO)).toArray] w (Rt w (.agg (arr 16 (c8 (dU bl ky last))).toArray)):=by
 have h5:=jz e5;have h8:=jz f3;clear e5 f3;go_enter func239,ntmps239
 go_upto_region 2 with (refine al 41 _ rfl rfl cK ?_)
 obtain⟨g,hg⟩:=je w.heap.size;obtain⟨w1,c9⟩:=je (((((w.alloc (.cells (arr 16 (c8 bl)).toArray 41)).alloc (.cells (arr 16 (c8 ky)).toArray 41)).alloc (.cells (arr 256 (c8 bO)).toArray 285)).alloc (.cells z8x16 41)).alloc (.cells z8x16 41));have e1:Hid (RX7 w w1 g bl ky (upF (bS bl) (4*0+0))):=jz (by
  rw[c9,hg,DL]
  exact⟨(((((ji _ w).alloc (ja _) _).alloc (by simp) _).alloc (by simp;omega) _).alloc (by simp;omega) _).alloc (by simp;omega) _,ja _,((((Blk.new w _ _).alloc _).alloc _).alloc _).alloc _,(((Blk.newAt _ _ _ _ (by simp)).alloc _).alloc _).alloc _,((Blk.newAt _ _ _ _ (by simp)).alloc _).alloc _,(Blk.newAt _ _ _ _ (by simp)).alloc _,Blk.newAt _ _ _ _ (by simp)⟩)
 rw[<- c9];simp only[World.size_alloc,<- hg];clear c9 hg;go_wp2_with fail
 go_loopw [10] (λi wr=>∃ c:Nat,c<=4/\i = .int .i64 (c:Int)/\Hid (RX7 w wr g bl ky (upF (bS bl) (4*c+0)))) (λi _=>4-(intOf i).toNat)
 case atStart=>exact⟨0,j0 _,rfl,e1⟩
 case round=>
  clear e1;obtain⟨c,hc,rfl,J⟩:=hrel;rcases jo c 4 with a7|b7
  ·have h9:(0:Int)<=c:=by omega
   have k0:(c:Int)<4:=by omega
   go_wp2_with fail
   go_loopw [11] (λi wr=>∃ r:Nat,r<=4/\i = .int .i64 (r:Int)/\Hid (RX7 w wr g bl ky (upF (bS bl) (4*c+r)))) (λi _=>4-(intOf i).toNat)
   case atStart=>exact⟨0,j0 _,rfl,J⟩
   case round=>
    clear J;obtain⟨r,hr,rfl,J⟩:=hrel;rcases jo r 4 with V|f5
    ·have k6:(0:Int)<=r:=by omega
     have k7:(r:Int)<4:=by omega
     obtain⟨q,hq⟩:∃ q,q=4*c+r:=⟨_,rfl⟩;have k5:(r:Int)+4*(c:Int)=(q:Int):=by omega
     have k4:(q:Int)<16:=by omega
     obtain⟨ix,hx⟩:=je (r+4*((c+r) % 4));have n6:(r:Int)+4*(((c:Int)+r) % 4)=(ix:Int):=by omega
     have m6:ix<16:=by omega
     have p6:(ix:Int)<16:=by omega
     have k1:wr.cell? ⟨g,ix,none⟩=some (.int .u8 (bl ix:Nat)):=J.p.cell m6;obtain⟨y,hy⟩:=je (bl ix);have g1:y<256:=by rw[hy];exact h5 ix
     have p7:(y:Int)<256:=by omega
     rw[<- hy] at k1;have k3:wr.cell? ⟨g+1+1,y,none⟩=some (.int .u8 (bO y:Nat)):=J.b.cell g1;obtain⟨X,hX⟩:=je (bO y);rw[<- hX] at k3;have hv:X=bS bl q:=by
      rw[hX,hy,hx,hq];unfold bS;rw[show(4*c+r) % 4=r from by omega,show(4*c+r)/4=c from by omega]
     rw[<- hq] at J;have k2:=J.m.cell (i:=q) (by omega);rw[show c8 (upF (bS bl) q) q = .int .u8 0 from by unfold c8;rw[OX];rfl] at k2;have n4:=J.m.frozen q;have HN:Hid (RX7 w (wr.setCell ⟨g+1+1+1+1,q,none⟩ (.int .u8 (X:Nat))) g bl ky (upF (bS bl) (4*c+(r+1)))):=jz (by
      rw[hv,show 4*c+(r+1)=q+1 by omega]
      exact(J.set q (bS bl q)).fn (IN _ _))
     clear hX hv hy hx g1 hq J;go_wp2_with fail
     exact⟨⟨r+1,by omega,by go_num,HN⟩,by simp[intOf];omega⟩
    ·obtain rfl:r=4:=by omega
     have HN:Hid (RX7 w wr g bl ky (upF (bS bl) (4*(c+1)+0))):=jz (by have h:=J.out;rw[show 4*c+4=4*(c+1)+0 by omega] at h;exact h);clear J;go_wp2_with fail
     exact⟨⟨c+1,by omega,by go_num,HN⟩,by simp[intOf];omega⟩
  ·have c5:c=4:=by omega
   have e6:¬(c:Int)<4:=by omega
   have c4:Hid (RX7 w wr g bl ky (bS bl)):=jz ⟨J.be,J.lo,J.p,J.n,J.b,J.z,J.m.ext (λq hq=>by
    show Value.int .u8 (upF (bS bl) (4*c+0) q:Nat) = .int .u8 (bS bl q:Nat)
    rw[OY _ (by omega)])⟩
   clear J c5 b7 hc;go_upto_region 10 with (refine al 41 _ rfl rfl cK ?_)
   clear e6;obtain⟨o,ho⟩:=je wr.heap.size;obtain⟨w3,a8⟩:=je (wr.alloc (.cells z8x16 41));have d4:Hid (RX7 w w3 g bl ky (bS bl)/\AB w3 o 41 16 (c8 (upF (dU bl ky last) (4*0+0)))/\g+1+1+1+1<o):=jz (by
    have hb:Bw wr w3:=by rw[a8];exact(ji _ wr).alloc (ja _) _
    have h1:=c4.m.lt
    exact⟨c4.keep hb,by rw[DL,a8,ho];exact Blk.new _ _ _,by omega⟩)
   rw[<- a8];simp only[<- ho];clear a8 ho c4;go_wp2_with fail
   go_loopw [13] (λi wr=>∃ c:Nat,c<=4/\i = .int .i64 (c:Int)/\Hid (RX7 w wr g bl ky (bS bl)/\AB wr o 41 16 (c8 (upF (dU bl ky last) (4*c+0)))/\g+1+1+1+1<o)) (λi _=>4-(intOf i).toNat)
   case atStart=>exact⟨0,j0 _,rfl,d4⟩
   case round=>
    clear d4;obtain⟨c,hc,rfl,I⟩:=hrel;rcases jo c 4 with a7|b7
    ·have h9:(0:Int)<=c:=by omega
     have k0:(c:Int)<4:=by omega
     go_wp2_with fail
     go_loopw [14] (λi wr=>∃ r:Nat,r<=4/\i = .int .i64 (r:Int)/\Hid (RX7 w wr g bl ky (bS bl)/\AB wr o 41 16 (c8 (upF (dU bl ky last) (4*c+r)))/\g+1+1+1+1<o)) (λi _=>4-(intOf i).toNat)
     case atStart=>exact⟨0,j0 _,rfl,I⟩
     case round=>
      clear I;obtain⟨r,hr,rfl,I⟩:=hrel;rcases jo r 4 with V|f5
      ·have k6:(0:Int)<=r:=by omega
       have k7:(r:Int)<4:=by omega
       obtain⟨C4,U⟩:∃ x,x=4*c:=⟨_,rfl⟩;have n3:4*(c:Int)=(C4:Int):=by omega
       have n2:(C4:Int)<=12:=by omega
       have n1:(0:Int)<=C4:=by omega
       obtain⟨q,hq⟩:∃ q,q=4*c+r:=⟨_,rfl⟩;have k5:(r:Int)+(C4:Int)=(q:Int):=by omega
       have k4:(q:Int)<16:=by omega
       have f0:wr.cell? ⟨g+1+1+1+1,q,none⟩=some (.int .u8 (bS bl q:Nat)):=I.out.1.m.cell (i:=q) (by omega);have c6:wr.cell? ⟨g+1,q,none⟩=some (.int .u8 (ky q:Nat)):=I.out.1.n.cell (i:=q) (by omega);obtain⟨x0,R⟩:=je (bS bl q);obtain⟨kq,O⟩:=je (ky q);have Z:x0<256:=by rw[R];exact fD bl q
       have b9:kq<256:=by rw[O];exact h8 q
       rw[<- R] at f0;rw[<- O] at c6;have c7:=I.out.2.1.cell (i:=q) (by omega);rw[<- hq] at I;rw[<- hq,show c8 (upF (dU bl ky last) q) q = .int .u8 0 from by unfold c8;rw[OX];rfl] at c7;have f1:=I.out.2.1.frozen q;have a0:Hid (∀ z,z=dU bl ky last q->∀ W,W.heap=wr.heap->Bw wr W->RX7 w (W.setCell ⟨o,q,none⟩ (.int .u8 (z:Nat))) g bl ky (bS bl)/\AB (W.setCell ⟨o,q,none⟩ (.int .u8 (z:Nat))) o 41 16 (c8 (upF (dU bl ky last) (4*c+(r+1))))/\g+1+1+1+1<o):=jz (λz hz W _ e4=>by
        rw[hz,show 4*c+(r+1)=q+1 by omega]
        refine⟨(I.out.1.keep e4).above I.out.2.2 ((ji o W).setCell (p:=⟨o,q,none⟩) (ja _) _),?_,I.out.2.2⟩
        have h:=(I.out.2.1.keep e4).set q (.int .u8 (dU bl ky last q:Nat))
        rw[cY,IN] at h
        exact h)
       cases last with
       | true=>
        have q5:=u8_xor_nat x0 kq Z b9;obtain⟨z,hz⟩:=je (x0 ^^^ kq);rw[<- hz] at q5;have HN:=jz (a0 z (by rw[hz,R,O];rfl) wr rfl (ji _ _));clear hz R O U hq I a0;go_wp2_with fail
        exact⟨⟨r+1,by omega,by go_num,HN⟩,by simp[intOf];omega⟩
       | false=>
        have D:=UU (fD bl) r c V;rw[show r+4*c=q by omega] at D;obtain⟨r1,m1,j1,m8,p8,q6,r0,r6,h0,g2,s1,s5,t1⟩:=ixR r c 1 C4 V a7 (by decide) U;simp only[Int.cast_ofNat_Int] at m8;rw[g2] at D;obtain⟨r2,m2,j2,m9,p9,q7,r4,r7,h2,g3,s3,s8,t2⟩:=ixR r c 2 C4 V a7 (by decide) U;simp only[Int.cast_ofNat_Int] at m9;rw[g3] at D;obtain⟨r3,m3,j3,n0,q0,q8,r5,s0,h3,g8,s4,t0,t3⟩:=ixR r c 3 C4 V a7 (by decide) U;simp only[Int.cast_ofNat_Int] at n0;rw[g8] at D;have n7:=bY (C4:Int) (by omega) (by omega);have f8:wr.cell? ⟨g+1+1+1+1,j1,none⟩=some (.int .u8 (bS bl j1:Nat)):=I.out.1.m.cell (i:=j1) h0;have f9:wr.cell? ⟨g+1+1+1+1,j2,none⟩=some (.int .u8 (bS bl j2:Nat)):=I.out.1.m.cell (i:=j2) h2;have g0:wr.cell? ⟨g+1+1+1+1,j3,none⟩=some (.int .u8 (bS bl j3:Nat)):=I.out.1.m.cell (i:=j3) h3;rw[<- R] at D;obtain⟨x1,d1⟩:=je (bS bl j1);obtain⟨x2,d2⟩:=je (bS bl j2);obtain⟨x3,d3⟩:=je (bS bl j3);have K:x1<256:=by rw[d1];exact fD bl _
        have c2:x2<256:=by rw[d2];exact fD bl _
        have c3:x3<256:=by rw[d3];exact fD bl _
        rw[<- d1] at f8 D;rw[<- d2] at f9 D;rw[<- d3] at g0 D;obtain⟨T0,a5⟩:=je (twR x0);obtain⟨T1,a6⟩:=je (twR x1);have a9:T0<256:=by rw[a5];exact E6 Z
        have b0:T1<256:=by rw[a6];exact E6 K
        have d7:Hid (∀ W,Wc 249 #[.int .u8 x0] W λe w'=>e = .returned (.int .u8 (T0:Nat))/\w'=W):=jz (λW=>by rw[a5];exact(oM x0 W Z).mono (λe w' h=>⟨h.1,h.2.symm⟩));have e0:Hid (∀ W,Wc 249 #[.int .u8 x1] W λe w'=>e = .returned (.int .u8 (T1:Nat))/\w'=W):=jz (λW=>by rw[a6];exact(oM x1 W K).mono (λe w' h=>⟨h.1,h.2.symm⟩));rw[<- a5,<- a6] at D;obtain⟨A1,a1⟩:=je (T0 ^^^ T1);obtain⟨A2,a2⟩:=je (A1 ^^^ x1);obtain⟨A3,a3⟩:=je (A2 ^^^ x2);obtain⟨A4,a4⟩:=je (A3 ^^^ x3);rw[<- a1,<- a2,<- a3,<- a4] at D;have b1:A1<256:=by rw[a1];exact Nat.xor_lt_two_pow (n:=8) a9 b0
        have b2:A2<256:=by rw[a2];exact Nat.xor_lt_two_pow (n:=8) b1 K
        have b3:A3<256:=by rw[a3];exact Nat.xor_lt_two_pow (n:=8) b2 c2
        have b4:A4<256:=by rw[a4];exact Nat.xor_lt_two_pow (n:=8) b3 c3
        have q1:=u8_xor_nat T0 T1 a9 b0;have q2:=u8_xor_nat A1 x1 b1 K;have q3:=u8_xor_nat A2 x2 b2 c2;have q4:=u8_xor_nat A3 x3 b3 c3;rw[<- a1] at q1;rw[<- a2] at q2;rw[<- a3] at q3;rw[<- a4] at q4;have q5:=u8_xor_nat A4 kq b4 b9;obtain⟨z,hz⟩:=je (A4 ^^^ kq);rw[<- hz] at q5;have HN:=jz (a0 z (by rw[hz,O,<- D];rfl) wr.drew rfl (ji _ _).drew);clear hz R O U hq I a0 D d1 d2 d3 a5 a6 a1 a2 a3 a4 g2 g3 g8 h0 h2 h3;go_upto_region 19 with fail
        refine wp_region_still_lit (by kernel_rfl) (by kernel_rfl) ?_
        repeat still_step
        still_call (d7 _)
        repeat still_step
        still_call (e0 _)
        repeat still_step
        refine wpStill_nil ?_;have e8:wr.drew.cell? ⟨o,q,none⟩=some (.int .u8 0):=c7;have f2:wr.drew.frozen? ⟨o,q,none⟩=false:=f1;have e7:wr.drew.cell? ⟨g+1,q,none⟩=some (.int .u8 (kq:Nat)):=c6;obtain⟨wD,d0⟩:=je wr.drew;have f7:({ heap:=wr.heap,tape:=wr.tape,drawn:=wr.drawn+1,os:=wr.os,output:=wr.output }:Wd)=wD:=d0.symm;rw[<- d0] at HN e8 f2 e7;rw[f7];clear d0 f7 c7 f1 c6 f0 f8 f9 g0 d7 e0;go_wp2_with fail
        exact⟨⟨r+1,by omega,by go_num,HN⟩,by simp[intOf];omega⟩
      ·obtain rfl:r=4:=by omega
       have HN:Hid (RX7 w wr g bl ky (bS bl)/\AB wr o 41 16 (c8 (upF (dU bl ky last) (4*(c+1)+0)))/\g+1+1+1+1<o):=jz (by have h:=I.out;rw[show 4*c+4=4*(c+1)+0 by omega] at h;exact h);clear I;go_wp2_with fail
       exact⟨⟨c+1,by omega,by go_num,HN⟩,by simp[intOf];omega⟩
    ·have c5:c=4:=by omega
     have e6:¬(c:Int)<4:=by omega
     have HD:Hid (AB wr o 41 16 (c8 (dU bl ky last))):=jz (I.out.2.1.ext (λp hp=>by
      show Value.int .u8 (upF (dU bl ky last) (4*c+0) p:Nat) = .int .u8 (dU bl ky last p:Nat)
      rw[OY _ (by omega)]))
     have f4:=HD.range;have h6:Blk wr (g+1+1+1) 41 z8x16:=I.out.1.z;have d5:=jz (And.intro I.out.1.be I.out.1.lo);obtain⟨M,hM⟩:=je (arr 16 (c8 (dU bl ky last)));rw[<- hM] at f4;have hI:=bP (L:=M) (by rw[hM];exact aA _ _);have f6:(prog.info? 41).map (·.size)=some M.toArray.size:=by rw[js];exact hI
     have m4:z8x16.size=M.toArray.size:=by rw[hM,aC];exact aC 16 _
     have m5:M.toArray.all (·.oneCell')=true:=by rw[hM];exact aP (λ_=>rfl)
     have HM:=jz hM;clear hM I HD c5;go_wp2_with (first
      | (refine ld 41 _ rfl rfl rfl f4 underlying41 rfl hI ?_)
      | (refine aN 41 (.tmp 8) (.tmp 103) rfl rfl rfl rfl h6 f6 m4 m5 ?_;intro w9 e2 e3 _ _;have h4:=jz e2;have h7:=jz e3;clear e2 e3))
     exact bodyPost_ret (results_cell_row rfl _ _ (g+1+1+1) 41 _ (0,0) _ rfl h4 underlying41 rfl f6) rfl ⟨by rw[HM.out],d5.out.1.trans (h7.mono (by have:=d5.out.2;omega))⟩
theorem UV{P:Program}{ops:Array Oper}{w:Wd}{Q:Act->Prop}{a:Act}{o:Oper}{rest:List Oper}(ty:TypeId)(x:Operand)(J:o.op = .load ty x)(R:Region.wanted o (yielded ops a.tmps)=true)
  {b off:Nat} (U:a.eval x = .pointer (some ⟨b,off,none⟩)) {cs:Wv} {d:TypeDesc} (I:w.rangeAt b off cs)
  (O:P.underlying ty=some d) (hd:d.isRow=true) (hi:(P.info? ty).map (·.size)=some cs.length)
  (h:wpStill P ops w Q rest (a.put o.dst (.agg cs.toArray))):wpStill P ops w Q (o :: rest) a:=
 wpStill_step λK D=>by
  rw[jP R];unfold Oper.still execOp;simp only[J,U,Instr.loadAt,Instr.sureAddr,Sem.run_bind,Sem.run_pure,Result.andThen_ok,run_loadVar_mid w b off ty cs d I O hd hi];exact⟨rfl,D _ h⟩
structure ER(w0 W:Wd)(g gk:Nat)(key f:Nat->Nat):Prop where
 be:Bw w0 W
 lo:w0.heap.size<=g
 b:AB W (g+1) 41 16 (c8 f)
 x:AB W (g+1+1) 285 256 (c8 bO)
 r:AB W (g+1+1+1) 41 16 (c8 λ_=>0)
 k:AB W gk 342 176 (c8 (kAk key))
 hg:g+1+1+1<gk
theorem ER.set{w0 W:Wd}{g gk:Nat}{key f:Nat->Nat}(h:ER w0 W g gk key f)(i v:Nat):ER w0 (W.setCell ⟨g+1,i,none⟩ (.int .u8 (v:Nat))) g gk key (aY f i v):=
 ⟨h.be.setCell (by have:=h.lo;show w0.heap.size<=g+1;omega) _,h.lo,by have:=h.b.set i (.int .u8 (v:Nat));rwa [cY] at this,h.x.far (by show g+1+1≠g+1;omega) _,h.r.far (by show g+1+1+1≠g+1;omega) _,h.k.far (by have:=h.hg;show gk≠g+1;omega) _,h.hg⟩
theorem ER.keep{w0 W W':Wd}{g D:Nat}{key f:Nat->Nat}(h:ER w0 W g D key f)(hb:Bw W W'):ER w0 W' g D key f:=⟨aB h.be hb,h.lo,h.b.keep hb,h.x.keep hb,h.r.keep hb,h.k.keep hb,h.hg⟩
theorem ER.drew{w0 W:Wd}{g D:Nat}{key f:Nat->Nat}(h:ER w0 W g D key f):ER w0 W.drew g D key f:=⟨h.be.drew,h.lo,h.b,h.x,h.r,h.k,h.hg⟩
theorem ER.fn{w0 W:Wd}{g D:Nat}{key f f':Nat->Nat}(h:ER w0 W g D key f)(e:∀ q,q<16->f q=f' q):ER w0 W g D key f':=⟨h.be,h.lo,h.b.ext (λq I=>by unfold c8;rw[e q I]),h.x,h.r,h.k,h.hg⟩
theorem ER.row{w0 W:Wd}{g D:Nat}{key f:Nat->Nat}(h:ER w0 W g D key f){i:Nat}(hi:i<=10):W.rangeAt D (i*16) (arr 16 (c8 (kyF key i))):=by
 have h1:=h.k.part (o:=i*16) (m:=16) (by omega);rw[iM (λk I=>by show Value.int .u8 ((kAk key (i*16+k):Nat):Int)=c8 (kyF key i) k;unfold kAk;rw[show(i*16+k)/16=i from by omega,show(i*16+k) % 16=k from by omega];rfl)] at h1;exact h1
def mxF(key bl:Nat->Nat)(n:Nat):Nat->Nat:=λq=>if q<n then bl q ^^^ kAk key q else bl q
theorem UW(key bl:Nat->Nat)(n:Nat):mxF key bl n n=bl n:=jQ (Nat.lt_irrefl n)
theorem R3(key bl:Nat->Nat)(n:Nat):aY (mxF key bl n) n (bl n ^^^ kAk key n)=mxF key bl (n+1):=by
 funext q
 unfold aY mxF;by_cases e:q=n
 ·subst e;rw[jP rfl,jP (by omega)]
 ·rw[jQ e];by_cases e2:q<n
  ·rw[jP e2,jP (by omega)]
  ·rw[jQ e2,jQ (by omega)]
theorem ER.whole{w0 W W':Wd}{g D:Nat}{key f f':Nat->Nat}(h:ER w0 W g D key f)(J:Blk W' (g+1) 41 (arr 16 (c8 f')).toArray)(hb:Below (g+1) W W')(I:∀ k,k≠g+1->W'.heap[k]? = W.heap[k]?):ER w0 W' g D key f':=
 ⟨h.be.trans (hb.mono (by have:=h.lo;omega)),h.lo,J,(I _ (by omega)).trans h.x,(I _ (by omega)).trans h.r,(I D (by have:=h.hg;omega)).trans h.k,h.hg⟩
theorem z7(key bl:Nat->Nat)(w:Wd)(a2:aQ key)(d4:aQ bl):Wc 220 #[.agg (arr 16 (c8 key)).toArray,.agg (arr 16 (c8 bl)).toArray,.agg (arr 256 (c8 bO)).toArray] w (Rt w (.agg (arr 16 (c8 (dV key bl))).toArray)):=by
 have HK:=jz a2;have HB:=jz d4;clear a2 d4;go_enter func220,ntmps220
 go_upto_region 1 with (refine al 41 _ rfl rfl cK ?_)
 obtain⟨g,hg⟩:=je w.heap.size;obtain⟨w1,b7⟩:=je ((((w.alloc (.cells (arr 16 (c8 key)).toArray 41)).alloc (.cells (arr 16 (c8 bl)).toArray 41)).alloc (.cells (arr 256 (c8 bO)).toArray 285)).alloc (.cells z8x16 41));have V:Hid (Bw w w1/\w.heap.size<=g/\AB w1 g 41 16 (c8 key)/\AB w1 (g+1) 41 16 (c8 bl)/\AB w1 (g+1+1) 285 256 (c8 bO)/\AB w1 (g+1+1+1) 41 16 (c8 λ_=>0)):=jz (by
  rw[b7,hg]
  exact⟨((((ji _ w).alloc (ja _) _).alloc (by simp) _).alloc (by simp;omega) _).alloc (by simp;omega) _,ja _,(((Blk.new w _ _).alloc _).alloc _).alloc _,((Blk.newAt _ _ _ _ (by simp)).alloc _).alloc _,(Blk.newAt _ _ _ _ (by simp)).alloc _,Blk.newAt _ _ _ _ (by simp)⟩)
 rw[<- b7];simp only[World.size_alloc,<- hg];clear b7 hg;have e6:=V.out.2.2.1.range;have d0:=bP (L:=arr 16 (c8 key)) (aA _ _);have K:=V.out.2.2.2.2.1.range;have a5:(prog.info? 285).map (·.size)=some (arr 256 (c8 bO)).length:=by rw[aA];kernel_rfl
 have a4:=jz (λW=>KH key W HK);obtain⟨KL,J⟩:=je (arr 176 (c8 (kAk key)));have c2:=jz J;rw[<- J] at a4;have hI:(prog.info? 342).map (·.size)=some KL.toArray.size:=by rw[js,J,aA];kernel_rfl
 have e0:z8x176.size=KL.toArray.size:=by rw[J,aC];exact aC 176 _
 have e1:KL.toArray.all (·.oneCell')=true:=by rw[J];exact aP (λ_=>rfl)
 clear J;go_upto_region 2 with (first
  | (refine ld 41 (.tmp 3) rfl rfl rfl e6 underlying41 rfl d0 ?_)
  | (refine ld 285 (.tmp 5) rfl rfl rfl K underlying285 rfl a5 ?_)
  | (go_at_call 238;refine(a4 w1).mono ?_;rintro e w5 ⟨rfl,O⟩;have a3:=jz O;clear O)
  | (refine al 342 _ rfl rfl lD ?_)
  | (refine bQ (cells:=KL.toArray) 342 (.tmp 7) (.tmp 12) rfl rfl (by rfl) (by rfl) hI e0 e1 ?_;intro w6 Z d3 g2))
 obtain⟨gk,a9⟩:=je w5.heap.size;rw[<- a9] at Z ⊢;have D:Hid (ER w w6 g gk key (mxF key bl 0)):=jz (by
  have hb:Bw w1 w6:=aB a3 d3
  have h:=V.out
  rw[c2.out] at Z
  have r5:=h.2.2.2.2.2.keep a3.out
  exact⟨aB h.1 hb,h.2.1,(h.2.2.2.1.keep hb).ext (λq hq=>by unfold c8 mxF;rw[jQ (by omega)]),h.2.2.2.2.1.keep hb,h.2.2.2.2.2.keep hb,Z,by rw[a9];exact r5.lt⟩)
 clear a9 V a3 Z d3 g2 hI e0 e1 e6 d0 K a4 c2;go_wp2_with fail
 go_loopw [8] (λi wr=>∃ n:Nat,n<=16/\i = .int .i64 (n:Int)/\Hid (ER w wr g gk key (mxF key bl n))) (λi _=>16-(intOf i).toNat)
 case atStart=>exact⟨0,j0 _,rfl,D⟩
 case round=>
  clear D;obtain⟨n,hn,rfl,D⟩:=hrel;rcases jo n 16 with e3|d7
  ·have h3:(0:Int)<=n:=by omega
   have h4:(n:Int)<16:=by omega
   obtain⟨x,hx⟩:=je (bl n);obtain⟨y,hy⟩:=je (kAk key n);have d5:wr.cell? ⟨g+1,n,none⟩=some (.int .u8 (x:Nat)):=by
    rw[D.b.cell (i:=n) e3];show some (Value.int .u8 (mxF key bl n n:Nat))=_;rw[UW,hx]
   have f8:wr.cell? ⟨gk,n,none⟩=some (.int .u8 (y:Nat)):=by rw[D.k.cell (i:=n) (by omega),hy];rfl
   have q1:=u8_xor_nat x y (by rw[hx];exact HB n) (by rw[hy];exact WF HK n);obtain⟨z,hz⟩:=je (x ^^^ y);rw[<- hz] at q1;have f7:wr.drew.cell? ⟨g+1,n,none⟩=some (.int .u8 (x:Nat)):=d5;have f9:wr.drew.frozen? ⟨g+1,n,none⟩=false:=D.b.frozen n;have HN:Hid (ER w (wr.drew.setCell ⟨g+1,n,none⟩ (.int .u8 (z:Nat))) g gk key (mxF key bl (n+1))):=jz (by
    have h:=D.drew.set n z
    rw[hz,hx,hy,R3] at h
    rw[hz,hx,hy]
    exact h)
   clear hx hy hz D;go_upto_region 5 with fail
   go_still_tail 9,(by kernel_rfl)
   change wpList _ _ _ _ _ wr.drew;obtain⟨wD,U⟩:=je wr.drew;rw[<- U] at HN f7 f9 ⊢;clear U d5 f8 q1;go_wp2_with fail
   exact⟨⟨n+1,by omega,by go_num,HN⟩,by simp[intOf];omega⟩
  ·have g0:n=16:=by omega
   have g1:¬(n:Int)<16:=by omega
   have c3:Hid (ER w wr g gk key (lT key bl 0)):=jz (D.fn (λq hq=>by
    show mxF key bl n q=qN bl (kyF key 0) q
    unfold mxF qN
    rw[jP (by omega)]
    unfold kAk
    rw[show q/16=0 by omega,show q % 16=q by omega]))
   clear D d7 hn g0;go_wp2_with fail
   clear g1;go_loopw [9] (λi wr=>∃ k:Nat,k<=10/\i = .int .i64 ((k:Int)+1)/\Hid (ER w wr g gk key (lT key bl k))) (λi _=>11-(intOf i).toNat)
   case atStart=>exact⟨0,j0 _,rfl,c3⟩
   case round=>
    clear c3;obtain⟨k,hk,rfl,D⟩:=hrel;obtain⟨i,hi⟩:=je (k+1);have b0:(k:Int)+1=(i:Int):=by omega
    rw[b0];have HI:=jz hi;rcases jo k 10 with e3|d7
    ·have g3:(1:Int)<=i:=by omega
     have g8:(i:Int)<=10:=by omega
     have h0:(i:Int)<11:=by omega
     have f1:Hid ((i:Int)+1=((k+1:Nat):Int)+1):=jz (by omega);obtain⟨la,hL⟩:=je (decide (k=9));have f5:((i:Int) == 10)=la:=by
      rw[hL];by_cases e:k=9
      ·rw[decide_eq_true e];exact beq_iff_eq.2 (by omega)
      ·rw[decide_eq_false e];exact beq_eq_false_iff_ne.2 (by omega)
     have f6:decide ((i:Int)=10)=la:=by
      rw[hL];by_cases e:k=9
      ·rw[decide_eq_true e,decide_eq_true (by omega)]
      ·rw[decide_eq_false e,decide_eq_false (by omega)]
     obtain⟨F,hF⟩:=je (lT key bl k);obtain⟨Y,hY⟩:=je (kyF key i);have c6:aQ F:=by rw[hF];exact zM HK HB k
     have d2:aQ Y:=by rw[hY];exact fM HK i
     rw[<- hF] at D;have d1:dU F Y la=lT key bl (k+1):=by rw[hF,hY,hL,hi];rfl
     have K:=D.b.range;have b1:=D.x.range;have a0:=D.row (i:=i) (by omega);rw[<- hY] at a0;have c7:=bP (L:=arr 16 (c8 F)) (aA _ _);have c9:=bP (L:=arr 16 (c8 Y)) (aA _ _);obtain⟨M1,a6⟩:=je (arr 16 (c8 F));obtain⟨M2,a7⟩:=je (arr 16 (c8 Y));obtain⟨M3,a8⟩:=je (arr 256 (c8 bO));obtain⟨N,hN⟩:=je (arr 16 (c8 (dU F Y la)));have f3:Hid (∀ W,Wc 239 #[.agg M1.toArray,.agg M2.toArray,.bool la,.agg M3.toArray] W (Rt W (.agg N.toArray))):=jz (λW=>by rw[a6,a7,a8,hN];exact FP F Y la W c6 d2);rw[<- a6] at K c7;rw[<- a7] at a0 c9;rw[<- a8] at b1 a5;have a1:(prog.info? 41).map (·.size)=some N.toArray.size:=by rw[js];exact bP (by rw[hN];exact aA _ _)
     have b3:N.toArray.all (·.oneCell')=true:=by rw[hN];exact aP (λ_=>rfl)
     have b2:(arr 16 (c8 F)).toArray.size=N.toArray.size:=by rw[hN,aC,aC]
     have HN:=jz hN;have f2:=jz d1;have c5:Hid (ER w wr.drew g gk key F):=jz D.drew;clear hF hY c6 d2 d1 a6 a7 a8 hN hL hi b0 D;go_upto_region 9 with fail
     refine wp_region_still_tail 7 (by kernel_rfl) (by kernel_rfl) ?_;simp only[List.take_succ_cons,List.take_zero,List.drop_succ_cons,List.drop_zero];refine UV 41 (.tmp 4) rfl (by rfl) (by rfl) K underlying41 rfl c7 ?_
     repeat still_step
     refine UV 41 (.tmp 33) rfl (by rfl) (by rfl) a0 underlying41 rfl c9 ?_
     repeat still_step
     refine UV 285 (.tmp 5) rfl (by rfl) (by rfl) b1 underlying285 rfl a5 ?_;refine wpStill_nil ?_;change wpList _ _ _ _ _ wr.drew;obtain⟨wD,U⟩:=je wr.drew;rw[<- U] at c5 ⊢;clear U K a0 b1 f5 f6;go_wp2_with (first
      | (go_at_call 239;refine(f3 wD).mono ?_;rintro e w5 ⟨rfl,O⟩;have c4:=jz (c5.keep O);clear O)
      | (refine aN (cells:=N.toArray) 41 (.tmp 4) (.tmp 38) rfl rfl (by rfl) (by rfl) c4.b a1 b2 b3 ?_;intro w9 I R e4 _;have f4:Hid (ER w w9 g gk key (lT key bl (k+1))):=jz (by rw[HN.out] at I;rw[<- f2.out];exact c4.whole I R e4);clear I R e4))
     exact⟨⟨k+1,by omega,by rw[f1.out],f4⟩,by have:=HI.out;simp[intOf];omega⟩
    ·have e2:k=10:=by omega
     have h2:¬(i:Int)<=10:=by omega
     have HD:Hid (AB wr (g+1) 41 16 (c8 (dV key bl))):=jz (by have h:=D.b;rw[e2] at h;exact h);have e5:=HD.range;have e8:Blk wr (g+1+1+1) 41 z8x16:=D.r;have b9:=jz (And.intro D.be D.lo);obtain⟨M,hM⟩:=je (arr 16 (c8 (dV key bl)));rw[<- hM] at e5;have hI:=bP (L:=M) (by rw[hM];exact aA _ _);have a1:(prog.info? 41).map (·.size)=some M.toArray.size:=by rw[js];exact hI
     have b2:z8x16.size=M.toArray.size:=by rw[hM,aC];exact aC 16 _
     have b3:M.toArray.all (·.oneCell')=true:=by rw[hM];exact aP (λ_=>rfl)
     have HM:=jz hM;clear hM D HD e2 hi b0;go_wp2_with (first
      | (refine ld 41 _ rfl rfl rfl e5 underlying41 rfl hI ?_)
      | (refine aN 41 (.tmp 6) (.tmp 39) rfl rfl rfl rfl e8 a1 b2 b3 ?_;intro w9 I R _ _;have e7:=jz I;have f0:=jz R;clear I R))
     exact bodyPost_ret (results_cell_row rfl _ _ (g+1+1+1) 41 _ (0,0) _ rfl e7 underlying41 rfl a1) rfl ⟨by rw[HM.out],b9.out.1.trans (f0.mono (by have:=b9.out.2;omega))⟩
def cMR(nn:Nat->Nat)(i k:Nat):Nat->Nat:=λq=>if q<k then nn q else if 16-k<=q then i/256 ^ (15-q) % 256 else 0
theorem R4(nn:Nat->Nat)(i:Nat):cMR nn i 8=dQ nn i:=rfl
theorem UX(nn:Nat->Nat)(i:Nat){k:Nat}(h:k<8):cMR nn i k k=0:=by
 unfold cMR;rw[jQ (by omega),jQ (by omega)]
theorem R5(nn:Nat->Nat)(i:Nat){k:Nat}(h:k<8):aY (cMR nn i k) k (nn k) (15-k)=0:=by
 unfold aY cMR;rw[jQ (by omega),jQ (by omega),jQ (by omega)]
theorem OZ(nn:Nat->Nat)(i:Nat){k:Nat}(h:k<8):aY (aY (cMR nn i k) k (nn k)) (15-k) (i/256 ^ k % 256)=cMR nn i (k+1):=by
 funext q
 unfold aY cMR;by_cases e:q=15-k
 ·rw[jP e,jQ (by omega),jP (by omega),e,show 15-(15-k)=k by omega]
 ·rw[jQ e];by_cases e2:q=k
  ·rw[jP e2,jP (by omega),e2]
  ·rw[jQ e2];by_cases e3:q<k
   ·rw[jP e3,jP (by omega)]
   ·by_cases e4:16-k<=q
    ·rw[jQ e3,jP e4,jQ (by omega),jP (by omega)]
    ·rw[jQ e3,jQ e4,jQ (by omega),jQ (by omega)]
structure BR8(w0 W:Wd)(g:Nat)(key nn f:Nat->Nat):Prop where
 be:Bw w0 W
 lo:w0.heap.size<=g
 k:AB W g 41 16 (c8 key)
 n:AB W (g+1) 100 8 (c8 nn)
 x:AB W (g+1+1) 285 256 (c8 bO)
 r:AB W (g+1+1+1) 41 16 (c8 λ_=>0)
 b:AB W (g+1+1+1+1) 41 16 (c8 f)
theorem BR8.set{w0 W:Wd}{g:Nat}{key nn f:Nat->Nat}(h:BR8 w0 W g key nn f)(i v:Nat):BR8 w0 (W.setCell ⟨g+1+1+1+1,i,none⟩ (.int .u8 (v:Nat))) g key nn (aY f i v):=
 ⟨h.be.setCell (by have:=h.lo;show w0.heap.size<=g+1+1+1+1;omega) _,h.lo,h.k.far (by show g≠g+1+1+1+1;omega) _,h.n.far (by show g+1≠g+1+1+1+1;omega) _,h.x.far (by show g+1+1≠g+1+1+1+1;omega) _,h.r.far (by show g+1+1+1≠g+1+1+1+1;omega) _,by have:=h.b.set i (.int .u8 (v:Nat));rwa [cY] at this⟩
theorem BR8.keep{w0 W W':Wd}{g:Nat}{key nn f:Nat->Nat}(h:BR8 w0 W g key nn f)(hb:Bw W W'):BR8 w0 W' g key nn f:=⟨aB h.be hb,h.lo,h.k.keep hb,h.n.keep hb,h.x.keep hb,h.r.keep hb,h.b.keep hb⟩
theorem BR8.fn{w0 W:Wd}{g:Nat}{key nn f f':Nat->Nat}(h:BR8 w0 W g key nn f)(e:f=f'):BR8 w0 W g key nn f':=e ▸ h
theorem KU(key nn:Nat->Nat)(D:Nat)(w:Wd)(K:aQ key)(b0:aQ nn)(hi:D<18446744073709551616):Wc 182 #[.agg (arr 16 (c8 key)).toArray,.agg (arr 8 (c8 nn)).toArray,.int .u64 D,.agg (arr 256 (c8 bO)).toArray] w (Rt w (.agg (arr 16 (c8 (dV key (dQ nn D)))).toArray)):=by
 have HK:=jz (And.intro K b0);clear K b0;go_enter func182,ntmps182
 go_upto_region 2 with (refine al 41 _ rfl rfl cK ?_)
 obtain⟨g,hg⟩:=je w.heap.size;obtain⟨w1,a0⟩:=je (((((w.alloc (.cells (arr 16 (c8 key)).toArray 41)).alloc (.cells (arr 8 (c8 nn)).toArray 100)).alloc (.cells (arr 256 (c8 bO)).toArray 285)).alloc (.cells z8x16 41)).alloc (.cells z8x16 41));have a1:Hid (BR8 w w1 g key nn (cMR nn D 0)):=jz (by
  rw[a0,hg]
  refine⟨(((((ji _ w).alloc (ja _) _).alloc (by simp) _).alloc (by simp;omega) _).alloc (by simp;omega) _).alloc (by simp;omega) _,ja _,((((Blk.new w _ _).alloc _).alloc _).alloc _).alloc _,(((Blk.newAt _ _ _ _ (by simp)).alloc _).alloc _).alloc _,((Blk.newAt _ _ _ _ (by simp)).alloc _).alloc _,(Blk.newAt _ _ _ _ (by simp)).alloc _,AB.ext (F:=c8 λ_=>0) (Blk.newAt _ _ _ _ (by simp)) (λq hq=>?_)⟩
  show _=Value.int .u8 ((cMR nn D 0 q:Nat):Int)
  unfold cMR
  rw[jQ (by omega),jQ (by omega)]
  rfl)
 rw[<- a0];simp only[World.size_alloc,<- hg];clear a0 hg;go_wp2_with fail
 go_loopw [2,10] (λx i wr=>∃ k:Nat,k<=8/\i = .int .i64 (k:Int)/\x = .int .u64 (D/256 ^ k:Nat)/\Hid (BR8 w wr g key nn (cMR nn D k))) (λ_ i _=>8-(intOf i).toNat)
 case atStart=>exact⟨0,j0 _,rfl,by rw[Nat.pow_zero,Nat.div_one],a1⟩
 case round=>
  clear a1;obtain⟨k,hk,rfl,rfl,O⟩:=hrel;rcases jo k 8 with J|d4
  ·have e0:(0:Int)<=k:=by omega
   have e1:(k:Int)<8:=by omega
   obtain⟨X,hX⟩:=je (D/256 ^ k);rw[<- hX];have c9:X<18446744073709551616:=by rw[hX];exact Nat.lt_of_le_of_lt (Nat.div_le_self _ _) hi
   obtain⟨j,hj⟩:∃ j,j=15-k:=⟨_,rfl⟩;have d7:15-(k:Int)=(j:Int):=by omega
   have d5:(j:Int)<16:=by omega
   obtain⟨a,ha⟩:=je (X % 256);obtain⟨d,hd⟩:=je (X/256);have f1:(X:Int) % 256=(a:Int):=by omega
   have f2:(X:Int)/256=(d:Int):=by omega
   have t1:Int.tmod (X:Int) 256=(a:Int):=by rw[Int.tmod_eq_emod_of_nonneg (by omega)];exact f1
   have t2:Int.tdiv (X:Int) 256=(d:Int):=by rw[Int.tdiv_eq_ediv_of_nonneg (by omega)];exact f2
   have f3:(a:Int) % 256=(a:Int):=by omega
   have d0:(a:Int)<256:=by omega
   obtain⟨y,hy⟩:=je (nn k);have d1:wr.cell? ⟨g+1,k,none⟩=some (.int .u8 (y:Nat)):=by rw[O.n.cell (i:=k) J,hy];rfl
   have c5:=O.b.cell (i:=k) (by omega);rw[show c8 (cMR nn D k) k = .int .u8 0 from by unfold c8;rw[UX nn D J];rfl] at c5;have d3:=O.b.frozen k;have I:=jz (O.set k y);have c4:=I.b.cell (i:=j) (by omega);rw[show c8 (aY (cMR nn D k) k y) j = .int .u8 0 from by unfold c8;rw[hy,hj,R5 nn D J];rfl] at c4;have d2:=I.b.frozen j;have a2:=jz (I.set j a);have HN:Hid (BR8 w ((wr.setCell ⟨g+1+1+1+1,k,none⟩ (.int .u8 (y:Nat))).setCell ⟨g+1+1+1+1,j,none⟩ (.int .u8 (a:Nat))) g key nn (cMR nn D (k+1))/\d=D/256 ^ (k+1)):=jz ⟨a2.fn (by rw[hy,hj,ha,hX,OZ nn D J]),by rw[hd,hX,Nat.div_div_eq_div_mul,Nat.pow_succ]⟩;clear hX hj ha hd hy O I a2;go_wp2_with fail
   exact⟨⟨k+1,by omega,by go_num,by rw[HN.out.2],HN.out.1 |> Lib.hid⟩,by simp[intOf];omega⟩
  ·have a9:k=8:=by omega
   have e2:¬(k:Int)<8:=by omega
   have HX:Hid (BR8 w wr g key nn (dQ nn D)):=jz (O.fn (by rw[a9,R4]));have b1:=HX.k.range;have b2:=HX.b.range;have b3:=HX.x.range;have a4:=bP (L:=arr 16 (c8 key)) (aA _ _);have a5:=bP (L:=arr 16 (c8 (dQ nn D))) (aA _ _);have a6:(prog.info? 285).map (·.size)=some (arr 256 (c8 bO)).length:=by rw[aA];kernel_rfl
   obtain⟨M1,U⟩:=je (arr 16 (c8 key));obtain⟨M2,V⟩:=je (arr 16 (c8 (dQ nn D)));obtain⟨M3,Z⟩:=je (arr 256 (c8 bO));obtain⟨N,hN⟩:=je (arr 16 (c8 (dV key (dQ nn D))));have HE:Hid (∀ W,Wc 220 #[.agg M1.toArray,.agg M2.toArray,.agg M3.toArray] W (Rt W (.agg N.toArray))):=jz (λW=>by rw[U,V,Z,hN];exact z7 key _ W HK.out.1 (lU HK.out.2 D 8));rw[<- U] at b1 a4;rw[<- V] at b2 a5;rw[<- Z] at b3 a6;have b7:(prog.info? 41).map (·.size)=some N.toArray.size:=by rw[js];exact bP (by rw[hN];exact aA _ _)
   have c7:N.toArray.all (·.oneCell')=true:=by rw[hN];exact aP (λ_=>rfl)
   have c6:z8x16.size=N.toArray.size:=by rw[show N.toArray.size=16 from by rw[hN];exact aC _ _];exact aC 16 _
   have HM:=jz hN;clear U V Z hN a9 O;go_wp2_with (first
    | (refine ld 41 (.tmp 4) rfl rfl (by rfl) b1 underlying41 rfl a4 ?_)
    | (refine ld 41 (.tmp 9) rfl rfl (by rfl) b2 underlying41 rfl a5 ?_)
    | (refine ld 285 (.tmp 7) rfl rfl (by rfl) b3 underlying285 rfl a6 ?_)
    | (go_at_call 220;refine(HE wr).mono ?_;rintro e w5 ⟨rfl,a7⟩;have R:=jz (HX.keep a7);have c2:Hid (Blk w5 (g+1+1+1) 41 z8x16):=jz R.r;clear a7)
    | (refine aN 41 (.tmp 8) (.tmp 31) rfl rfl (by rfl) (by rfl) c2 b7 c6 c7 ?_;intro w9 a3 a8 _ _;have b9:=jz a3;have c3:=jz a8;clear a3 a8))
   exact bodyPost_ret (results_cell_row rfl _ _ (g+1+1+1) 41 _ (0,0) _ rfl b9 underlying41 rfl b7) rfl ⟨by rw[HM.out],R.be.trans (c3.mono (by have:=R.lo;omega))⟩
def pO(key nn:Nat->Nat)(j:Nat):Nat:=dV key (dQ nn (j/16)) (j % 16)
structure SR8(w0 W:Wd)(g gx gy B:Nat)(key nn:Nat->Nat)(v:Value)(m i:Nat):Prop where
 be:Bw w0 W
 lo:w0.heap.size<=g
 k:AB W g 41 16 (c8 key)
 n:AB W (g+1) 100 8 (c8 nn)
 x:AB W gx 285 256 (c8 bO)
 y:AB W gy 41 16 (c8 (dV key (dQ nn i)))
 o:W.ownsRow B 5 1 v m (n8 (arr m (pO key nn)))
 gx1:g+1<gx
 xy:gx<gy
 yB:gy<B
 BW:B<=W.heap.size
section
variable {w0 W W' : Wd} {g gx gy B m i j : Nat} {key nn : Nat -> Nat} {v v' : Value}
theorem SR8.above(h:SR8 w0 W g gx gy B key nn v m i)(hb:Below B W W')(D:W'.ownsRow B 5 1 v' (m+1) (n8 (arr (m+1) (pO key nn)))):SR8 w0 W' g gx gy B key nn v' (m+1) i:=
 ⟨h.be.trans (hb.mono (by have:=h.lo;have:=h.gx1;have:=h.xy;have:=h.yB;omega)),h.lo,h.k.below hb (by have:=h.gx1;have:=h.xy;have:=h.yB;omega),h.n.below hb (by have:=h.gx1;have:=h.xy;have:=h.yB;omega),h.x.below hb (by have:=h.xy;have:=h.yB;omega),h.y.below hb h.yB,D,h.gx1,h.xy,h.yB,by have:=h.BW;have:=hb.size;omega⟩
theorem SR8.keep(h:SR8 w0 W g gx gy B key nn v m i)(hb:Bw W W'):SR8 w0 W' g gx gy B key nn v m i:=
 ⟨aB h.be hb,h.lo,h.k.keep hb,h.n.keep hb,h.x.keep hb,h.y.keep hb,aE h.o hb,h.gx1,h.xy,h.yB,by have:=h.BW;have:=hb.size;omega⟩
theorem SR8.put(h:SR8 w0 W g gx gy B key nn v m i)(I:Blk W' gy 41 (arr 16 (c8 (dV key (dQ nn j)))).toArray)(hb:Below gy W W')(D:∀ q,q≠gy->W'.heap[q]? = W.heap[q]?):SR8 w0 W' g gx gy B key nn v m j:=
 ⟨h.be.trans (hb.mono (by have:=h.lo;have:=h.gx1;have:=h.xy;omega)),h.lo,(D g (by have:=h.gx1;have:=h.xy;omega)).trans h.k,(D (g+1) (by have:=h.gx1;have:=h.xy;omega)).trans h.n,(D gx (by have:=h.xy;omega)).trans h.x,I,pK h.o (λb e=>D b (by have:=(h.o.lt b e).1;have:=h.yB;omega)),h.gx1,h.xy,h.yB,by have:=h.BW;have:=hb.size;omega⟩
end
theorem DN(key nn:Nat->Nat)(n:Nat)(w:Wd)(a5:aQ key)(e6:aQ nn)(hn:n<=1048576):Wc 143 #[.agg (arr 16 (c8 key)).toArray,.agg (arr 8 (c8 nn)).toArray,.int .i64 0,.int .i64 n] w λe w'=>∃ v,e = .returned v/\w'.ownsRow w.heap.size 5 1 v n (n8 (arr n (pO key nn)))/\Bw w w':=by
 have HK:=jz (And.intro a5 e6);clear a5 e6;have k5:(0:Int)<=n:=by omega
 have g8:¬(n:Int)<0:=by omega
 have h0:¬(1048576:Int)<n:=by omega
 have h4:(n:Int)<=1048576:=by omega
 go_enter func143,ntmps143
 go_upto_region 2 with fail
 obtain⟨g,hg⟩:=je w.heap.size;obtain⟨w1,c6⟩:=je ((w.alloc (.cells (arr 16 (c8 key)).toArray 41)).alloc (.cells (arr 8 (c8 nn)).toArray 100));have H1:Hid (Bw w w1/\w.heap.size<=g/\AB w1 g 41 16 (c8 key)/\AB w1 (g+1) 100 8 (c8 nn)):=jz (by
  rw[c6,hg]
  exact⟨((ji _ w).alloc (ja _) _).alloc (by simp) _,ja _,(Blk.new w _ _).alloc _,Blk.newAt _ _ _ _ (by simp)⟩)
 have HG:=jz hg;rw[<- c6];simp only[World.size_alloc,<- hg];clear c6 hg;obtain⟨M3,V⟩:=je (arr 256 (c8 bO));have b2:=jz (λW=>KG W);rw[<- V] at b2;have b3:=jz V;have b9:(prog.info? 285).map (·.size)=some M3.length:=by rw[V,aA];kernel_rfl
 have J:(prog.info? 285).map (·.size)=some M3.toArray.size:=by rw[js];exact b9
 have K:z8x256.size=M3.toArray.size:=by rw[V,aC];exact aC 256 _
 have O:M3.toArray.all (·.oneCell')=true:=by rw[V];exact aP (λ_=>rfl)
 clear V;go_upto_region 3 with (first
  | (go_at_call 181;refine(b2 w1).mono ?_;rintro e w2 ⟨rfl,e1⟩;have b0:=jz e1;clear e1)
  | (refine al 285 _ rfl rfl nM ?_)
  | (refine bQ (cells:=M3.toArray) 285 (.tmp 10) (.tmp 13) rfl rfl (by rfl) (by rfl) J K O ?_;intro w3 a3 e2 f7))
 obtain⟨gx,c4⟩:=je w2.heap.size;rw[<- c4] at a3 f7 ⊢;have H3:Hid (Bw w w3/\AB w3 g 41 16 (c8 key)/\AB w3 (g+1) 100 8 (c8 nn)/\AB w3 gx 285 256 (c8 bO)/\g+1<gx):=jz (by
  have hb:Bw w1 w3:=aB b0 e2
  rw[b3.out] at a3
  have h2:=H1.out.2.2.2.keep b0.out
  exact⟨aB H1.out.1 hb,H1.out.2.2.1.keep hb,H1.out.2.2.2.keep hb,a3,by rw[c4];exact h2.lt⟩)
 have d0:=jz H1.out.2.1;clear c4 a3 e2 f7 b0 H1 b2 J K O;obtain⟨M1,a0⟩:=je (arr 16 (c8 key));obtain⟨M2,a1⟩:=je (arr 8 (c8 nn));have k1:=jz (And.intro a0 a1);have d7:(prog.info? 41).map (·.size)=some M1.length:=by rw[a0];exact bP (aA _ _)
 have e0:(prog.info? 100).map (·.size)=some M2.length:=by rw[a1,aA];kernel_rfl
 have d3:Hid (∀ W,AB W g 41 16 (c8 key)->AB W (g+1) 100 8 (c8 nn)->AB W gx 285 256 (c8 bO)->W.rangeAt g 0 M1/\W.rangeAt (g+1) 0 M2/\W.rangeAt gx 0 M3):=jz (λW h1 h2 h3=>by
  rw[a0,a1,b3.out]
  exact⟨h1.range,h2.range,h3.range⟩)
 have c9:Hid (∀(i:Nat) (W:Wd),i<18446744073709551616->Wc 182 #[.agg M1.toArray,.agg M2.toArray,.int .u64 i,.agg M3.toArray] W (Rt W (.agg (arr 16 (c8 (dV key (dQ nn i)))).toArray))):=jz (λi W hi=>by rw[a0,a1,b3.out];exact KU key nn i W HK.out.1 HK.out.2 hi);clear a0 a1;obtain⟨a2,e8,f0⟩:=d3.out w3 H3.out.2.1 H3.out.2.2.1 H3.out.2.2.2.1;have R:=jz (c9 0 w3 (by omega));obtain⟨N0,Z⟩:=je (arr 16 (c8 (dV key (dQ nn 0))));rw[<- Z] at R;have d1:=jz Z;have J:(prog.info? 41).map (·.size)=some N0.toArray.size:=by rw[js];exact bP (by rw[Z];exact aA _ _)
 have K:z8x16.size=N0.toArray.size:=by rw[show N0.toArray.size=16 from by rw[Z];exact aC _ _];exact aC 16 _
 have O:N0.toArray.all (·.oneCell')=true:=by rw[Z];exact aP (λ_=>rfl)
 clear Z;go_upto_region 6 with (first
  | (refine ld 41 (.tmp 4) rfl rfl (by rfl) a2 underlying41 rfl d7 ?_)
  | (refine ld 100 (.tmp 5) rfl rfl (by rfl) e8 underlying100 rfl e0 ?_)
  | (refine ld 285 (.tmp 10) rfl rfl (by rfl) f0 underlying285 rfl b9 ?_)
  | (go_at_call 182;refine R.mono ?_;rintro e w4 ⟨rfl,e3⟩;have b1:=jz e3;clear e3)
  | (refine al 41 _ rfl rfl cK ?_)
  | (refine bQ (cells:=N0.toArray) 41 (.tmp 11) (.tmp 34) rfl rfl (by rfl) (by rfl) J K O ?_;intro w5 a4 e4 f8))
 obtain⟨gy,c5⟩:=je w4.heap.size;rw[<- c5] at a4 f8 ⊢;have D:Hid (SR8 w w5 g gx gy w5.heap.size key nn (.slice none 0 0) 0 ((0-1)/16)):=jz (by
  have hb:Bw w3 w5:=aB b1 e4
  have h:=H3.out
  rw[d1.out] at a4
  have h7:=h.2.2.2.1.keep b1.out
  exact⟨aB h.1 hb,d0,h.2.1.keep hb,h.2.2.1.keep hb,h.2.2.2.1.keep hb,a4,⟨rfl,.inl ⟨rfl,rfl⟩⟩,h.2.2.2.2,by rw[c5];exact h7.lt,by omega,ja _⟩)
 obtain⟨B,hB⟩:=je w5.heap.size;rw[<- hB] at D;clear hB c5 a4 e4 f8 b1 H3 d0 R d1 J K O a2 e8 f0;go_wp2_with fail
 go_loopw [9,12] (λv i wr=>∃ k:Nat,k<=n/\i = .int .i64 (k:Int)/\Hid (SR8 w wr g gx gy B key nn v k ((k-1)/16))) (λ_ i _=>n-(intOf i).toNat)
 case atStart=>exact⟨0,j0 _,rfl,D⟩
 case round=>
  clear D;obtain⟨k,hk,rfl,D⟩:=hrel;obtain⟨A0,c0,h6,k0,_⟩:=aM D.o;subst h6;rcases jo k n with g3|k2
  ·have k3:(0:Int)<=k:=by omega
   have k4:(k:Int)<n:=by omega
   have g1:(k:Int)<1048576:=by omega
   obtain⟨a,ha⟩:=je (k/16);obtain⟨r,hr⟩:=je (k % 16);have f1:(k:Int)/16=(a:Int):=by omega
   have f2:(k:Int) % 16=(r:Int):=by omega
   have t1:Int.tdiv (k:Int) 16=(a:Int):=by rw[Int.tdiv_eq_ediv_of_nonneg (by omega)];exact f1
   have t2:Int.tmod (k:Int) 16=(r:Int):=by rw[Int.tmod_eq_emod_of_nonneg (by omega)];exact f2
   have f9:(a:Int)<1048576:=by omega
   have h5:(r:Int)<16:=by omega
   have a9:=jz (And.intro ha hr);have f3:r<16:=by omega
   obtain⟨y,hy⟩:=je (pO key nn k);have HY:Hid (arr k (pO key nn)++[y]=arr (k+1) (pO key nn)):=jz (by rw[vO,hy]);have f6:dV key (dQ nn a) r=y:=by rw[hy,ha,hr];rfl
   have d5:=jz f6;clear ha hy f6;rcases Nat.eq_zero_or_pos r with a2|a2
   ·obtain⟨a6,a7,a8⟩:=d3.out wr D.k D.n D.x;obtain⟨N,hN⟩:=je (arr 16 (c8 (dV key (dQ nn a))));have R:=jz (c9 a wr (by omega));rw[<- hN] at R;have HN:=jz hN;have J:(prog.info? 41).map (·.size)=some N.toArray.size:=by rw[js];exact bP (by rw[hN];exact aA _ _)
    have K:(arr 16 (c8 (dV key (dQ nn ((k-1)/16))))).toArray.size=N.toArray.size:=by rw[hN,aC,aC]
    have O:N.toArray.all (·.oneCell')=true:=by rw[hN];exact aP (λ_=>rfl)
    have f4:(r:Int)=0:=by omega
    subst a2;clear hN f4 hr;simp only[Int.cast_ofNat_Int] at f2 t2 h5;go_upto_region 11 with (first
     | (refine ld 41 (.tmp 4) rfl rfl (by rfl) a6 underlying41 rfl d7 ?_)
     | (refine ld 100 (.tmp 5) rfl rfl (by rfl) a7 underlying100 rfl e0 ?_)
     | (refine ld 285 (.tmp 10) rfl rfl (by rfl) a8 underlying285 rfl b9 ?_)
     | (go_at_call 182;refine R.mono ?_;rintro e w6 ⟨rfl,c3⟩;have c7:=jz c3;have d4:Hid (Blk w6 gy 41 (arr 16 (c8 (dV key (dQ nn ((k-1)/16))))).toArray):=jz (D.y.keep c3);clear c3)
     | (refine aN (cells:=N.toArray) 41 (.tmp 11) (.tmp 52) rfl rfl (by rfl) (by rfl) d4 J K O ?_;intro w7 b7 e5 e7 h8;clear h8))
    have U:Hid (SR8 w w7 g gx gy B key nn (.slice A0 k c0) k a):=jz (by
     rw[HN.out] at b7
     exact(D.keep c7).put b7 e5 e7)
    clear b7 e5 e7 c7 d4 D J K O R HN a6 a7 a8;have g0:w7.cell? ⟨gy,0,none⟩=some (.int .u8 (y:Nat)):=by rw[U.y.cell (i:=0) f3];show some (Value.int .u8 (dV key (dQ nn a) 0:Nat))=_;rw[d5.out]
    go_wp2_with (at_builtin;refine app fQ (.tmp 53) (.tmp 58) rfl (by rfl) (base:=B) (by rfl) (U.o.alloc _) (by rfl) (Sn.new w7 #[.int .u8 (y:Nat)] _ 1 1 rfl) (by simp[Value.oneCell']) (by unfold maxLen;omega) (by omega) (by have:=U.out.BW;simp;omega) ?_;intro v' w8 I hg c2;have HN:Hid (SR8 w w8 g gx gy B key nn v' (k+1) ((k+1-1)/16)):=jz (by rw[show(k+1-1)/16=a from by rw[a9.out.1,Nat.add_sub_cancel]];exact U.above (((ji B w7).alloc U.out.BW _).grown hg (by have:=U.out.BW;simp;omega) (λq e=>(U.o.lt q e).1)) (by rw[<- HY.out,dD];exact I));clear I hg c2)
    exact⟨⟨k+1,by omega,by go_num,HN⟩,by simp[intOf];omega⟩
   ·have d2:Hid (n<=1048576/\k<n):=jz ⟨hn,g3⟩;have f5:¬(r:Int)=0:=by omega
    clear hr g1 h0 h4 g8 hn f9 f1 t1;have U:Hid (SR8 w wr g gx gy B key nn (.slice A0 k c0) k a):=jz (by have h:=D.out;rw[show(k-1)/16=a from by have:=a9.out;omega] at h;exact h);clear D;have g0:wr.cell? ⟨gy,r,none⟩=some (.int .u8 (y:Nat)):=by rw[U.y.cell (i:=r) f3];show some (Value.int .u8 (dV key (dQ nn a) r:Nat))=_;rw[d5.out]
    go_wp2_with (at_builtin;refine app fQ (.tmp 53) (.tmp 58) rfl (by rfl) (base:=B) (by rfl) (U.o.alloc _) (by rfl) (Sn.new wr #[.int .u8 (y:Nat)] _ 1 1 rfl) (by simp[Value.oneCell']) (by have:=d2.out;unfold maxLen;omega) (by have:=d2.out;omega) (by have:=U.out.BW;simp;omega) ?_;intro v' w8 I hg c2;have HN:Hid (SR8 w w8 g gx gy B key nn v' (k+1) ((k+1-1)/16)):=jz (by rw[show(k+1-1)/16=a from by rw[a9.out.1,Nat.add_sub_cancel]];exact U.above (((ji B wr).alloc U.out.BW _).grown hg (by have:=U.out.BW;simp;omega) (λq e=>(U.o.lt q e).1)) (by rw[<- HY.out,dD];exact I));clear I hg c2)
    exact⟨⟨k+1,by omega,by go_num,HN⟩,by simp[intOf];omega⟩
  ·have g2:k=n:=by omega
   subst g2;have h9:¬(k:Int)<k:=by omega
   go_wp2_with fail
   go_ret;exact⟨_,rfl,aT D.o (by have:=D.lo;have:=D.gx1;have:=D.xy;have:=D.yB;omega),D.be⟩
end
section
open Go.RowKit
attribute [local irreducible] wpQuiet wpAnyH
def xsR(key nn f:Nat->Nat)(k:Nat):Nat->Nat:=λj=>if j<k then pO key nn j ^^^ f j else pO key nn j
theorem UY(key nn f:Nat->Nat)(k:Nat):xsR key nn f k k=pO key nn k:=jQ (Nat.lt_irrefl k)
theorem O0(key nn f:Nat->Nat):xsR key nn f 0=pO key nn:=by funext j;exact jQ (by omega)
theorem R6(key nn f:Nat->Nat)(k:Nat):aY (xsR key nn f k) k (pO key nn k ^^^ f k)=xsR key nn f (k+1):=by
 funext q
 unfold aY xsR;by_cases e:q=k
 ·subst e;rw[jP rfl,jP (by omega)]
 ·rw[jQ e];by_cases e2:q<k
  ·rw[jP e2,jP (by omega)]
  ·rw[jQ e2,jQ (by omega)]
theorem R7(key nn f:Nat->Nat)(L:Nat):arr L (xsR key nn f L)=arr L (d8 key nn f L):=iM (λj D=>by
 unfold xsR d8
 rw[jP D,jP D,Nat.xor_comm]
 rfl)
theorem R8{key nn:Nat->Nat}(D:aQ key)(I:aQ nn)(j:Nat):pO key nn j<256:=pG D (lU I _ 8) _
theorem DO{W:Wd}{base e n:Nat}{v:Value}{J:Wv}(h:W.ownsRow base e 1 v n J)(U:0<n):∃ g cap F,v = .slice (some ⟨g,0,none⟩) n cap/\base<=g/\Blk W g e (F:Wv).toArray/\F.length=cap/\n<=cap/\cap<=maxLen/\F.take n=J:=by
 obtain⟨R,⟨_,O⟩|⟨g,cap,D,rfl,hb,hg,I,K,hs,ht⟩⟩:=h
 ·omega
 ·exact⟨g,cap,D.toList,rfl,hb,by rw[Array.toArray_toList];exact hg,by rw[jk,hs,Nat.mul_one],I,K,by rw[<- ht,Nat.mul_one]⟩
theorem KV{W:Wd}{base e n g cap:Nat}{F:Wv}(hb:base<=g)(I:Blk W g e F.toArray)(D:F.length=cap)(K:n<=cap)(J:cap<=maxLen):W.ownsRow base e 1 (.slice (some ⟨g,0,none⟩) n cap) n (F.take n):=
 ⟨by rw[jv,D];omega,.inr ⟨g,cap,F.toArray,rfl,hb,I,K,J,by rw[js,D,Nat.mul_one],by rw[jt,Nat.mul_one]⟩⟩
theorem O3{F:Wv}{n j:Nat}{l:List Nat}(h:F.take n=n8 l)(D:j<n)(I:j<l.length):F[j]? = some (.int .u8 (nth l j:Nat)):=by
 rw[<- oE l j I,<- h,List.getElem?_take_of_lt D]
theorem FQ(key nn:Nat->Nat)(bs:List Nat)(vb:Value)(w:Wd)(U:aQ key)(b3:aQ nn)(a8:Byn bs)(hs:Sn w 1 vb bs.length (n8 bs))(h0:0<bs.length)(hl:bs.length<=1048576):Wc 88 #[.agg (arr 16 (c8 key)).toArray,.agg (arr 8 (c8 nn)).toArray,vb] w λe w'=>∃ v,e = .returned v/\w'.ownsRow w.heap.size 5 1 v bs.length (n8 (arr bs.length (d8 key nn (nth bs) bs.length)))/\Bw w w':=by
 obtain⟨Ab,a2,rfl,d0,_,hx⟩:=id hs;obtain⟨bb,ob,rfl,_⟩:=hx h0;have HK:=jz (And.intro U b3);have HS:=jz (And.intro hs a8);have HL:=jz (And.intro h0 hl);have c9:(bs.length:Int)<=a2:=by omega
 clear U b3 hs a8 hx;go_enter func88,ntmps88
 go_upto_region 1 with fail
 obtain⟨g,hg⟩:=je w.heap.size;obtain⟨w1,a0⟩:=je ((w.alloc (.cells (arr 16 (c8 key)).toArray 41)).alloc (.cells (arr 8 (c8 nn)).toArray 100));have H1:Hid (Bw w w1/\AB w1 g 41 16 (c8 key)/\AB w1 (g+1) 100 8 (c8 nn)):=jz (by
  rw[a0,hg]
  exact⟨((ji _ w).alloc (ja _) _).alloc (by simp) _,(Blk.new w _ _).alloc _,Blk.newAt _ _ _ _ (by simp)⟩)
 rw[<- a0];simp only[World.size_alloc,<- hg];clear a0 hg;obtain⟨M1,K⟩:=je (arr 16 (c8 key));obtain⟨M2,O⟩:=je (arr 8 (c8 nn));have b7:w1.rangeAt g 0 M1:=by rw[K];exact H1.out.2.1.range
 have b9:w1.rangeAt (g+1) 0 M2:=by rw[O];exact H1.out.2.2.range
 have a5:(prog.info? 41).map (·.size)=some M1.length:=by rw[K];exact bP (aA _ _)
 have a6:(prog.info? 100).map (·.size)=some M2.length:=by rw[O,aA];kernel_rfl
 have a1:Hid (∀ W,Wc 143 #[.agg M1.toArray,.agg M2.toArray,.int .i64 0,.int .i64 bs.length] W λe w'=>∃ v,e = .returned v/\w'.ownsRow W.heap.size 5 1 v bs.length (n8 (arr bs.length (pO key nn)))/\Bw W w'):=jz (λW=>by rw[K,O];exact DN key nn bs.length W HK.out.1 HK.out.2 HL.out.2);clear K O hl h0;go_upto_region 2 with (first
  | (refine ld 41 (.tmp 3) rfl rfl (by rfl) b7 underlying41 rfl a5 ?_)
  | (refine ld 100 (.tmp 4) rfl rfl (by rfl) b9 underlying100 rfl a6 ?_)
  | (go_at_call 143;refine(a1 w1).mono ?_;rintro e w2 ⟨v,rfl,V,a7⟩))
 obtain⟨I,cap,F0,rfl,c7,a3,a4,b2,b1,c2⟩:=DO V HL.out.1;have Z:Hid (∃ F:Wv,Blk w2 I 5 F.toArray/\F.length=cap/\F.take bs.length=n8 (arr bs.length (xsR key nn (nth bs) 0))/\Bw w w2):=jz ⟨F0,a3,a4,by rw[O0];exact c2,aB H1.out.1 a7⟩;have J:Hid (w.heap.size<=I/\bs.length<=cap/\cap<=maxLen):=jz ⟨by have:=H1.out.1.size;omega,b2,b1⟩;have d1:(bs.length:Int)<=cap:=by omega
 clear V a7 a3 a4 b2 b1 c2 c7 H1 a1 b7 b9 a5 a6 F0;go_wp2_with fail
 go_loopw [8] (λi wr=>∃ k:Nat,k<=bs.length/\i = .int .i64 (k:Int)/\Hid (∃ F:Wv,Blk wr I 5 F.toArray/\F.length=cap/\F.take bs.length=n8 (arr bs.length (xsR key nn (nth bs) k))/\Bw w wr)) (λi _=>bs.length-(intOf i).toNat)
 case atStart=>exact⟨0,j0 _,rfl,Z⟩
 case round=>
  clear Z;obtain⟨k,hk,rfl,Z⟩:=hrel;rcases jo k bs.length with R|d2
  ·have d3:(0:Int)<=k:=by omega
   have d4:(k:Int)<bs.length:=by omega
   have d5:(k:Int)<100000000:=by have:=HL.out.2;omega
   obtain⟨F,hB,hF,ht,D⟩:=Z.out;obtain⟨x,hx⟩:=je (pO key nn k);obtain⟨y,hy⟩:=je (nth bs k);have a9:wr.cell? ⟨I,k,none⟩=some (.int .u8 (x:Nat)):=by
    rw[hB.cell k,jf,O3 ht R (by rw[aA];exact R),s7 _ R,UY,hx]
   have c5:wr.cell? ⟨bb,ob+k,none⟩=some (.int .u8 (y:Nat)):=by rw[(HS.out.1.below D).cellN R,hy]
   have q1:=u8_xor_nat x y (by rw[hx];exact R8 HK.out.1 HK.out.2 k) (by rw[hy];exact dI HS.out.2 k);obtain⟨z,hz⟩:=je (x ^^^ y);rw[<- hz] at q1;have c4:wr.drew.cell? ⟨I,k,none⟩=some (.int .u8 (x:Nat)):=a9;have c6:wr.drew.frozen? ⟨I,k,none⟩=false:=hB.frozen k;have HN:Hid (∃ F:Wv,Blk (wr.drew.setCell ⟨I,k,none⟩ (.int .u8 (z:Nat))) I 5 F.toArray/\F.length=cap/\F.take bs.length=n8 (arr bs.length (xsR key nn (nth bs) (k+1)))/\Bw w (wr.drew.setCell ⟨I,k,none⟩ (.int .u8 (z:Nat)))):=jz (by
    refine⟨F.set k (.int .u8 (z:Nat)),?_,by rw[List.length_set];exact hF,?_,D.drew.setCell (by exact J.out.1) _⟩
    ·have h:=Blk.set_ (w:=wr.drew) hB k (.int .u8 (z:Nat))
     rw[List.setIfInBounds_toArray] at h
     exact h
    ·rw[List.take_set,ht,lO,sX,cY,hz,hx,hy,R6,lO])
   clear hx hy hz Z hB hF ht D;go_upto_region 5 with fail
   go_still_tail 11,(by kernel_rfl)
   change wpList _ _ _ _ _ wr.drew;obtain⟨wD,c3⟩:=je wr.drew;rw[<- c3] at HN c4 c6 ⊢;clear c3 a9 c5 q1;go_wp2_with fail
   exact⟨⟨k+1,by omega,by go_num,HN⟩,by simp[intOf];omega⟩
  ·have b0:k=bs.length:=by omega
   have d7:¬(k:Int)<bs.length:=by omega
   have HF:Hid (wr.ownsRow w.heap.size 5 1 (.slice (some ⟨I,0,none⟩) bs.length cap) bs.length (n8 (arr bs.length (d8 key nn (nth bs) bs.length)))/\Bw w wr):=jz (by
    obtain⟨F,hB,hF,ht,D⟩:=Z.out
    rw[b0,R7] at ht
    rw[<- ht]
    exact⟨KV J.out.1 hB hF J.out.2.1 J.out.2.2,D⟩)
   clear Z b0;go_wp2_with fail
   go_ret;exact⟨_,rfl,HF.out.1,HF.out.2⟩
theorem IP(n:Nat)(h:n<=1099511627776)(W:Wd):(convert 3 181 (.int .i64 (n:Int))).run prog W = .ok (.int .u64 (n:Int)) W:=by
 have h1:=run_convert_int (P:=prog) (w:=W) 3 181 .i64 (n:Int) (by kernel_rfl) (by kernel_rfl);have e:prog.intKind 181 = .u64:=by kernel_rfl
 rw[e] at h1;rw[h1,show IntKind.u64.wrap (n:Int)=(n:Int) from by
  unfold IntKind.wrap
  simp[IntKind.signed,IntKind.bits]
  omega]
theorem FS{w:Wd}{base base' e I s s' n n':Nat}{v v':Value}{R U:Wv}(h:w.ownsRow base e s v n R)(O:w.ownsRow base' I s' v' n' U)(J:I≠e):∀ b,v'.ownBlock=some b->some b≠v.ownBlock:=λb hb=>by
 obtain⟨_,h1|⟨K,cap,D,rfl,_,hg,_⟩⟩:=O
 ·rw[h1.1] at hb;cases hb
 ·injection hb with hb
  subst hb;exact cQ h (show Blk w K I D from hg) J
theorem O4(w:Wd)(cs:Wa)(e s n base g:Nat)(hb:base<=w.heap.size)(hs:cs.size=n*s)(D:n<=maxLen)(hg:w.heap.size=g):(w.alloc (.cells cs e)).ownsRow base e s (.slice (some ⟨g,0,none⟩) n n) n cs.toList:=by
 subst hg;refine⟨by rw[jk,hs],.inr ⟨w.heap.size,n,cs,rfl,hb,heap_alloc_new w _,ja _,D,hs,?_⟩⟩;exact List.take_of_length_le (by rw[jk,hs];exact ja _)
theorem vU{w w':Wd}{base base' e D s s' n n':Nat}{v v':Value}{O K:Wv}(hg:w.grownBy w' v.ownBlock)(h:w.ownsRow base e s v n O)(I:w.ownsRow base' D s' v' n' K)(J:D≠e):w'.ownsRow base' D s' v' n' K:=
 aS I (λb hb=>hg.block b (I.lt b hb).2 (FS h I J b hb))
theorem IQ{w:Wd}{A:Option Addr}{cap:Nat}{l:List Bs}(h:Sn w 1 (.slice A l.length cap) l.length (fG l))(k:Nat)(J:k<l.length):∃ b off,A=some ⟨b,off,none⟩/\w.cell? ⟨b,off+k,none⟩=some (.string (bI l[k])):=by
 obtain⟨O,D,hv,_,_,K⟩:=h;injection hv with hA _ _
 subst hA;obtain⟨b,off,rfl,I⟩:=K (by omega);exact⟨b,off,rfl,I k _ (by simp[fG,J])⟩
theorem vV(n:Nm)(A:Option Addr)(cap:Nat)(w:Wd)(hn:NmOk n)(hs:Sn w 1 (.slice A n.parts.length cap) n.parts.length (fG n.parts)):
  Wc 172 #[.agg #[.string (bI n.realm),.slice A n.parts.length cap]] w (Rt w (.bool true)):=by
 have HN:=jz hn;have HS:=jz hs;have HL:=jz (gG hn.realm);have HW:Hid (∀ W,Wc 215 #[.string (bI n.realm)] W (Rt W (.bool true))):=jz (λW=>by
  have h:=nK n.realm W (by have:=HL.out;omega)
  rw[hn.realm] at h
  exact h)
 obtain⟨S,hS⟩:=je (bI n.realm);rw[<- hS] at HW ⊢;obtain⟨m,hm⟩:=je n.parts.length;have hf:=hn.few;rw[<- hm] at hf HS ⊢;have HM:=jz hm;clear hn hs hS hm;obtain⟨g,hg⟩:=je w.heap.size;obtain⟨w1,D⟩:=je (w.alloc (.cells #[.string S,.slice A m cap] 51));have K:Hid (Bw w w1):=jz (by rw[D];exact aV _ _);have I:Hid (Blk w1 g 51 #[.string S,.slice A m cap]):=jz (by rw[D,hg];exact Blk.new _ _ _);go_enter func172,ntmps172
 go_upto_region 1 with fail
 rw[<- D,<- hg];clear D hg;have c0:=I.cell 0;simp only[jf,jg] at c0;go_wp2_with fail
 refine(HW w1).mono ?_;rintro e w2 ⟨rfl,J⟩;have R:=jz (I.keep J);have O:=jz (aB K J);clear J c0;have c1:=R.cell 1;simp only[jf,jh,jg] at c1;have t1:¬(m:Int)<1:=by omega
 have t2:¬(8:Int)<m:=by omega
 go_wp2_with fail
 go_loopw [24] (λi wr=>∃ k:Nat,k<=m/\i = .int .i64 k/\Hid (Bw w wr)) (λi _=>m-(intOf i).toNat)
 case atStart=>exact⟨0,j0 _,rfl,O⟩
 case round=>
  clear O R K I c1 HW;obtain⟨k,hk,rfl,HB⟩:=hrel;rcases jo k m with a1|a3
  ·have Z:k<n.parts.length:=by rw[<- HM.out];exact a1
   obtain⟨b,off,rfl,hc⟩:=IQ (w:=wr) (A:=A) (cap:=cap) (by rw[<- HM.out];exact HS.below HB) k Z;have hw:=HN.parts _ (List.getElem_mem Z);have a2:=gG hw;have U:Hid (Wc 215 #[.string (bI n.parts[k])] wr (Rt wr (.bool true))):=jz (by
    have h:=nK n.parts[k] wr (by omega)
    rw[hw] at h
    exact h)
   obtain⟨T,hT⟩:=je (bI n.parts[k]);rw[<- hT] at hc U;have a4:(0:Int)<=k:=by omega
   have a5:(k:Int)<m:=by omega
   clear hT hw a2;go_wp2_with fail
   refine U.mono ?_;rintro e w3 ⟨rfl,V⟩;have a0:=jz (aB HB V);clear V;go_wp2_with fail
   exact⟨⟨k+1,by omega,by go_num,a0⟩,by simp[intOf];omega⟩
  ·obtain rfl:k=m:=by omega
   go_wp2_with fail
   go_ret;exact⟨rfl,HB⟩
theorem O5(b:List Nat)(v:Value)(w:Wd)(hs:Sn w 1 v b.length (n8 b))(hl:b.length<256):
  Wc 173 #[.int .i64 1,v] w λe w'=>∃ y,e = .returned (.tuple #[y,.bool true])/\w'.ownsRow w.heap.size 5 1 y (b.length+1) (n8 (b.length :: b))/\Bw w w':=by
 obtain⟨A,cap,rfl,_⟩:=id hs;have HS:=jz hs;obtain⟨n,hn⟩:=je b.length;have HN:=jz (jI 1 n w (by omega) (by omega) (by omega));have a7:=IP n (by omega);have a0:=jz hn;rw[<- hn] at HS hl ⊢;have Z:=jz hl;clear hs hl hn;have e1:((1:Nat):Int)=1:=rfl;rw[e1] at HN;clear e1;go_enter func173,ntmps173
 go_wp2_with fail
 refine HN.mono ?_;rintro e w1 ⟨v1,rfl,K,a2⟩;obtain⟨O,c1,rfl,_,_⟩:=bN K;have a1:=jz K;have R:=jz a2;clear K a2 HN a7;go_wp2_with fail
 obtain⟨w2,I⟩:=je (w1.alloc (.cells #[.slice O 1 c1,.slice A n cap] 60));have D:Bw w1 w2:=by rw[I];exact aV _ _
 have hP:Parts w2 (.slice (some ⟨w1.heap.size,0,none⟩) 2 2) [(.slice O 1 c1,beB 1 n),(.slice A n cap,aG b)]:=by
  refine⟨?_,λp hp=>?_⟩
  ·have h:=Sn.new w1 #[.slice O 1 c1,.slice A n cap] 60 1 2 rfl;rw[<- I] at h;exact h
  ·simp only[jl,j8,or_false] at hp;rcases hp with rfl|rfl
   ·have h:=(Sn.own a1).below D;simp only[bE];exact h
   ·have h:=HS.below (aB R D);simp only[aL,<- a0.out];rw[<- eI];exact h
 have J:Hid (d9 [(Value.slice O 1 c1,beB 1 n),(.slice A n cap,aG b)]=n+1):=jz (by
  unfold d9
  simp only[List.map_cons,List.map_nil,List.sum_cons,List.sum_nil,bE,aL,<- a0.out]
  omega)
 have V:Hid (u8s (cat [(Value.slice O 1 c1,beB 1 n),(.slice A n cap,aG b)])=n8 (n :: b)):=jz (by
  have h1:beB 1 n=[((n % 256:Nat):Int)]:=by unfold beB;simp[beB]
  have h2:n % 256=n:=Nat.mod_eq_of_lt Z.out
  show u8s (beB 1 n++(aG b++[]))=_
  rw[List.append_nil,fH,<- eI,h1,h2]
  rfl)
 have HJ:=jz (kV _ _ w2 hP (by simp) (by rw[J.out];have:=Z.out;omega));rw[J.out,V.out] at HJ;have U:=jz (aB R D);rw[<- I];clear I hP D J V a1;refine HJ.mono ?_;rintro e w3 ⟨y,rfl,a4,a3⟩;have a6:=jz (aT a4 U.size);have a5:=jz (aB U a3);clear a4 a3 HJ;go_wp2_with fail
 first|go_ret2|skip
 exact⟨y,rfl,a6,a5⟩
end
end Go.Proofs.YtjjlaipkkdncfaaGreatDoor
