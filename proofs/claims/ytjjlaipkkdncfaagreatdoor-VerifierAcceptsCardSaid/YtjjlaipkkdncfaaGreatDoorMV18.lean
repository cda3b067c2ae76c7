import Derived.Test.YtjjlaipkkdncfaaGreatDoorMV15
import Derived.StillTailTactics
set_option linter.unusedVariables false
set_option linter.unusedSimpArgs false
set_option maxRecDepth 100000
set_option maxHeartbeats 40000000
namespace Go.Proofs.YtjjlaipkkdncfaaGreatDoor
open Go.Proofs.Tryz
open Go.RowKit
attribute [local irreducible] wpQuiet wpAnyH
structure RBk7(w0 W:Wd)(g:Nat)(st b f:Nat->Nat):Prop where
 be:Bw w0 W
 lo:w0.heap.size<=g
 s:AB W g 231 8 (c32 st)
 b:AB W (g+1) 195 64 (c8 b)
 t:AB W (g+1+1) 276 64 (c32 lN)
 r:AB W (g+1+1+1) 231 8 (c32 λ_=>0)
 v:AB W (g+1+1+1+1) 276 64 (c32 f)
theorem RBk7.set{w0 W:Wd}{g:Nat}{st b f:Nat->Nat}(h:RBk7 w0 W g st b f)(i v:Nat):RBk7 w0 (W.setCell ⟨g+1+1+1+1,i,none⟩ (.int .u32 (v:Nat))) g st b (aY f i v):=
 ⟨h.be.setCell (by have:=h.lo;show w0.heap.size<=g+1+1+1+1;omega) _,h.lo,h.s.far (by show g≠g+1+1+1+1;omega) _,h.b.far (by show g+1≠g+1+1+1+1;omega) _,h.t.far (by show g+1+1≠g+1+1+1+1;omega) _,h.r.far (by show g+1+1+1≠g+1+1+1+1;omega) _,by have:=h.v.set i (.int .u32 (v:Nat));rwa [sY] at this⟩
theorem RBk7.drew{w0 W:Wd}{g:Nat}{st b f:Nat->Nat}(h:RBk7 w0 W g st b f):RBk7 w0 W.drew g st b f:=⟨h.be.drew,h.lo,h.s,h.b,h.t,h.r,h.v⟩
theorem RBk7.keep{w0 W W':Wd}{g:Nat}{st b f:Nat->Nat}(h:RBk7 w0 W g st b f)(hb:Bw W W'):RBk7 w0 W' g st b f:=⟨h.be.trans (hb.mono h.be.size),h.lo,h.s.keep hb,h.b.keep hb,h.t.keep hb,h.r.keep hb,h.v.keep hb⟩
theorem RBk7.fn{w0 W:Wd}{g:Nat}{st b f f':Nat->Nat}(h:RBk7 w0 W g st b f)(e:f=f'):RBk7 w0 W g st b f':=e ▸ h
def wjF(b:Nat->Nat)(k j:Nat):Nat->Nat:=aY (λq=>if q<k then pw b q 4 else 0) k (pw b k j)
theorem uT(b:Nat->Nat)(k:Nat):wjF b k 0=λq=>if q<k then pw b q 4 else 0:=by unfold wjF;exact BP (by rw[jQ (by omega)];rfl)
theorem NF(b:Nat->Nat)(k:Nat):wjF b k 4=λq=>if q<k+1 then pw b q 4 else 0:=by
 funext q
 show(if q=k then _ else (if q<k then pw b q 4 else 0))=(if q<k+1 then pw b q 4 else 0);by_cases e:q=k
 ·subst e;rw[jP rfl,jP (by omega)]
 ·rw[jQ e];by_cases e2:q<k
  ·rw[jP e2,jP (by omega)]
  ·rw[jQ e2,jQ (by omega)]
theorem NG(b:Nat->Nat)(k j:Nat):aY (wjF b k j) k (pw b k j*256+b (4*k+j))=wjF b k (j+1):=by unfold wjF;rw[GW];rfl
theorem UB(b:Nat->Nat)(k j:Nat):wjF b k j k=pw b k j:=by unfold wjF;rw[mO]
theorem uU(F:Nat->Nat)(k z:Nat):aY (λq=>if q<k then F q else z) k (F k)=λq=>if q<k+1 then F q else z:=by
 funext q
 show(if q=k then _ else (if q<k then F q else z))=(if q<k+1 then F q else z);by_cases e:q=k
 ·subst e;rw[jP rfl,jP (by omega)]
 ·rw[jQ e];by_cases e2:q<k
  ·rw[jP e2,jP (by omega)]
  ·rw[jQ e2,jQ (by omega)]
structure RVk7(w0 W:Wd)(g h:Nat)(st b v:Nat->Nat):Prop where
 B:RBk7 w0 W g st b (wk b)
 hi:g+1+1+1+1<h
 v:AB W h 231 8 (c32 v)
theorem RVk7.drew{w0 W:Wd}{g h:Nat}{st b v:Nat->Nat}(H:RVk7 w0 W g h st b v):RVk7 w0 W.drew g h st b v:=⟨H.B.drew,H.hi,H.v⟩
theorem RVk7.fn{w0 W:Wd}{g h:Nat}{st b v v':Nat->Nat}(H:RVk7 w0 W g h st b v)(e:v=v'):RVk7 w0 W g h st b v':=e ▸ H
theorem RVk7.set{w0 W:Wd}{g h:Nat}{st b v:Nat->Nat}(H:RVk7 w0 W g h st b v)(i x:Nat):RVk7 w0 (W.setCell ⟨h,i,none⟩ (.int .u32 (x:Nat))) g h st b (aY v i x):=
 ⟨⟨H.B.be.setCell (by have:=H.B.lo;have:=H.hi;show w0.heap.size<=h;omega) _,H.B.lo,H.B.s.far (by have:=H.hi;show g≠h;omega) _,H.B.b.far (by have:=H.hi;show g+1≠h;omega) _,H.B.t.far (by have:=H.hi;show g+1+1≠h;omega) _,H.B.r.far (by have:=H.hi;show g+1+1+1≠h;omega) _,H.B.v.far (by have:=H.hi;show g+1+1+1+1≠h;omega) _⟩,H.hi,by have:=H.v.set i (.int .u32 (x:Nat));rwa [sY] at this⟩
def shV(v:Nat->Nat)(j i:Nat):Nat:=if i<=j then v i else v (i-1)
theorem NH(v:Nat->Nat)(j:Nat):aY (shV v (j+1)) (j+1) (v j)=shV v j:=by
 funext i
 show(if i=j+1 then v j else shV v (j+1) i)=shV v j i;unfold shV;by_cases e:i=j+1
 ·subst e;rw[jP rfl,jQ (by omega)];rfl
 ·rw[jQ e];by_cases e2:i<=j
  ·rw[jP (by omega),jP e2]
  ·rw[jQ (by omega),jQ e2]
theorem UC(v:Nat->Nat)(j:Nat):shV v (j+1) j=v j:=jP (by omega)
theorem RH(v:Nat->Nat)(k x:Nat):aY (aY (shV v 0) 4 (m32 (v 3+rt1 v k x))) 0 (m32 (rt1 v k x+rt2 v))=rnd v k x:=by
 obtain⟨D,I,h1,J,K,O,R,U⟩:=BQ v k x
 funext i
 show(if i=0 then _ else if i=4 then _ else shV v 0 i)=_;unfold shV;by_cases e:i=0
 ·subst e;rw[jP rfl,D]
 ·rw[jQ e];by_cases e4:i=4
  ·subst e4;rw[jP rfl,I]
  ·rw[jQ e4,jQ (by omega),rnd,jQ e,jQ e4]
theorem RI(v:Nat->Nat):∀ i,i<8->shV v 7 i=v i:=λi h=>jP (by omega)
theorem E4(st b:Nat->Nat)(w:Wd)(hs:WsF st)(hb:aQ b):
  Wc 186 #[.agg (arr 8 (c32 st)).toArray,.agg (arr 64 (c8 b)).toArray,.agg (arr 64 (c32 lN)).toArray] w (Rt w (.agg (arr 8 (c32 (cZ st b))).toArray)):=by
 have r1:=jz hs;have a8:=jz hb;clear hs hb;go_enter func186,ntmps186
 go_upto_region 2 with (first|(refine al 231 _ rfl rfl iV ?_)|(refine al 276 _ rfl rfl k9 ?_))
 obtain⟨g,hg⟩:=je w.heap.size;obtain⟨w1,g2⟩:=je (((((w.alloc (.cells (arr 8 (c32 st)).toArray 231)).alloc (.cells (arr 64 (c8 b)).toArray 195)).alloc (.cells (arr 64 (c32 lN)).toArray 276)).alloc (.cells z32x8 231)).alloc (.cells z32x64 276));have b9:Hid (RBk7 w w1 g st b (wjF b 0 0)):=jz (by
  rw[g2,hg,uT]
  exact⟨(((((ji _ w).alloc (ja _) _).alloc (by simp) _).alloc (by simp;omega) _).alloc (by simp;omega) _).alloc (by simp;omega) _,ja _,((((Blk.new w _ _).alloc _).alloc _).alloc _).alloc _,(((Blk.newAt _ _ _ _ (by simp)).alloc _).alloc _).alloc _,((Blk.newAt _ _ _ _ (by simp)).alloc _).alloc _,(Blk.newAt _ _ _ _ (by simp)).alloc _,Blk.newAt _ _ _ _ (by simp)⟩)
 rw[<- g2];simp only[World.size_alloc,<- hg];clear g2 hg;go_wp2_with fail
 go_loopw [8] (λi wr=>∃ k:Nat,k<=16/\i = .int .i64 (k:Int)/\Hid (RBk7 w wr g st b (wjF b k 0))) (λi _=>16-(intOf i).toNat)
 case atStart=>exact⟨0,j0 _,rfl,b9⟩
 case round=>
  clear b9;obtain⟨k,hk,rfl,J⟩:=hrel;rcases jo k 16 with d3|d2
  ·have m8:(0:Int)<=k:=by omega
   have m9:(k:Int)<16:=by omega
   go_wp2_with fail
   go_loopw [9] (λi wr=>∃ j:Nat,j<=4/\i = .int .i64 (j:Int)/\Hid (RBk7 w wr g st b (wjF b k j))) (λi _=>4-(intOf i).toNat)
   case atStart=>exact⟨0,j0 _,rfl,J⟩
   case round=>
    clear J;obtain⟨j,hj,rfl,J⟩:=hrel;rcases jo j 4 with g1|n0
    ·have g0:(0:Int)<=j:=by omega
     have t0:(j:Int)<4:=by omega
     go_upto_region 8 with fail
     obtain⟨y,hy⟩:=je (pw b k j);obtain⟨c,hcc⟩:=je (b (4*k+j));have n4:y<256 ^ j:=by rw[hy];exact GV a8 k j
     have n6:y<16777216:=jp n4 (by have:=Nat.pow_le_pow_right (n:=256) (by omega) (show j<=3 by omega);exact this);have s4:c<256:=by rw[hcc];exact a8 _
     have a6:=J.v.cell (i:=k) (by omega);rw[show c32 (wjF b k j) k = .int .u32 (y:Nat) from by unfold c32;rw[UB,hy]] at a6;have d0:wr.drew.cell? ⟨g+1+1+1+1,k,none⟩=some (.int .u32 (y:Nat)):=a6;have d1:wr.drew.frozen? ⟨g+1+1+1+1,k,none⟩=false:=J.v.frozen k;obtain⟨z,hz⟩:=je (y*256);obtain⟨t,ht⟩:=je (y*256+c);have c3:Hid (RBk7 w (wr.drew.setCell ⟨g+1+1+1+1,k,none⟩ (.int .u32 (t:Nat))) g st b (wjF b k (j+1))):=jz ((J.drew.set k t).fn (by rw[ht,hy,hcc,NG]));have q1:IntKind.u32.wrap ((y:Int)*256)=(z:Int):=by rw[IntKind.wrap_u32',hz];omega
     have q2:IntKind.u32.wrap (c:Int)=(c:Int):=by rw[IntKind.wrap_u32'];omega
     have q3:IntKind.u32.wrap ((z:Int)+(c:Int))=(t:Int):=by rw[IntKind.wrap_u32',hz,ht];omega
     obtain⟨M,hM⟩:∃ M,M=4*k:=⟨_,rfl⟩;obtain⟨m,hm⟩:∃ m,m=4*k+j:=⟨_,rfl⟩;have q4:IntKind.i64.wrap (4*(k:Int))=(M:Int):=by rw[hM];simp[IntKind.wrap,IntKind.bits,IntKind.signed];omega
     have q5:IntKind.i64.wrap ((M:Int)+(j:Int))=(m:Int):=by rw[hM,hm];simp[IntKind.wrap,IntKind.bits,IntKind.signed];omega
     have w2:(m:Int)<64:=by omega
     have a7:(k:Int)<64:=by omega
     have m6:wr.cell? ⟨g+1,m,none⟩=some (.int .u8 (c:Nat)):=by rw[J.b.cell (i:=m) (by omega),hcc,<- hm];rfl
     clear hy hcc hz ht hM hm n4 n6 s4 J
     go_still_tail 13,(by kernel_rfl)
     change wpList _ _ _ _ _ wr.drew;obtain⟨wD,a1⟩:=je wr.drew;rw[<- a1] at c3 d0 d1 ⊢;clear a1 a6 m6 q1 q2 q3 q4 q5;go_wp2_with fail
     exact⟨⟨j+1,by omega,by go_num,c3⟩,by simp[intOf];omega⟩
    ·obtain rfl:j=4:=by omega
     have r3:Hid (RBk7 w wr g st b (wjF b (k+1) 0)):=jz (J.fn (by rw[NF,uT]));clear J;go_wp2_with fail
     exact⟨⟨k+1,by omega,by go_num,r3⟩,by simp[intOf];omega⟩
  ·have n3:¬(k:Int)<16:=by omega
   have k5:Hid (RBk7 w wr g st b (λq=>if q<16 then wk b q else 0)):=jz (J.fn (by
    have s1:k=16:=by omega
    subst s1
    rw[uT]
    funext q
    by_cases e:q<16
    ·rw[jP e,jP e,BM b e]
    ·rw[jQ e,jQ e]))
   clear J hk d2;go_wp2_with fail
   clear n3;go_loopw [10] (λi wr=>∃ k:Nat,16<=k/\k<=64/\i = .int .i64 (k:Int)/\Hid (RBk7 w wr g st b (λq=>if q<k then wk b q else 0))) (λi _=>64-(intOf i).toNat)
   case atStart=>exact⟨16,ja _,by omega,rfl,k5⟩
   case round=>
    clear k5;obtain⟨k,n1,hk,rfl,K⟩:=hrel;rcases jo k 64 with d3|d2
    ·have m8:(16:Int)<=k:=by omega
     have m9:(k:Int)<64:=by omega
     have hW:=BO b n1;have b3:=rR a8 (k-15);have l2:=rR a8 (k-2);have l7:=rR a8 (k-7);have t2:=rR a8 (k-16);have R:∀ W,(∃ f,RBk7 w W g st b f/\∀ q,q<k->f q=wk b q)->∀ q,q<k->W.cell? ⟨g+1+1+1+1,q,none⟩=some (.int .u32 (wk b q:Nat)):=λW hX q hq=>by
      obtain⟨f,h1,h2⟩:=hX;have:=h1.v.cell (i:=q) (by omega);rw[this];show some (Value.int .u32 (f q:Nat))=_;rw[h2 q hq]
     have f2:∃ f,RBk7 w wr g st b f/\∀ q,q<k->f q=wk b q:=⟨_,K,λq hq=>by show(if q<k then wk b q else 0)=_;rw[jP hq]⟩;obtain⟨e0,f7⟩:=je (k-15);obtain⟨k2,h2⟩:=je (k-2);obtain⟨a2,m2⟩:=je (k-16);obtain⟨k7,h7⟩:=je (k-7);rw[<- f7,<- h2,<- h7,<- m2] at hW;rw[<- f7] at b3;rw[<- h2] at l2;have t3:(k:Int)-15=(e0:Int):=by omega
     have n2:(k:Int)-2=(k2:Int):=by omega
     have t4:(k:Int)-16=(a2:Int):=by omega
     have n7:(k:Int)-7=(k7:Int):=by omega
     have t9:(e0:Int)<64:=by omega
     have b2:(k2:Int)<64:=by omega
     have v0:(a2:Int)<64:=by omega
     have b7:(k7:Int)<64:=by omega
     have t7:IntKind.i64.wrap (a2:Int)=(a2:Int):=by simp[IntKind.wrap,IntKind.bits,IntKind.signed];omega
     have w7:IntKind.i64.wrap (k7:Int)=(k7:Int):=by simp[IntKind.wrap,IntKind.bits,IntKind.signed];omega
     have f5:=R wr f2 e0 (by omega);have m5:=R wr f2 k2 (by omega);have HL:Hid (e0<k/\k2<k/\a2<k/\k7<k):=jz (by omega);clear f7 h2 h7 m2 l7 t2;obtain⟨x,hx⟩:=je (wk b e0);obtain⟨y,hy⟩:=je (wk b k2);rw[<- hx] at hW b3 f5;rw[<- hy] at hW l2 m5;have HG:=jz R;have r5:=jz (And.intro hx hy);have f6:=jz f2;clear f2 R hx hy;go_upto_region 14 with fail
     clear f5 m5;have d0:wr.drew.cell? ⟨g+1+1+1+1,k,none⟩=some (.int .u32 0):=(K.v.cell (i:=k) d3).trans (by
      show some (Value.int .u32 ((if k<k then wk b k else 0:Nat):Int))=_
      rw[jQ (Nat.lt_irrefl k)]
      rfl)
     have d1:wr.drew.frozen? ⟨g+1+1+1+1,k,none⟩=false:=K.v.frozen k;have m4:=HG.out wr f6 a2 HL.out.2.2.1;have s3:=HG.out wr f6 k7 HL.out.2.2.2;have r7:=bZ (n:=7) b3;have h6:=bZ (n:=18) b3;have h5:=bZ (n:=17) l2;have h8:=bZ (n:=19) l2;have e1:=u32_xor_nat _ _ r7 h6;have e2:=u32_xor_nat (cX x 7 ^^^ cX x 18) (x/8) (iF r7 h6) (by omega);have e3:=u32_xor_nat _ _ h5 h8;have e4:=u32_xor_nat (cX y 17 ^^^ cX y 19) (y/1024) (iF h5 h8) (by omega);rw[show(cX x 7 ^^^ cX x 18) ^^^ x/8=sg0 x from rfl] at e2;rw[show(cX y 17 ^^^ cX y 19) ^^^ y/1024=sg1 y from rfl] at e4;obtain⟨X8,m3⟩:=je (x/8);obtain⟨s0,f4⟩:=je (y/1024);rw[<- m3] at e2;rw[<- f4] at e4;have s8:(x:Int)/8=(X8:Int):=by omega
     have t5:(y:Int)/1024=(s0:Int):=by omega
     clear m3 f4;obtain⟨A1,a3⟩:=je (m32 (wk b a2+sg0 x));obtain⟨A2,a4⟩:=je (m32 (A1+wk b k7));have q1:=eZ (wk b a2) (sg0 x);have q2:=eZ A1 (wk b k7);have q3:=eZ A2 (sg1 y);rw[<- a3] at q1;rw[<- a4] at q2;rw[show m32 (A2+sg1 y)=wk b k from by rw[hW,a4,a3]] at q3;have c3:Hid (RBk7 w (wr.drew.setCell ⟨g+1+1+1+1,k,none⟩ (.int .u32 (wk b k:Nat))) g st b (λq=>if q<k+1 then wk b q else 0)):=jz ((K.drew.set k (wk b k)).fn (uU (wk b) k 0));have V:=jz (λW=>fC x 7 W b3 (by omega) (by omega));have Z:=jz (λW=>fC x 18 W b3 (by omega) (by omega));have a0:=jz (λW=>fC y 17 W l2 (by omega) (by omega));have k0:=jz (λW=>fC y 19 W l2 (by omega) (by omega));clear a3 a4 hW K;refine wp_region_still_tail 28 (by kernel_rfl) (by kernel_rfl) ?_;simp only[List.take_succ_cons,List.take_zero,List.drop_succ_cons,List.drop_zero]
     repeat still_step
     still_call (V _)
     repeat still_step
     still_call (Z _)
     repeat still_step
     still_call (a0 _)
     repeat still_step
     still_call (k0 _)
     repeat still_step
     refine wpStill_nil ?_;change wpList _ _ _ _ _ wr.drew;obtain⟨wD,a1⟩:=je wr.drew;rw[<- a1] at c3 d0 d1 ⊢;clear a1 m4 s3 e1 e2 e3 e4 q1 q2 q3 s8 t5 t3 n2 t4 n7 t7 w7 r7 h6 h5 h8 HG f6 r5 HL V Z a0 k0;go_wp2_with fail
     exact⟨⟨k+1,by omega,by omega,by go_num,c3⟩,by simp[intOf];omega⟩
    ·have f1:k=64:=by omega
     have f0:Hid (RBk7 w wr g st b (wk b)):=jz ⟨K.be,K.lo,K.s,K.b,K.t,K.r,K.v.ext (λq hq=>by
      show Value.int .u32 ((if q<k then wk b q else 0:Nat):Int) = .int .u32 (wk b q:Nat)
      rw[jP (by omega)])⟩
     have a7:¬(k:Int)<64:=by omega
     clear K hk d2 n1;have b1:=f0.s.range;have hI:(prog.info? 231).map (·.size)=some (arr 8 (c32 st)).length:=by rw[aA];kernel_rfl
     obtain⟨L,hL⟩:=je (arr 8 (c32 st));rw[<- hL] at b1 hI;have d4:(prog.info? 231).map (·.size)=some L.toArray.size:=by rw[js];exact hI
     have f3:z32x8.size=L.toArray.size:=by rw[hL,aC];exact aC 8 _
     have d5:L.toArray.all (·.oneCell')=true:=by rw[hL];exact aP (λ_=>rfl)
     have k1:=jz hL;clear hL;go_upto_region 16 with (first
      | (refine ld 231 _ rfl rfl rfl b1 underlying231 rfl hI ?_)
      | (refine al 231 _ rfl rfl iV ?_)
      | (refine bQ (cells:=L.toArray) 231 (.tmp 13) (.tmp 82) rfl rfl (by rfl) (by rfl) d4 f3 d5 ?_;intro w3 a5 c9 d5))
     obtain⟨h,hh⟩:=je wr.heap.size;rw[<- hh] at a5 ⊢;have b9:Hid (RVk7 w w3 g h st b (rg st b 0)):=jz ⟨f0.keep c9,by have:=f0.v.lt;rw[hh];exact this,by rw[show rg st b 0=st from by rw[rg]];rw[k1.out] at a5;exact a5⟩;clear a5 c9 d5 hh d4 f3 f0 k1 b1 hI a7 f1;go_wp2_with fail
     go_loopw [14] (λi wr=>∃ k:Nat,k<=64/\i = .int .i64 (k:Int)/\Hid (RVk7 w wr g h st b (rg st b k))) (λi _=>64-(intOf i).toNat)
     case atStart=>exact⟨0,j0 _,rfl,b9⟩
     case round=>
      clear b9;obtain⟨k,hk,rfl,J⟩:=hrel;obtain⟨v,hv⟩:=je (rg st b k);have HV:=jz hv;have k6:Hid (WsF v):=jz (by rw[hv];exact MF r1 k);rw[<- hv] at J;clear hv;rcases jo k 64 with d3|d2
      ·have m8:(0:Int)<=k:=by omega
       have m9:(k:Int)<64:=by omega
       go_upto_region 19 with fail
       have I:=k6.out;obtain⟨x,hx⟩:=je (wk b k);have HX:=jz hx;have r6:=bZ (n:=6) (I 4);have h0:=bZ (n:=11) (I 4);have p7:=bZ (n:=25) (I 4);have e1:=u32_xor_nat _ _ r6 h0;have e2:=u32_xor_nat _ _ (iF r6 h0) p7;rw[show(cX (v 4) 6 ^^^ cX (v 4) 11) ^^^ cX (v 4) 25=o7 (v 4) from rfl] at e2;have e3:=u32_and_nat _ _ (I 4) (I 5);have e4:bits .xor .u32 (if IntKind.u32.signed=true then -1 else IntKind.u32.max) ((v 4:Nat):Int)=((4294967295 ^^^ v 4:Nat):Int):=u32_xor_nat 4294967295 (v 4) (by omega) (I 4);have e5:=u32_and_nat (4294967295 ^^^ v 4) (v 6) (iF (by omega) (I 4)) (I 6);have e6:=u32_xor_nat (v 4 &&& v 5) ((4294967295 ^^^ v 4) &&& v 6) (jO (I 5)) (jO (I 6));rw[show(v 4 &&& v 5) ^^^ ((4294967295 ^^^ v 4) &&& v 6)=chF (v 4) (v 5) (v 6) from rfl] at e6;obtain⟨A1,a3⟩:=je (m32 (v 7+o7 (v 4)));obtain⟨A2,a4⟩:=je (m32 (A1+chF (v 4) (v 5) (v 6)));obtain⟨A3,f8⟩:=je (m32 (A2+lN k));have q1:=eZ (v 7) (o7 (v 4));have q2:=eZ A1 (chF (v 4) (v 5) (v 6));have q3:=eZ A2 (lN k);have q4:=eZ A3 x;rw[<- a3] at q1;rw[<- a4] at q2;rw[<- f8] at q3;have h4:m32 (A3+x)=rt1 v k x:=by rw[MD,f8,a4,a3]
       rw[h4] at q4;obtain⟨T,hT⟩:=je (rt1 v k x);rw[<- hT] at q4;have HT:=jz hT;clear a3 a4 f8 h4 hT hx;have cv:∀ W,RVk7 w W g h st b v->∀ i,i<8->W.cell? ⟨h,i,none⟩=some (.int .u32 (v i:Nat)):=λW hX i hi=>hX.v.cell (i:=i) hi
       have c7:=cv wr J 7 (by omega);have c4:=cv wr J 4 (by omega);have c5:=cv wr J 5 (by omega);have c6:=cv wr J 6 (by omega);have ct:wr.cell? ⟨g+1+1,k,none⟩=some (.int .u32 (lN k:Nat)):=J.out.B.t.cell (i:=k) d3;have cw:wr.cell? ⟨g+1+1+1+1,k,none⟩=some (.int .u32 (x:Nat)):=by rw[HX.out];exact J.out.B.v.cell (i:=k) d3
       have b0:Hid (RVk7 w wr.drew g h st b v):=jz J.drew;have V:=jz (λW=>fC (v 4) 6 W (I _) (by omega) (by omega));have Z:=jz (λW=>fC (v 4) 11 W (I _) (by omega) (by omega));have a0:=jz (λW=>fC (v 4) 25 W (I _) (by omega) (by omega));have m1:=jz I;clear J I;refine wp_region_still_lit (by kernel_rfl) (by kernel_rfl) ?_
       repeat still_step
       still_call (V _)
       repeat still_step
       still_call (Z _)
       repeat still_step
       still_call (a0 _)
       repeat still_step
       refine wpStill_nil ?_;obtain⟨wS,g3⟩:=je wr.drew;have d7:({ heap:=wr.heap,tape:=wr.tape,drawn:=wr.drawn+1,os:=wr.os,output:=wr.output }:Wd)=wS:=g3.symm;rw[<- g3] at b0;rw[d7];clear g3 d7 c7 c4 c5 c6 ct cw V Z a0;clear e1 e2 e3 e4 e5 e6 q1 q2 q3 q4 r6 h0 p7;have I:=m1.out;go_upto_region 20 with fail
       have r2:=bZ (n:=2) (I 0);have h3:=bZ (n:=13) (I 0);have p6:=bZ (n:=22) (I 0);have e1:=u32_xor_nat _ _ r2 h3;have e2:=u32_xor_nat _ _ (iF r2 h3) p6;rw[show(cX (v 0) 2 ^^^ cX (v 0) 13) ^^^ cX (v 0) 22=uD (v 0) from rfl] at e2;have e3:=u32_and_nat _ _ (I 0) (I 1);have e4:=u32_and_nat _ _ (I 0) (I 2);have e5:=u32_xor_nat (v 0 &&& v 1) (v 0 &&& v 2) (jO (I 1)) (jO (I 2));have e6:=u32_and_nat _ _ (I 1) (I 2);have e7:=u32_xor_nat ((v 0 &&& v 1) ^^^ (v 0 &&& v 2)) (v 1 &&& v 2) (iF (jO (I 1)) (jO (I 2))) (jO (I 2));rw[show((v 0 &&& v 1) ^^^ (v 0 &&& v 2)) ^^^ (v 1 &&& v 2)=EN (v 0) (v 1) (v 2) from rfl] at e7;obtain⟨U,hU⟩:=je (rt2 v);have q5:=eZ (uD (v 0)) (EN (v 0) (v 1) (v 2));rw[show m32 (uD (v 0)+EN (v 0) (v 1) (v 2))=U from by rw[hU,ME]] at q5;have HU:=jz hU;clear hU;have c0:=cv wS b0 0 (by omega);have c1:=cv wS b0 1 (by omega);have c2:=cv wS b0 2 (by omega);have O:Hid (RVk7 w wS.drew g h st b v):=jz b0.drew;have V:=jz (λW=>fC (v 0) 2 W (I _) (by omega) (by omega));have Z:=jz (λW=>fC (v 0) 13 W (I _) (by omega) (by omega));have a0:=jz (λW=>fC (v 0) 22 W (I _) (by omega) (by omega));clear b0 I;refine wp_region_still_lit (by kernel_rfl) (by kernel_rfl) ?_
       repeat still_step
       still_call (V _)
       repeat still_step
       still_call (Z _)
       repeat still_step
       still_call (a0 _)
       repeat still_step
       refine wpStill_nil ?_;obtain⟨wT,g8⟩:=je wS.drew;have d7:({ heap:=wS.heap,tape:=wS.tape,drawn:=wS.drawn+1,os:=wS.os,output:=wS.output }:Wd)=wT:=g8.symm;rw[<- g8] at O;rw[d7];clear g8 d7 c0 c1 c2 V Z a0 cv;clear e1 e2 e3 e4 e5 e6 e7 q5 r2 h3 p6;have k3:Hid (RVk7 w wT g h st b (shV v 7)):=jz ⟨O.out.B,O.hi,O.v.ext (λq hq=>by show Value.int .u32 (v q:Nat) = .int .u32 (shV v 7 q:Nat);rw[RI v q hq])⟩;clear O;go_wp2_with fail
       go_loopw [17] (λi wr=>∃ j:Nat,j<=7/\i = .int .i64 (j:Int)/\Hid (RVk7 w wr g h st b (shV v j))) (λi _=>(intOf i).toNat)
       case atStart=>exact⟨7,ja _,rfl,k3⟩
       case round=>
        clear k3;obtain⟨j,hj,rfl,HQ⟩:=hrel;rcases Nat.eq_zero_or_pos j with g0|v9
        ·have t1:¬(0:Int)<j:=by omega
         subst g0;have I:=k6.out;have f9:=HQ.v.cell (i:=4) (by omega);have v6:=HQ.v.frozen 4;rw[show c32 (shV v 0) 4 = .int .u32 (v 3:Nat) from rfl] at f9;obtain⟨D,hD⟩:=je (m32 (v 3+T));have q6:(((v 3:Nat):Int)+(T:Nat)) % 4294967296=(D:Int):=by rw[hD,oD];omega
         obtain⟨A,hA⟩:=je (m32 (T+U));have q7:((T:Int)+(U:Nat)) % 4294967296=(A:Int):=by rw[hA,oD];omega
         have a9:=jz (HQ.set 4 D);have v3:=a9.v.cell (i:=0) (by omega);have v5:=a9.v.frozen 0;have q8:Hid (RVk7 w ((wr.setCell ⟨h,4,none⟩ (.int .u32 (D:Nat))).setCell ⟨h,0,none⟩ (.int .u32 (A:Nat))) g h st b (rg st b (k+1))):=jz ((a9.set 0 A).fn (by
          rw[hD,hA,HU.out,HT.out,RH,sZ,<- HV.out,<- HX.out]))
         clear HQ a9 hD hA I;go_wp2_with fail
         exact⟨⟨k+1,by omega,by go_num,q8⟩,by simp[intOf];omega⟩
        ·obtain⟨q,rfl⟩:∃ q,j=q+1:=⟨j-1,by omega⟩;have t1:(0:Int)<((q+1:Nat):Int):=by omega
         have w4:(0:Int)<=(q:Int):=by omega
         have w5:(q:Int)<7:=by omega
         have f9:=HQ.v.cell (i:=q) (by omega);rw[show c32 (shV v (q+1)) q = .int .u32 (v q:Nat) from by unfold c32;rw[UC]] at f9;have v4:=HQ.v.cell (i:=q+1) (by omega);have v7:=HQ.v.frozen (q+1);have a9:=jz ((HQ.set (q+1) (v q)).fn (NH v q));clear HQ;go_wp2_with fail
         exact⟨⟨q,by omega,by go_num,a9⟩,by simp[intOf] <;> omega⟩
      ·have f1:k=64:=by omega
       have a7:¬(k:Int)<64:=by omega
       have k4:Hid (RVk7 w wr g h st b (λq=>if q<0 then cZ st b q else v q)):=jz (J.fn (by funext q;rw[jQ (by omega)]));have r4:Hid (v=rg st b 64):=jz (by rw[HV.out,f1]);clear J HV hk d2;go_wp2_with fail
       clear a7 f1;go_loopw [18] (λi wr=>∃ j:Nat,j<=8/\i = .int .i64 (j:Int)/\Hid (RVk7 w wr g h st b (λq=>if q<j then cZ st b q else v q))) (λi _=>8-(intOf i).toNat)
       case atStart=>exact⟨0,j0 _,rfl,k4⟩
       case round=>
        clear k4;obtain⟨j,hj,rfl,K⟩:=hrel;rcases jo j 8 with g1|n0
        ·have g0:(0:Int)<=j:=by omega
         have t0:(j:Int)<8:=by omega
         go_upto_region 30 with fail
         have a6:=K.v.cell (i:=j) g1;rw[show c32 (λq=>if q<j then cZ st b q else v q) j = .int .u32 (v j:Nat) from by
          show Value.int .u32 ((if j<j then cZ st b j else v j:Nat):Int)=_
          rw[jQ (Nat.lt_irrefl j)]] at a6
         have d0:wr.drew.cell? ⟨h,j,none⟩=some (.int .u32 (v j:Nat)):=a6;have d1:wr.drew.frozen? ⟨h,j,none⟩=false:=K.v.frozen j;have s5:wr.cell? ⟨g,j,none⟩=some (.int .u32 (st j:Nat)):=K.out.B.s.cell (i:=j) g1;have q1:=eZ (v j) (st j);rw[show m32 (v j+st j)=cZ st b j from by unfold cZ;rw[r4.out,Nat.add_comm]] at q1;have O:=jz ((K.drew.set j (cZ st b j)).fn (v':=λq=>if q<j+1 then cZ st b q else v q) (by
          funext q
          show(if q=j then cZ st b j else (if q<j then cZ st b q else v q))=_
          by_cases e:q=j
          ·subst e;rw[jP rfl,jP (by omega)]
          ·rw[jQ e]
           by_cases e2:q<j
           ·rw[jP e2,jP (by omega)]
           ·rw[jQ e2,jQ (by omega)]))
         obtain⟨X,hX⟩:=je (cZ st b j);rw[<- hX] at q1 O;clear hX K
         go_still_tail 8,(by kernel_rfl)
         change wpList _ _ _ _ _ wr.drew;obtain⟨wD,a1⟩:=je wr.drew;rw[<- a1] at O d0 d1 ⊢;clear a1 a6 s5 q1;go_wp2_with fail
         exact⟨⟨j+1,by omega,by go_num,O⟩,by simp[intOf];omega⟩
        ·have e8:j=8:=by omega
         have v8:¬(j:Int)<8:=by omega
         have r0:Hid (AB wr h 231 8 (c32 (cZ st b))):=jz (K.v.ext (λq hq=>by
          show Value.int .u32 ((if q<j then cZ st b q else v q:Nat):Int) = .int .u32 (cZ st b q:Nat)
          rw[jP (by omega)]))
         have p9:Blk wr (g+1+1+1) 231 z32x8:=K.out.B.r;have h9:=jz (And.intro K.out.B.be K.out.B.lo);have b1:=r0.range;have hI:(prog.info? 231).map (·.size)=some (arr 8 (c32 (cZ st b))).length:=by rw[aA];kernel_rfl
         obtain⟨M,hM⟩:=je (arr 8 (c32 (cZ st b)));rw[<- hM] at b1 hI;have d4:(prog.info? 231).map (·.size)=some M.toArray.size:=by rw[js];exact hI
         have f3:z32x8.size=M.toArray.size:=by rw[hM,aC];exact aC 8 _
         have d5:M.toArray.all (·.oneCell')=true:=by rw[hM];exact aP (λ_=>rfl)
         have HM:=jz hM;clear hM K;go_wp2_with (first
          | (refine ld 231 _ rfl rfl rfl b1 underlying231 rfl hI ?_)
          | (refine aN 231 (.tmp 6) (.tmp 183) rfl rfl rfl rfl p9 d4 f3 d5 ?_;intro w3 a5 c9 _ _;have p8:=jz a5;have q0:=jz c9;clear a5 c9))
         exact bodyPost_ret (results_cell_row rfl _ _ (g+1+1+1) 231 _ (0,0) _ rfl p8 underlying231 rfl d4) rfl ⟨by rw[<- HM.out],h9.out.1.trans (q0.mono (by have:=h9.out.2;omega))⟩
end Go.Proofs.YtjjlaipkkdncfaaGreatDoor
