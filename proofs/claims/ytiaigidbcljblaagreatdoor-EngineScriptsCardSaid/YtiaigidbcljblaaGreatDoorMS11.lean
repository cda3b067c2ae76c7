import Derived.Test.YtiaigidbcljblaaGreatDoorMS6
import Derived.Test.YtiaigidbcljblaaGreatDoorMS4
import Derived.Laws.OwnMore
import Derived.Laws.IdiomStrings
import Derived.Lib.AppendStr
set_option linter.unusedVariables false
set_option linter.unusedSimpArgs false
set_option maxRecDepth 100000
set_option maxHeartbeats 40000000
namespace Go.Proofs.YtiaigidbcljblaaGreatDoor
open Go.Proofs.Tryz
section
open Go.RowKit
attribute [local irreducible] wpQuiet wpAnyH
def shaT:List Nat:=[1116352408,1899447441,3049323471,3921009573,961987163,1508970993,2453635748,2870763221,3624381080,310598401,607225278,1426881987,1925078388,2162078206,2614888103,3248222580,3835390401,4022224774,264347078,604807628,770255983,1249150122,1555081692,1996064986,2554220882,2821834349,2952996808,3210313671,3336571891,3584528711,113926993,338241895,666307205,773529912,1294757372,1396182291,1695183700,1986661051,2177026350,2456956037,2730485921,2820302411,3259730800,3345764771,3516065817,3600352804,4094571909,275423344,430227734,506948616,659060556,883997877,958139571,1322822218,1537002063,1747873779,1955562222,2024104815,2227730452,2361852424,2428436474,2756734187,3204031479,3329325298]
def G1(i:Nat):Nat:=shaT.getD i 0
attribute [irreducible] shaT
def TabK(w:Wd):Prop:=∀ i,i<64->w.cell? ⟨1,i,none⟩=some (.int .u32 (G1 i:Nat))
theorem TabK.below{w w':Wd}(h:TabK w)(hb:Bw w w'):TabK w':=λi hi=>j9 hb (h i hi)
def zH(e:Nat):Nat:=(fP e 6 ^^^ fP e 11) ^^^ fP e 25
def KH(a:Nat):Nat:=(fP a 2 ^^^ fP a 13) ^^^ fP a 22
def chF(e f g:Nat):Nat:=(e &&& f) ^^^ ((4294967295 ^^^ e) &&& g)
def UB(a b c:Nat):Nat:=((a &&& b) ^^^ (a &&& c)) ^^^ (b &&& c)
theorem vR{a b:Nat}(hb:b<4294967296):a &&& b<4294967296:=Nat.and_lt_two_pow (n:=32) a hb
def rt1(v:Nat->Nat)(k x:Nat):Nat:=m32 (m32 (m32 (m32 (v 7+zH (v 4))+chF (v 4) (v 5) (v 6))+G1 k)+x)
def rt2(v:Nat->Nat):Nat:=m32 (KH (v 0)+UB (v 0) (v 1) (v 2))
def rnd(v:Nat->Nat)(k x i:Nat):Nat:=if i=0 then m32 (rt1 v k x+rt2 v) else if i=4 then m32 (v 3+rt1 v k x) else v (i-1)
theorem X1(v:Nat->Nat)(k x:Nat):rt1 v k x=m32 (m32 (m32 (m32 (v 7+zH (v 4))+chF (v 4) (v 5) (v 6))+G1 k)+x):=by unfold rt1;rfl
theorem X2(v:Nat->Nat):rt2 v=m32 (KH (v 0)+UB (v 0) (v 1) (v 2)):=by unfold rt2;rfl
def rg(st b:Nat->Nat):Nat->Nat->Nat
 | 0=>st
 | k+1=>rnd (rg st b k) k (wk b k)
def WsF(v:Nat->Nat):Prop:=∀ i,v i<4294967296
theorem X3{v:Nat->Nat}(h:WsF v)(k x:Nat):WsF (rnd v k x):=λi=>by
 unfold rnd;split
 ·exact BJ _
 ·split
  ·exact BJ _
  ·exact h _
theorem XD{st b:Nat->Nat}(h:WsF st):∀ k,WsF (rg st b k)
 | 0=>h
 | k+1=>X3 (XD h k) k _
def gM(st b:Nat->Nat)(i:Nat):Nat:=m32 (st i+rg st b 64 i)
theorem UC(st b:Nat->Nat):WsF (gM st b):=λi=>BJ _
theorem BP(st b:Nat->Nat)(k:Nat):rg st b (k+1)=rnd (rg st b k) k (wk b k):=by rw[rg]
theorem PR(v:Nat->Nat)(k x:Nat):rnd v k x 0=m32 (rt1 v k x+rt2 v)/\rnd v k x 4=m32 (v 3+rt1 v k x)/\rnd v k x 1=v 0/\rnd v k x 2=v 1/\rnd v k x 3=v 2/\rnd v k x 5=v 4/\rnd v k x 6=v 5/\rnd v k x 7=v 6:=by
 unfold rnd;exact⟨jP rfl,by rw[jQ (by omega),jP rfl],by rw[jQ (by omega),jQ (by omega)],by rw[jQ (by omega),jQ (by omega)],by rw[jQ (by omega),jQ (by omega)],by rw[jQ (by omega),jQ (by omega)],by rw[jQ (by omega),jQ (by omega)],by rw[jQ (by omega),jQ (by omega)]⟩
attribute [irreducible] rg rnd rt1 rt2
structure SBh(w0 W:Wd)(g:Nat)(b f:Nat->Nat):Prop where
 be:Bw w0 W
 lo:w0.heap.size<=g
 p:AB W g 253 8 (c32 f)
 q:AB W (g+1) 243 64 (c8 b)
 r:AB W (g+1+1) 253 8 (c32 λ_=>0)
theorem SBh.keep{w0 W W':Wd}{g:Nat}{b f:Nat->Nat}(h:SBh w0 W g b f)(hb:Bw W W'):SBh w0 W' g b f:=⟨h.be.trans (hb.mono h.be.size),h.lo,h.p.keep hb,h.q.keep hb,h.r.keep hb⟩
theorem SBh.drew{w0 W:Wd}{g:Nat}{b f:Nat->Nat}(h:SBh w0 W g b f):SBh w0 W.drew g b f:=⟨h.be.drew,h.lo,h.p,h.q,h.r⟩
theorem SBh.fn{w0 W:Wd}{g:Nat}{b f f':Nat->Nat}(h:SBh w0 W g b f)(e:f=f'):SBh w0 W g b f':=e ▸ h
theorem SBh.set{w0 W:Wd}{g:Nat}{b f:Nat->Nat}(h:SBh w0 W g b f)(i v:Nat):SBh w0 (W.setCell ⟨g,i,none⟩ (.int .u32 (v:Nat))) g b (cO f i v):=
 ⟨h.be.setCell (by exact h.lo) _,h.lo,by have:=h.p.set i (.int .u32 (v:Nat));rwa [KC] at this,h.q.far (by show g+1≠g;omega) _,h.r.far (by show g+1+1≠g;omega) _⟩
def z32x8:Wa:=(arr 8 (c32 λ_=>0)).toArray
theorem vS:∀ w,(zeroValue 253).run prog w = .ok (.agg z32x8) w:=λw=>by unfold z32x8;kernel_rfl
theorem MD(st b:Nat->Nat)(w:Wd)(hs:WsF st)(hb:bG b)(hk:TabK w):
  Wc 173 #[.agg (arr 8 (c32 st)).toArray,.agg (arr 64 (c8 b)).toArray] w (Rt w (.agg (arr 8 (c32 (gM st b))).toArray)):=by
 have h6:=jz hs;have f7:=jz hb;have h8:=jz hk;clear hs hb hk;go_enter func173,ntmps173
 go_upto_region 1 with (refine al 253 _ rfl rfl vS ?_)
 obtain⟨g,hg⟩:=je w.heap.size;obtain⟨w1,c7⟩:=je (((w.alloc (.cells (arr 8 (c32 st)).toArray 253)).alloc (.cells (arr 64 (c8 b)).toArray 243)).alloc (.cells z32x8 253));have b7:Hid (SBh w w1 g b st):=jz (by
  rw[c7,hg]
  exact⟨(((ji _ w).alloc (ja _) _).alloc (by simp) _).alloc (by simp;omega) _,ja _,((Blk.new w _ _).alloc _).alloc _,(Blk.newAt _ _ _ _ (by simp)).alloc _,Blk.newAt _ _ _ _ (by simp)⟩)
 rw[<- c7];simp only[World.size_alloc,<- hg];clear c7 hg;have f2:=b7.q.range;have hI:(prog.info? 243).map (·.size)=some (arr 64 (c8 b)).length:=by rw[aB];kernel_rfl
 go_wp2_with (refine ld 243 _ rfl rfl rfl f2 underlying243 rfl hI ?_)
 refine(BK b _ f7).mono ?_;rintro e w2 ⟨rfl,f1⟩;have b0:=jz (b7.keep f1);clear f1 f2 hI b7;obtain⟨L,hL⟩:=je (arr 64 (c32 (wk b)));have a5:(prog.info? 255).map (·.size)=some L.toArray.size:=by rw[hL,aL];kernel_rfl
 have a9:z32x64.size=L.toArray.size:=by rw[hL,aL];exact aL 64 _
 have a6:L.toArray.all (·.oneCell')=true:=by rw[hL];exact bY (λ_=>rfl)
 rw[<- hL];have HL:=jz hL;clear hL;go_upto_region 2 with (first
  | (refine al 255 _ rfl rfl zD ?_)
  | (refine bZ (cells:=L.toArray) 255 (.tmp 5) (.tmp 21) rfl rfl (by rfl) (by rfl) a5 a9 a6 ?_;intro w3 a2 a4 a6))
 obtain⟨h,hh⟩:=je w2.heap.size;rw[<- hh] at a2 ⊢;have a0:=jz (b0.keep a4);have a1:Hid (Blk w3 h 255 L.toArray):=jz a2;clear a2 a4 a6 hh a5 a9 b0;obtain⟨wS,J⟩:=je w3.drew;have K:Hid (SBh w wS g b st):=jz (by rw[J];exact a0.drew);have Z:Hid (Blk wS h 255 L.toArray):=jz (by rw[J];exact a1);clear a0 a1;refine kZ (n:=12) (λW=>SBh w W g b st/\Blk W h 255 L.toArray) (by rw[<- J];exact⟨K,Z⟩) (h:=λhH=>?_);simp only[p0];dsimp only [List.replicate];rw[<- J] at hH ⊢;clear J;refine qT 0 (.pointer (some ⟨g,0,none⟩)) ?_;refine qC 1 (v:=.int .u32 (st 0:Nat)) (λW V=>V.1.p.cell (i:=0) (by omega)) ?_;refine qT 2 (.pointer (some ⟨g,1,none⟩)) ?_;refine qC 3 (v:=.int .u32 (st 1:Nat)) (λW V=>V.1.p.cell (i:=1) (by omega)) ?_;refine qT 4 (.pointer (some ⟨g,2,none⟩)) ?_;refine qC 5 (v:=.int .u32 (st 2:Nat)) (λW V=>V.1.p.cell (i:=2) (by omega)) ?_;refine qT 6 (.pointer (some ⟨g,3,none⟩)) ?_;refine qC 7 (v:=.int .u32 (st 3:Nat)) (λW V=>V.1.p.cell (i:=3) (by omega)) ?_;refine qT 8 (.int .u32 (st 0:Nat)) ?_;refine qT 9 (.int .u32 (st 1:Nat)) ?_;refine qT 10 (.int .u32 (st 2:Nat)) ?_;refine qT 11 (.int .u32 (st 3:Nat)) ?_;refine kE (h:=?_);go_upto_region 3 with fail
 obtain⟨w3,f3⟩:=je wS;rw[<- f3] at K Z ⊢;have a0:=K;have a1:=Z;clear f3 wS K Z hH;obtain⟨wS,J⟩:=je w3.drew;have K:Hid (SBh w wS g b st):=jz (by rw[J];exact a0.drew);have Z:Hid (Blk wS h 255 L.toArray):=jz (by rw[J];exact a1);clear a0 a1;refine kZ (n:=12) (λW=>SBh w W g b st/\Blk W h 255 L.toArray) (by rw[<- J];exact⟨K,Z⟩) (h:=λhH=>?_);simp only[p0];dsimp only [List.replicate];rw[<- J] at hH ⊢;clear J;refine qT 0 (.pointer (some ⟨g,4,none⟩)) ?_;refine qC 1 (v:=.int .u32 (st 4:Nat)) (λW V=>V.1.p.cell (i:=4) (by omega)) ?_;refine qT 2 (.pointer (some ⟨g,5,none⟩)) ?_;refine qC 3 (v:=.int .u32 (st 5:Nat)) (λW V=>V.1.p.cell (i:=5) (by omega)) ?_;refine qT 4 (.pointer (some ⟨g,6,none⟩)) ?_;refine qC 5 (v:=.int .u32 (st 6:Nat)) (λW V=>V.1.p.cell (i:=6) (by omega)) ?_;refine qT 6 (.pointer (some ⟨g,7,none⟩)) ?_;refine qC 7 (v:=.int .u32 (st 7:Nat)) (λW V=>V.1.p.cell (i:=7) (by omega)) ?_;refine qT 8 (.int .u32 (st 4:Nat)) ?_;refine qT 9 (.int .u32 (st 5:Nat)) ?_;refine qT 10 (.int .u32 (st 6:Nat)) ?_;refine qT 11 (.int .u32 (st 7:Nat)) ?_;refine kE (h:=?_);have a3:=Z.range;rw[jt] at a3;have hI:(prog.info? 255).map (·.size)=some L.length:=by rw[HL.out,aB];kernel_rfl
 go_wp2_with (refine ld 255 _ rfl rfl rfl a3 underlying255 rfl hI ?_)
 clear a3 hI hH;have b1:Hid (SBh w wS g b st/\∀ i,rg st b 0 i=st i):=jz ⟨K,λi=>by rw[rg]⟩;clear K Z;go_loopw [39,6,7,8,9,10,11,12,13] (λi v0 v1 v2 v3 v4 v5 v6 v7 wr=>∃ k:Nat,k<=64/\i = .int .i64 (k:Int)/\v0 = .int .u32 (rg st b k 0:Nat)/\v1 = .int .u32 (rg st b k 1:Nat)/\v2 = .int .u32 (rg st b k 2:Nat)/\v3 = .int .u32 (rg st b k 3:Nat)/\v4 = .int .u32 (rg st b k 4:Nat)/\v5 = .int .u32 (rg st b k 5:Nat)/\v6 = .int .u32 (rg st b k 6:Nat)/\v7 = .int .u32 (rg st b k 7:Nat)/\Hid (SBh w wr g b st)) (λi _ _ _ _ _ _ _ _ _=>64-(intOf i).toNat)
 case atStart=>
  have e:=b1.out.2;exact⟨0,j0 _,rfl,by rw[e],by rw[e],by rw[e],by rw[e],by rw[e],by rw[e],by rw[e],by rw[e],jz b1.out.1⟩
 case round=>
  clear b1;obtain⟨k,hk,rfl,rfl,rfl,rfl,rfl,rfl,rfl,rfl,rfl,HR⟩:=hrel;obtain⟨v,hv⟩:=je (rg st b k);have HV:=jz hv;have h9:Hid (WsF v):=jz (by rw[hv];exact XD h6 k);rw[<- hv];clear hv;rcases jo k 64 with c6|k3
  ·have k4:(0:Int)<=k:=by omega
   have m1:(k:Int)<64:=by omega
   have e0:L.toArray[k]? = some (.int .u32 (wk b k:Nat)):=by rw[jf,HL.out,fJ _ c6];rfl
   have d7:∀ W,(Instr.index 255 (.agg L.toArray) (.int .i64 (k:Int))).run prog W = .ok (.int .u32 (wk b k:Nat)) W:=fD _ k underlying255 c6 (λw=>by kernel_rfl) (λw=>by kernel_rfl) e0;go_upto_region 7 with fail
   clear d7 e0;have R:=h9.out;obtain⟨x,hx⟩:=je (wk b k);rw[<- hx];have HX:=jz hx;have r6:=eH (n:=6) (R 4);have c9:=eH (n:=11) (R 4);have f6:=eH (n:=25) (R 4);have e1:=u32_xor_nat _ _ r6 c9;have e2:=u32_xor_nat _ _ (pI r6 c9) f6;rw[show(fP (v 4) 6 ^^^ fP (v 4) 11) ^^^ fP (v 4) 25=zH (v 4) from rfl] at e2;have e3:=u32_and_nat _ _ (R 4) (R 5);have e4:bits .xor .u32 (if IntKind.u32.signed=true then -1 else IntKind.u32.max) ((v 4:Nat):Int)=((4294967295 ^^^ v 4:Nat):Int):=u32_xor_nat 4294967295 (v 4) (by omega) (R 4);have e5:=u32_and_nat (4294967295 ^^^ v 4) (v 6) (pI (by omega) (R 4)) (R 6);have e6:=u32_xor_nat (v 4 &&& v 5) ((4294967295 ^^^ v 4) &&& v 6) (vR (R 5)) (vR (R 6));rw[show(v 4 &&& v 5) ^^^ ((4294967295 ^^^ v 4) &&& v 6)=chF (v 4) (v 5) (v 6) from rfl] at e6;obtain⟨A1,c2⟩:=je (m32 (v 7+zH (v 4)));obtain⟨A2,c3⟩:=je (m32 (A1+chF (v 4) (v 5) (v 6)));obtain⟨A3,c4⟩:=je (m32 (A2+G1 k));have q1:=pS (v 7) (zH (v 4));have q2:=pS A1 (chF (v 4) (v 5) (v 6));have q3:=pS A2 (G1 k);have q4:=pS A3 x;rw[<- c2] at q1;rw[<- c3] at q2;rw[<- c4] at q3;have h4:m32 (A3+x)=rt1 v k x:=by rw[X1,c4,c3,c2]
   rw[h4] at q4;obtain⟨T,hT⟩:=je (rt1 v k x);rw[<- hT] at q4;have HT:=jz hT;clear c2 c3 c4 h4 hT hx;obtain⟨wS,J⟩:=je wr.drew;have K:Hid (SBh w wS g b st):=jz (by rw[J];exact HR.drew);have a8:Hid (TabK wS):=jz (h8.below K.be);clear HR;refine kZ (n:=26) (λW=>SBh w W g b st/\TabK W) (by rw[<- J];exact⟨K,a8⟩) (h:=λhH=>?_);simp only[p0];dsimp only [List.replicate];rw[<- J] at hH ⊢;clear J;refine qM 0 (.int .u32 (v 7:Nat)) ?_;refine qM 1 (.int .u32 (v 4:Nat)) ?_;refine qM 3 (.int .u32 (v 4:Nat)) ?_;refine qM 6 (.int .u32 (v 4:Nat)) ?_;refine qM 10 (.int .u32 (v 4:Nat)) ?_;refine qM 11 (.int .u32 (v 5:Nat)) ?_;refine qM 13 (.int .u32 (v 4:Nat)) ?_;refine qM 15 (.int .u32 (v 6:Nat)) ?_;refine qM 19 (.int .i64 k) ?_;refine qM 23 (.int .u32 (x:Nat)) ?_;refine qT 12 (.int .u32 (v 4 &&& v 5:Nat)) ?_;refine qT 14 (.int .u32 (4294967295 ^^^ v 4:Nat)) ?_;refine qT 16 (.int .u32 ((4294967295 ^^^ v 4) &&& v 6:Nat)) ?_;refine qT 17 (.int .u32 (chF (v 4) (v 5) (v 6):Nat)) ?_;refine qT 20 (.pointer (some ⟨1,k,none⟩)) ?_;refine qC 21 (v:=.int .u32 (G1 k:Nat)) (λW V=>V.2 k c6) ?_;refine kF 2 (some 45) ((iK (v 4) 6 wS (R _) (by omega) (by omega)).mono ?_);rintro e w2 ⟨rfl,I⟩;rw[I];clear I w2;refine⟨_,rfl,⟨K,a8⟩,λhH=>?_⟩;simp only[pe,p5,p2];dsimp only [List.set];refine kF 4 (some 47) ((iK (v 4) 11 wS (R _) (by omega) (by omega)).mono ?_);rintro e w2 ⟨rfl,I⟩;rw[I];clear I w2;refine⟨_,rfl,⟨K,a8⟩,λhH=>?_⟩;simp only[pe,p5,p2];dsimp only [List.set];refine qT 5 (.int .u32 (fP (v 4) 6 ^^^ fP (v 4) 11:Nat)) ?_;refine kF 7 (some 50) ((iK (v 4) 25 wS (R _) (by omega) (by omega)).mono ?_);rintro e w2 ⟨rfl,I⟩;rw[I];clear I w2;refine⟨_,rfl,⟨K,a8⟩,λhH=>?_⟩;simp only[pe,p5,p2];dsimp only [List.set];refine qT 8 (.int .u32 (zH (v 4):Nat)) ?_;refine qT 9 (.int .u32 (A1:Nat)) ?_;refine qT 18 (.int .u32 (A2:Nat)) ?_;refine qT 22 (.int .u32 (A3:Nat)) ?_;refine qT 24 (.int .u32 (T:Nat)) ?_;refine qT 25 (.int .u32 (T:Nat)) ?_;refine kE (h:=?_);clear e1 e2 e3 e4 e5 e6 q1 q2 q3 q4 r6 c9 f6 hH;have r2:=eH (n:=2) (R 0);have d0:=eH (n:=13) (R 0);have f5:=eH (n:=22) (R 0);have e1:=u32_xor_nat _ _ r2 d0;have e2:=u32_xor_nat _ _ (pI r2 d0) f5;rw[show(fP (v 0) 2 ^^^ fP (v 0) 13) ^^^ fP (v 0) 22=KH (v 0) from rfl] at e2;have e3:=u32_and_nat _ _ (R 0) (R 1);have e4:=u32_and_nat _ _ (R 0) (R 2);have e5:=u32_xor_nat (v 0 &&& v 1) (v 0 &&& v 2) (vR (R 1)) (vR (R 2));have e6:=u32_and_nat _ _ (R 1) (R 2);have e7:=u32_xor_nat ((v 0 &&& v 1) ^^^ (v 0 &&& v 2)) (v 1 &&& v 2) (pI (vR (R 1)) (vR (R 2))) (vR (R 2));rw[show((v 0 &&& v 1) ^^^ (v 0 &&& v 2)) ^^^ (v 1 &&& v 2)=UB (v 0) (v 1) (v 2) from rfl] at e7;obtain⟨U,hU⟩:=je (rt2 v);have q5:(((KH (v 0):Nat):Int)+(UB (v 0) (v 1) (v 2):Nat)) % 4294967296=(U:Int):=by rw[hU,X2,vN];omega
   obtain⟨D,hD⟩:=je (m32 (v 3+T));have q6:(((v 3:Nat):Int)+(T:Nat)) % 4294967296=(D:Int):=by rw[hD,vN];omega
   obtain⟨A,hA⟩:=je (m32 (T+U));have q7:((T:Int)+(U:Nat)) % 4294967296=(A:Int):=by rw[hA,vN];omega
   have h5:Hid (rg st b (k+1) 0=A/\rg st b (k+1) 4=D/\rg st b (k+1) 1=v 0/\rg st b (k+1) 2=v 1/\rg st b (k+1) 3=v 2/\rg st b (k+1) 5=v 4/\rg st b (k+1) 6=v 5/\rg st b (k+1) 7=v 6):=jz (by
    rw[BP,<- HV.out,<- HX.out,hA,hD,hU,HT.out]
    exact PR v k x)
   have f9:=jz (λW=>iK (v 0) 2 W (R 0) (by omega) (by omega));have g8:=jz (λW=>iK (v 0) 13 W (R 0) (by omega) (by omega));have h0:=jz (λW=>iK (v 0) 22 W (R 0) (by omega) (by omega));clear hU hD hA r2 d0 f5 R;go_wp2_with fail
   refine(f9 _).mono ?_;rintro e w2 ⟨rfl,I⟩;rw[I];clear I w2;go_wp2_with fail
   refine(g8 _).mono ?_;rintro e w2 ⟨rfl,I⟩;rw[I];clear I w2;go_wp2_with fail
   refine(h0 _).mono ?_;rintro e w2 ⟨rfl,I⟩;rw[I];clear I w2;go_wp2_with fail
   obtain⟨g0,g4,g1,g2,g3,g5,g6,g7⟩:=h5.out;refine⟨⟨k+1,by omega,by go_num,by rw[g0,<- q7],by rw[g1],by rw[g2],by rw[g3],by rw[g4,<- q6],by rw[g5],by rw[g6],by rw[g7],K⟩,by simp[intOf];omega⟩
  ·have k0:k=64:=by omega
   have k2:¬(k:Int)<64:=by omega
   have d2:=HR;clear HR;go_wp2_with fail
   obtain⟨O,hO⟩:∃ O:Wa,O=#[.int .u32 (v 0:Nat),.int .u32 (v 1:Nat),.int .u32 (v 2:Nat),.int .u32 (v 3:Nat),.int .u32 (v 4:Nat),.int .u32 (v 5:Nat),.int .u32 (v 6:Nat),.int .u32 (v 7:Nat)]:=⟨_,rfl⟩;rw[<- hO];have HO:Hid (∀ j,j<8->O[j]? = some (.int .u32 (v j:Nat))):=jz (λj hj=>by
    rw[hO]
    have:j=0\/j=1\/j=2\/j=3\/j=4\/j=5\/j=6\/j=7:=by omega
    rcases this with rfl|rfl|rfl|rfl|rfl|rfl|rfl|rfl <;> rfl)
   clear hO;have d5:Hid (SBh w wr g b (λq=>if q<0 then gM st b q else st q)):=jz (d2.fn (by funext q;rw[jQ (by omega)]));clear d2;go_loopw [110] (λi wr=>∃ j:Nat,j<=8/\i = .int .i64 (j:Int)/\Hid (SBh w wr g b (λq=>if q<j then gM st b q else st q))) (λi _=>8-(intOf i).toNat)
   case atStart=>exact⟨0,j0 _,rfl,d5⟩
   case round=>
    clear d5;obtain⟨j,hj,rfl,HS⟩:=hrel;rcases jo j 8 with c5|k1
    ·have m2:(0:Int)<=j:=by omega
     have m3:(j:Int)<8:=by omega
     have f0:O[j]? = some (.int .u32 (v j:Nat)):=HO.out j c5;have d7:∀ W,(Instr.index 253 (.agg O) (.int .i64 (j:Int))).run prog W = .ok (.int .u32 (v j:Nat)) W:=fD _ j underlying253 c5 (λw=>by kernel_rfl) (λw=>by kernel_rfl) f0;have hc:=HS.p.cell (i:=j) c5;have hf:=HS.p.frozen j;have hz:c32 (λq=>if q<j then gM st b q else st q) j = .int .u32 (st j:Nat):=by
      show Value.int .u32 ((if j<j then gM st b j else st j:Nat):Int)=_;rw[jQ (Nat.lt_irrefl j)]
     rw[hz] at hc;have hb:gM st b j=m32 (st j+v j):=by unfold gM;rw[HV.out,k0]
     obtain⟨X,V⟩:=je (gM st b j);have a7:=jz (HS.set j (gM st b j));rw[<- V] at hb a7;have q1:(((st j:Nat):Int)+(v j:Nat)) % 4294967296=(X:Int):=by rw[hb,vN];omega
     rw[<- q1] at a7;have h7:=jz (a7.fn (f':=λq=>if q<j+1 then gM st b q else st q) (by
      funext q
      show(if q=j then X else (if q<j then gM st b q else st q))=_
      by_cases e:q=j
      ·subst e;rw[jP rfl,jP (by omega),V]
      ·rw[jQ e]
       by_cases e2:q<j
       ·rw[jP e2,jP (by omega)]
       ·rw[jQ e2,jQ (by omega)]))
     clear f0 hz hb V HS a7 q1;go_wp2_with fail
     exact⟨⟨j+1,by omega,by go_num,h7⟩,by simp[intOf];omega⟩
    ·have e8:j=8:=by omega
     have m4:¬(j:Int)<8:=by omega
     have h3:Hid (AB wr g 253 8 (c32 (gM st b))):=jz (HS.p.ext (λq hq=>by
      show Value.int .u32 ((if q<j then gM st b q else st q:Nat):Int) = .int .u32 (gM st b q:Nat)
      rw[jP (by omega)]))
     have f8:Blk wr (g+1+1) 253 z32x8:=HS.r;have d1:=jz (And.intro HS.be HS.lo);have a3:=h3.range;have hI:(prog.info? 253).map (·.size)=some (arr 8 (c32 (gM st b))).length:=by rw[aB];kernel_rfl
     obtain⟨M,hM⟩:=je (arr 8 (c32 (gM st b)));rw[<- hM] at a3 hI;have a5:(prog.info? 253).map (·.size)=some M.toArray.size:=by rw[js];exact hI
     have a9:z32x8.size=M.toArray.size:=by rw[hM,aL];exact aL 8 _
     have a6:M.toArray.all (·.oneCell')=true:=by rw[hM];exact bY (λ_=>rfl)
     have HM:=jz hM;clear hM HS;go_wp2_with (first
      | (refine ld 253 _ rfl rfl rfl a3 underlying253 rfl hI ?_)
      | (refine aP 253 (.tmp 4) (.tmp 121) rfl rfl rfl rfl f8 a5 a9 a6 ?_;intro w3 a2 a4 _ _;have a1:=jz a2;have h2:=jz a4;clear a2 a4))
     exact bodyPost_ret (results_cell_row rfl _ _ (g+1+1) 253 _ (0,0) _ rfl a1 underlying253 rfl a5) rfl ⟨by rw[<- HM.out],d1.out.1.trans (h2.mono (by have:=d1.out.2;omega))⟩
def UD(n:Nat):Nat:=(119-n % 64) % 64
def mK(n:Nat):Nat:=1+UD n+8
def mL(n m k:Nat):Nat:=if k=0 then 128 else if mK n-m<=k then 8*n/256 ^ (mK n-1-k) % 256 else 0
def ME(n:Nat):Nat->Nat:=mL n 8
theorem UE(n m k:Nat):mL n m k<256:=by
 unfold mL;split
 ·omega
 ·split
  ·exact Nat.mod_lt _ (by omega)
  ·omega
theorem MF(n m:Nat)(h:m<8):cO (mL n m) (mK n-1-m) (8*n/256 ^ m % 256)=mL n (m+1):=by
 funext k
 have j:9<=mK n:=by unfold mK;omega
 unfold cO mL;by_cases e:k=mK n-1-m
 ·rw[jP e,jQ (by omega),jP (by omega)];rw[show mK n-1-k=m from by omega]
 ·rw[jQ e];by_cases e0:k=0
  ·rw[jP e0,jP e0]
  ·rw[jQ e0,jQ e0];by_cases e1:mK n-m<=k
   ·rw[jP e1,jP (by omega)]
   ·rw[jQ e1,jQ (by omega)]
theorem PT(n m:Nat)(x:m<=8)(D:8*n/256 ^ m=0):mL n m=ME n:=by
 funext k
 unfold ME mL;by_cases e0:k=0
 ·rw[jP e0,jP e0]
 ·rw[jQ e0,jQ e0];by_cases e1:mK n-m<=k
  ·rw[jP e1,jP (by omega)]
  ·rw[jQ e1];split
   ·have h1:256 ^ m<=256 ^ (mK n-1-k):=Nat.pow_le_pow_right (by omega) (by omega);have j:8*n<256 ^ m:=by
     rcases jo (8*n) (256 ^ m) with h|h
     ·exact h
     ·have:=Nat.div_pos h (Nat.pow_pos (n:=m) (by omega:0<256));omega
    rw[Nat.div_eq_of_lt (by omega)]
   ·rfl
theorem D2(n:Nat)(w:Wd)(hn:n<=1000000000):
  Wc 174 #[.int .i64 n] w λe w'=>∃ v,e = .returned v/\w'.ownsRow w.heap.size 5 1 v (mK n) (arr (mK n) (c8 (ME n)))/\Bw w w':=by
 have c7:(0:Int)<=n:=by omega
 have c9:(n:Int)<=1000000000:=by omega
 obtain⟨i,hi,hz,b7,b0⟩:=info_parts (P:=prog) (e:=5) (z:=.int .u8 0) (size:=1) (bytes:=1) (by kernel_rfl);obtain⟨N,hN⟩:=je (mK n);have HN:=jz hN;have c3:9<=N/\N<=72:=by rw[hN];unfold mK UD;omega
 have a5:Hid (1+((119:Int)-(n:Int) % 64) % 64+8=(N:Int)):=jz (by rw[hN];unfold mK UD;omega);have x:(madeCells (Value.int .u8 0).cells (N*1)).toList=arr N (c8 (λ_=>0)):=by
  show(madeCells #[Value.int .u8 0] (N*1)).toList=_;rw[pG];unfold arr c8;rw[List.map_const',List.length_range];simp
 have Z:=jz x;clear x hN;rw[<- HN.out];go_enter func174,ntmps174
 go_upto_region 4 with fail
 obtain⟨z,V⟩:∃ z:Int,z=((119:Int)-(n:Int) % 64) % 64:=⟨_,rfl⟩;have d2:1+z+8=(N:Int):=by rw[V];exact a5.out
 have d1:0<=z/\z<64:=by omega
 rw[<- V];clear V;have a3:(arr N (c8 (λ_=>0))).set 0 (.int .u8 128)=arr N (c8 (mL n 0)):=by
  rw[BI];refine uL (λk hk=>?_);rw[show(Value.int .u8 128)=Value.int .u8 ((128:Nat):Int) from rfl,gY];show Value.int .u8 ((cO (λ_=>0) 0 128 k:Nat):Int)=Value.int .u8 ((mL n 0 k:Nat):Int);congr 2;unfold cO mL;by_cases e:k=0
  ·rw[jP e,jP e]
  ·rw[jQ e,jQ e,jQ (by rw[<- HN.out];omega)]
 have a0:=jz a3;clear a3;go_upto_region 5 with (at_make;refine wpList_make_full _ rfl (.tmp 15) (.tmp 15) 68 rfl w.heap.size 5 i (.int .u8 0) 1 underlying68 hi hz b7 .i64 .i64 (N:Int) (N:Int) N rfl rfl rfl rfl (by rw[b0];omega) (by unfold maxLen;omega) (ja _) ?_;intro w2 D hg)
 rw[Z.out] at D;have j:=D.stored 0 (.int .u8 128);rw[a0.out] at j;obtain⟨I,a2⟩:=rO D (fJ (c8 (λ_=>0)) (show 0<N by omega));have I:w2.cell? ⟨w.heap.size,0,none⟩=some (.int .u8 0):=I;have O:Hid (Bw w w2):=jz ((ji _ w).grown hg (ja _) (λg e=>by cases e));obtain⟨w3,U⟩:=je (w2.setCell ⟨w.heap.size,0,none⟩ (.int .u8 128));have a1:Hid (w3.ownsRow w.heap.size 5 1 (.slice (some ⟨w.heap.size,0,none⟩) N N) N (arr N (c8 (mL n 0)))/\Bw w w3):=jz (by
  rw[U]
  exact⟨j.1,O.grown j.2 O.size (λg e=>by cases e;exact ja _)⟩)
 have c2:(0:Int)<(N:Int):=by omega
 clear j D hg O a0 Z;go_upto_region 6 with fail
 rw[<- U];clear U I a2;have d0:(8*(n:Int))<18446744073709551616:=by omega
 have c4:(N:Int)-1<72:=by omega
 go_wp2_with fail
 go_loopw [6,5] (λi y wr=>∃ m:Nat,m<=8/\i = .int .i64 ((N:Int)-1-m)/\y = .int .u64 ((8*n/256 ^ m:Nat):Int)/\Hid (wr.ownsRow w.heap.size 5 1 (.slice (some ⟨w.heap.size,0,none⟩) N N) N (arr N (c8 (mL n m)))/\Bw w wr)) (λi _ _=>(intOf i).toNat)
 case atStart=>exact⟨0,j0 _,by simp,by simp,a1⟩
 case round=>
  clear a1;obtain⟨m,hm,rfl,rfl,J⟩:=hrel;obtain⟨L,K⟩:∃ L,L=8*n/256 ^ m:=⟨_,rfl⟩;have R:L/256=8*n/256 ^ (m+1):=by rw[K,Nat.div_div_eq_div_mul,Nat.pow_succ]
  have a8:L<=8*n:=by rw[K];exact Nat.div_le_self _ _
  rw[<- K];rcases Nat.eq_zero_or_pos L with h0|h0
  ·have hf:mL n m=ME n:=PT n m hm (by rw[<- K];exact h0);rw[hf] at J;have a9:¬(0:Int)<L:=by omega
   clear R a8 K;go_wp2_with fail
   go_ret;exact⟨_,rfl,J.out.1,J.out.2⟩
  ·have b1:m<8:=by
    rcases jo m 8 with h|h
    ·exact h
    ·have e8:m=8:=by omega
     subst e8;have:8*n/256 ^ 8=0:=Nat.div_eq_of_lt (by have e:(256:Nat) ^ 8=18446744073709551616:=(by decide);omega);omega
   have j:=J.out.1.stored (N-1-m) (.int .u8 ((L % 256:Nat):Int));rw[BI,gY,HN.out,K,MF n m b1,<- HN.out,<- K] at j;obtain⟨I,a2⟩:=rO J.out.1 (fJ (c8 (mL n m)) (show N-1-m<N by omega));have a4:c8 (mL n m) (N-1-m) = .int .u8 0:=by
    show Value.int .u8 ((mL n m (N-1-m):Nat):Int)=_;unfold mL;rw[jQ (by omega),jQ (by rw[<- HN.out];omega)];rfl
   rw[a4] at I;have e1:((L % 256:Nat):Int)=(L:Int) % 256:=by omega
   rw[e1] at j;have a7:Hid ((wr.setCell ⟨w.heap.size,N-1-m,none⟩ (.int .u8 ((L:Int) % 256))).ownsRow w.heap.size 5 1 (.slice (some ⟨w.heap.size,0,none⟩) N N) N (arr N (c8 (mL n (m+1))))/\Bw w (wr.setCell ⟨w.heap.size,N-1-m,none⟩ (.int .u8 ((L:Int) % 256)))):=jz ⟨j.1,J.out.2.grown j.2 J.out.2.size (λg e=>by cases e;exact ja _)⟩;have a9:(0:Int)<L:=by omega
   have c5:(0:Int)<=(N:Int)-1-m:=by omega
   have c6:(N:Int)-1-m<N:=by omega
   have a6:Hid ((L:Int)/256=((8*n/256 ^ (m+1):Nat):Int)):=jz (by rw[<- R];omega);clear j a4 e1 J K R;go_wp2_with fail
   refine⟨⟨m+1,by omega,by go_num,by rw[a6.out],a7⟩,by simp[intOf];omega⟩
def n8(l:List Nat):Wv:=l.map (λx:Nat=>Value.int .u8 (x:Int))
def Byn(l:List Nat):Prop:=∀ x∈l,x<256
def nth(l:List Nat)(k:Nat):Nat:=l.getD k 0
theorem aS(l:List Nat):(n8 l).length=l.length:=by simp[n8]
theorem G2(l:List Nat)(k:Nat)(h:k<l.length):(n8 l)[k]? = some (.int .u8 (nth l k:Nat)):=by
 unfold n8 nth;rw[List.getElem?_map,List.getElem?_eq_getElem h,jn,List.getElem?_eq_getElem h];rfl
theorem dU(l:List Nat):∀ u∈n8 l,u.oneCell'=true:=λu j=>by
 obtain⟨x,_,rfl⟩:=List.mem_map.1 j;rfl
theorem KI(l:List Nat)(k:Nat):(n8 l).take k=n8 (l.take k):=by simp[n8,List.map_take]
theorem UF(l:List Nat)(k:Nat):(n8 l).drop k=n8 (l.drop k):=by simp[n8,List.map_drop]
theorem lR{l:List Nat}(h:Byn l)(k:Nat):nth l k<256:=by
 unfold nth;rw[jn];cases hk:l[k]? with
 | none=>decide
 | some x=>exact h x (List.mem_of_getElem? hk)
theorem G3(n:Nat)(f:Nat->Nat):n8 (arr n f)=arr n (c8 f):=by simp[n8,arr,c8]
theorem vT{a b:List Nat}{k:Nat}(h:k<a.length):nth (a++b) k=nth a k:=by
 unfold nth;rw[jn,jn,jy h]
theorem zI{a b:List Nat}{k:Nat}(h:a.length<=k):nth (a++b) k=nth b (k-a.length):=by
 unfold nth;rw[jn,jn,jx h]
theorem D3{b x:Nat->Nat}(i:Nat)(hi:i<16)(h:∀ k,k<64->b k=x k):∀ j,j<=4->pw b i j=pw x i j
 | 0,_=>rfl
 | j+1,hj=>by
  show pw b i j*256+b (4*i+j)=pw x i j*256+x (4*i+j);rw[D3 i hi h j (by omega),h _ (by omega)]
theorem PU{b x:Nat->Nat}(h:∀ k,k<64->b k=x k)(k:Nat):wk b k=wk x k:=by
 induction k using Nat.strongRecOn with
 | ind k ih=>
  rcases jo k 16 with j|j
  ·rw[KD b j,KD x j,D3 k j h 4 (ja _)]
  ·rw[KE b j,KE x j,ih (k-16) (by omega),ih (k-15) (by omega),ih (k-7) (by omega),ih (k-2) (by omega)]
theorem D4{b j:Nat->Nat}(st:Nat->Nat)(h:∀ k,k<64->b k=j k):∀ k,rg st b k=rg st j k
 | 0=>by rw[rg,rg]
 | k+1=>by rw[BP,BP,D4 st h k,PU h k]
theorem zJ{b j:Nat->Nat}(st:Nat->Nat)(h:∀ k,k<64->b k=j k):gM st b=gM st j:=by
 funext i
 unfold gM;rw[D4 st h 64]
def D5(s:Nat->Nat)(l:List Nat):Nat->(Nat->Nat)
 | 0=>s
 | m+1=>gM (D5 s l m) (λk=>nth l (64*m+k))
theorem nV(s:Nat->Nat)(l x:List Nat):∀ m,64*m<=l.length->D5 s (l++x) m=D5 s l m
 | 0,_=>rfl
 | m+1,h=>by
  show gM (D5 s (l++x) m) (λk=>nth (l++x) (64*m+k))=gM (D5 s l m) (λk=>nth l (64*m+k));rw[nV s l x m (by omega)];exact zJ _ (λk j=>vT (by omega))
theorem UG{s:Nat->Nat}(h:WsF s)(l:List Nat):∀ m,WsF (D5 s l m)
 | 0=>h
 | m+1=>UC _ _
def yO(i:Nat):Nat:=[1779033703,3144134277,1013904242,2773480762,1359893119,2600822924,528734635,1541459225].getD i 0
theorem UH:WsF yO:=λi=>by
 unfold yO;rw[jn];cases h:([1779033703,3144134277,1013904242,2773480762,1359893119,2600822924,528734635,1541459225]:List Nat)[i]? with
 | none=>decide
 | some x=>
  have j:=List.mem_of_getElem? h;have ha:∀ x∈([1779033703,3144134277,1013904242,2773480762,1359893119,2600822924,528734635,1541459225]:List Nat),x<4294967296:=by decide
  exact ha x j
def lB(l:List Nat):Nat->Nat:=D5 yO l (l.length/64)
theorem KJ(l:List Nat):WsF (lB l):=UG UH l _
theorem MG(l x:List Nat)(h:l.length % 64+x.length<64):lB (l++x)=lB l:=by
 unfold lB;rw[jj,show(l.length+x.length)/64=l.length/64 from by omega];exact nV _ _ _ _ (by omega)
theorem MH(l x:List Nat)(b:Nat->Nat)(h:l.length % 64+x.length=64)(hb:∀ k,k<64->b k=nth (l++x) (64*(l.length/64)+k)):lB (l++x)=gM (lB l) b:=by
 unfold lB;rw[jj,show(l.length+x.length)/64=l.length/64+1 from by omega];show gM (D5 yO (l++x) (l.length/64)) (λk=>nth (l++x) (64*(l.length/64)+k))=_;rw[nV _ _ _ _ (by omega)];exact zJ _ (λk j=>(hb k j).symm)
def l3(s:Nat->Nat)(q:Nat):Nat:=s (q/4)/256 ^ (3-q % 4) % 256
def nG(l:List Nat):List Nat:=arr 32 (l3 (lB (l++arr (mK l.length) (ME l.length))))
theorem dF(l:List Nat):(nG l).length=32:=aB _ _
theorem kO(l:List Nat):Byn (nG l):=λx j=>by
 unfold nG arr at j;obtain⟨k,_,rfl⟩:=List.mem_map.1 j;exact Nat.mod_lt _ (by omega)
attribute [irreducible] lB nG
section
variable {P : Program} {ops : Array Oper} {rest : List Oper} {o : Oper} {a : Act} {w : Wd} {Q : Exit -> Act -> Wd -> Prop}
theorem cpm{dT sT elem:TypeId}(p q:Operand)(J:o.op = .call { callee:=.builtin .copy,args:=#[p,q],argTypes:=#[dT,sT] })(V:Region.wanted o (yielded ops a.tmps)=true)
  {b off dn dc bs os n cap:Nat} {cs:Wv} (O:a.eval p = .slice (some ⟨b,off,none⟩) dn dc) (R:a.eval q = .slice (some ⟨bs,os,none⟩) n cap) (U:P.underlying dT=some (.slice elem)) (hs:(P.info? elem).map (·.size)=some 1) (I:cs.length=Nat.min n dn) (Z:w.rangeAt bs os cs) (ht:w.there b off cs.length) (h1:∀ u∈cs,u.oneCell'=true)
  (h:wpList P ops Q rest (a.put o.dst (.int .i64 (cs.length:Nat))) (w.setCells b off cs)):wpList P ops Q (o :: rest) a w:=
 wpList_step λK D=>by
  rw[jP V];have hrun:=run_copy_cells (P:=P) w dT sT o.type elem b off dn dc ⟨bs,os,none⟩ n cap cs U hs I (λj v x=>by rw[Addr.add_mid];exact Z j v x) (λj x=>(ht j x).1) (λj x=>(ht j x).2) h1;unfold Oper.wp execOp;simp only[J,resolve,invoke,builtin,Sem.run_bind,Sem.run_pure,Result.andThen_ok,List.map_toArray,List.map_cons,List.map_nil,O,R,hrun];exact D _ _ h
end
theorem Sn.sameC{w w':Wd}{s n:Nat}{v:Value}{D:Wv}(h:Sn w s v n D)(O:0<n->∀ b,v.ownBlock=some b->w'.heap[b]? = w.heap[b]?):Sn w' s v n D:=by
 obtain⟨A,cap,rfl,h1,I,R⟩:=h;refine⟨A,cap,rfl,h1,I,λx=>?_⟩;obtain⟨g,off,rfl,J⟩:=R x;exact⟨g,off,rfl,λj u K=>(World.cell?_of_block (a:=⟨g,off+j,none⟩) (O x g rfl)).trans (J j u K)⟩
theorem AB.setL:∀(c:List Nat) {W:Wd} {g n off:Nat} {t:TypeId} {f:Nat->Nat},AB W g t n (c8 f)->AB (W.setCells g off (n8 c)) g t n (c8 (λk=>if off<=k/\k<off+c.length then nth c (k-off) else f k))
 | [],W,g,n,off,t,f,h=>h.ext (λk _=>by
   show Value.int .u8 (f k:Nat)=Value.int .u8 ((if off<=k/\k<off+0 then nth [] (k-off) else f k:Nat):Int)
   rw[jQ (by omega)])
 | x :: r,W,g,n,off,t,f,h=>by
  have h1:=h.set off (.int .u8 (x:Nat));rw[gY] at h1;have j:=AB.setL r (off:=off+1) h1;refine AB.ext j (λk _=>?_);show Value.int .u8 ((if off+1<=k/\k<off+1+r.length then nth r (k-(off+1)) else cO f off x k:Nat):Int)=Value.int .u8 ((if off<=k/\k<off+(r.length+1) then nth (x :: r) (k-off) else f k:Nat):Int);congr 2;by_cases e:k=off
  ·subst e;rw[jQ (by omega),qO,jP (by omega),Nat.sub_self];rfl
  ·rw[GV _ _ e];by_cases e2:off+1<=k/\k<off+1+r.length
   ·rw[jP e2,jP (by omega),show k-off=(k-(off+1))+1 from by omega];rfl
   ·rw[jQ e2,jQ (by omega)]
structure FH(gz:Nat)(w0 W:Wd)(g:Nat)(S bl:Nat->Nat)(u tot:Nat):Prop where
 be:Bw w0 W
 lo:w0.heap.size<=g
 zl:gz<=g
 z:AB W gz 25 32 (c8 λ_=>0)
 s:AB W (g+1) 253 8 (c32 S)
 b:AB W (g+1+1) 243 64 (c8 bl)
 by_:bG bl
 u:Blk W (g+1+1+1) 3 #[.int .i64 (u:Nat)]
 t:Blk W (g+1+1+1+1) 3 #[.int .i64 (tot:Nat)]
section
variable {w0 W W' : Wd} {gz g u tot : Nat} {S bl : Nat -> Nat}
theorem FH.keep(h:FH gz w0 W g S bl u tot)(hb:Bw W W'):FH gz w0 W' g S bl u tot:=⟨h.be.trans (hb.mono h.be.size),h.lo,h.zl,h.z.keep hb,h.s.keep hb,h.b.keep hb,h.by_,h.u.keep hb,h.t.keep hb⟩
theorem FH.setT(h:FH gz w0 W g S bl u tot)(v:Nat):FH gz w0 (W.setCell ⟨g+1+1+1+1,0,none⟩ (.int .i64 (v:Nat))) g S bl u v:=
 ⟨h.be.setCell (by have:=h.lo;show w0.heap.size<=g+1+1+1+1;omega) _,h.lo,h.zl,h.z.far (by have:=h.zl;show gz≠g+1+1+1+1;omega) _,h.s.far (by show g+1≠g+1+1+1+1;omega) _,h.b.far (by show g+1+1≠g+1+1+1+1;omega) _,h.by_,h.u.far (by show g+1+1+1≠g+1+1+1+1;omega) _,h.t.set_ 0 _⟩
theorem FH.setU(h:FH gz w0 W g S bl u tot)(v:Nat):FH gz w0 (W.setCell ⟨g+1+1+1,0,none⟩ (.int .i64 (v:Nat))) g S bl v tot:=
 ⟨h.be.setCell (by have:=h.lo;show w0.heap.size<=g+1+1+1;omega) _,h.lo,h.zl,h.z.far (by have:=h.zl;show gz≠g+1+1+1;omega) _,h.s.far (by show g+1≠g+1+1+1;omega) _,h.b.far (by show g+1+1≠g+1+1+1;omega) _,h.by_,h.u.set_ 0 _,h.t.far (by show g+1+1+1+1≠g+1+1+1;omega) _⟩
theorem FH.setB(h:FH gz w0 W g S bl u tot)(c:List Nat)(off:Nat)(x:Byn c):FH gz w0 (W.setCells (g+1+1) off (n8 c)) g S (λk=>if off<=k/\k<off+c.length then nth c (k-off) else bl k) u tot:=
 have j:∀ k,k≠g+1+1->(W.setCells (g+1+1) off (n8 c)).heap[k]? = W.heap[k]?:=λk D=>bE D _ _ _
 ⟨h.be.trans (aU (by have:=h.lo;omega) _ _ _).1,h.lo,h.zl,(j gz (by have:=h.zl;omega)).trans h.z,(j (g+1) (by omega)).trans h.s,h.b.setL c,λk=>by
  show(if off<=k/\k<off+c.length then nth c (k-off) else bl k)<256
  split
  ·exact lR x _
  ·exact h.by_ k,(j _ (by omega)).trans h.u,(j _ (by omega)).trans h.t⟩
theorem FH.setS(h:FH gz w0 W g S bl u tot)(x:Nat->Nat)(D:Blk W' (g+1) 253 (arr 8 (c32 x)).toArray)(hb:Below (g+1) W W')(j:∀ k,k≠g+1->W'.heap[k]? = W.heap[k]?):FH gz w0 W' g x bl u tot:=
 ⟨h.be.trans (hb.mono (by have:=h.lo;omega)),h.lo,h.zl,(j gz (by have:=h.zl;omega)).trans h.z,D,(j _ (by omega)).trans h.b,h.by_,(j _ (by omega)).trans h.u,(j _ (by omega)).trans h.t⟩
end
def FSh(gz:Nat)(w0 W:Wd)(g:Nat)(D:List Nat)(tot:Nat):Prop:=∃ bl,FH gz w0 W g (lB D) bl (D.length % 64) tot/\∀ k,k<D.length % 64->bl k=nth D (64*(D.length/64)+k)
theorem FSh.less{w0 W:Wd}{gz g tot:Nat}{D c:List Nat}{bl:Nat->Nat}(h:FH gz w0 W g (lB D) (λk=>if D.length % 64<=k/\k<D.length % 64+c.length then nth c (k-D.length % 64) else bl k) (D.length % 64+c.length) tot)(hb:∀ k,k<D.length % 64->bl k=nth D (64*(D.length/64)+k))(j:D.length % 64+c.length<64):FSh gz w0 W g (D++c) tot:=by
 refine⟨_,by rw[MG D c j,jj,show(D.length+c.length) % 64=D.length % 64+c.length from by omega];exact h,λk x=>?_⟩;rw[jj] at x ⊢;rw[show(D.length+c.length)/64=D.length/64 from by omega];by_cases e:D.length % 64<=k/\k<D.length % 64+c.length
 ·rw[jP e,zI (by omega)];congr 1;omega
 ·rw[jQ e,vT (by omega)];exact hb k (by omega)
theorem FSh.full{w0 W:Wd}{gz g tot:Nat}{D c:List Nat}{bl b2:Nat->Nat}(h:FH gz w0 W g (gM (lB D) b2) b2 0 tot)(x:b2=λk=>if D.length % 64<=k/\k<D.length % 64+c.length then nth c (k-D.length % 64) else bl k)(hb:∀ k,k<D.length % 64->bl k=nth D (64*(D.length/64)+k))(I:D.length % 64+c.length=64):FSh gz w0 W g (D++c) tot:=by
 have J:=MH D c b2 I (λk j=>by
  rw[x]
  show(if D.length % 64<=k/\k<D.length % 64+c.length then nth c (k-D.length % 64) else bl k)=_
  by_cases e:D.length % 64<=k/\k<D.length % 64+c.length
  ·rw[jP e,zI (by omega)]
   congr 1
   omega
  ·rw[jQ e,vT (by omega)]
   exact hb k (by omega))
 refine⟨b2,by rw[J,jj,show(D.length+c.length) % 64=0 from by omega];exact h,λk j=>?_⟩;rw[jj] at j;omega
def slN:Value->Nat
 | .slice _ n _=>n
 | _=>0
structure FL(gz:Nat)(w0 W:Wd)(g:Nat)(A:List Nat)(tot:Nat)(v:Value)(E r:List Nat):Prop where
 e:E++r=A
 be:Byn E
 br:Byn r
 sn:Sn W 1 v r.length (n8 r)
 ow:0<r.length->∀ b,v.ownBlock=some b->b<g\/g+1+1+1+1<b
 fs:FSh gz w0 W g E tot
theorem D6(gz:Nat)(w0 w:Wd)(g tot:Nat)(D p:List Nat)(v:Value)(h:FSh gz w0 w g D tot)(hs:Sn w 1 v p.length (n8 p))(hd:Byn D)(hp:Byn p)(ho:0<p.length->∀ b,v.ownBlock=some b->b<g\/g+1+1+1+1<b)(hl:tot+p.length<=1000000000)(hk:TabK w0):
  Wc 172 #[v,.pointer (some ⟨g+1+1+1+1,0,none⟩),.pointer (some ⟨g+1+1,0,none⟩),.pointer (some ⟨g+1+1+1,0,none⟩),.pointer (some ⟨g+1,0,none⟩)] w λe w'=>e = .returned (.tuple #[])/\FSh gz w0 w' g (D++p) (tot+p.length):=by
 obtain⟨bl,J,R⟩:=h;have HK:=jz hk;have m4:w.cell? ⟨g+1+1+1+1,0,none⟩=some (.int .i64 (tot:Nat)):=(J.t.cell 0).trans rfl;have m6:=J.t.frozen 0;obtain⟨A,cap,rfl,c4,k4,a7⟩:=id hs;obtain⟨w1,b7⟩:=je (w.setCell ⟨g+1+1+1+1,0,none⟩ (.int .i64 ((tot:Int)+(p.length:Nat))));have c5:Hid (FL gz w0 w1 g (D++p) (tot+p.length) (.slice A p.length cap) D p):=jz ⟨rfl,hd,hp,hs.sameC (λn4 b e=>by
  rw[b7]
  exact Below.heap_setCell _ _ _ _ (by have:=ho n4 b e;show b≠g+1+1+1+1;omega)),ho,bl,by
  have:=J.setT (tot+p.length)
  rw[show((tot+p.length:Nat):Int)=(tot:Int)+(p.length:Nat) from by omega,<- b7] at this
  exact this,R⟩
 have n6:(0:Int)<=tot:=by omega
 have q0:(tot:Int)+(p.length:Nat)<=1000000000:=by omega
 clear J R hs hd hp ho a7;go_enter func172,ntmps172
 go_wp2_with fail
 rw[<- b7];clear b7 m4 m6 c4 k4;obtain⟨T,hT⟩:=je (tot+p.length);rw[<- hT] at c5;have HT:=jz hT;clear hT n6 q0 hl;go_loopw [0] (λv wr=>∃ E r,Hid (FL gz w0 wr g (D++p) T v E r)) (λv _=>slN v)
 case atStart=>exact⟨D,p,c5⟩
 case round=>
  clear c5;obtain⟨E,r,HF⟩:=hrel;obtain⟨A,cap,rfl,c4,_,a7⟩:=HF.sn;rcases Nat.eq_zero_or_pos r.length with h0|h0
  ·have g2:r=[]:=List.length_eq_zero_iff.1 h0;have d5:=HF.fs;have he:=HF.e;rw[g2,List.append_nil] at he;rw[he] at d5;have h9:=jz d5;rw[h0];clear g2 d5 he HF a7;go_wp2_with fail
   go_end0
   exact⟨rfl,by rw[<- HT.out];exact h9⟩
  ·obtain⟨bs,os,rfl,hx⟩:=a7 h0;obtain⟨bl,J,R⟩:=HF.fs;have q7:(0:Int)<(r.length:Nat):=by omega
   obtain⟨U,hU⟩:=je (E.length % 64);have q1:U<64:=by omega
   rw[<- hU] at J R;have a6:=jz J;have a4:=jz R;have HU:=jz hU;have m5:wr.cell? ⟨g+1+1+1,0,none⟩=some (.int .i64 (U:Nat)):=(J.u.cell 0).trans rfl;have m8:=J.u.frozen 0;obtain⟨c,hc⟩:=je (r.take (min r.length (64-U)));have f8:c.length=min r.length (64-U):=by rw[hc,jv];omega
   have f7:Byn c:=λx hx=>HF.br x (by rw[hc] at hx;exact j7 hx)
   have g8:wr.rangeAt bs os (n8 c):=λj u hj=>hx j u (by
    rw[hc,<- KI,List.getElem?_take] at hj
    split at hj
    ·exact hj
    ·cases hj)
   have d7:(n8 c).length=Nat.min r.length (64-U):=by rw[aS];exact f8
   have h7:wr.there (g+1+1) U (n8 c).length:=λj hj=>⟨by
    rw[aS] at hj
    rw[a6.b.cell (i:=U+j) (by omega)]
    rfl,a6.b.frozen _⟩
   have HC:=jz hc;obtain⟨M,hM⟩:=je ((n8 c).length);have a9:c.length=M:=by rw[hM,aS]
   have q5:M<=r.length/\M<=64-U/\0<M/\(M=64-U\/M=r.length):=by omega
   have HM:Hid (Nat.min r.length (64-U)=M):=jz (d7.symm.trans hM.symm);have m2:prog.arrayLen 243=64:=by kernel_rfl
   have r0:(0:Int)<=U:=by omega
   have r1:(U:Int)<=64:=by omega
   have n3:¬64=U:=by omega
   have c9:=jz hx;clear J R hU hx hc hM f8;go_upto_region 3 with (refine cpm (.tmp 15) (.tmp 16) rfl (by rfl) (cs:=n8 c) (b:=g+1+1) (off:=U) (dn:=64-U) (dc:=64-U) (by rfl) (by rfl) underlying68 (by kernel_rfl) d7 g8 h7 (dU c) ?_)
   rw[HM.out];obtain⟨w2,a2⟩:=je (wr.setCells (g+1+1) U (n8 c));have q4:=jz a2;rw[<- a2];have V:=a6.setB c U f7;rw[<- a2] at V;obtain⟨b2,d1⟩:∃ b,b=λk=>if U<=k/\k<U+c.length then nth c (k-U) else bl k:=⟨_,rfl⟩
   rw[<- d1] at V;have a3:=jz d1;have e1:=jz V;have k0:Hid (∀ k,k≠g+1+1->w2.heap[k]? = wr.heap[k]?):=jz (λk hk=>by rw[a2];exact bE hk _ _ _);have f9:w2.cell? ⟨g+1+1+1,0,none⟩=some (.int .i64 (U:Nat)):=(V.u.cell 0).trans rfl;have g0:=V.u.frozen 0;have n0:(0:Int)<=M:=by omega
   have n1:(M:Int)<=r.length:=by omega
   have n2:(M:Int)<=64:=by omega
   clear a2 V d1 m5 m8 g8 d7 h7 m2 n3 a6;go_upto_region 5 with fail
   obtain⟨w3,c2⟩:=je (w2.setCell ⟨g+1+1+1,0,none⟩ (.int .i64 ((U:Int)+M)));obtain⟨A3,a8⟩:=je ((if cap=M then some (⟨bs,os,none⟩:Addr) else some ⟨bs,os+M,none⟩));rw[<- c2,<- a8];have d2:=e1.setU (U+M);rw[show((U+M:Nat):Int)=(U:Int)+M from by omega,<- c2] at d2;have I:=jz d2;have m3:=HF.ow h0 bs rfl;have f6:bs<wr.heap.size:=by
    have:=c9.out 0 _ (G2 r 0 h0);exact dW this
   have g1:w3.heap[bs]? = wr.heap[bs]?:=by
    rw[c2];exact(Below.heap_setCell _ _ _ _ (by show bs≠g+1+1+1;omega)).trans (k0 bs (by omega))
   have f0:Hid (∀ W:Wd,W.heap[bs]? = wr.heap[bs]?->Sn W 1 (.slice A3 (r.length-M) (cap-M)) (r.drop M).length (n8 (r.drop M))):=jz (λW hW=>by
    have e:(r.drop M).length=r.length-M:=List.length_drop ..
    rw[e]
    refine⟨A3,cap-M,rfl,by omega,by rw[aS,e];omega,λhp=>⟨bs,os+M,by rw[a8,jQ (by omega)],λj u hj=>?_⟩⟩
    rw[<- UF,List.getElem?_drop] at hj
    have:=c9.out (M+j) u hj
    rw[show os+M+j=os+(M+j) from by omega]
    exact(World.cell?_of_block (a:=⟨bs,os+(M+j),none⟩) hW).trans this)
   have e8:Hid (∀ b,(Value.slice A3 (r.length-M) (cap-M)).ownBlock=some b->b<g\/g+1+1+1+1<b):=jz (λb e=>by
    rw[a8] at e
    have:b=bs:=by
     split at e
     ·injection e with e;exact e.symm
     ·injection e with e;exact e.symm
    rw[this];exact m3)
   have K:Hid ((E++c)++r.drop M=D++p/\Byn (E++c)/\Byn (r.drop M)):=jz ⟨by
    rw[HC.out,show min r.length (64-U)=M from HM.out,List.append_assoc,List.take_append_drop]
    exact HF.e,λx hx=>(List.mem_append.1 hx).elim (HF.be x) (f7 x),λx hx=>HF.br x (List.mem_of_mem_drop hx)⟩
   have Z:=jz (And.intro g1 f6);clear c2 a8 d2 g1 f9 g0 c9 e1;rcases jo (U+M) 64 with m9|q6
   ·have a0:FSh gz w0 w3 g (E++c) T:=FSh.less (bl:=bl) (by
     have:=I.out
     rw[a3.out] at this
     rw[<- HU.out,a9]
     rw[a9] at this
     exact this) (by rw[<- HU.out];exact a4) (by rw[<- HU.out,a9];exact m9)
    have c7:Hid (FL gz w0 w3 g (D++p) T (.slice A3 (r.length-M) (cap-M)) (E++c) (r.drop M)):=jz ⟨K.out.1,K.out.2.1,K.out.2.2,f0 w3 Z.out.1,λ_=>e8.out,a0⟩;have h8:¬((U:Int)+M=64):=by omega
    have a1:w3.cell? ⟨g+1+1+1,0,none⟩=some (.int .i64 ((U:Int)+M)):=(I.u.cell 0).trans (by show some (Value.int .i64 ((U+M:Nat):Int))=_;congr 2);clear a0 I a3 a4;go_wp2_with fail
    exact⟨⟨E++c,r.drop M,c7⟩,by show r.length-M<r.length;omega⟩
   ·have m1:U+M=64:=by omega
    have h8:(U:Int)+M=64:=by omega
    have a1:w3.cell? ⟨g+1+1+1,0,none⟩=some (.int .i64 ((U:Int)+M)):=(I.u.cell 0).trans (by show some (Value.int .i64 ((U+M:Nat):Int))=_;congr 2);rw[h8] at a1;have h2:=I.s.range;have g3:=I.b.range;have f2:(prog.info? 253).map (·.size)=some (arr 8 (c32 (lB E))).length:=by rw[aB];kernel_rfl
    have f3:(prog.info? 243).map (·.size)=some (arr 64 (c8 b2)).length:=by rw[aB];kernel_rfl
    clear n0 n1 n2;go_wp2_with (first
     | (refine ld 253 _ rfl rfl rfl h2 underlying253 rfl f2 ?_)
     | (refine ld 243 _ rfl rfl rfl g3 underlying243 rfl f3 ?_))
    refine(MD (lB E) b2 w3 (KJ E) I.by_ (HK.below I.be)).mono ?_;rintro e w4 ⟨rfl,b0⟩;have c6:=jz (I.keep b0);have f1:Blk w4 (g+1) 253 (arr 8 (c32 (lB E))).toArray:=c6.s;have k1:Hid (w4.heap[bs]? = wr.heap[bs]?/\bs<w4.heap.size):=jz (by
     have h3:bs<w3.heap.size:=by
      rcases jo bs w3.heap.size with h|h
      ·exact h
      ·have h1:=Z.out.1
       rw[Array.getElem?_eq_none h,Array.getElem?_eq_getElem Z.out.2] at h1
       cases h1
     exact⟨(b0.block bs h3).trans Z.out.1,jp h3 b0.size⟩)
    obtain⟨O,hO⟩:=je ((arr 8 (c32 (gM (lB E) b2))).toArray);have h4:(prog.info? 253).map (·.size)=some O.size:=by rw[hO,aL];kernel_rfl
    have h5:(arr 8 (c32 (lB E))).toArray.size=O.size:=by rw[hO,aL,aL]
    have h6:O.all (·.oneCell')=true:=by rw[hO];exact bY (λ_=>rfl)
    rw[<- hO];have HO:=jz hO;clear hO b0 h2 g3 f2 f3 I Z a1;go_upto_region 7 with (refine aP 253 (.tmp 4) (.tmp 28) rfl rfl rfl rfl f1 h4 h5 h6 ?_;intro w5 d0 f5 e0 _)
    rw[HO.out] at d0;have a5:=jz (c6.setS _ d0 f5 e0);have q2:w5.cell? ⟨g+1+1+1,0,none⟩=some (.int .i64 ((U+M:Nat):Int)):=(a5.u.cell 0).trans rfl;have q3:=a5.u.frozen 0;have k2:Hid (w5.heap[bs]? = wr.heap[bs]?):=jz ((e0 bs (by omega)).trans k1.out.1);have b1:=a5.setU 0;obtain⟨w6,c3⟩:=je (w5.setCell ⟨g+1+1+1,0,none⟩ (.int .i64 0));have b1:FH gz w0 w6 g (gM (lB E) b2) b2 0 T:=by rw[c3];exact b1
    have a0:FSh gz w0 w6 g (E++c) T:=FSh.full (bl:=bl) b1 (by rw[<- HU.out];exact a3) (by rw[<- HU.out];exact a4) (by rw[<- HU.out,a9];exact m1);have c7:Hid (FL gz w0 w6 g (D++p) T (.slice A3 (r.length-M) (cap-M)) (E++c) (r.drop M)):=jz ⟨K.out.1,K.out.2.1,K.out.2.2,f0 w6 (by
     rw[c3]
     exact(Below.heap_setCell _ _ _ _ (by show bs≠g+1+1+1;omega)).trans k2),λ_=>e8.out,a0⟩
    have k3:=jz c3;clear a0 b1 a5 c6 a3 a4 f1 d0 f5 e0 h4 h5 h6 c3;go_wp2_with fail
    rw[<- k3.out];exact⟨⟨E++c,r.drop M,c7⟩,by show r.length-M<r.length;omega⟩
end
section
open Go.RowKit
attribute [local irreducible] wpQuiet wpAnyH
theorem PV:(arr 8 (c32 yO)).toArray=#[.int .u32 1779033703,.int .u32 3144134277,.int .u32 1013904242,.int .u32 2773480762,.int .u32 1359893119,.int .u32 2600822924,.int .u32 528734635,.int .u32 1541459225]:=by kernel_rfl
theorem MI(w:Wd):Wc 171 #[] w (Rt w (.agg (arr 8 (c32 yO)).toArray)):=by
 go_enter func171,ntmps171
 obtain⟨O,x⟩:=je ((arr 8 (c32 yO)).toArray);have K:(prog.info? 253).map (·.size)=some O.size:=by rw[x,aL];kernel_rfl
 have a0:z32x8.size=O.size:=by rw[x,aL];exact aL 8 _
 have a1:O.all (·.oneCell')=true:=by rw[x];exact bY (λ_=>rfl)
 have Z:prog.built 253 [(0,.int .u32 1779033703),(1,.int .u32 3144134277),(2,.int .u32 1013904242),(3,.int .u32 2773480762),(4,.int .u32 1359893119),(5,.int .u32 2600822924),(6,.int .u32 528734635),(7,.int .u32 1541459225)]=some O:=by
  rw[x,PV]
  kernel_rfl
 go_upto_region 1 with (refine al 253 _ rfl rfl vS ?_)
 obtain⟨w1,j⟩:=je (w.alloc (.cells z32x8 253));have V:Blk w1 w.heap.size 253 z32x8:=by rw[j];exact Blk.new _ _ _
 have I:Bw w w1:=by rw[j];exact(ji _ w).alloc (ja _) _
 rw[<- j];have HB:=jz I;have HO:=jz x;clear j x I;go_wp2_with (first
  | (refine eQ 253 _ rfl rfl rfl Z ?_)
  | (refine aP 253 (.tmp 0) (.tmp 1) rfl rfl rfl rfl V K a0 a1 ?_;intro w3 D J _ _;have R:=jz D;have U:=jz J;clear D J))
 exact bodyPost_ret (results_cell_row rfl _ _ w.heap.size 253 _ (0,0) _ rfl R underlying253 rfl K) rfl ⟨by rw[<- HO.out],HB.trans U⟩
def z8x32:Wa:=(arr 32 (c8 λ_=>0)).toArray
theorem l6:∀ w,(zeroValue 25).run prog w = .ok (.agg z8x32) w:=λw=>by unfold z8x32;kernel_rfl
def z8x64:Wa:=(arr 64 (c8 λ_=>0)).toArray
theorem vU:∀ w,(zeroValue 243).run prog w = .ok (.agg z8x64) w:=λw=>by unfold z8x64;kernel_rfl
structure PN(w:Wd)(va:Value)(ps:List (Value×List Nat)):Prop where
 row:Sn w 1 va ps.length (ps.map (·.1))
 part:∀ p∈ps,Sn w 1 p.1 p.2.length (n8 p.2)
 byn:∀ p∈ps,Byn p.2
theorem PN.below{w w':Wd}{j:Value}{ps:List (Value×List Nat)}(h:PN w j ps)(hb:Bw w w'):PN w' j ps:=
 ⟨h.row.below hb,λp x=>(h.part p x).below hb,h.byn⟩
def cQ(ps:List (Value×List Nat)):List Nat:=ps.flatMap (·.2)
theorem zK(ps:List (Value×List Nat))(k:Nat)(h:k<ps.length):cQ (ps.take (k+1))=cQ (ps.take k)++ps[k].2:=by
 unfold cQ;rw[j6 h,List.flatMap_append];simp only[List.flatMap_cons,List.flatMap_nil,List.append_nil]
theorem UI(ps:List (Value×List Nat))(k:Nat):(cQ (ps.take k)).length<=(cQ ps).length:=by
 have:cQ ps=cQ (ps.take k)++cQ (ps.drop k):=by
  unfold cQ;rw[<- List.flatMap_append,List.take_append_drop]
 rw[this,jj];omega
theorem D7{ps:List (Value×List Nat)}(h:∀ p∈ps,Byn p.2)(k:Nat):Byn (cQ (ps.take k)):=λx j=>by
 unfold cQ at j;obtain⟨p,D,j⟩:=List.mem_flatMap.1 j;exact h p (j7 D) x j
theorem PN.at{w:Wd}{A:Option Addr}{cap:Nat}{ps:List (Value×List Nat)}(h:PN w (.slice A ps.length cap) ps)(k:Nat)(J:k<ps.length):
  ∃ b off j x,A=some ⟨b,off,none⟩/\w.cell? ⟨b,off+k,none⟩=some (.slice j ps[k].2.length x)/\Sn w 1 (.slice j ps[k].2.length x) ps[k].2.length (n8 ps[k].2):=by
 obtain⟨R,I,hv,_,U,O⟩:=h.row;injection hv with hA _ _
 subst hA;obtain⟨b,off,rfl,K⟩:=O (by omega);have D:=h.part ps[k] (List.getElem_mem J);obtain⟨j,x,e,_,_,_⟩:=id D;have:=K k ps[k].1 (by simp[J]);rw[e] at this D;exact⟨b,off,j,x,rfl,this,D⟩
theorem Sn.ownLt{w:Wd}{v:Value}{l:List Nat}(h:Sn w 1 v l.length (n8 l))(j:0<l.length):∀ b,v.ownBlock=some b->b<w.heap.size:=λb e=>by
 obtain⟨A,cap,rfl,_,_,D⟩:=h;obtain⟨g,off,rfl,x⟩:=D j;have:=dW (x 0 _ (G2 l 0 j));injection e with e
 rw[<- e];exact this
theorem PW(S:Nat->Nat)(k j:Nat)(D:j<4):((S k:Nat):Int)/2 ^ (24-8*j) % 256=((l3 S (4*k+j):Nat):Int):=by
 have x:(4*k+j)/4=k:=by omega
 have e2:(4*k+j) % 4=j:=by omega
 have e3:(256:Nat) ^ (3-j)=2 ^ (24-8*j):=by
  have:j=0\/j=1\/j=2\/j=3:=by omega
  rcases this with rfl|rfl|rfl|rfl <;> rfl
 unfold l3;rw[x,e2,e3];simp only[Int.natCast_emod,Int.natCast_ediv,Int.natCast_pow,Int.cast_ofNat_Int]
theorem PX:lB []=yO:=by unfold lB;rfl
theorem X4{w:Wd}{base e s n:Nat}{v:Value}{D:Wv}(h:w.ownsRow base e s v n D)(O:0<n):∀ b,v.ownBlock=some b->base<=b:=λb e=>by
 obtain⟨K,h|⟨I,j,x,rfl,hb,_⟩⟩:=h
 ·obtain⟨h1,J⟩:=h;have:v.ownBlock=none:=by subst h1;rfl
  rw[this] at e;cases e
 ·injection e with e
  rw[<- e];exact hb
theorem KK(va:Value)(ps:List (Value×List Nat))(w:Wd)(h:PN w va ps)(hn:ps.length<=1000)(ht:(cQ ps).length<=900000000)(hk:TabK w):
  Wc 113 #[va] w (Rt w (.agg (n8 (nG (cQ ps))).toArray)):=by
 obtain⟨A,cap,rfl,n1,_,_⟩:=id h.row;have HP:=jz h;have HK:=jz hk;clear h hk;go_enter func113,ntmps113
 go_upto_region 1 with (refine al 25 _ rfl rfl l6 ?_)
 obtain⟨gz,b0⟩:=je w.heap.size;obtain⟨w1,d1⟩:=je (w.alloc (.cells z8x32 25));have a5:Hid (AB w1 gz 25 32 (c8 λ_=>0)/\Bw w w1/\w1.heap.size=gz+1):=jz (by
  rw[d1,b0]
  exact⟨Blk.new _ _ _,(ji _ w).alloc (ja _) _,by simp⟩)
 rw[<- d1];simp only[<- b0];have e0:=jz b0;clear d1 b0;go_wp2_with fail
 refine(MI w1).mono ?_;rintro e w2 ⟨rfl,a7⟩;have V:Hid (AB w2 gz 25 32 (c8 λ_=>0)/\Bw w w2/\gz+1<=w2.heap.size):=jz ⟨a5.out.1.keep a7,aA a5.out.2.1 a7,by have:=a7.size;have:=a5.out.2.2;omega⟩;clear a7 a5;obtain⟨O,hO⟩:=je ((arr 8 (c32 yO)).toArray);have a2:(prog.info? 253).map (·.size)=some O.size:=by rw[hO,aL];kernel_rfl
 have b7:z32x8.size=O.size:=by rw[hO,aL];exact aL 8 _
 have c2:O.all (·.oneCell')=true:=by rw[hO];exact bY (λ_=>rfl)
 have HO:=jz hO;rw[<- hO];clear hO;go_upto_region 2 with (first
  | (refine al 253 _ rfl rfl vS ?_)
  | (refine bZ (cells:=O) 253 (.tmp 3) (.tmp 14) rfl rfl (by rfl) (by rfl) a2 b7 c2 ?_;intro w3 a6 c6 a3))
 obtain⟨g,hg⟩:∃ g,w2.heap.size=g+1:=⟨w2.heap.size-1,by have:=V.out.2.2;omega⟩;rw[hg] at a6 a3 ⊢;have d2:Hid (AB w3 (g+1) 253 8 (c32 yO)/\AB w3 gz 25 32 (c8 λ_=>0)/\Bw w w3/\gz<=g/\w.heap.size<=g):=jz ⟨by rw[HO.out] at a6;exact a6,V.out.1.keep c6,aA V.out.2.1 c6,by have:=V.out.2.2;omega,by have:=V.out.2.2;have:=e0.out;omega⟩;have c5:=jz a3;clear a6 c6 a3 a2 b7 c2 hg V HO;go_upto_region 4 with (refine al 243 _ rfl rfl vU ?_)
 rw[c5.out];obtain⟨w5,Z⟩:=je (((w3.alloc (.cells z8x64 243)).alloc (.cells #[.int .i64 0] 3)).alloc (.cells #[.int .i64 0] 3));have d7:Hid (FSh gz w w5 g (cQ (ps.take 0)) (cQ (ps.take 0)).length):=jz (by
  obtain⟨h1,h2,h3,h4,h5⟩:=d2.out
  have e3:=c5.out
  have I:Bw w3 w5:=by rw[Z];exact(((ji _ w3).alloc (ja _) _).alloc (by simp) _).alloc (by simp;omega) _
  refine⟨λ_=>0,⟨aA h3 I,h5,h4,h2.keep I,by
   show AB w5 (g+1) _ 8 (c32 (lB []))
   rw[PX]
   exact h1.keep I,by
   rw[Z]
   exact((Blk.newAt _ _ _ _ e3).alloc _).alloc _,λk=>by show 0<256;omega,by
   rw[Z]
   exact(Blk.newAt _ _ _ _ (by simp[e3])).alloc _,by
   rw[Z]
   exact Blk.newAt _ _ _ _ (by simp[e3])⟩,λk hk=>by
   have:([]:List Nat).length % 64=0:=rfl
   have hk:k<0:=hk
   omega⟩)
 rw[<- Z];clear Z d2 c5;go_wp2_with fail
 go_loopw [18] (λi wr=>∃ k:Nat,k<=ps.length/\i = .int .i64 (k:Int)/\Hid (FSh gz w wr g (cQ (ps.take k)) (cQ (ps.take k)).length)) (λi _=>ps.length-(intOf i).toNat)
 case atStart=>exact⟨0,j0 _,rfl,d7⟩
 case round=>
  clear d7;obtain⟨k,hk,rfl,HF⟩:=hrel;obtain⟨bl,D,J⟩:=HF.out;have I:=D.be;have g3:=D.lo;rcases jo k ps.length with R|f9
  ·obtain⟨b,off,A',c',hA,hc,c9⟩:=HP.at k R;subst hA;have n4:=j9 I hc;have a0:=jz (D6 gz w wr g (cQ (ps.take k)).length (cQ (ps.take k)) ps[k].2 (.slice A' ps[k].2.length c') HF (c9.below I) (D7 HP.byn k) (HP.byn _ (List.getElem_mem R)) (λh0 b e=>.inl (by have:=Sn.ownLt c9 h0 b e;omega)) (by have h1:=zK ps k R;have h2:=UI ps (k+1);rw[h1,jj] at h2;omega) HK);have m2:=jz (zK ps k R);have m6:(0:Int)<=k:=by omega
   have m8:(k:Int)<ps.length:=by omega
   clear D J I g3 c9 hc;go_wp2_with fail
   refine a0.mono ?_;rintro e w6 ⟨rfl,a8⟩;have k4:Hid (FSh gz w w6 g (cQ (ps.take (k+1))) (cQ (ps.take (k+1))).length):=jz (by rw[m2.out,jj];exact a8);clear a8 a0;go_wp2_with fail
   exact⟨⟨k+1,by omega,by go_num,k4⟩,by simp[intOf];omega⟩
  ·have g2:k=ps.length:=by omega
   have n0:¬(k:Int)<ps.length:=by omega
   rw[g2,List.take_length] at HF;obtain⟨L,hL⟩:=je (cQ ps);rw[<- hL] at ht HF;have HL:=jz hL;have f7:Byn L:=by rw[hL];have:=D7 HP.byn ps.length;rwa [List.take_length] at this
   have k1:=jz f7;obtain⟨bl,D,J⟩:=HF.out;have m4:wr.cell? ⟨g+1+1+1+1,0,none⟩=some (.int .i64 (L.length:Nat)):=(D.t.cell 0).trans rfl;have e1:=jz (D2 L.length wr (by omega));clear D J I g3 hL f7 g2 f9;go_wp2_with fail
   refine e1.mono ?_;rintro e w6 ⟨vp,rfl,b1,f5⟩;obtain⟨PL,a1⟩:=je (arr (mK L.length) (ME L.length));have c7:PL.length=mK L.length:=by rw[a1];exact aB _ _
   rw[<- G3,<- a1,<- c7] at b1;have h6:Byn PL:=λx hx=>by
    rw[a1] at hx;unfold arr at hx;obtain⟨q,_,rfl⟩:=List.mem_map.1 hx;exact UE _ _ _
   have g8:PL.length<=72:=by rw[c7];unfold mK UD;omega
   obtain⟨bl,D,J⟩:=HF.out;have m5:g+1+1+1+1<wr.heap.size:=D.t.lt;have c3:FSh gz w w6 g L L.length:=⟨bl,D.keep f5,J⟩;have a0:=jz (D6 gz w w6 g L.length L PL vp c3 (Sn.own b1) k1 h6 (λh0 b e=>.inr (by have:=X4 b1 h0 b e;omega)) (by omega) HK);have m1:=jz a1;clear c3 D J h6 b1 f5 a1 c7 g8 m5 m4 HF e1;go_wp2_with fail
   refine a0.mono ?_;rintro e w7 ⟨rfl,a8⟩;obtain⟨bl,D,J⟩:=a8;obtain⟨S,hS⟩:=je (lB (L++PL));rw[<- hS] at D;have U:=jz D;have f0:=jz hS;clear D J hS a0;go_upto_region 12 with (refine al 25 _ rfl rfl l6 ?_)
   obtain⟨gd,a9⟩:=je w7.heap.size;obtain⟨w8,a4⟩:=je (w7.alloc (.cells z8x32 25));have q0:g+1+1+1+1<gd:=by rw[a9];exact U.t.lt
   have d5:Hid (AB w8 gd 25 32 (c8 λq=>if q<4*0+0 then l3 S q else 0)/\AB w8 gz 25 32 (c8 λ_=>0)/\Bw w w8):=jz (by
    have hb:Bw w7 w8:=by rw[a4];exact(ji _ w7).alloc (ja _) _
    have f8:=U.keep hb
    refine⟨?_,f8.z,f8.be⟩
    have hB:AB w8 gd 25 32 (c8 λ_=>0):=by rw[a4,a9];exact Blk.new _ _ _
    exact hB.ext (λq _=>by show _=Value.int .u8 ((if q<4*0+0 then l3 S q else 0:Nat):Int);rw[jQ (by omega)];rfl))
   have e8:Hid (AB w8 (g+1) 253 8 (c32 S)):=jz (by
    have hb:Bw w7 w8:=by rw[a4];exact(ji _ w7).alloc (ja _) _
    exact U.s.keep hb)
   have f1:=jz (And.intro U.zl U.lo);have n2:Hid (WsF S):=jz (by rw[f0.out];exact KJ _);rw[<- a4];simp only[<- a9];clear a4 a9 U;have h8:=e8.range;have f3:(prog.info? 253).map (·.size)=some (arr 8 (c32 S)).length:=by rw[aB];kernel_rfl
   go_wp2_with (refine ld 253 _ rfl rfl rfl h8 underlying253 rfl f3 ?_)
   obtain⟨O,hO⟩:=je ((arr 8 (c32 S)).toArray);have HO:Hid (∀ j,j<8->O[j]? = some (.int .u32 (S j:Nat))):=jz (λj hj=>by rw[hO,jf,fJ _ hj];rfl);rw[<- hO];clear hO h8 f3 e8;go_loopw [31] (λi wr=>∃ k:Nat,k<=8/\i = .int .i64 (k:Int)/\Hid (AB wr gd 25 32 (c8 λq=>if q<4*k+0 then l3 S q else 0)/\AB wr gz 25 32 (c8 λ_=>0)/\Bw w wr)) (λi _=>8-(intOf i).toNat)
   case atStart=>exact⟨0,j0 _,rfl,d5⟩
   case round=>
    clear d5;obtain⟨k,hk,rfl,K⟩:=hrel;rcases jo k 8 with R|f9
    ·have m6:(0:Int)<=k:=by omega
     have m8:(k:Int)<8:=by omega
     have m3:∀ W,(Instr.index 253 (.agg O) (.int .i64 (k:Int))).run prog W = .ok (.int .u32 (S k:Nat)) W:=fD _ k underlying253 R (λw=>by kernel_rfl) (λw=>by kernel_rfl) (HO k R);go_wp2_with fail
     clear m3;go_loopw [35] (λi wr=>∃ j:Nat,j<=4/\i = .int .i64 (j:Int)/\Hid (AB wr gd 25 32 (c8 λq=>if q<4*k+j then l3 S q else 0)/\AB wr gz 25 32 (c8 λ_=>0)/\Bw w wr)) (λi _=>4-(intOf i).toNat)
     case atStart=>exact⟨0,j0 _,rfl,K⟩
     case round=>
      clear K;obtain⟨j,hj,rfl,K⟩:=hrel;rcases jo j 4 with m9|g1
      ·have q1:(0:Int)<=j:=by omega
       have q2:(j:Int)<4:=by omega
       have n3:wr.cell? ⟨gd,4*k+j,none⟩=some (.int .u8 0):=by
        rw[K.out.1.cell (i:=4*k+j) (by omega)];show some (Value.int .u8 ((if 4*k+j<4*k+j then l3 S (4*k+j) else 0:Nat):Int))=_;rw[jQ (Nat.lt_irrefl _)];rfl
       have n6:=K.out.1.frozen (4*k+j);have d0:=K.out.1.set (4*k+j) (.int .u8 (l3 S (4*k+j):Nat));rw[gY,<- PW S k j m9] at d0;have c4:Hid (AB (wr.setCell ⟨gd,4*k+j,none⟩ (.int .u8 (((S k:Nat):Int)/2 ^ (24-8*j) % 256))) gd 25 32 (c8 λq=>if q<4*k+(j+1) then l3 S q else 0)/\AB (wr.setCell ⟨gd,4*k+j,none⟩ (.int .u8 (((S k:Nat):Int)/2 ^ (24-8*j) % 256))) gz 25 32 (c8 λ_=>0)/\Bw w (wr.setCell ⟨gd,4*k+j,none⟩ (.int .u8 (((S k:Nat):Int)/2 ^ (24-8*j) % 256)))):=jz ⟨d0.ext (λq _=>by
        show Value.int .u8 ((cO (λq=>if q<4*k+j then l3 S q else 0) (4*k+j) (l3 S (4*k+j)) q:Nat):Int)=Value.int .u8 ((if q<4*k+(j+1) then l3 S q else 0:Nat):Int)
        congr 2
        unfold cO
        by_cases e:q=4*k+j
        ·rw[jP e,jP (by omega),e]
        ·rw[jQ e]
         show(if q<4*k+j then l3 S q else 0)=_
         by_cases e2:q<4*k+j
         ·rw[jP e2,jP (by omega)]
         ·rw[jQ e2,jQ (by omega)]),K.out.2.1.far (by have:=f1.out.1;show gz≠gd;omega) _,K.out.2.2.setCell (by have:=f1.out.2;show w.heap.size<=gd;omega) _⟩
       have q5:(4:Int)*k+j<32:=by omega
       have q6:(0:Int)<=4*(k:Int)+j:=by omega
       clear d0 K;go_wp2_with fail
       exact⟨⟨j+1,by omega,by go_num,c4⟩,by simp[intOf];omega⟩
      ·have g0:j=4:=by omega
       have q3:¬(j:Int)<4:=by omega
       have c4:Hid (AB wr gd 25 32 (c8 λq=>if q<4*(k+1)+0 then l3 S q else 0)/\AB wr gz 25 32 (c8 λ_=>0)/\Bw w wr):=jz (by
        have h1:=K.out
        rw[g0] at h1
        exact h1)
       clear K g0 hj g1;go_wp2_with fail
       exact⟨⟨k+1,by omega,by go_num,c4⟩,by simp[intOf];omega⟩
    ·have q4:k=8:=by omega
     have n0:¬(k:Int)<8:=by omega
     have hD:AB wr gd 25 32 (c8 (l3 S)):=K.out.1.ext (λq hq=>by
      show Value.int .u8 ((if q<4*k+0 then l3 S q else 0:Nat):Int)=Value.int .u8 (l3 S q:Nat)
      rw[jP (by omega)])
     have h7:=hD.range;have k2:Blk wr gz 25 z8x32:=K.out.2.1;have k0:=jz K.out.2.2;have hI:(prog.info? 25).map (·.size)=some (arr 32 (c8 (l3 S))).length:=by rw[aB];kernel_rfl
     obtain⟨M,hM⟩:=je (arr 32 (c8 (l3 S)));rw[<- hM] at h7 hI;have a2:(prog.info? 25).map (·.size)=some M.toArray.size:=by rw[js];exact hI
     have b7:z8x32.size=M.toArray.size:=by rw[hM,aL];exact aL 32 _
     have c2:M.toArray.all (·.oneCell')=true:=by rw[hM];exact bY (λ_=>rfl)
     have HM:Hid (M=n8 (nG (cQ ps))):=jz (by
      rw[hM,f0.out,m1.out,HL.out]
      unfold nG
      rw[G3])
     clear hM K hD;go_wp2_with (first
      | (refine ld 25 _ rfl rfl rfl h7 underlying25 rfl hI ?_)
      | (refine aP 25 (.tmp 2) (.tmp 51) rfl rfl rfl rfl k2 a2 b7 c2 ?_;intro w9 f2 f6 _ _;have h9:=jz f2;have k3:=jz f6;clear f2 f6))
     exact bodyPost_ret (results_cell_row rfl _ _ gz 25 _ (0,0) _ rfl h9 underlying25 rfl a2) rfl ⟨by rw[<- HM.out],k0.trans (k3.mono (by rw[e0.out];exact ja _))⟩
def tV(key:List Nat):Nat->Nat:=nth (if 64<key.length then nG key else key)
def PY(x:Nat)(f:Nat->Nat):Nat->Nat:=λk=>f k ^^^ x
def vV(x:Nat)(f:Nat->Nat)(l:List Nat):List Nat:=nG (arr 64 (PY x f)++l)
def jI(key l:List Nat):List Nat:=vV 92 (tV key) (vV 54 (tV key) l)
theorem KM{key:List Nat}(h:Byn key):bG (tV key):=λk=>by
 unfold tV;split
 ·exact lR (kO key) k
 ·exact lR h k
theorem UJ{x:Nat}{f:Nat->Nat}(D:x<256)(j:bG f):bG (PY x f):=λk=>Nat.xor_lt_two_pow (n:=8) (j k) D
theorem PZ:SlT prog 261 68 1 24:=SlT.mk' underlying261 (z:=.slice none 0 0) (by kernel_rfl) rfl (by decide)
theorem PN.one{w:Wd}{D:Value}{ps:List (Value×List Nat)}(h:PN w D ps):∀ u∈ps.map (·.1),u.oneCell'=true:=λu x=>by
 obtain⟨p,j,rfl⟩:=List.mem_map.1 x;obtain⟨A,cap,e,_⟩:=h.part p j;rw[e];rfl
theorem KN{n:Nat}{f:Nat->Nat}(h:bG f):Byn (arr n f):=λx j=>by
 unfold arr at j;obtain⟨k,_,rfl⟩:=List.mem_map.1 j;exact h k
theorem D8(x:Nat)(pf:Nat->Nat)(gp:Nat)(va:Value)(ps:List (Value×List Nat))(w:Wd)(hx:x<256)(d7:bG pf)(hB:AB w gp 243 64 (c8 pf))(hP:PN w va ps)(hn:ps.length<=100)(ht:(cQ ps).length<=800000000)(hk:TabK w):
  Wc 316 #[.int .u8 (x:Nat),va,.pointer (some ⟨gp,0,none⟩)] w (Rt w (.agg (n8 (vV x pf (cQ ps))).toArray)):=by
 obtain⟨A,cap,rfl,f6,_,_⟩:=id hP.row;have HP:=jz hP;have HK:=jz hk;have c4:=jz d7;clear hP hk d7;go_enter func316,ntmps316
 go_upto_region 1 with (refine al 25 _ rfl rfl l6 ?_)
 obtain⟨gz,a0⟩:=je w.heap.size;obtain⟨w1,a3⟩:=je (w.alloc (.cells z8x32 25));have I:Bw w w1:=by rw[a3];exact(ji _ w).alloc (ja _) _
 have c7:=hB.keep I;have a8:AB w1 gz 25 32 (c8 λ_=>0):=by rw[a3,a0];exact Blk.new _ _ _
 have d5:=hB.lt;have a7:Hid (gz=w.heap.size/\gz<w1.heap.size):=jz ⟨a0,a8.lt⟩;rw[<- a3];simp only[<- a0];have U:=jz I;have c6:=jz a8;clear a3 a0 hB a8 d5 I;have b7:=c7.range;have hI:(prog.info? 243).map (·.size)=some (arr 64 (c8 pf)).length:=by rw[aB];kernel_rfl
 obtain⟨O,hO⟩:=je (arr 64 (c8 pf));rw[<- hO] at b7 hI;have R:(prog.info? 243).map (·.size)=some O.toArray.size:=by rw[js];exact hI
 have a1:z8x64.size=O.toArray.size:=by rw[hO,aL];exact aL 64 _
 have a2:O.toArray.all (·.oneCell')=true:=by rw[hO];exact bY (λ_=>rfl)
 have HO:=jz hO;clear hO c7;go_upto_region 2 with (first
  | (refine ld 243 _ rfl rfl rfl b7 underlying243 rfl hI ?_)
  | (refine al 243 _ rfl rfl vU ?_)
  | (refine bZ (cells:=O.toArray) 243 (.tmp 6) (.tmp 8) rfl rfl (by rfl) (by rfl) R a1 a2 ?_;intro w3 V a9 e1))
 obtain⟨gf,b1⟩:=je w1.heap.size;rw[<- b1] at V ⊢;have h5:gz<gf:=by rw[b1];exact a7.out.2
 have c3:Hid (AB w3 gf 243 64 (c8 λq=>if q<0 then pf q ^^^ x else pf q)/\AB w3 gz 25 32 (c8 λ_=>0)/\Bw w w3):=jz (by
  rw[HO.out] at V
  exact⟨AB.ext V (λq _=>by show _=Value.int .u8 ((if q<0 then pf q ^^^ x else pf q:Nat):Int);rw[jQ (by omega)];rfl),c6.keep a9,aA U a9⟩)
 clear V a9 e1 b1 b7 hI R a1 a2 U c6 HO;go_wp2_with fail
 go_loopw [9] (λi wr=>∃ k:Nat,k<=64/\i = .int .i64 (k:Int)/\Hid (AB wr gf 243 64 (c8 λq=>if q<k then pf q ^^^ x else pf q)/\AB wr gz 25 32 (c8 λ_=>0)/\Bw w wr)) (λi _=>64-(intOf i).toNat)
 case atStart=>exact⟨0,j0 _,rfl,c3⟩
 case round=>
  clear c3;obtain⟨k,hk,rfl,D⟩:=hrel;rcases jo k 64 with f5|g1
  ·have g2:(0:Int)<=k:=by omega
   have g3:(k:Int)<64:=by omega
   have f9:wr.cell? ⟨gf,k,none⟩=some (.int .u8 (pf k:Nat)):=by
    rw[D.out.1.cell f5];show some (Value.int .u8 ((if k<k then pf k ^^^ x else pf k:Nat):Int))=_;rw[jQ (Nat.lt_irrefl _)]
   have g0:=D.out.1.frozen k;have h0:=u8_xor_nat (pf k) x (c4 k) hx;have c2:=D.out.1.set k (.int .u8 (pf k ^^^ x:Nat));rw[gY] at c2;have f2:Hid (AB (wr.setCell ⟨gf,k,none⟩ (.int .u8 (pf k ^^^ x:Nat))) gf 243 64 (c8 λq=>if q<k+1 then pf q ^^^ x else pf q)/\AB (wr.setCell ⟨gf,k,none⟩ (.int .u8 (pf k ^^^ x:Nat))) gz 25 32 (c8 λ_=>0)/\Bw w (wr.setCell ⟨gf,k,none⟩ (.int .u8 (pf k ^^^ x:Nat)))):=jz ⟨c2.ext (λq _=>by
    show Value.int .u8 ((cO (λq=>if q<k then pf q ^^^ x else pf q) k (pf k ^^^ x) q:Nat):Int)=Value.int .u8 ((if q<k+1 then pf q ^^^ x else pf q:Nat):Int)
    congr 2
    unfold cO
    by_cases e:q=k
    ·rw[jP e,jP (by omega),e]
    ·rw[jQ e]
     show(if q<k then pf q ^^^ x else pf q)=_
     by_cases e2:q<k
     ·rw[jP e2,jP (by omega)]
     ·rw[jQ e2,jQ (by omega)]),D.out.2.1.far (by show gz≠gf;omega) _,D.out.2.2.setCell (by have:=a7.out.1;show w.heap.size<=gf;omega) _⟩
   clear c2 D;go_wp2_with fail
   exact⟨⟨k+1,by omega,by go_num,f2⟩,by simp[intOf];omega⟩
  ·have f7:k=64:=by omega
   have g8:¬(k:Int)<64:=by omega
   have HF:Hid (AB wr gf 243 64 (c8 (PY x pf))):=jz (D.out.1.ext (λq hq=>by
    show Value.int .u8 ((if q<k then pf q ^^^ x else pf q:Nat):Int)=Value.int .u8 ((PY x pf q:Nat):Int)
    rw[jP (by omega)]
    rfl))
   have HZ:=jz D.out.2;have a6:Sn (wr.alloc (.cells #[.slice (some ⟨gf,0,none⟩) 64 64] 68)) 1 (.slice A ps.length cap) ps.length (ps.map (·.1)):=(HP.row.below D.out.2.2).alloc _;have a5:=World.ownsRow_lit (base:=w.heap.size) (e:=68) (size:=1) wr #[.slice (some ⟨gf,0,none⟩) 64 64] 1 D.out.2.2.size (by decide) rfl;have f8:=D.out.2.2.size;have a4:=HP.one;clear D;go_wp2_with (at_builtin;refine app PZ (.tmp 20) (.tmp 21) rfl (by rfl) (base:=w.heap.size) (by rfl) a5 (by rfl) a6 a4 (by unfold maxLen;omega) (by omega) (by simp;omega) ?_;intro v' w' h2 hg h4)
   have j:Bw wr w':=((ji _ wr).alloc (ja _) _).grown hg (by simp) (λg e=>by cases e;exact ja _);obtain⟨F,hF⟩:=je (arr 64 (PY x pf));have Z:F.length=64:=by rw[hF];exact aB _ _
   have d0:Byn F:=by rw[hF];exact KN (UJ hx c4)
   have e0:PN w' v' ((.slice (some ⟨gf,0,none⟩) 64 64,F) :: ps):=⟨by
    have:=Sn.own h2
    rw[show 1+ps.length=((.slice (some ⟨gf,0,none⟩) 64 64,F) :: ps:List (Value×List Nat)).length from by simp;omega] at this
    exact this,λp hp=>by
    rcases List.mem_cons.1 hp with rfl|hp
    ·show Sn w' 1 (.slice (some ⟨gf,0,none⟩) 64 64) F.length (n8 F)
     rw[Z]
     refine⟨some ⟨gf,0,none⟩,64,rfl,ja _,by rw[aS,Z],λ_=>⟨gf,0,rfl,?_⟩⟩
     have h3:=(HF.keep j).range
     rw[hF,G3]
     exact h3
    ·exact(HP.part p hp).below (aA HZ.out.2 j),λp hp=>by
    rcases List.mem_cons.1 hp with rfl|hp
    ·exact d0
    ·exact HP.byn p hp⟩
   have J:cQ ((.slice (some ⟨gf,0,none⟩) 64 64,F) :: ps)=F++cQ ps:=by unfold cQ;rw[List.flatMap_cons]
   have c5:=jz (KK v' ((.slice (some ⟨gf,0,none⟩) 64 64,F) :: ps) w' e0 (by simp;omega) (by rw[J,jj,Z];omega) (HK.below (aA HZ.out.2 j)));have d1:=HZ.out.1.keep j;have U:=jz (aA HZ.out.2 j);have HC:Hid (nG (cQ ((.slice (some ⟨gf,0,none⟩) 64 64,F) :: ps))=vV x pf (cQ ps)):=jz (by rw[J,hF];rfl);clear e0 J d0 Z hF a5 a6 a4 h2 hg h4 HF HZ j;refine c5.mono ?_;rintro e w7 ⟨rfl,b0⟩;rw[HC.out];have f1:Blk w7 gz 25 z8x32:=d1.keep b0;have e8:=jz (aA U b0);obtain⟨M,hM⟩:=je (n8 (vV x pf (cQ ps)));have K:M.length=32:=by rw[hM,aS];exact dF _
   have R:(prog.info? 25).map (·.size)=some M.toArray.size:=by rw[js,K];kernel_rfl
   have a1:z8x32.size=M.toArray.size:=by rw[show M.toArray.size=32 from by rw[js,K]];exact aL 32 _
   have a2:M.toArray.all (·.oneCell')=true:=by rw[hM];exact all_oneCell_toArray (dU _)
   rw[<- hM];have HM:=jz hM;clear hM b0 d1 c5 K;go_wp2_with (refine aP 25 (.tmp 5) (.tmp 23) rfl rfl rfl rfl f1 R a1 a2 ?_;intro w9 c9 d2 _ _;have f0:=jz c9;have f3:=jz d2;clear c9 d2)
   exact bodyPost_ret (results_cell_row rfl _ _ gz 25 _ (0,0) _ rfl f0 underlying25 rfl R) rfl ⟨by rw[<- HM.out],e8.trans (f3.mono (by have:=a7.out.1;omega))⟩
theorem XE{w:Wd}{gi:Nat}{l:List Nat}(n:Nat)(j:l.length=n)(x:w.rangeAt gi 0 (n8 l)):Sn w 1 (.slice (some ⟨gi,0,none⟩) n n) l.length (n8 l):=by
 subst j;exact⟨some ⟨gi,0,none⟩,_,rfl,ja _,by rw[aS,Nat.mul_one],λ_=>⟨gi,0,rfl,x⟩⟩
theorem X5{w:Wd}{h gi:Nat}{l:List Nat}(n:Nat)(K:l.length=n)(O:w.rangeAt gi 0 (n8 l))(J:w.cell? ⟨h,0,none⟩=some (.slice (some ⟨gi,0,none⟩) n n))(hb:Byn l):PN w (.slice (some ⟨h,0,none⟩) 1 1) [(.slice (some ⟨gi,0,none⟩) n n,l)]:=
 ⟨⟨some ⟨h,0,none⟩,1,rfl,ja _,rfl,λ_=>⟨h,0,rfl,λj u D=>by
  have I:j=0:=by
   have:=(List.getElem?_eq_some_iff.1 D).1
   simp at this
   omega
  subst I
  have:some (Value.slice (some ⟨gi,0,none⟩) n n)=some u:=D
  injection this with this
  rw[<- this]
  exact J⟩⟩,λp x=>by
  rw[List.mem_singleton.1 x]
  exact XE n K O,λp x=>by
  rw[List.mem_singleton.1 x]
  exact hb⟩
theorem vW(vk va:Value)(key:List Nat)(ps:List (Value×List Nat))(w:Wd)(hs:Sn w 1 vk key.length (n8 key))(d1:Byn key)(f3:key.length<=64)(hP:PN w va ps)(hn:ps.length<=100)(ht:(cQ ps).length<=800000000)(hk:TabK w):
  Wc 281 #[vk,va] w (Rt w (.agg (n8 (jI key (cQ ps))).toArray)):=by
 obtain⟨Ak,f6,rfl,f2,_,_⟩:=id hs;have HP:=jz hP;have HK:=jz hk;have HS:=jz hs;have c3:=jz d1;clear hP hk hs d1;go_enter func281,ntmps281
 go_upto_region 2 with (first
  | (refine al 25 _ rfl rfl l6 ?_)
  | (refine al 243 _ rfl rfl vU ?_))
 obtain⟨gz,a4⟩:=je w.heap.size;obtain⟨w1,a9⟩:=je ((w.alloc (.cells z8x32 25)).alloc (.cells z8x64 243));have x:Hid (AB w1 gz 25 32 (c8 λ_=>0)/\AB w1 (gz+1) 243 64 (c8 λ_=>0)/\Bw w w1):=jz (by
  rw[a9,a4]
  exact⟨(Blk.new _ _ _).alloc _,Blk.newAt _ _ _ _ (by simp),((ji _ w).alloc (ja _) _).alloc (by simp) _⟩)
 rw[<- a9];simp only[World.size_alloc,<- a4];have b1:=jz a4;clear a9 a4;have f7:(key.length:Int)<=64:=by omega
 have d5:=HS.below x.out.2.2;have d7:w1.there (gz+1) 0 key.length:=λj hj=>⟨by
  rw[Nat.zero_add,x.out.2.1.cell (i:=j) (by omega)]
  rfl,x.out.2.1.frozen _⟩
 have a6:=dU key;go_upto_region 6 with (refine cp (.tmp 18) (.tmp 19) rfl (by rfl) (b:=gz+1) (off:=0) (dn:=64) (dc:=64) (by rfl) (by rfl) underlying68 (by kernel_rfl) d5 f3 d7 a6 ?_)
 obtain⟨w2,b0⟩:=je (w1.setCells (gz+1) 0 (n8 key));have D:Hid (AB w2 gz 25 32 (c8 λ_=>0)/\AB w2 (gz+1) 243 64 (c8 (tV key))/\Bw w w2):=jz (by
  rw[b0]
  refine⟨(bE (by omega) _ _ _).trans x.out.1,(x.out.2.1.setL key).ext (λq hq=>?_),x.out.2.2.trans (aU (by rw[b1.out];omega) _ _ _).1⟩
  show Value.int .u8 ((if 0<=q/\q<0+key.length then nth key (q-0) else 0:Nat):Int)=Value.int .u8 ((tV key q:Nat):Int)
  congr 2
  unfold tV
  rw[jQ (show ¬64<key.length by omega)]
  by_cases e:q<key.length
  ·rw[jP (by omega),Nat.sub_zero]
  ·rw[jQ (by omega)]
   unfold nth
   rw[jn,List.getElem?_eq_none (by omega)]
   rfl)
 rw[<- b0];clear b0 d5 d7 a6 x;have b7:=jz (D8 54 (tV key) (gz+1) va ps w2 (by omega) (KM c3) D.out.2.1 (HP.below D.out.2.2) hn ht (HK.below D.out.2.2));go_wp2_with fail
 refine b7.mono ?_;rintro e w3 ⟨rfl,a2⟩;have a0:Hid (AB w3 gz 25 32 (c8 λ_=>0)/\AB w3 (gz+1) 243 64 (c8 (tV key))/\Bw w w3):=jz ⟨D.out.1.keep a2,D.out.2.1.keep a2,aA D.out.2.2 a2⟩;clear a2 D b7;obtain⟨I,hI⟩:=je (vV 54 (tV key) (cQ ps));have a1:I.length=32:=by rw[hI];exact dF _
 have c6:Byn I:=by rw[hI];exact kO _
 rw[<- hI];have J:(prog.info? 25).map (·.size)=some (n8 I).toArray.size:=by rw[js,aS,a1];kernel_rfl
 have V:z8x32.size=(n8 I).toArray.size:=by rw[show(n8 I).toArray.size=32 from by rw[js,aS,a1]];exact aL 32 _
 have Z:(n8 I).toArray.all (·.oneCell')=true:=all_oneCell_toArray (dU _);have HI:=jz hI;obtain⟨O,hO⟩:=je ((n8 I).toArray);rw[<- hO] at J V Z ⊢;have HO:=jz hO;clear hI hO;go_upto_region 8 with (first
  | (refine al 25 _ rfl rfl l6 ?_)
  | (refine bZ (cells:=O) 25 (.tmp 8) (.tmp 24) rfl rfl (by rfl) (by rfl) J V Z ?_;intro w4 a7 a3 f5))
 obtain⟨gi,d0⟩:=je w3.heap.size;rw[<- d0] at a7 ⊢;obtain⟨w5,a5⟩:=je (w4.alloc (.cells #[.slice (some ⟨gi,0,none⟩) 32 32] 68));have K:Bw w4 w5:=by rw[a5];exact(ji _ w4).alloc (ja _) _
 have R:=aA (aA a0.out.2.2 a3) K;have d2:w5.rangeAt gi 0 (n8 I):=by
  have h1:Blk w4 gi 25 O:=a7;have:=(h1.keep K).range;rw[HO.out,jt] at this;exact this
 have c9:w5.cell? ⟨w4.heap.size,0,none⟩=some (.slice (some ⟨gi,0,none⟩) 32 32):=by rw[a5];exact((Blk.new w4 _ _).cell 0).trans rfl
 have c2:=jz (D8 92 (tV key) (gz+1) (.slice (some ⟨w4.heap.size,0,none⟩) 1 1) [(.slice (some ⟨gi,0,none⟩) 32 32,I)] w5 (by omega) (KM c3) ((a0.out.2.1.keep a3).keep K) (X5 32 a1 d2 c9 c6) (by simp) (by unfold cQ;simp;omega) (HK.below R));have c4:=jz (And.intro ((a0.out.1.keep a3).keep K) R);have HC:Hid (vV 92 (tV key) (cQ [(.slice (some ⟨gi,0,none⟩) 32 32,I)])=jI key (cQ ps)):=jz (by
  unfold cQ
  rw[List.flatMap_singleton,HI.out]
  rfl)
 have f1:=jz a5;clear a5 K R d2 c9 a7 a3 f5 a0 d0 J V Z HO HI a1 c6;go_wp2_with fail
 rw[<- f1.out];refine c2.mono ?_;rintro e w7 ⟨rfl,a8⟩;rw[HC.out];have e8:Blk w7 gz 25 z8x32:=c4.out.1.keep a8;have e0:=jz (aA c4.out.2 a8);obtain⟨M,hM⟩:=je (n8 (jI key (cQ ps)));have U:M.length=32:=by rw[hM,aS];exact dF _
 have J:(prog.info? 25).map (·.size)=some M.toArray.size:=by rw[js,U];kernel_rfl
 have V:z8x32.size=M.toArray.size:=by rw[show M.toArray.size=32 from by rw[js,U]];exact aL 32 _
 have Z:M.toArray.all (·.oneCell')=true:=by rw[hM];exact all_oneCell_toArray (dU _)
 rw[<- hM];have HM:=jz hM;clear hM a8 c2 U;go_wp2_with (refine aP 25 (.tmp 4) (.tmp 28) rfl rfl rfl rfl e8 J V Z ?_;intro w9 c5 c7 _ _;have e1:=jz c5;have f0:=jz c7;clear c5 c7)
 exact bodyPost_ret (results_cell_row rfl _ _ gz 25 _ (0,0) _ rfl e1 underlying25 rfl J) rfl ⟨by rw[<- HM.out],e0.trans (f0.mono (by rw[b1.out];exact ja _))⟩
def bn(s:ByteArray):List Nat:=s.data.toList.map (·.toNat)
theorem oW(s:ByteArray):(bn s).length=s.size:=by unfold bn;rw[List.length_map];rfl
theorem X6(s:ByteArray):Byn (bn s):=λx j=>by
 unfold bn at j;obtain⟨b,_,rfl⟩:=List.mem_map.1 j;exact b.toNat_lt
theorem D9(s:ByteArray)(w:Wd)(O:s.size<=1000000):
  ∃ v w',(convert 9 68 (.string s)).run prog w = .ok v w'/\Sn w' 1 v (bn s).length (n8 (bn s))/\Bw w w':=by
 have K:=run_bytes_of_string (P:=prog) w 9 68 5 s underlying9 underlying68 underlying5;have D:=grownCap_ge w s.size 0 5;obtain⟨cap,x⟩:=je (grownCap w s.size 0 5);rw[<- x] at K D;refine⟨_,_,K,?_,(ji _ w).drew.alloc (ja _) _⟩;rw[oW];refine⟨_,_,rfl,D,by rw[aS,oW,Nat.mul_one],λ_=>⟨w.heap.size,0,rfl,λj u J=>?_⟩⟩;refine(cell_of_row _ w.heap.size (0+j) (bytesRow s cap) 5 _ (heap_alloc_new w.drew _)).trans ?_;have I:j<s.data.size:=by
  have:=(List.getElem?_eq_some_iff.1 J).1;rw[aS,oW] at this;exact this
 rw[Nat.zero_add,<- J];unfold bytesRow n8 bn;rw[Array.getElem?_append_left (by rw[Array.size_map];exact I)];simp[List.getElem?_map,Array.getElem?_map,I];rfl
theorem G4{w:Wd}{h:Nat}(ps:List (Value×List Nat))(n:Nat)(j:ps.length=n)(D:w.rangeAt h 0 (ps.map (·.1)))(x:∀ p∈ps,Sn w 1 p.1 p.2.length (n8 p.2))(hb:∀ p∈ps,Byn p.2):PN w (.slice (some ⟨h,0,none⟩) n n) ps:=by
 subst j;exact⟨⟨some ⟨h,0,none⟩,_,rfl,ja _,by simp,λ_=>⟨h,0,rfl,D⟩⟩,x,hb⟩
theorem KO{w:Wd}{base e s n:Nat}{v:Value}{D:Wv}(h:w.ownsRow base e s v n D):∀ b,v.ownBlock=some b->base<=b:=λb e=>by
 obtain⟨J,h|⟨I,j,x,rfl,hb,_⟩⟩:=h
 ·rw[h.1] at e;cases e
 ·injection e with e
  rw[<- e];exact hb
theorem vX(vk:Value)(key:List Nat)(s:ByteArray)(n:Nat)(w:Wd)(hs:Sn w 1 vk key.length (n8 key))(d1:Byn key)(g1:key.length<=64)(k1:s.size<=100)(k0:1<=n)(hn:n<=32)(hk:TabK w):
  Wc 279 #[vk,.string s,.int .i64 n] w λe w'=>∃ v,e = .returned v/\w'.ownsRow w.heap.size 5 1 v n (n8 ((jI key (1 :: bn s)).take n))/\Bw w w':=by
 obtain⟨Ak,c2,rfl,g0,_,_⟩:=id hs;have HK:=jz hk;have HS:=jz hs;have f1:=jz d1;clear hk hs d1;have h7:(1:Int)<=n:=by omega
 have h8:(n:Int)<=32:=by omega
 obtain⟨i,hi,hz,h3,f9⟩:=info_parts (P:=prog) (e:=5) (z:=.int .u8 0) (size:=1) (bytes:=1) (by kernel_rfl);obtain⟨D,hD⟩:=je (jI key (1 :: bn s));have c5:D.length=32:=by rw[hD];exact dF _
 rw[<- hD];have HD:=jz hD;clear hD;go_enter func279,ntmps279
 go_wp2_with (at_make;refine wpList_make_own _ rfl (.const (.int .i64 0)) (.tmp 16) 68 rfl w.heap.size 5 i (.int .u8 0) 1 underlying68 hi hz h3 .i64 .i64 (n:Int) n rfl rfl rfl (by rw[f9];omega) (by unfold maxLen;omega) (ja _) ?_;intro w2 a4 hg)
 have c6:Bw w w2:=(ji _ w).grown hg (ja _) (λg e=>by cases e);clear hg;go_loopw [8,7] (λi v wr=>∃ m:Nat,(m=0/\i = .int .i64 1\/m=n/\i = .int .i64 2)/\Hid (wr.ownsRow w.heap.size 5 1 v m (n8 (D.take m))/\Bw w wr)) (λi _ _=>2-(intOf i).toNat)
 case atStart=>exact⟨0,.inl ⟨rfl,rfl⟩,jz ⟨by rw[List.take_zero];exact a4,c6⟩⟩
 case round=>
  clear a4 c6;obtain⟨m,hm,HO⟩:=hrel;obtain⟨A,cap,rfl,h5,_,_⟩:=id (Sn.own HO.out.1);rcases hm with ⟨rfl,rfl⟩|⟨rfl,rfl⟩
  ·obtain⟨w3,a1⟩:=je (wr.alloc (.cells #[.int .u8 1] 5));have c7:Bw wr w3:=by rw[a1];exact(ji _ wr).alloc (ja _) _
   obtain⟨v4,w4,c9,b1,a7⟩:=D9 s w3 (by omega);have c3:w3.rangeAt wr.heap.size 0 (n8 [1]):=by rw[a1];exact(Blk.new wr _ _).range
   have Z:Sn w3 1 (.slice (some ⟨wr.heap.size,0,none⟩) 1 1) [1].length (n8 [1]):=XE 1 rfl c3;obtain⟨A4,c4,rfl,_,_,_⟩:=id b1;have f8:=jz a1;rw[a1] at c9;have e8:=jz (aA HO.out.2 c7);have f6:=jz (Z.below a7);have f7:=jz b1;have b7:=jz a7;clear a1 c7 c3 Z b1 a7;go_wp2_with fail
   obtain⟨w5,a2⟩:=je (w4.alloc (.cells #[.slice (some ⟨wr.heap.size,0,none⟩) 1 1,.slice A4 (bn s).length c4] 68));have K:Bw w4 w5:=by rw[a2];exact(ji _ w4).alloc (ja _) _
   have d5:w5.rangeAt w4.heap.size 0 ([((.slice (some ⟨wr.heap.size,0,none⟩) 1 1,[1]):Value×List Nat),(.slice A4 (bn s).length c4,bn s)].map (·.1)):=by rw[a2];exact(Blk.new w4 _ _).range
   have a5:=jz (aA (aA e8 b7) K);have d2:PN w5 (.slice (some ⟨w4.heap.size,0,none⟩) 2 2) [(.slice (some ⟨wr.heap.size,0,none⟩) 1 1,[1]),(.slice A4 (bn s).length c4,bn s)]:=G4 _ 2 rfl d5 (λp hp=>by
    rcases List.mem_cons.1 hp with rfl|hp
    ·exact f6.below K
    ·rw[List.mem_singleton.1 hp]
     exact f7.below K) (λp hp=>by
    rcases List.mem_cons.1 hp with rfl|hp
    ·intro x hx
     rw[List.mem_singleton.1 hx]
     decide
    ·rw[List.mem_singleton.1 hp]
     exact X6 s)
   have U:cQ [(.slice (some ⟨wr.heap.size,0,none⟩) 1 1,[1]),(.slice A4 (bn s).length c4,bn s)]=1 :: bn s:=by simp[cQ]
   have J:=vW (.slice Ak key.length c2) _ key _ w5 (HS.below a5) f1 g1 d2 (by simp) (by rw[U];simp[oW];omega) (HK.below a5);rw[U,<- HD.out] at J;have J:=jz J;have f2:=jz (aK HO.out.1 (aA (aA (show Bw wr w3 by rw[f8.out];exact(ji _ wr).alloc (ja _) _) b7) K));rw[<- a2];clear c9 a2 K d5 d2 U;refine J.mono ?_;rintro e w6 ⟨rfl,a8⟩;have f0:=jz (aA a5 a8);have f3:=jz (aK f2 a8);obtain⟨O,hO⟩:=je ((n8 D).toArray);have Z:(prog.info? 25).map (·.size)=some O.size:=by rw[hO,js,aS,c5];kernel_rfl
   have d7:z8x32.size=O.size:=by rw[show O.size=32 from by rw[hO,js,aS,c5]];exact aL 32 _
   have e0:O.all (·.oneCell')=true:=by rw[hO];exact all_oneCell_toArray (dU _)
   rw[<- hO];have f5:=jz hO;clear hO a8 J;go_upto_region 8 with (first
    | (refine al 25 _ rfl rfl l6 ?_)
    | (refine bZ (cells:=O) 25 (.tmp 9) (.tmp 31) rfl rfl (by rfl) (by rfl) Z d7 e0 ?_;intro w7 a6 a9 h0))
   obtain⟨gc,d0⟩:=je w6.heap.size;rw[<- d0] at a6 ⊢;have R:=aA f0 a9;have V:=aK f3 a9;have a0:Sn w7 1 (.slice (some ⟨gc,0,none⟩) n 32) n (n8 (D.take n)):=by
    have g8:w7.rangeAt gc 0 (n8 D):=by
     have h1:Blk w7 gc 25 O:=a6;have:=h1.range;rw[f5.out,jt] at this;exact this
    refine⟨some ⟨gc,0,none⟩,32,rfl,hn,by rw[aS,jv];omega,λ_=>⟨gc,0,rfl,λj u hj=>g8 j u ?_⟩⟩;rw[<- KI,List.getElem?_take] at hj;split at hj
    ·exact hj
    ·cases hj
   have h6:prog.arrayLen 25=32:=by kernel_rfl
   have a3:=dU (D.take n);have I:=R.size;clear a6 a9 h0 Z d7 e0 d0;have b0:n<32\/n=32:=by omega
   rcases b0 with hq|hq
   ·have g3:(n:Int)<32:=by omega
    have g2:min (32:Int) (n:Int)=n:=by omega
    go_wp2_with (at_builtin;refine app tQ (.tmp 32) (.tmp 38) rfl (by rfl) (base:=w.heap.size) (by rfl) V (by rfl) a0 a3 (by unfold maxLen;omega) (by omega) I ?_;intro v' w' h2 hg h4)
    refine⟨⟨n,.inr ⟨rfl,rfl⟩,jz ⟨?_,R.grown hg I (λg e=>KO HO.out.1 g e)⟩⟩,by simp[intOf]⟩;rw[List.take_zero,Nat.zero_add] at h2;exact h2
   ·have g3:¬(n:Int)<32:=by omega
    have g2:min (32:Int) (n:Int)=32:=by omega
    have e1:Sn w7 1 (.slice (some ⟨gc,0,none⟩) 32 32) 32 (n8 (D.take n)):=by
     have h:=a0;simp only[hq] at h ⊢;exact h
    have HQ:=jz hq;clear a0 hq;go_wp2_with (at_builtin;refine app tQ (.tmp 32) (.tmp 38) rfl (by rfl) (base:=w.heap.size) (by rfl) V (by rfl) e1 a3 (by unfold maxLen;omega) (by omega) I ?_;intro v' w' h2 hg h4)
    refine⟨⟨n,.inr ⟨rfl,rfl⟩,jz ⟨?_,R.grown hg I (λg e=>KO HO.out.1 g e)⟩⟩,by simp[intOf]⟩;rw[List.take_zero,Nat.zero_add] at h2;rw[show w'.ownsRow w.heap.size 5 1 v' n (n8 (D.take n))=w'.ownsRow w.heap.size 5 1 v' 32 (n8 (D.take n)) from by rw[HQ.out]];exact h2
  ·have h9:¬(m:Int)<m:=by omega
   go_wp2_with fail
   go_ret;exact⟨_,rfl,HO.out.1,HO.out.2⟩
section
variable {P : Program} {ops : Array Oper} {Q : Exit -> Act -> Wd -> Prop} {S : Wd -> Prop} {a : Act} {w : Wd} {listed : Array Bool} {fuel : Nat}
theorem kCp(i:Nat)(dst:Option Tmp){dT sT elem:TypeId}{p q:Operand}{b off dn dc n:Nat}{v:Value}{x:Wv}(U:P.underlying dT=some (.slice elem))(hs:(P.info? elem).map (·.size)=some 1)(V:Sn w 1 v n x)(J:n<=dn)(ht:w.there b off n)(h1:∀ u∈x,u.oneCell'=true)(hS:S (w.setCells b off x))
  {o:Oper} (K:ops[i]? = some o:=by rfl) (j:o.dst=dst:=by rfl) (D:o.op = .call { callee:=.builtin .copy,args:=#[p,q],argTypes:=#[dT,sT] }:=by rfl) (O:a.eval p = .slice (some ⟨b,off,none⟩) dn dc:=by kernel_rfl) (R:a.eval q=v:=by kernel_rfl) (I:kOne ops listed a i=true:=by kernel_rfl)
  (h:wpAnyH P .any ops Q S fuel (listed.setIfInBounds i true) (a.put dst (goInt n)) (w.setCells b off x)):wpAnyH P .any ops Q S (fuel+1) listed a w:=
 kS i dst (goInt n) (w.setCells b off x) K j I (by
  have hrun:=nP (P:=P) (ty:=o.type) (sT:=sT) (dc:=dc) U hs V J ht h1
  unfold execOp
  simp only[D,resolve,invoke,builtin,Sem.run_bind,Sem.run_pure,Result.andThen_ok,List.map_toArray,List.map_cons,List.map_nil,O,R,hrun]) hS h
end
def z8x16:Wa:=(arr 16 (c8 λ_=>0)).toArray
theorem fE:∀ w,(zeroValue 35).run prog w = .ok (.agg z8x16) w:=λw=>by unfold z8x16;kernel_rfl
theorem BQ{l:List Nat}{n:Nat}(h:l.length=n):n8 l=arr n (c8 (nth l)):=by
 subst h;apply List.ext_getElem?;intro k;by_cases hk:k<l.length
 ·rw[G2 l k hk,fJ _ hk];rfl
 ·rw[List.getElem?_eq_none (by rw[aS];omega),List.getElem?_eq_none (by rw[aB];omega)]
def yP(key:List Nat)(s:ByteArray):List Nat:=(jI key (1 :: bn s)).take 16
theorem fX(key:List Nat)(s:ByteArray):(yP key s).length=16:=by
 unfold yP;rw[jv,show(jI key (1 :: bn s)).length=32 from dF _];rfl
theorem P0(key l:List Nat):Byn (jI key l):=kO _
theorem EA(key:List Nat)(s:ByteArray):Byn (yP key s):=λx j=>P0 _ _ x (j7 j)
theorem UK(vk:Value)(key:List Nat)(s:ByteArray)(w:Wd)(hs:Sn w 1 vk key.length (n8 key))(a6:Byn key)(c4:key.length<=64)(c7:s.size<=100)(hk:TabK w):
  Wc 280 #[vk,.string s] w (Rt w (.agg (n8 (yP key s)).toArray)):=by
 obtain⟨Ak,O,rfl,c3,_,_⟩:=id hs;have HK:=jz hk;have HS:=jz hs;have c2:=jz a6;clear hk hs a6;go_enter func280,ntmps280
 go_upto_region 2 with (refine al 35 _ rfl rfl fE ?_)
 obtain⟨gz,K⟩:=je w.heap.size;obtain⟨w1,a0⟩:=je ((w.alloc (.cells z8x16 35)).alloc (.cells z8x16 35));have I:Hid (AB w1 gz 35 16 (c8 λ_=>0)/\AB w1 (gz+1) 35 16 (c8 λ_=>0)/\Bw w w1):=jz (by
  rw[a0,K]
  exact⟨(Blk.new _ _ _).alloc _,Blk.newAt _ _ _ _ (by simp),((ji _ w).alloc (ja _) _).alloc (by simp) _⟩)
 rw[<- a0];simp only[World.size_alloc,<- K];have a3:=jz K;clear a0 K;have c9:prog.arrayLen 35=16:=by kernel_rfl
 obtain⟨wS,a2⟩:=je w1.drew;have D:Hid (AB wS gz 35 16 (c8 λ_=>0)/\AB wS (gz+1) 35 16 (c8 λ_=>0)/\Bw w wS):=jz (by rw[a2];exact⟨I.out.1,I.out.2.1,I.out.2.2.drew⟩);have b1:=jz (vX (.slice Ak key.length O) key s 16 wS (HS.below D.out.2.2) c2 c4 c7 (by omega) (by omega) (HK.below D.out.2.2));refine kZ (n:=5) (λW=>True) trivial (h:=λhH=>?_);rw[<- a2];clear a2 I;refine qM 1 (.slice Ak key.length O) ?_;refine qM 2 (.string s) ?_;refine qT 0 (.slice (some ⟨gz+1,0,none⟩) 16 16) ?_;refine kF 3 (some 9) ((b1).mono ?_);rintro e w2 ⟨v,rfl,R,J⟩;refine⟨_,rfl,trivial,λhH=>?_⟩;simp only[jq];have x:Hid (AB w2 gz 35 16 (c8 λ_=>0)/\AB w2 (gz+1) 35 16 (c8 λ_=>0)/\Bw w w2):=jz ⟨D.out.1.keep J,D.out.2.1.keep J,aA D.out.2.2 J⟩;have a8:w2.there (gz+1) 0 16:=λj hj=>⟨by
  rw[Nat.zero_add,x.out.2.1.cell (i:=j) hj]
  rfl,x.out.2.1.frozen _⟩
 refine kCp 4 (some 10) (dn:=16) (dc:=16) underlying68 (by kernel_rfl) (Sn.own R) (ja _) a8 (dU _) trivial (h:=?_);simp only[jq];refine kE (h:=?_);obtain⟨w3,a1⟩:=je (w2.setCells (gz+1) 0 (n8 ((jI key (1 :: bn s)).take 16)));have U:Hid (AB w3 gz 35 16 (c8 λ_=>0)/\AB w3 (gz+1) 35 16 (c8 (nth (yP key s)))/\Bw w w3):=jz (by
  rw[a1]
  refine⟨(bE (by omega) _ _ _).trans x.out.1,(x.out.2.1.setL _).ext (λq hq=>?_),x.out.2.2.trans (aU (by rw[a3.out];omega) _ _ _).1⟩
  show Value.int .u8 ((if 0<=q/\q<0+(yP key s).length then nth (yP key s) (q-0) else 0:Nat):Int)=_
  rw[jP (by rw[fX];omega),Nat.sub_zero]
  rfl)
 rw[<- a1];clear a1 a8 R J x D hH;have Z:=U.out.2.1.range;rw[<- BQ (fX key s)] at Z;obtain⟨M,hM⟩:=je (n8 (yP key s));rw[<- hM] at Z;have V:M.length=16:=by rw[hM,aS];exact fX _ _
 have hI:(prog.info? 35).map (·.size)=some M.length:=by rw[V];kernel_rfl
 have a7:(prog.info? 35).map (·.size)=some M.toArray.size:=by rw[js];exact hI
 have c5:z8x16.size=M.toArray.size:=by rw[show M.toArray.size=16 from by rw[js,V]];exact aL 16 _
 have c6:M.toArray.all (·.oneCell')=true:=by rw[hM];exact all_oneCell_toArray (dU _)
 have b0:Blk w3 gz 35 z8x16:=U.out.1;have HM:=jz hM;clear hM V;go_wp2_with (first
  | (refine ld 35 _ rfl rfl rfl Z underlying35 rfl hI ?_)
  | (refine aP 35 (.tmp 4) (.tmp 11) rfl rfl rfl rfl b0 a7 c5 c6 ?_;intro w9 a4 a5 _ _;have a9:=jz a4;have b7:=jz a5;clear a4 a5))
 exact bodyPost_ret (results_cell_row rfl _ _ gz 35 _ (0,0) _ rfl a9 underlying35 rfl a7) rfl ⟨by rw[<- HM.out],U.out.2.2.trans (b7.mono (by rw[a3.out];exact ja _))⟩
end
end Go.Proofs.YtiaigidbcljblaaGreatDoor
