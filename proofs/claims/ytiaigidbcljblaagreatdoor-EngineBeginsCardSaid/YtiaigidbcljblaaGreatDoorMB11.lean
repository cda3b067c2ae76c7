import Derived.Test.YtiaigidbcljblaaGreatDoorMB6
import Derived.Test.YtiaigidbcljblaaGreatDoorMB4
import Derived.Laws.OwnMore
import Derived.Laws.IdiomStrings
import Derived.Lib.AppendStr
set_option linter.unusedVariables false
set_option linter.unusedSimpArgs false
set_option maxRecDepth 100000
set_option maxHeartbeats 40000000
namespace Go.Proofs.YtiaigidbcljblaaGreatDoor
open Go.Proofs.Tryz
section
open Go.RowKit
attribute [local irreducible] wpQuiet wpAnyH
def shaT:List Nat:=[1116352408,1899447441,3049323471,3921009573,961987163,1508970993,2453635748,2870763221,3624381080,310598401,607225278,1426881987,1925078388,2162078206,2614888103,3248222580,3835390401,4022224774,264347078,604807628,770255983,1249150122,1555081692,1996064986,2554220882,2821834349,2952996808,3210313671,3336571891,3584528711,113926993,338241895,666307205,773529912,1294757372,1396182291,1695183700,1986661051,2177026350,2456956037,2730485921,2820302411,3259730800,3345764771,3516065817,3600352804,4094571909,275423344,430227734,506948616,659060556,883997877,958139571,1322822218,1537002063,1747873779,1955562222,2024104815,2227730452,2361852424,2428436474,2756734187,3204031479,3329325298]
def FP(i:Nat):Nat:=shaT.getD i 0
attribute [irreducible] shaT
def TabK(w:Wd):Prop:=∀ i,i<64->w.cell? ⟨1,i,none⟩=some (.int .u32 (FP i:Nat))
theorem TabK.below{w w':Wd}(h:TabK w)(hb:Bw w w'):TabK w':=λi hi=>j9 hb (h i hi)
def yE(e:Nat):Nat:=(fM e 6 ^^^ fM e 11) ^^^ fM e 25
def JA(a:Nat):Nat:=(fM a 2 ^^^ fM a 13) ^^^ fM a 22
def chF(e f g:Nat):Nat:=(e &&& f) ^^^ ((4294967295 ^^^ e) &&& g)
def ST(a b c:Nat):Nat:=((a &&& b) ^^^ (a &&& c)) ^^^ (b &&& c)
theorem uQ{a b:Nat}(hb:b<4294967296):a &&& b<4294967296:=Nat.and_lt_two_pow (n:=32) a hb
def rt1(v:Nat->Nat)(k x:Nat):Nat:=m32 (m32 (m32 (m32 (v 7+yE (v 4))+chF (v 4) (v 5) (v 6))+FP k)+x)
def rt2(v:Nat->Nat):Nat:=m32 (JA (v 0)+ST (v 0) (v 1) (v 2))
def rnd(v:Nat->Nat)(k x i:Nat):Nat:=if i=0 then m32 (rt1 v k x+rt2 v) else if i=4 then m32 (v 3+rt1 v k x) else v (i-1)
theorem WH(v:Nat->Nat)(k x:Nat):rt1 v k x=m32 (m32 (m32 (m32 (v 7+yE (v 4))+chF (v 4) (v 5) (v 6))+FP k)+x):=by unfold rt1;rfl
theorem WI(v:Nat->Nat):rt2 v=m32 (JA (v 0)+ST (v 0) (v 1) (v 2)):=by unfold rt2;rfl
def rg(st b:Nat->Nat):Nat->Nat->Nat
 | 0=>st
 | k+1=>rnd (rg st b k) k (wk b k)
def WsF(v:Nat->Nat):Prop:=∀ i,v i<4294967296
theorem WJ{v:Nat->Nat}(h:WsF v)(k x:Nat):WsF (rnd v k x):=λi=>by
 unfold rnd;split
 ·exact zY _
 ·split
  ·exact zY _
  ·exact h _
theorem VU{st b:Nat->Nat}(h:WsF st):∀ k,WsF (rg st b k)
 | 0=>h
 | k+1=>WJ (VU h k) k _
def gK(st b:Nat->Nat)(i:Nat):Nat:=m32 (st i+rg st b 64 i)
theorem SU(st b:Nat->Nat):WsF (gK st b):=λi=>zY _
theorem AC(st b:Nat->Nat)(k:Nat):rg st b (k+1)=rnd (rg st b k) k (wk b k):=by rw[rg]
theorem OE(v:Nat->Nat)(k x:Nat):rnd v k x 0=m32 (rt1 v k x+rt2 v)/\rnd v k x 4=m32 (v 3+rt1 v k x)/\rnd v k x 1=v 0/\rnd v k x 2=v 1/\rnd v k x 3=v 2/\rnd v k x 5=v 4/\rnd v k x 6=v 5/\rnd v k x 7=v 6:=by
 unfold rnd;exact⟨jP rfl,by rw[jQ (by omega),jP rfl],by rw[jQ (by omega),jQ (by omega)],by rw[jQ (by omega),jQ (by omega)],by rw[jQ (by omega),jQ (by omega)],by rw[jQ (by omega),jQ (by omega)],by rw[jQ (by omega),jQ (by omega)],by rw[jQ (by omega),jQ (by omega)]⟩
attribute [irreducible] rg rnd rt1 rt2
structure SBh(w0 W:Wd)(g:Nat)(b f:Nat->Nat):Prop where
 be:Bw w0 W
 lo:w0.heap.size<=g
 p:AB W g 253 8 (c32 f)
 q:AB W (g+1) 243 64 (c8 b)
 r:AB W (g+1+1) 253 8 (c32 λ_=>0)
theorem SBh.keep{w0 W W':Wd}{g:Nat}{b f:Nat->Nat}(h:SBh w0 W g b f)(hb:Bw W W'):SBh w0 W' g b f:=⟨h.be.trans (hb.mono h.be.size),h.lo,h.p.keep hb,h.q.keep hb,h.r.keep hb⟩
theorem SBh.drew{w0 W:Wd}{g:Nat}{b f:Nat->Nat}(h:SBh w0 W g b f):SBh w0 W.drew g b f:=⟨h.be.drew,h.lo,h.p,h.q,h.r⟩
theorem SBh.fn{w0 W:Wd}{g:Nat}{b f f':Nat->Nat}(h:SBh w0 W g b f)(e:f=f'):SBh w0 W g b f':=e ▸ h
theorem SBh.set{w0 W:Wd}{g:Nat}{b f:Nat->Nat}(h:SBh w0 W g b f)(i v:Nat):SBh w0 (W.setCell ⟨g,i,none⟩ (.int .u32 (v:Nat))) g b (cJ f i v):=
 ⟨h.be.setCell (by exact h.lo) _,h.lo,by have:=h.p.set i (.int .u32 (v:Nat));rwa [I5] at this,h.q.far (by show g+1≠g;omega) _,h.r.far (by show g+1+1≠g;omega) _⟩
def z32x8:Wa:=(arr 8 (c32 λ_=>0)).toArray
theorem uR:∀ w,(zeroValue 253).run prog w = .ok (.agg z32x8) w:=λw=>by unfold z32x8;kernel_rfl
theorem KM(st b:Nat->Nat)(w:Wd)(hs:WsF st)(hb:bD b)(hk:TabK w):
  Wc 173 #[.agg (arr 8 (c32 st)).toArray,.agg (arr 64 (c8 b)).toArray] w (Rt w (.agg (arr 8 (c32 (gK st b))).toArray)):=by
 have h5:=jz hs;have f6:=jz hb;have h7:=jz hk;clear hs hb hk;go_enter func173,ntmps173
 go_upto_region 1 with (refine al 253 _ rfl rfl uR ?_)
 obtain⟨g,hg⟩:=je w.heap.size;obtain⟨w1,c7⟩:=je (((w.alloc (.cells (arr 8 (c32 st)).toArray 253)).alloc (.cells (arr 64 (c8 b)).toArray 243)).alloc (.cells z32x8 253));have b7:Hid (SBh w w1 g b st):=jz (by
  rw[c7,hg]
  exact⟨(((ji _ w).alloc (ja _) _).alloc (by simp) _).alloc (by simp;omega) _,ja _,((Blk.new w _ _).alloc _).alloc _,(Blk.newAt _ _ _ _ (by simp)).alloc _,Blk.newAt _ _ _ _ (by simp)⟩)
 rw[<- c7];simp only[World.size_alloc,<- hg];clear c7 hg;have f2:=b7.q.range;have hI:(prog.info? 243).map (·.size)=some (arr 64 (c8 b)).length:=by rw[aB];kernel_rfl
 go_wp2_with (refine ld 243 _ rfl rfl rfl f2 underlying243 rfl hI ?_)
 refine(zZ b _ f6).mono ?_;rintro e w2 ⟨rfl,f1⟩;have b0:=jz (b7.keep f1);clear f1 f2 hI b7;obtain⟨L,hL⟩:=je (arr 64 (c32 (wk b)));have a5:(prog.info? 255).map (·.size)=some L.toArray.size:=by rw[hL,aK];kernel_rfl
 have a9:z32x64.size=L.toArray.size:=by rw[hL,aK];exact aK 64 _
 have a6:L.toArray.all (·.oneCell')=true:=by rw[hL];exact bW (λ_=>rfl)
 rw[<- hL];have HL:=jz hL;clear hL;go_upto_region 2 with (first
  | (refine al 255 _ rfl rfl yB ?_)
  | (refine bZ (cells:=L.toArray) 255 (.tmp 5) (.tmp 21) rfl rfl (by rfl) (by rfl) a5 a9 a6 ?_;intro w3 a2 a4 a6))
 obtain⟨h,hh⟩:=je w2.heap.size;rw[<- hh] at a2 ⊢;have a0:=jz (b0.keep a4);have a1:Hid (Blk w3 h 255 L.toArray):=jz a2;clear a2 a4 a6 hh a5 a9 b0;obtain⟨wS,J⟩:=je w3.drew;have K:Hid (SBh w wS g b st):=jz (by rw[J];exact a0.drew);have Z:Hid (Blk wS h 255 L.toArray):=jz (by rw[J];exact a1);clear a0 a1;refine kZ (n:=12) (λW=>SBh w W g b st/\Blk W h 255 L.toArray) (by rw[<- J];exact⟨K,Z⟩) (h:=λhH=>?_);simp only[p0];dsimp only [List.replicate];rw[<- J] at hH ⊢;clear J;refine qT 0 (.pointer (some ⟨g,0,none⟩)) ?_;refine qC 1 (v:=.int .u32 (st 0:Nat)) (λW V=>V.1.p.cell (i:=0) (by omega)) ?_;refine qT 2 (.pointer (some ⟨g,1,none⟩)) ?_;refine qC 3 (v:=.int .u32 (st 1:Nat)) (λW V=>V.1.p.cell (i:=1) (by omega)) ?_;refine qT 4 (.pointer (some ⟨g,2,none⟩)) ?_;refine qC 5 (v:=.int .u32 (st 2:Nat)) (λW V=>V.1.p.cell (i:=2) (by omega)) ?_;refine qT 6 (.pointer (some ⟨g,3,none⟩)) ?_;refine qC 7 (v:=.int .u32 (st 3:Nat)) (λW V=>V.1.p.cell (i:=3) (by omega)) ?_;refine qT 8 (.int .u32 (st 0:Nat)) ?_;refine qT 9 (.int .u32 (st 1:Nat)) ?_;refine qT 10 (.int .u32 (st 2:Nat)) ?_;refine qT 11 (.int .u32 (st 3:Nat)) ?_;refine kE (h:=?_);go_upto_region 3 with fail
 obtain⟨w3,f3⟩:=je wS;rw[<- f3] at K Z ⊢;have a0:=K;have a1:=Z;clear f3 wS K Z hH;obtain⟨wS,J⟩:=je w3.drew;have K:Hid (SBh w wS g b st):=jz (by rw[J];exact a0.drew);have Z:Hid (Blk wS h 255 L.toArray):=jz (by rw[J];exact a1);clear a0 a1;refine kZ (n:=12) (λW=>SBh w W g b st/\Blk W h 255 L.toArray) (by rw[<- J];exact⟨K,Z⟩) (h:=λhH=>?_);simp only[p0];dsimp only [List.replicate];rw[<- J] at hH ⊢;clear J;refine qT 0 (.pointer (some ⟨g,4,none⟩)) ?_;refine qC 1 (v:=.int .u32 (st 4:Nat)) (λW V=>V.1.p.cell (i:=4) (by omega)) ?_;refine qT 2 (.pointer (some ⟨g,5,none⟩)) ?_;refine qC 3 (v:=.int .u32 (st 5:Nat)) (λW V=>V.1.p.cell (i:=5) (by omega)) ?_;refine qT 4 (.pointer (some ⟨g,6,none⟩)) ?_;refine qC 5 (v:=.int .u32 (st 6:Nat)) (λW V=>V.1.p.cell (i:=6) (by omega)) ?_;refine qT 6 (.pointer (some ⟨g,7,none⟩)) ?_;refine qC 7 (v:=.int .u32 (st 7:Nat)) (λW V=>V.1.p.cell (i:=7) (by omega)) ?_;refine qT 8 (.int .u32 (st 4:Nat)) ?_;refine qT 9 (.int .u32 (st 5:Nat)) ?_;refine qT 10 (.int .u32 (st 6:Nat)) ?_;refine qT 11 (.int .u32 (st 7:Nat)) ?_;refine kE (h:=?_);have a3:=Z.range;rw[jt] at a3;have hI:(prog.info? 255).map (·.size)=some L.length:=by rw[HL.out,aB];kernel_rfl
 go_wp2_with (refine ld 255 _ rfl rfl rfl a3 underlying255 rfl hI ?_)
 clear a3 hI hH;have b1:Hid (SBh w wS g b st/\∀ i,rg st b 0 i=st i):=jz ⟨K,λi=>by rw[rg]⟩;clear K Z;go_loopw [39,6,7,8,9,10,11,12,13] (λi v0 v1 v2 v3 v4 v5 v6 v7 wr=>∃ k:Nat,k<=64/\i = .int .i64 (k:Int)/\v0 = .int .u32 (rg st b k 0:Nat)/\v1 = .int .u32 (rg st b k 1:Nat)/\v2 = .int .u32 (rg st b k 2:Nat)/\v3 = .int .u32 (rg st b k 3:Nat)/\v4 = .int .u32 (rg st b k 4:Nat)/\v5 = .int .u32 (rg st b k 5:Nat)/\v6 = .int .u32 (rg st b k 6:Nat)/\v7 = .int .u32 (rg st b k 7:Nat)/\Hid (SBh w wr g b st)) (λi _ _ _ _ _ _ _ _ _=>64-(intOf i).toNat)
 case atStart=>
  have e:=b1.out.2;exact⟨0,j0 _,rfl,by rw[e],by rw[e],by rw[e],by rw[e],by rw[e],by rw[e],by rw[e],by rw[e],jz b1.out.1⟩
 case round=>
  clear b1;obtain⟨k,hk,rfl,rfl,rfl,rfl,rfl,rfl,rfl,rfl,rfl,HR⟩:=hrel;obtain⟨v,hv⟩:=je (rg st b k);have HV:=jz hv;have h8:Hid (WsF v):=jz (by rw[hv];exact VU h5 k);rw[<- hv];clear hv;rcases jo k 64 with c6|k2
  ·have k3:(0:Int)<=k:=by omega
   have k4:(k:Int)<64:=by omega
   have e0:L.toArray[k]? = some (.int .u32 (wk b k:Nat)):=by rw[jf,HL.out,fG _ c6];rfl
   have d7:∀ W,(Instr.index 255 (.agg L.toArray) (.int .i64 (k:Int))).run prog W = .ok (.int .u32 (wk b k:Nat)) W:=fA _ k underlying255 c6 (λw=>by kernel_rfl) (λw=>by kernel_rfl) e0;go_upto_region 7 with fail
   clear d7 e0;have R:=h8.out;obtain⟨x,hx⟩:=je (wk b k);rw[<- hx];have HX:=jz hx;have r6:=eF (n:=6) (R 4);have c9:=eF (n:=11) (R 4);have f5:=eF (n:=25) (R 4);have e1:=u32_xor_nat _ _ r6 c9;have e2:=u32_xor_nat _ _ (oS r6 c9) f5;rw[show(fM (v 4) 6 ^^^ fM (v 4) 11) ^^^ fM (v 4) 25=yE (v 4) from rfl] at e2;have e3:=u32_and_nat _ _ (R 4) (R 5);have e4:bits .xor .u32 (if IntKind.u32.signed=true then -1 else IntKind.u32.max) ((v 4:Nat):Int)=((4294967295 ^^^ v 4:Nat):Int):=u32_xor_nat 4294967295 (v 4) (by omega) (R 4);have e5:=u32_and_nat (4294967295 ^^^ v 4) (v 6) (oS (by omega) (R 4)) (R 6);have e6:=u32_xor_nat (v 4 &&& v 5) ((4294967295 ^^^ v 4) &&& v 6) (uQ (R 5)) (uQ (R 6));rw[show(v 4 &&& v 5) ^^^ ((4294967295 ^^^ v 4) &&& v 6)=chF (v 4) (v 5) (v 6) from rfl] at e6;obtain⟨A1,c2⟩:=je (m32 (v 7+yE (v 4)));obtain⟨A2,c3⟩:=je (m32 (A1+chF (v 4) (v 5) (v 6)));obtain⟨A3,c4⟩:=je (m32 (A2+FP k));have q1:=o5 (v 7) (yE (v 4));have q2:=o5 A1 (chF (v 4) (v 5) (v 6));have q3:=o5 A2 (FP k);have q4:=o5 A3 x;rw[<- c2] at q1;rw[<- c3] at q2;rw[<- c4] at q3;have h4:m32 (A3+x)=rt1 v k x:=by rw[WH,c4,c3,c2]
   rw[h4] at q4;obtain⟨T,hT⟩:=je (rt1 v k x);rw[<- hT] at q4;have HT:=jz hT;clear c2 c3 c4 h4 hT hx;obtain⟨wS,J⟩:=je wr.drew;have K:Hid (SBh w wS g b st):=jz (by rw[J];exact HR.drew);have a8:Hid (TabK wS):=jz (h7.below K.be);clear HR;refine kZ (n:=26) (λW=>SBh w W g b st/\TabK W) (by rw[<- J];exact⟨K,a8⟩) (h:=λhH=>?_);simp only[p0];dsimp only [List.replicate];rw[<- J] at hH ⊢;clear J;refine qM 0 (.int .u32 (v 7:Nat)) ?_;refine qM 1 (.int .u32 (v 4:Nat)) ?_;refine qM 3 (.int .u32 (v 4:Nat)) ?_;refine qM 6 (.int .u32 (v 4:Nat)) ?_;refine qM 10 (.int .u32 (v 4:Nat)) ?_;refine qM 11 (.int .u32 (v 5:Nat)) ?_;refine qM 13 (.int .u32 (v 4:Nat)) ?_;refine qM 15 (.int .u32 (v 6:Nat)) ?_;refine qM 19 (.int .i64 k) ?_;refine qM 23 (.int .u32 (x:Nat)) ?_;refine qT 12 (.int .u32 (v 4 &&& v 5:Nat)) ?_;refine qT 14 (.int .u32 (4294967295 ^^^ v 4:Nat)) ?_;refine qT 16 (.int .u32 ((4294967295 ^^^ v 4) &&& v 6:Nat)) ?_;refine qT 17 (.int .u32 (chF (v 4) (v 5) (v 6):Nat)) ?_;refine qT 20 (.pointer (some ⟨1,k,none⟩)) ?_;refine qC 21 (v:=.int .u32 (FP k:Nat)) (λW V=>V.2 k c6) ?_;refine kF 2 (some 45) ((iG (v 4) 6 wS (R _) (by omega) (by omega)).mono ?_);rintro e w2 ⟨rfl,I⟩;rw[I];clear I w2;refine⟨_,rfl,⟨K,a8⟩,λhH=>?_⟩;simp only[pe,p5,p2];dsimp only [List.set];refine kF 4 (some 47) ((iG (v 4) 11 wS (R _) (by omega) (by omega)).mono ?_);rintro e w2 ⟨rfl,I⟩;rw[I];clear I w2;refine⟨_,rfl,⟨K,a8⟩,λhH=>?_⟩;simp only[pe,p5,p2];dsimp only [List.set];refine qT 5 (.int .u32 (fM (v 4) 6 ^^^ fM (v 4) 11:Nat)) ?_;refine kF 7 (some 50) ((iG (v 4) 25 wS (R _) (by omega) (by omega)).mono ?_);rintro e w2 ⟨rfl,I⟩;rw[I];clear I w2;refine⟨_,rfl,⟨K,a8⟩,λhH=>?_⟩;simp only[pe,p5,p2];dsimp only [List.set];refine qT 8 (.int .u32 (yE (v 4):Nat)) ?_;refine qT 9 (.int .u32 (A1:Nat)) ?_;refine qT 18 (.int .u32 (A2:Nat)) ?_;refine qT 22 (.int .u32 (A3:Nat)) ?_;refine qT 24 (.int .u32 (T:Nat)) ?_;refine qT 25 (.int .u32 (T:Nat)) ?_;refine kE (h:=?_);clear e1 e2 e3 e4 e5 e6 q1 q2 q3 q4 r6 c9 f5 hH;have r2:=eF (n:=2) (R 0);have d0:=eF (n:=13) (R 0);have f4:=eF (n:=22) (R 0);have e1:=u32_xor_nat _ _ r2 d0;have e2:=u32_xor_nat _ _ (oS r2 d0) f4;rw[show(fM (v 0) 2 ^^^ fM (v 0) 13) ^^^ fM (v 0) 22=JA (v 0) from rfl] at e2;have e3:=u32_and_nat _ _ (R 0) (R 1);have e4:=u32_and_nat _ _ (R 0) (R 2);have e5:=u32_xor_nat (v 0 &&& v 1) (v 0 &&& v 2) (uQ (R 1)) (uQ (R 2));have e6:=u32_and_nat _ _ (R 1) (R 2);have e7:=u32_xor_nat ((v 0 &&& v 1) ^^^ (v 0 &&& v 2)) (v 1 &&& v 2) (oS (uQ (R 1)) (uQ (R 2))) (uQ (R 2));rw[show((v 0 &&& v 1) ^^^ (v 0 &&& v 2)) ^^^ (v 1 &&& v 2)=ST (v 0) (v 1) (v 2) from rfl] at e7;obtain⟨U,hU⟩:=je (rt2 v);have q5:(((JA (v 0):Nat):Int)+(ST (v 0) (v 1) (v 2):Nat)) % 4294967296=(U:Int):=by rw[hU,WI,uM];omega
   obtain⟨D,hD⟩:=je (m32 (v 3+T));have q6:(((v 3:Nat):Int)+(T:Nat)) % 4294967296=(D:Int):=by rw[hD,uM];omega
   obtain⟨A,hA⟩:=je (m32 (T+U));have q7:((T:Int)+(U:Nat)) % 4294967296=(A:Int):=by rw[hA,uM];omega
   have h3:Hid (rg st b (k+1) 0=A/\rg st b (k+1) 4=D/\rg st b (k+1) 1=v 0/\rg st b (k+1) 2=v 1/\rg st b (k+1) 3=v 2/\rg st b (k+1) 5=v 4/\rg st b (k+1) 6=v 5/\rg st b (k+1) 7=v 6):=jz (by
    rw[AC,<- HV.out,<- HX.out,hA,hD,hU,HT.out]
    exact OE v k x)
   have f8:=jz (λW=>iG (v 0) 2 W (R 0) (by omega) (by omega));have f9:=jz (λW=>iG (v 0) 13 W (R 0) (by omega) (by omega));have g8:=jz (λW=>iG (v 0) 22 W (R 0) (by omega) (by omega));clear hU hD hA r2 d0 f4 R;go_wp2_with fail
   refine(f8 _).mono ?_;rintro e w2 ⟨rfl,I⟩;rw[I];clear I w2;go_wp2_with fail
   refine(f9 _).mono ?_;rintro e w2 ⟨rfl,I⟩;rw[I];clear I w2;go_wp2_with fail
   refine(g8 _).mono ?_;rintro e w2 ⟨rfl,I⟩;rw[I];clear I w2;go_wp2_with fail
   obtain⟨g0,g4,g1,g2,g3,g5,g6,g7⟩:=h3.out;refine⟨⟨k+1,by omega,by go_num,by rw[g0,<- q7],by rw[g1],by rw[g2],by rw[g3],by rw[g4,<- q6],by rw[g5],by rw[g6],by rw[g7],K⟩,by simp[intOf];omega⟩
  ·have h9:k=64:=by omega
   have k1:¬(k:Int)<64:=by omega
   have d2:=HR;clear HR;go_wp2_with fail
   obtain⟨O,hO⟩:∃ O:Wa,O=#[.int .u32 (v 0:Nat),.int .u32 (v 1:Nat),.int .u32 (v 2:Nat),.int .u32 (v 3:Nat),.int .u32 (v 4:Nat),.int .u32 (v 5:Nat),.int .u32 (v 6:Nat),.int .u32 (v 7:Nat)]:=⟨_,rfl⟩;rw[<- hO];have HO:Hid (∀ j,j<8->O[j]? = some (.int .u32 (v j:Nat))):=jz (λj hj=>by
    rw[hO]
    have:j=0\/j=1\/j=2\/j=3\/j=4\/j=5\/j=6\/j=7:=by omega
    rcases this with rfl|rfl|rfl|rfl|rfl|rfl|rfl|rfl <;> rfl)
   clear hO;have d5:Hid (SBh w wr g b (λq=>if q<0 then gK st b q else st q)):=jz (d2.fn (by funext q;rw[jQ (by omega)]));clear d2;go_loopw [110] (λi wr=>∃ j:Nat,j<=8/\i = .int .i64 (j:Int)/\Hid (SBh w wr g b (λq=>if q<j then gK st b q else st q))) (λi _=>8-(intOf i).toNat)
   case atStart=>exact⟨0,j0 _,rfl,d5⟩
   case round=>
    clear d5;obtain⟨j,hj,rfl,HS⟩:=hrel;rcases jo j 8 with c5|k0
    ·have m1:(0:Int)<=j:=by omega
     have m2:(j:Int)<8:=by omega
     have f0:O[j]? = some (.int .u32 (v j:Nat)):=HO.out j c5;have d7:∀ W,(Instr.index 253 (.agg O) (.int .i64 (j:Int))).run prog W = .ok (.int .u32 (v j:Nat)) W:=fA _ j underlying253 c5 (λw=>by kernel_rfl) (λw=>by kernel_rfl) f0;have hc:=HS.p.cell (i:=j) c5;have hf:=HS.p.frozen j;have hz:c32 (λq=>if q<j then gK st b q else st q) j = .int .u32 (st j:Nat):=by
      show Value.int .u32 ((if j<j then gK st b j else st j:Nat):Int)=_;rw[jQ (Nat.lt_irrefl j)]
     rw[hz] at hc;have hb:gK st b j=m32 (st j+v j):=by unfold gK;rw[HV.out,h9]
     obtain⟨X,V⟩:=je (gK st b j);have a7:=jz (HS.set j (gK st b j));rw[<- V] at hb a7;have q1:(((st j:Nat):Int)+(v j:Nat)) % 4294967296=(X:Int):=by rw[hb,uM];omega
     rw[<- q1] at a7;have h6:=jz (a7.fn (f':=λq=>if q<j+1 then gK st b q else st q) (by
      funext q
      show(if q=j then X else (if q<j then gK st b q else st q))=_
      by_cases e:q=j
      ·subst e;rw[jP rfl,jP (by omega),V]
      ·rw[jQ e]
       by_cases e2:q<j
       ·rw[jP e2,jP (by omega)]
       ·rw[jQ e2,jQ (by omega)]))
     clear f0 hz hb V HS a7 q1;go_wp2_with fail
     exact⟨⟨j+1,by omega,by go_num,h6⟩,by simp[intOf];omega⟩
    ·have e8:j=8:=by omega
     have m3:¬(j:Int)<8:=by omega
     have h2:Hid (AB wr g 253 8 (c32 (gK st b))):=jz (HS.p.ext (λq hq=>by
      show Value.int .u32 ((if q<j then gK st b q else st q:Nat):Int) = .int .u32 (gK st b q:Nat)
      rw[jP (by omega)]))
     have f7:Blk wr (g+1+1) 253 z32x8:=HS.r;have d1:=jz (And.intro HS.be HS.lo);have a3:=h2.range;have hI:(prog.info? 253).map (·.size)=some (arr 8 (c32 (gK st b))).length:=by rw[aB];kernel_rfl
     obtain⟨M,hM⟩:=je (arr 8 (c32 (gK st b)));rw[<- hM] at a3 hI;have a5:(prog.info? 253).map (·.size)=some M.toArray.size:=by rw[js];exact hI
     have a9:z32x8.size=M.toArray.size:=by rw[hM,aK];exact aK 8 _
     have a6:M.toArray.all (·.oneCell')=true:=by rw[hM];exact bW (λ_=>rfl)
     have HM:=jz hM;clear hM HS;go_wp2_with (first
      | (refine ld 253 _ rfl rfl rfl a3 underlying253 rfl hI ?_)
      | (refine aO 253 (.tmp 4) (.tmp 121) rfl rfl rfl rfl f7 a5 a9 a6 ?_;intro w3 a2 a4 _ _;have a1:=jz a2;have h0:=jz a4;clear a2 a4))
     exact bodyPost_ret (results_cell_row rfl _ _ (g+1+1) 253 _ (0,0) _ rfl a1 underlying253 rfl a5) rfl ⟨by rw[<- HM.out],d1.out.1.trans (h0.mono (by have:=d1.out.2;omega))⟩
def SV(n:Nat):Nat:=(119-n % 64) % 64
def mB(n:Nat):Nat:=1+SV n+8
def mC(n m k:Nat):Nat:=if k=0 then 128 else if mB n-m<=k then 8*n/256 ^ (mB n-1-k) % 256 else 0
def KN(n:Nat):Nat->Nat:=mC n 8
theorem SW(n m k:Nat):mC n m k<256:=by
 unfold mC;split
 ·omega
 ·split
  ·exact Nat.mod_lt _ (by omega)
  ·omega
theorem KO(n m:Nat)(h:m<8):cJ (mC n m) (mB n-1-m) (8*n/256 ^ m % 256)=mC n (m+1):=by
 funext k
 have j:9<=mB n:=by unfold mB;omega
 unfold cJ mC;by_cases e:k=mB n-1-m
 ·rw[jP e,jQ (by omega),jP (by omega)];rw[show mB n-1-k=m from by omega]
 ·rw[jQ e];by_cases e0:k=0
  ·rw[jP e0,jP e0]
  ·rw[jQ e0,jQ e0];by_cases e1:mB n-m<=k
   ·rw[jP e1,jP (by omega)]
   ·rw[jQ e1,jQ (by omega)]
theorem OF(n m:Nat)(x:m<=8)(D:8*n/256 ^ m=0):mC n m=KN n:=by
 funext k
 unfold KN mC;by_cases e0:k=0
 ·rw[jP e0,jP e0]
 ·rw[jQ e0,jQ e0];by_cases e1:mB n-m<=k
  ·rw[jP e1,jP (by omega)]
  ·rw[jQ e1];split
   ·have h1:256 ^ m<=256 ^ (mB n-1-k):=Nat.pow_le_pow_right (by omega) (by omega);have j:8*n<256 ^ m:=by
     rcases jo (8*n) (256 ^ m) with h|h
     ·exact h
     ·have:=Nat.div_pos h (Nat.pow_pos (n:=m) (by omega:0<256));omega
    rw[Nat.div_eq_of_lt (by omega)]
   ·rfl
theorem CR(n:Nat)(w:Wd)(hn:n<=1000000000):
  Wc 174 #[.int .i64 n] w λe w'=>∃ v,e = .returned v/\w'.ownsRow w.heap.size 5 1 v (mB n) (arr (mB n) (c8 (KN n)))/\Bw w w':=by
 have c7:(0:Int)<=n:=by omega
 have c9:(n:Int)<=1000000000:=by omega
 obtain⟨i,hi,hz,b7,b0⟩:=info_parts (P:=prog) (e:=5) (z:=.int .u8 0) (size:=1) (bytes:=1) (by kernel_rfl);obtain⟨N,hN⟩:=je (mB n);have HN:=jz hN;have c3:9<=N/\N<=72:=by rw[hN];unfold mB SV;omega
 have a5:Hid (1+((119:Int)-(n:Int) % 64) % 64+8=(N:Int)):=jz (by rw[hN];unfold mB SV;omega);have x:(madeCells (Value.int .u8 0).cells (N*1)).toList=arr N (c8 (λ_=>0)):=by
  show(madeCells #[Value.int .u8 0] (N*1)).toList=_;rw[oQ];unfold arr c8;rw[List.map_const',List.length_range];simp
 have Z:=jz x;clear x hN;rw[<- HN.out];go_enter func174,ntmps174
 go_upto_region 4 with fail
 obtain⟨z,V⟩:∃ z:Int,z=((119:Int)-(n:Int) % 64) % 64:=⟨_,rfl⟩;have d2:1+z+8=(N:Int):=by rw[V];exact a5.out
 have d1:0<=z/\z<64:=by omega
 rw[<- V];clear V;have a3:(arr N (c8 (λ_=>0))).set 0 (.int .u8 128)=arr N (c8 (mC n 0)):=by
  rw[zX];refine tK (λk hk=>?_);rw[show(Value.int .u8 128)=Value.int .u8 ((128:Nat):Int) from rfl,gV];show Value.int .u8 ((cJ (λ_=>0) 0 128 k:Nat):Int)=Value.int .u8 ((mC n 0 k:Nat):Int);congr 2;unfold cJ mC;by_cases e:k=0
  ·rw[jP e,jP e]
  ·rw[jQ e,jQ e,jQ (by rw[<- HN.out];omega)]
 have a0:=jz a3;clear a3;go_upto_region 5 with (at_make;refine wpList_make_full _ rfl (.tmp 15) (.tmp 15) 68 rfl w.heap.size 5 i (.int .u8 0) 1 underlying68 hi hz b7 .i64 .i64 (N:Int) (N:Int) N rfl rfl rfl rfl (by rw[b0];omega) (by unfold maxLen;omega) (ja _) ?_;intro w2 D hg)
 rw[Z.out] at D;have j:=D.stored 0 (.int .u8 128);rw[a0.out] at j;obtain⟨I,a2⟩:=qR D (fG (c8 (λ_=>0)) (show 0<N by omega));have I:w2.cell? ⟨w.heap.size,0,none⟩=some (.int .u8 0):=I;have O:Hid (Bw w w2):=jz ((ji _ w).grown hg (ja _) (λg e=>by cases e));obtain⟨w3,U⟩:=je (w2.setCell ⟨w.heap.size,0,none⟩ (.int .u8 128));have a1:Hid (w3.ownsRow w.heap.size 5 1 (.slice (some ⟨w.heap.size,0,none⟩) N N) N (arr N (c8 (mC n 0)))/\Bw w w3):=jz (by
  rw[U]
  exact⟨j.1,O.grown j.2 O.size (λg e=>by cases e;exact ja _)⟩)
 have c2:(0:Int)<(N:Int):=by omega
 clear j D hg O a0 Z;go_upto_region 6 with fail
 rw[<- U];clear U I a2;have d0:(8*(n:Int))<18446744073709551616:=by omega
 have c4:(N:Int)-1<72:=by omega
 go_wp2_with fail
 go_loopw [6,5] (λi y wr=>∃ m:Nat,m<=8/\i = .int .i64 ((N:Int)-1-m)/\y = .int .u64 ((8*n/256 ^ m:Nat):Int)/\Hid (wr.ownsRow w.heap.size 5 1 (.slice (some ⟨w.heap.size,0,none⟩) N N) N (arr N (c8 (mC n m)))/\Bw w wr)) (λi _ _=>(intOf i).toNat)
 case atStart=>exact⟨0,j0 _,by simp,by simp,a1⟩
 case round=>
  clear a1;obtain⟨m,hm,rfl,rfl,J⟩:=hrel;obtain⟨L,K⟩:∃ L,L=8*n/256 ^ m:=⟨_,rfl⟩;have R:L/256=8*n/256 ^ (m+1):=by rw[K,Nat.div_div_eq_div_mul,Nat.pow_succ]
  have a8:L<=8*n:=by rw[K];exact Nat.div_le_self _ _
  rw[<- K];rcases Nat.eq_zero_or_pos L with h0|h0
  ·have hf:mC n m=KN n:=OF n m hm (by rw[<- K];exact h0);rw[hf] at J;have a9:¬(0:Int)<L:=by omega
   clear R a8 K;go_wp2_with fail
   go_ret;exact⟨_,rfl,J.out.1,J.out.2⟩
  ·have b1:m<8:=by
    rcases jo m 8 with h|h
    ·exact h
    ·have e8:m=8:=by omega
     subst e8;have:8*n/256 ^ 8=0:=Nat.div_eq_of_lt (by have e:(256:Nat) ^ 8=18446744073709551616:=(by decide);omega);omega
   have j:=J.out.1.stored (N-1-m) (.int .u8 ((L % 256:Nat):Int));rw[zX,gV,HN.out,K,KO n m b1,<- HN.out,<- K] at j;obtain⟨I,a2⟩:=qR J.out.1 (fG (c8 (mC n m)) (show N-1-m<N by omega));have a4:c8 (mC n m) (N-1-m) = .int .u8 0:=by
    show Value.int .u8 ((mC n m (N-1-m):Nat):Int)=_;unfold mC;rw[jQ (by omega),jQ (by rw[<- HN.out];omega)];rfl
   rw[a4] at I;have e1:((L % 256:Nat):Int)=(L:Int) % 256:=by omega
   rw[e1] at j;have a7:Hid ((wr.setCell ⟨w.heap.size,N-1-m,none⟩ (.int .u8 ((L:Int) % 256))).ownsRow w.heap.size 5 1 (.slice (some ⟨w.heap.size,0,none⟩) N N) N (arr N (c8 (mC n (m+1))))/\Bw w (wr.setCell ⟨w.heap.size,N-1-m,none⟩ (.int .u8 ((L:Int) % 256)))):=jz ⟨j.1,J.out.2.grown j.2 J.out.2.size (λg e=>by cases e;exact ja _)⟩;have a9:(0:Int)<L:=by omega
   have c5:(0:Int)<=(N:Int)-1-m:=by omega
   have c6:(N:Int)-1-m<N:=by omega
   have a6:Hid ((L:Int)/256=((8*n/256 ^ (m+1):Nat):Int)):=jz (by rw[<- R];omega);clear j a4 e1 J K R;go_wp2_with fail
   refine⟨⟨m+1,by omega,by go_num,by rw[a6.out],a7⟩,by simp[intOf];omega⟩
def n8(l:List Nat):Wv:=l.map (λx:Nat=>Value.int .u8 (x:Int))
def Byn(l:List Nat):Prop:=∀ x∈l,x<256
def nth(l:List Nat)(k:Nat):Nat:=l.getD k 0
theorem aR(l:List Nat):(n8 l).length=l.length:=by simp[n8]
theorem FQ(l:List Nat)(k:Nat)(h:k<l.length):(n8 l)[k]? = some (.int .u8 (nth l k:Nat)):=by
 unfold n8 nth;rw[List.getElem?_map,List.getElem?_eq_getElem h,jn,List.getElem?_eq_getElem h];rfl
theorem dO(l:List Nat):∀ u∈n8 l,u.oneCell'=true:=λu j=>by
 obtain⟨x,_,rfl⟩:=List.mem_map.1 j;rfl
theorem JB(l:List Nat)(k:Nat):(n8 l).take k=n8 (l.take k):=by simp[n8,List.map_take]
theorem SY(l:List Nat)(k:Nat):(n8 l).drop k=n8 (l.drop k):=by simp[n8,List.map_drop]
theorem lK{l:List Nat}(h:Byn l)(k:Nat):nth l k<256:=by
 unfold nth;rw[jn];cases hk:l[k]? with
 | none=>decide
 | some x=>exact h x (List.mem_of_getElem? hk)
theorem FT(n:Nat)(f:Nat->Nat):n8 (arr n f)=arr n (c8 f):=by simp[n8,arr,c8]
theorem uS{a b:List Nat}{k:Nat}(h:k<a.length):nth (a++b) k=nth a k:=by
 unfold nth;rw[jn,jn,jy h]
theorem yF{a b:List Nat}{k:Nat}(h:a.length<=k):nth (a++b) k=nth b (k-a.length):=by
 unfold nth;rw[jn,jn,jx h]
theorem CU{b x:Nat->Nat}(i:Nat)(hi:i<16)(h:∀ k,k<64->b k=x k):∀ j,j<=4->pw b i j=pw x i j
 | 0,_=>rfl
 | j+1,hj=>by
  show pw b i j*256+b (4*i+j)=pw x i j*256+x (4*i+j);rw[CU i hi h j (by omega),h _ (by omega)]
theorem OG{b x:Nat->Nat}(h:∀ k,k<64->b k=x k)(k:Nat):wk b k=wk x k:=by
 induction k using Nat.strongRecOn with
 | ind k ih=>
  rcases jo k 16 with j|j
  ·rw[I6 b j,I6 x j,CU k j h 4 (ja _)]
  ·rw[I7 b j,I7 x j,ih (k-16) (by omega),ih (k-15) (by omega),ih (k-7) (by omega),ih (k-2) (by omega)]
theorem CV{b j:Nat->Nat}(st:Nat->Nat)(h:∀ k,k<64->b k=j k):∀ k,rg st b k=rg st j k
 | 0=>by rw[rg,rg]
 | k+1=>by rw[AC,AC,CV st h k,OG h k]
theorem yG{b j:Nat->Nat}(st:Nat->Nat)(h:∀ k,k<64->b k=j k):gK st b=gK st j:=by
 funext i
 unfold gK;rw[CV st h 64]
def CW(s:Nat->Nat)(l:List Nat):Nat->(Nat->Nat)
 | 0=>s
 | m+1=>gK (CW s l m) (λk=>nth l (64*m+k))
theorem nE(s:Nat->Nat)(l x:List Nat):∀ m,64*m<=l.length->CW s (l++x) m=CW s l m
 | 0,_=>rfl
 | m+1,h=>by
  show gK (CW s (l++x) m) (λk=>nth (l++x) (64*m+k))=gK (CW s l m) (λk=>nth l (64*m+k));rw[nE s l x m (by omega)];exact yG _ (λk j=>uS (by omega))
theorem SZ{s:Nat->Nat}(h:WsF s)(l:List Nat):∀ m,WsF (CW s l m)
 | 0=>h
 | m+1=>SU _ _
def xM(i:Nat):Nat:=[1779033703,3144134277,1013904242,2773480762,1359893119,2600822924,528734635,1541459225].getD i 0
theorem S0:WsF xM:=λi=>by
 unfold xM;rw[jn];cases h:([1779033703,3144134277,1013904242,2773480762,1359893119,2600822924,528734635,1541459225]:List Nat)[i]? with
 | none=>decide
 | some x=>
  have j:=List.mem_of_getElem? h;have ha:∀ x∈([1779033703,3144134277,1013904242,2773480762,1359893119,2600822924,528734635,1541459225]:List Nat),x<4294967296:=by decide
  exact ha x j
def kU(l:List Nat):Nat->Nat:=CW xM l (l.length/64)
theorem JC(l:List Nat):WsF (kU l):=SZ S0 l _
theorem KP(l x:List Nat)(h:l.length % 64+x.length<64):kU (l++x)=kU l:=by
 unfold kU;rw[jj,show(l.length+x.length)/64=l.length/64 from by omega];exact nE _ _ _ _ (by omega)
theorem KQ(l x:List Nat)(b:Nat->Nat)(h:l.length % 64+x.length=64)(hb:∀ k,k<64->b k=nth (l++x) (64*(l.length/64)+k)):kU (l++x)=gK (kU l) b:=by
 unfold kU;rw[jj,show(l.length+x.length)/64=l.length/64+1 from by omega];show gK (CW xM (l++x) (l.length/64)) (λk=>nth (l++x) (64*(l.length/64)+k))=_;rw[nE _ _ _ _ (by omega)];exact yG _ (λk j=>(hb k j).symm)
def lS(s:Nat->Nat)(q:Nat):Nat:=s (q/4)/256 ^ (3-q % 4) % 256
def mR(l:List Nat):List Nat:=arr 32 (lS (kU (l++arr (mB l.length) (KN l.length))))
theorem dA(l:List Nat):(mR l).length=32:=aB _ _
theorem jY(l:List Nat):Byn (mR l):=λx j=>by
 unfold mR arr at j;obtain⟨k,_,rfl⟩:=List.mem_map.1 j;exact Nat.mod_lt _ (by omega)
attribute [irreducible] kU mR
section
variable {P : Program} {ops : Array Oper} {rest : List Oper} {o : Oper} {a : Act} {w : Wd} {Q : Exit -> Act -> Wd -> Prop}
theorem cpm{dT sT elem:TypeId}(p q:Operand)(J:o.op = .call { callee:=.builtin .copy,args:=#[p,q],argTypes:=#[dT,sT] })(V:Region.wanted o (yielded ops a.tmps)=true)
  {b off dn dc bs os n cap:Nat} {cs:Wv} (O:a.eval p = .slice (some ⟨b,off,none⟩) dn dc) (R:a.eval q = .slice (some ⟨bs,os,none⟩) n cap) (U:P.underlying dT=some (.slice elem)) (hs:(P.info? elem).map (·.size)=some 1) (I:cs.length=Nat.min n dn) (Z:w.rangeAt bs os cs) (ht:w.there b off cs.length) (h1:∀ u∈cs,u.oneCell'=true)
  (h:wpList P ops Q rest (a.put o.dst (.int .i64 (cs.length:Nat))) (w.setCells b off cs)):wpList P ops Q (o :: rest) a w:=
 wpList_step λK D=>by
  rw[jP V];have hrun:=run_copy_cells (P:=P) w dT sT o.type elem b off dn dc ⟨bs,os,none⟩ n cap cs U hs I (λj v x=>by rw[Addr.add_mid];exact Z j v x) (λj x=>(ht j x).1) (λj x=>(ht j x).2) h1;unfold Oper.wp execOp;simp only[J,resolve,invoke,builtin,Sem.run_bind,Sem.run_pure,Result.andThen_ok,List.map_toArray,List.map_cons,List.map_nil,O,R,hrun];exact D _ _ h
end
theorem Sn.sameC{w w':Wd}{s n:Nat}{v:Value}{D:Wv}(h:Sn w s v n D)(O:0<n->∀ b,v.ownBlock=some b->w'.heap[b]? = w.heap[b]?):Sn w' s v n D:=by
 obtain⟨A,cap,rfl,h1,I,R⟩:=h;refine⟨A,cap,rfl,h1,I,λx=>?_⟩;obtain⟨g,off,rfl,J⟩:=R x;exact⟨g,off,rfl,λj u K=>(World.cell?_of_block (a:=⟨g,off+j,none⟩) (O x g rfl)).trans (J j u K)⟩
theorem AB.setL:∀(c:List Nat) {W:Wd} {g n off:Nat} {t:TypeId} {f:Nat->Nat},AB W g t n (c8 f)->AB (W.setCells g off (n8 c)) g t n (c8 (λk=>if off<=k/\k<off+c.length then nth c (k-off) else f k))
 | [],W,g,n,off,t,f,h=>h.ext (λk _=>by
   show Value.int .u8 (f k:Nat)=Value.int .u8 ((if off<=k/\k<off+0 then nth [] (k-off) else f k:Nat):Int)
   rw[jQ (by omega)])
 | x :: r,W,g,n,off,t,f,h=>by
  have h1:=h.set off (.int .u8 (x:Nat));rw[gV] at h1;have j:=AB.setL r (off:=off+1) h1;refine AB.ext j (λk _=>?_);show Value.int .u8 ((if off+1<=k/\k<off+1+r.length then nth r (k-(off+1)) else cJ f off x k:Nat):Int)=Value.int .u8 ((if off<=k/\k<off+(r.length+1) then nth (x :: r) (k-off) else f k:Nat):Int);congr 2;by_cases e:k=off
  ·subst e;rw[jQ (by omega),pS,jP (by omega),Nat.sub_self];rfl
  ·rw[FI _ _ e];by_cases e2:off+1<=k/\k<off+1+r.length
   ·rw[jP e2,jP (by omega),show k-off=(k-(off+1))+1 from by omega];rfl
   ·rw[jQ e2,jQ (by omega)]
structure FH(gz:Nat)(w0 W:Wd)(g:Nat)(S bl:Nat->Nat)(u tot:Nat):Prop where
 be:Bw w0 W
 lo:w0.heap.size<=g
 zl:gz<=g
 z:AB W gz 25 32 (c8 λ_=>0)
 s:AB W (g+1) 253 8 (c32 S)
 b:AB W (g+1+1) 243 64 (c8 bl)
 by_:bD bl
 u:Blk W (g+1+1+1) 3 #[.int .i64 (u:Nat)]
 t:Blk W (g+1+1+1+1) 3 #[.int .i64 (tot:Nat)]
section
variable {w0 W W' : Wd} {gz g u tot : Nat} {S bl : Nat -> Nat}
theorem FH.keep(h:FH gz w0 W g S bl u tot)(hb:Bw W W'):FH gz w0 W' g S bl u tot:=⟨h.be.trans (hb.mono h.be.size),h.lo,h.zl,h.z.keep hb,h.s.keep hb,h.b.keep hb,h.by_,h.u.keep hb,h.t.keep hb⟩
theorem FH.setT(h:FH gz w0 W g S bl u tot)(v:Nat):FH gz w0 (W.setCell ⟨g+1+1+1+1,0,none⟩ (.int .i64 (v:Nat))) g S bl u v:=
 ⟨h.be.setCell (by have:=h.lo;show w0.heap.size<=g+1+1+1+1;omega) _,h.lo,h.zl,h.z.far (by have:=h.zl;show gz≠g+1+1+1+1;omega) _,h.s.far (by show g+1≠g+1+1+1+1;omega) _,h.b.far (by show g+1+1≠g+1+1+1+1;omega) _,h.by_,h.u.far (by show g+1+1+1≠g+1+1+1+1;omega) _,h.t.set_ 0 _⟩
theorem FH.setU(h:FH gz w0 W g S bl u tot)(v:Nat):FH gz w0 (W.setCell ⟨g+1+1+1,0,none⟩ (.int .i64 (v:Nat))) g S bl v tot:=
 ⟨h.be.setCell (by have:=h.lo;show w0.heap.size<=g+1+1+1;omega) _,h.lo,h.zl,h.z.far (by have:=h.zl;show gz≠g+1+1+1;omega) _,h.s.far (by show g+1≠g+1+1+1;omega) _,h.b.far (by show g+1+1≠g+1+1+1;omega) _,h.by_,h.u.set_ 0 _,h.t.far (by show g+1+1+1+1≠g+1+1+1;omega) _⟩
theorem FH.setB(h:FH gz w0 W g S bl u tot)(c:List Nat)(off:Nat)(x:Byn c):FH gz w0 (W.setCells (g+1+1) off (n8 c)) g S (λk=>if off<=k/\k<off+c.length then nth c (k-off) else bl k) u tot:=
 have j:∀ k,k≠g+1+1->(W.setCells (g+1+1) off (n8 c)).heap[k]? = W.heap[k]?:=λk D=>bB D _ _ _
 ⟨h.be.trans (aS (by have:=h.lo;omega) _ _ _).1,h.lo,h.zl,(j gz (by have:=h.zl;omega)).trans h.z,(j (g+1) (by omega)).trans h.s,h.b.setL c,λk=>by
  show(if off<=k/\k<off+c.length then nth c (k-off) else bl k)<256
  split
  ·exact lK x _
  ·exact h.by_ k,(j _ (by omega)).trans h.u,(j _ (by omega)).trans h.t⟩
theorem FH.setS(h:FH gz w0 W g S bl u tot)(x:Nat->Nat)(D:Blk W' (g+1) 253 (arr 8 (c32 x)).toArray)(hb:Below (g+1) W W')(j:∀ k,k≠g+1->W'.heap[k]? = W.heap[k]?):FH gz w0 W' g x bl u tot:=
 ⟨h.be.trans (hb.mono (by have:=h.lo;omega)),h.lo,h.zl,(j gz (by have:=h.zl;omega)).trans h.z,D,(j _ (by omega)).trans h.b,h.by_,(j _ (by omega)).trans h.u,(j _ (by omega)).trans h.t⟩
end
def FSh(gz:Nat)(w0 W:Wd)(g:Nat)(D:List Nat)(tot:Nat):Prop:=∃ bl,FH gz w0 W g (kU D) bl (D.length % 64) tot/\∀ k,k<D.length % 64->bl k=nth D (64*(D.length/64)+k)
theorem FSh.less{w0 W:Wd}{gz g tot:Nat}{D c:List Nat}{bl:Nat->Nat}(h:FH gz w0 W g (kU D) (λk=>if D.length % 64<=k/\k<D.length % 64+c.length then nth c (k-D.length % 64) else bl k) (D.length % 64+c.length) tot)(hb:∀ k,k<D.length % 64->bl k=nth D (64*(D.length/64)+k))(j:D.length % 64+c.length<64):FSh gz w0 W g (D++c) tot:=by
 refine⟨_,by rw[KP D c j,jj,show(D.length+c.length) % 64=D.length % 64+c.length from by omega];exact h,λk x=>?_⟩;rw[jj] at x ⊢;rw[show(D.length+c.length)/64=D.length/64 from by omega];by_cases e:D.length % 64<=k/\k<D.length % 64+c.length
 ·rw[jP e,yF (by omega)];congr 1;omega
 ·rw[jQ e,uS (by omega)];exact hb k (by omega)
theorem FSh.full{w0 W:Wd}{gz g tot:Nat}{D c:List Nat}{bl b2:Nat->Nat}(h:FH gz w0 W g (gK (kU D) b2) b2 0 tot)(x:b2=λk=>if D.length % 64<=k/\k<D.length % 64+c.length then nth c (k-D.length % 64) else bl k)(hb:∀ k,k<D.length % 64->bl k=nth D (64*(D.length/64)+k))(I:D.length % 64+c.length=64):FSh gz w0 W g (D++c) tot:=by
 have J:=KQ D c b2 I (λk j=>by
  rw[x]
  show(if D.length % 64<=k/\k<D.length % 64+c.length then nth c (k-D.length % 64) else bl k)=_
  by_cases e:D.length % 64<=k/\k<D.length % 64+c.length
  ·rw[jP e,yF (by omega)]
   congr 1
   omega
  ·rw[jQ e,uS (by omega)]
   exact hb k (by omega))
 refine⟨b2,by rw[J,jj,show(D.length+c.length) % 64=0 from by omega];exact h,λk j=>?_⟩;rw[jj] at j;omega
def slN:Value->Nat
 | .slice _ n _=>n
 | _=>0
structure FL(gz:Nat)(w0 W:Wd)(g:Nat)(A:List Nat)(tot:Nat)(v:Value)(E r:List Nat):Prop where
 e:E++r=A
 be:Byn E
 br:Byn r
 sn:Sn W 1 v r.length (n8 r)
 ow:0<r.length->∀ b,v.ownBlock=some b->b<g\/g+1+1+1+1<b
 fs:FSh gz w0 W g E tot
theorem CY(gz:Nat)(w0 w:Wd)(g tot:Nat)(D p:List Nat)(v:Value)(h:FSh gz w0 w g D tot)(hs:Sn w 1 v p.length (n8 p))(hd:Byn D)(hp:Byn p)(ho:0<p.length->∀ b,v.ownBlock=some b->b<g\/g+1+1+1+1<b)(hl:tot+p.length<=1000000000)(hk:TabK w0):
  Wc 172 #[v,.pointer (some ⟨g+1+1+1+1,0,none⟩),.pointer (some ⟨g+1+1,0,none⟩),.pointer (some ⟨g+1+1+1,0,none⟩),.pointer (some ⟨g+1,0,none⟩)] w λe w'=>e = .returned (.tuple #[])/\FSh gz w0 w' g (D++p) (tot+p.length):=by
 obtain⟨bl,J,R⟩:=h;have HK:=jz hk;have m3:w.cell? ⟨g+1+1+1+1,0,none⟩=some (.int .i64 (tot:Nat)):=(J.t.cell 0).trans rfl;have m5:=J.t.frozen 0;obtain⟨A,cap,rfl,c4,k3,a7⟩:=id hs;obtain⟨w1,b7⟩:=je (w.setCell ⟨g+1+1+1+1,0,none⟩ (.int .i64 ((tot:Int)+(p.length:Nat))));have c5:Hid (FL gz w0 w1 g (D++p) (tot+p.length) (.slice A p.length cap) D p):=jz ⟨rfl,hd,hp,hs.sameC (λn3 b e=>by
  rw[b7]
  exact Below.heap_setCell _ _ _ _ (by have:=ho n3 b e;show b≠g+1+1+1+1;omega)),ho,bl,by
  have:=J.setT (tot+p.length)
  rw[show((tot+p.length:Nat):Int)=(tot:Int)+(p.length:Nat) from by omega,<- b7] at this
  exact this,R⟩
 have n4:(0:Int)<=tot:=by omega
 have n6:(tot:Int)+(p.length:Nat)<=1000000000:=by omega
 clear J R hs hd hp ho a7;go_enter func172,ntmps172
 go_wp2_with fail
 rw[<- b7];clear b7 m3 m5 c4 k3;obtain⟨T,hT⟩:=je (tot+p.length);rw[<- hT] at c5;have HT:=jz hT;clear hT n4 n6 hl;go_loopw [0] (λv wr=>∃ E r,Hid (FL gz w0 wr g (D++p) T v E r)) (λv _=>slN v)
 case atStart=>exact⟨D,p,c5⟩
 case round=>
  clear c5;obtain⟨E,r,HF⟩:=hrel;obtain⟨A,cap,rfl,c4,_,a7⟩:=HF.sn;rcases Nat.eq_zero_or_pos r.length with h0|h0
  ·have g1:r=[]:=List.length_eq_zero_iff.1 h0;have d5:=HF.fs;have he:=HF.e;rw[g1,List.append_nil] at he;rw[he] at d5;have h8:=jz d5;rw[h0];clear g1 d5 he HF a7;go_wp2_with fail
   go_end0
   exact⟨rfl,by rw[<- HT.out];exact h8⟩
  ·obtain⟨bs,os,rfl,hx⟩:=a7 h0;obtain⟨bl,J,R⟩:=HF.fs;have q6:(0:Int)<(r.length:Nat):=by omega
   obtain⟨U,hU⟩:=je (E.length % 64);have q0:U<64:=by omega
   rw[<- hU] at J R;have a6:=jz J;have a4:=jz R;have HU:=jz hU;have m4:wr.cell? ⟨g+1+1+1,0,none⟩=some (.int .i64 (U:Nat)):=(J.u.cell 0).trans rfl;have m6:=J.u.frozen 0;obtain⟨c,hc⟩:=je (r.take (min r.length (64-U)));have f7:c.length=min r.length (64-U):=by rw[hc,jv];omega
   have f6:Byn c:=λx hx=>HF.br x (by rw[hc] at hx;exact j7 hx)
   have g3:wr.rangeAt bs os (n8 c):=λj u hj=>hx j u (by
    rw[hc,<- JB,List.getElem?_take] at hj
    split at hj
    ·exact hj
    ·cases hj)
   have d7:(n8 c).length=Nat.min r.length (64-U):=by rw[aR];exact f7
   have h6:wr.there (g+1+1) U (n8 c).length:=λj hj=>⟨by
    rw[aR] at hj
    rw[a6.b.cell (i:=U+j) (by omega)]
    rfl,a6.b.frozen _⟩
   have HC:=jz hc;obtain⟨M,hM⟩:=je ((n8 c).length);have a9:c.length=M:=by rw[hM,aR]
   have q4:M<=r.length/\M<=64-U/\0<M/\(M=64-U\/M=r.length):=by omega
   have HM:Hid (Nat.min r.length (64-U)=M):=jz (d7.symm.trans hM.symm);have m1:prog.arrayLen 243=64:=by kernel_rfl
   have q7:(0:Int)<=U:=by omega
   have r0:(U:Int)<=64:=by omega
   have n2:¬64=U:=by omega
   have c9:=jz hx;clear J R hU hx hc hM f7;go_upto_region 3 with (refine cpm (.tmp 15) (.tmp 16) rfl (by rfl) (cs:=n8 c) (b:=g+1+1) (off:=U) (dn:=64-U) (dc:=64-U) (by rfl) (by rfl) underlying68 (by kernel_rfl) d7 g3 h6 (dO c) ?_)
   rw[HM.out];obtain⟨w2,a2⟩:=je (wr.setCells (g+1+1) U (n8 c));have q3:=jz a2;rw[<- a2];have V:=a6.setB c U f6;rw[<- a2] at V;obtain⟨b2,d1⟩:∃ b,b=λk=>if U<=k/\k<U+c.length then nth c (k-U) else bl k:=⟨_,rfl⟩
   rw[<- d1] at V;have a3:=jz d1;have e1:=jz V;have h9:Hid (∀ k,k≠g+1+1->w2.heap[k]? = wr.heap[k]?):=jz (λk hk=>by rw[a2];exact bB hk _ _ _);have f8:w2.cell? ⟨g+1+1+1,0,none⟩=some (.int .i64 (U:Nat)):=(V.u.cell 0).trans rfl;have f9:=V.u.frozen 0;have m9:(0:Int)<=M:=by omega
   have n0:(M:Int)<=r.length:=by omega
   have n1:(M:Int)<=64:=by omega
   clear a2 V d1 m4 m6 g3 d7 h6 m1 n2 a6;go_upto_region 5 with fail
   obtain⟨w3,c2⟩:=je (w2.setCell ⟨g+1+1+1,0,none⟩ (.int .i64 ((U:Int)+M)));obtain⟨A3,a8⟩:=je ((if cap=M then some (⟨bs,os,none⟩:Addr) else some ⟨bs,os+M,none⟩));rw[<- c2,<- a8];have d2:=e1.setU (U+M);rw[show((U+M:Nat):Int)=(U:Int)+M from by omega,<- c2] at d2;have I:=jz d2;have m2:=HF.ow h0 bs rfl;have f5:bs<wr.heap.size:=by
    have:=c9.out 0 _ (FQ r 0 h0);exact dV this
   have g0:w3.heap[bs]? = wr.heap[bs]?:=by
    rw[c2];exact(Below.heap_setCell _ _ _ _ (by show bs≠g+1+1+1;omega)).trans (h9 bs (by omega))
   have f0:Hid (∀ W:Wd,W.heap[bs]? = wr.heap[bs]?->Sn W 1 (.slice A3 (r.length-M) (cap-M)) (r.drop M).length (n8 (r.drop M))):=jz (λW hW=>by
    have e:(r.drop M).length=r.length-M:=List.length_drop ..
    rw[e]
    refine⟨A3,cap-M,rfl,by omega,by rw[aR,e];omega,λhp=>⟨bs,os+M,by rw[a8,jQ (by omega)],λj u hj=>?_⟩⟩
    rw[<- SY,List.getElem?_drop] at hj
    have:=c9.out (M+j) u hj
    rw[show os+M+j=os+(M+j) from by omega]
    exact(World.cell?_of_block (a:=⟨bs,os+(M+j),none⟩) hW).trans this)
   have e8:Hid (∀ b,(Value.slice A3 (r.length-M) (cap-M)).ownBlock=some b->b<g\/g+1+1+1+1<b):=jz (λb e=>by
    rw[a8] at e
    have:b=bs:=by
     split at e
     ·injection e with e;exact e.symm
     ·injection e with e;exact e.symm
    rw[this];exact m2)
   have K:Hid ((E++c)++r.drop M=D++p/\Byn (E++c)/\Byn (r.drop M)):=jz ⟨by
    rw[HC.out,show min r.length (64-U)=M from HM.out,List.append_assoc,List.take_append_drop]
    exact HF.e,λx hx=>(List.mem_append.1 hx).elim (HF.be x) (f6 x),λx hx=>HF.br x (List.mem_of_mem_drop hx)⟩
   have Z:=jz (And.intro g0 f5);clear c2 a8 d2 g0 f8 f9 c9 e1;rcases jo (U+M) 64 with m8|q5
   ·have a0:FSh gz w0 w3 g (E++c) T:=FSh.less (bl:=bl) (by
     have:=I.out
     rw[a3.out] at this
     rw[<- HU.out,a9]
     rw[a9] at this
     exact this) (by rw[<- HU.out];exact a4) (by rw[<- HU.out,a9];exact m8)
    have c7:Hid (FL gz w0 w3 g (D++p) T (.slice A3 (r.length-M) (cap-M)) (E++c) (r.drop M)):=jz ⟨K.out.1,K.out.2.1,K.out.2.2,f0 w3 Z.out.1,λ_=>e8.out,a0⟩;have h7:¬((U:Int)+M=64):=by omega
    have a1:w3.cell? ⟨g+1+1+1,0,none⟩=some (.int .i64 ((U:Int)+M)):=(I.u.cell 0).trans (by show some (Value.int .i64 ((U+M:Nat):Int))=_;congr 2);clear a0 I a3 a4;go_wp2_with fail
    exact⟨⟨E++c,r.drop M,c7⟩,by show r.length-M<r.length;omega⟩
   ·have k4:U+M=64:=by omega
    have h7:(U:Int)+M=64:=by omega
    have a1:w3.cell? ⟨g+1+1+1,0,none⟩=some (.int .i64 ((U:Int)+M)):=(I.u.cell 0).trans (by show some (Value.int .i64 ((U+M:Nat):Int))=_;congr 2);rw[h7] at a1;have g8:=I.s.range;have g2:=I.b.range;have f2:(prog.info? 253).map (·.size)=some (arr 8 (c32 (kU E))).length:=by rw[aB];kernel_rfl
    have f3:(prog.info? 243).map (·.size)=some (arr 64 (c8 b2)).length:=by rw[aB];kernel_rfl
    clear m9 n0 n1;go_wp2_with (first
     | (refine ld 253 _ rfl rfl rfl g8 underlying253 rfl f2 ?_)
     | (refine ld 243 _ rfl rfl rfl g2 underlying243 rfl f3 ?_))
    refine(KM (kU E) b2 w3 (JC E) I.by_ (HK.below I.be)).mono ?_;rintro e w4 ⟨rfl,b0⟩;have c6:=jz (I.keep b0);have f1:Blk w4 (g+1) 253 (arr 8 (c32 (kU E))).toArray:=c6.s;have k0:Hid (w4.heap[bs]? = wr.heap[bs]?/\bs<w4.heap.size):=jz (by
     have h3:bs<w3.heap.size:=by
      rcases jo bs w3.heap.size with h|h
      ·exact h
      ·have h1:=Z.out.1
       rw[Array.getElem?_eq_none h,Array.getElem?_eq_getElem Z.out.2] at h1
       cases h1
     exact⟨(b0.block bs h3).trans Z.out.1,jp h3 b0.size⟩)
    obtain⟨O,hO⟩:=je ((arr 8 (c32 (gK (kU E) b2))).toArray);have h2:(prog.info? 253).map (·.size)=some O.size:=by rw[hO,aK];kernel_rfl
    have h4:(arr 8 (c32 (kU E))).toArray.size=O.size:=by rw[hO,aK,aK]
    have h5:O.all (·.oneCell')=true:=by rw[hO];exact bW (λ_=>rfl)
    rw[<- hO];have HO:=jz hO;clear hO b0 g8 g2 f2 f3 I Z a1;go_upto_region 7 with (refine aO 253 (.tmp 4) (.tmp 28) rfl rfl rfl rfl f1 h2 h4 h5 ?_;intro w5 d0 f4 e0 _)
    rw[HO.out] at d0;have a5:=jz (c6.setS _ d0 f4 e0);have q1:w5.cell? ⟨g+1+1+1,0,none⟩=some (.int .i64 ((U+M:Nat):Int)):=(a5.u.cell 0).trans rfl;have q2:=a5.u.frozen 0;have k1:Hid (w5.heap[bs]? = wr.heap[bs]?):=jz ((e0 bs (by omega)).trans k0.out.1);have b1:=a5.setU 0;obtain⟨w6,c3⟩:=je (w5.setCell ⟨g+1+1+1,0,none⟩ (.int .i64 0));have b1:FH gz w0 w6 g (gK (kU E) b2) b2 0 T:=by rw[c3];exact b1
    have a0:FSh gz w0 w6 g (E++c) T:=FSh.full (bl:=bl) b1 (by rw[<- HU.out];exact a3) (by rw[<- HU.out];exact a4) (by rw[<- HU.out,a9];exact k4);have c7:Hid (FL gz w0 w6 g (D++p) T (.slice A3 (r.length-M) (cap-M)) (E++c) (r.drop M)):=jz ⟨K.out.1,K.out.2.1,K.out.2.2,f0 w6 (by
     rw[c3]
     exact(Below.heap_setCell _ _ _ _ (by show bs≠g+1+1+1;omega)).trans k1),λ_=>e8.out,a0⟩
    have k2:=jz c3;clear a0 b1 a5 c6 a3 a4 f1 d0 f4 e0 h2 h4 h5 c3;go_wp2_with fail
    rw[<- k2.out];exact⟨⟨E++c,r.drop M,c7⟩,by show r.length-M<r.length;omega⟩
end
section
open Go.RowKit
attribute [local irreducible] wpQuiet wpAnyH
theorem OH:(arr 8 (c32 xM)).toArray=#[.int .u32 1779033703,.int .u32 3144134277,.int .u32 1013904242,.int .u32 2773480762,.int .u32 1359893119,.int .u32 2600822924,.int .u32 528734635,.int .u32 1541459225]:=by kernel_rfl
theorem KR(w:Wd):Wc 171 #[] w (Rt w (.agg (arr 8 (c32 xM)).toArray)):=by
 go_enter func171,ntmps171
 obtain⟨O,x⟩:=je ((arr 8 (c32 xM)).toArray);have K:(prog.info? 253).map (·.size)=some O.size:=by rw[x,aK];kernel_rfl
 have a0:z32x8.size=O.size:=by rw[x,aK];exact aK 8 _
 have a1:O.all (·.oneCell')=true:=by rw[x];exact bW (λ_=>rfl)
 have Z:prog.built 253 [(0,.int .u32 1779033703),(1,.int .u32 3144134277),(2,.int .u32 1013904242),(3,.int .u32 2773480762),(4,.int .u32 1359893119),(5,.int .u32 2600822924),(6,.int .u32 528734635),(7,.int .u32 1541459225)]=some O:=by
  rw[x,OH]
  kernel_rfl
 go_upto_region 1 with (refine al 253 _ rfl rfl uR ?_)
 obtain⟨w1,j⟩:=je (w.alloc (.cells z32x8 253));have V:Blk w1 w.heap.size 253 z32x8:=by rw[j];exact Blk.new _ _ _
 have I:Bw w w1:=by rw[j];exact(ji _ w).alloc (ja _) _
 rw[<- j];have HB:=jz I;have HO:=jz x;clear j x I;go_wp2_with (first
  | (refine eC 253 _ rfl rfl rfl Z ?_)
  | (refine aO 253 (.tmp 0) (.tmp 1) rfl rfl rfl rfl V K a0 a1 ?_;intro w3 D J _ _;have R:=jz D;have U:=jz J;clear D J))
 exact bodyPost_ret (results_cell_row rfl _ _ w.heap.size 253 _ (0,0) _ rfl R underlying253 rfl K) rfl ⟨by rw[<- HO.out],HB.trans U⟩
def z8x32:Wa:=(arr 32 (c8 λ_=>0)).toArray
theorem lT:∀ w,(zeroValue 25).run prog w = .ok (.agg z8x32) w:=λw=>by unfold z8x32;kernel_rfl
def z8x64:Wa:=(arr 64 (c8 λ_=>0)).toArray
theorem uT:∀ w,(zeroValue 243).run prog w = .ok (.agg z8x64) w:=λw=>by unfold z8x64;kernel_rfl
structure PN(w:Wd)(va:Value)(ps:List (Value×List Nat)):Prop where
 row:Sn w 1 va ps.length (ps.map (·.1))
 part:∀ p∈ps,Sn w 1 p.1 p.2.length (n8 p.2)
 byn:∀ p∈ps,Byn p.2
theorem PN.below{w w':Wd}{j:Value}{ps:List (Value×List Nat)}(h:PN w j ps)(hb:Bw w w'):PN w' j ps:=
 ⟨h.row.below hb,λp x=>(h.part p x).below hb,h.byn⟩
def cL(ps:List (Value×List Nat)):List Nat:=ps.flatMap (·.2)
theorem yH(ps:List (Value×List Nat))(k:Nat)(h:k<ps.length):cL (ps.take (k+1))=cL (ps.take k)++ps[k].2:=by
 unfold cL;rw[j6 h,List.flatMap_append];simp only[List.flatMap_cons,List.flatMap_nil,List.append_nil]
theorem S3(ps:List (Value×List Nat))(k:Nat):(cL (ps.take k)).length<=(cL ps).length:=by
 have:cL ps=cL (ps.take k)++cL (ps.drop k):=by
  unfold cL;rw[<- List.flatMap_append,List.take_append_drop]
 rw[this,jj];omega
theorem CZ{ps:List (Value×List Nat)}(h:∀ p∈ps,Byn p.2)(k:Nat):Byn (cL (ps.take k)):=λx j=>by
 unfold cL at j;obtain⟨p,D,j⟩:=List.mem_flatMap.1 j;exact h p (j7 D) x j
theorem PN.at{w:Wd}{A:Option Addr}{cap:Nat}{ps:List (Value×List Nat)}(h:PN w (.slice A ps.length cap) ps)(k:Nat)(J:k<ps.length):
  ∃ b off j x,A=some ⟨b,off,none⟩/\w.cell? ⟨b,off+k,none⟩=some (.slice j ps[k].2.length x)/\Sn w 1 (.slice j ps[k].2.length x) ps[k].2.length (n8 ps[k].2):=by
 obtain⟨R,I,hv,_,U,O⟩:=h.row;injection hv with hA _ _
 subst hA;obtain⟨b,off,rfl,K⟩:=O (by omega);have D:=h.part ps[k] (List.getElem_mem J);obtain⟨j,x,e,_,_,_⟩:=id D;have:=K k ps[k].1 (by simp[J]);rw[e] at this D;exact⟨b,off,j,x,rfl,this,D⟩
theorem Sn.ownLt{w:Wd}{v:Value}{l:List Nat}(h:Sn w 1 v l.length (n8 l))(j:0<l.length):∀ b,v.ownBlock=some b->b<w.heap.size:=λb e=>by
 obtain⟨A,cap,rfl,_,_,D⟩:=h;obtain⟨g,off,rfl,x⟩:=D j;have:=dV (x 0 _ (FQ l 0 j));injection e with e
 rw[<- e];exact this
theorem OI(S:Nat->Nat)(k j:Nat)(D:j<4):((S k:Nat):Int)/2 ^ (24-8*j) % 256=((lS S (4*k+j):Nat):Int):=by
 have x:(4*k+j)/4=k:=by omega
 have e2:(4*k+j) % 4=j:=by omega
 have e3:(256:Nat) ^ (3-j)=2 ^ (24-8*j):=by
  have:j=0\/j=1\/j=2\/j=3:=by omega
  rcases this with rfl|rfl|rfl|rfl <;> rfl
 unfold lS;rw[x,e2,e3];simp only[Int.natCast_emod,Int.natCast_ediv,Int.natCast_pow,Int.cast_ofNat_Int]
theorem OJ:kU []=xM:=by unfold kU;rfl
theorem WK{w:Wd}{base e s n:Nat}{v:Value}{D:Wv}(h:w.ownsRow base e s v n D)(O:0<n):∀ b,v.ownBlock=some b->base<=b:=λb e=>by
 obtain⟨K,h|⟨I,j,x,rfl,hb,_⟩⟩:=h
 ·obtain⟨h1,J⟩:=h;have:v.ownBlock=none:=by subst h1;rfl
  rw[this] at e;cases e
 ·injection e with e
  rw[<- e];exact hb
theorem JD(va:Value)(ps:List (Value×List Nat))(w:Wd)(h:PN w va ps)(hn:ps.length<=1000)(ht:(cL ps).length<=900000000)(hk:TabK w):
  Wc 113 #[va] w (Rt w (.agg (n8 (mR (cL ps))).toArray)):=by
 obtain⟨A,cap,rfl,n0,_,_⟩:=id h.row;have HP:=jz h;have HK:=jz hk;clear h hk;go_enter func113,ntmps113
 go_upto_region 1 with (refine al 25 _ rfl rfl lT ?_)
 obtain⟨gz,b0⟩:=je w.heap.size;obtain⟨w1,d1⟩:=je (w.alloc (.cells z8x32 25));have a5:Hid (AB w1 gz 25 32 (c8 λ_=>0)/\Bw w w1/\w1.heap.size=gz+1):=jz (by
  rw[d1,b0]
  exact⟨Blk.new _ _ _,(ji _ w).alloc (ja _) _,by simp⟩)
 rw[<- d1];simp only[<- b0];have e0:=jz b0;clear d1 b0;go_wp2_with fail
 refine(KR w1).mono ?_;rintro e w2 ⟨rfl,a7⟩;have V:Hid (AB w2 gz 25 32 (c8 λ_=>0)/\Bw w w2/\gz+1<=w2.heap.size):=jz ⟨a5.out.1.keep a7,aA a5.out.2.1 a7,by have:=a7.size;have:=a5.out.2.2;omega⟩;clear a7 a5;obtain⟨O,hO⟩:=je ((arr 8 (c32 xM)).toArray);have a2:(prog.info? 253).map (·.size)=some O.size:=by rw[hO,aK];kernel_rfl
 have b7:z32x8.size=O.size:=by rw[hO,aK];exact aK 8 _
 have c2:O.all (·.oneCell')=true:=by rw[hO];exact bW (λ_=>rfl)
 have HO:=jz hO;rw[<- hO];clear hO;go_upto_region 2 with (first
  | (refine al 253 _ rfl rfl uR ?_)
  | (refine bZ (cells:=O) 253 (.tmp 3) (.tmp 14) rfl rfl (by rfl) (by rfl) a2 b7 c2 ?_;intro w3 a6 c6 a3))
 obtain⟨g,hg⟩:∃ g,w2.heap.size=g+1:=⟨w2.heap.size-1,by have:=V.out.2.2;omega⟩;rw[hg] at a6 a3 ⊢;have d2:Hid (AB w3 (g+1) 253 8 (c32 xM)/\AB w3 gz 25 32 (c8 λ_=>0)/\Bw w w3/\gz<=g/\w.heap.size<=g):=jz ⟨by rw[HO.out] at a6;exact a6,V.out.1.keep c6,aA V.out.2.1 c6,by have:=V.out.2.2;omega,by have:=V.out.2.2;have:=e0.out;omega⟩;have c5:=jz a3;clear a6 c6 a3 a2 b7 c2 hg V HO;go_upto_region 4 with (refine al 243 _ rfl rfl uT ?_)
 rw[c5.out];obtain⟨w5,Z⟩:=je (((w3.alloc (.cells z8x64 243)).alloc (.cells #[.int .i64 0] 3)).alloc (.cells #[.int .i64 0] 3));have d7:Hid (FSh gz w w5 g (cL (ps.take 0)) (cL (ps.take 0)).length):=jz (by
  obtain⟨h1,h2,h3,h4,h5⟩:=d2.out
  have e3:=c5.out
  have I:Bw w3 w5:=by rw[Z];exact(((ji _ w3).alloc (ja _) _).alloc (by simp) _).alloc (by simp;omega) _
  refine⟨λ_=>0,⟨aA h3 I,h5,h4,h2.keep I,by
   show AB w5 (g+1) _ 8 (c32 (kU []))
   rw[OJ]
   exact h1.keep I,by
   rw[Z]
   exact((Blk.newAt _ _ _ _ e3).alloc _).alloc _,λk=>by show 0<256;omega,by
   rw[Z]
   exact(Blk.newAt _ _ _ _ (by simp[e3])).alloc _,by
   rw[Z]
   exact Blk.newAt _ _ _ _ (by simp[e3])⟩,λk hk=>by
   have:([]:List Nat).length % 64=0:=rfl
   have hk:k<0:=hk
   omega⟩)
 rw[<- Z];clear Z d2 c5;go_wp2_with fail
 go_loopw [18] (λi wr=>∃ k:Nat,k<=ps.length/\i = .int .i64 (k:Int)/\Hid (FSh gz w wr g (cL (ps.take k)) (cL (ps.take k)).length)) (λi _=>ps.length-(intOf i).toNat)
 case atStart=>exact⟨0,j0 _,rfl,d7⟩
 case round=>
  clear d7;obtain⟨k,hk,rfl,HF⟩:=hrel;obtain⟨bl,D,J⟩:=HF.out;have I:=D.be;have g2:=D.lo;rcases jo k ps.length with R|f8
  ·obtain⟨b,off,A',c',hA,hc,c9⟩:=HP.at k R;subst hA;have n3:=j9 I hc;have a0:=jz (CY gz w wr g (cL (ps.take k)).length (cL (ps.take k)) ps[k].2 (.slice A' ps[k].2.length c') HF (c9.below I) (CZ HP.byn k) (HP.byn _ (List.getElem_mem R)) (λh0 b e=>.inl (by have:=Sn.ownLt c9 h0 b e;omega)) (by have h1:=yH ps k R;have h2:=S3 ps (k+1);rw[h1,jj] at h2;omega) HK);have m1:=jz (yH ps k R);have m5:(0:Int)<=k:=by omega
   have m6:(k:Int)<ps.length:=by omega
   clear D J I g2 c9 hc;go_wp2_with fail
   refine a0.mono ?_;rintro e w6 ⟨rfl,a8⟩;have k3:Hid (FSh gz w w6 g (cL (ps.take (k+1))) (cL (ps.take (k+1))).length):=jz (by rw[m1.out,jj];exact a8);clear a8 a0;go_wp2_with fail
   exact⟨⟨k+1,by omega,by go_num,k3⟩,by simp[intOf];omega⟩
  ·have g1:k=ps.length:=by omega
   have m9:¬(k:Int)<ps.length:=by omega
   rw[g1,List.take_length] at HF;obtain⟨L,hL⟩:=je (cL ps);rw[<- hL] at ht HF;have HL:=jz hL;have f6:Byn L:=by rw[hL];have:=CZ HP.byn ps.length;rwa [List.take_length] at this
   have k0:=jz f6;obtain⟨bl,D,J⟩:=HF.out;have m3:wr.cell? ⟨g+1+1+1+1,0,none⟩=some (.int .i64 (L.length:Nat)):=(D.t.cell 0).trans rfl;have e1:=jz (CR L.length wr (by omega));clear D J I g2 hL f6 g1 f8;go_wp2_with fail
   refine e1.mono ?_;rintro e w6 ⟨vp,rfl,b1,f4⟩;obtain⟨PL,a1⟩:=je (arr (mB L.length) (KN L.length));have c7:PL.length=mB L.length:=by rw[a1];exact aB _ _
   rw[<- FT,<- a1,<- c7] at b1;have g8:Byn PL:=λx hx=>by
    rw[a1] at hx;unfold arr at hx;obtain⟨q,_,rfl⟩:=List.mem_map.1 hx;exact SW _ _ _
   have g3:PL.length<=72:=by rw[c7];unfold mB SV;omega
   obtain⟨bl,D,J⟩:=HF.out;have m4:g+1+1+1+1<wr.heap.size:=D.t.lt;have c3:FSh gz w w6 g L L.length:=⟨bl,D.keep f4,J⟩;have a0:=jz (CY gz w w6 g L.length L PL vp c3 (Sn.own b1) k0 g8 (λh0 b e=>.inr (by have:=WK b1 h0 b e;omega)) (by omega) HK);have k4:=jz a1;clear c3 D J g8 b1 f4 a1 c7 g3 m4 m3 HF e1;go_wp2_with fail
   refine a0.mono ?_;rintro e w7 ⟨rfl,a8⟩;obtain⟨bl,D,J⟩:=a8;obtain⟨S,hS⟩:=je (kU (L++PL));rw[<- hS] at D;have U:=jz D;have f0:=jz hS;clear D J hS a0;go_upto_region 12 with (refine al 25 _ rfl rfl lT ?_)
   obtain⟨gd,a9⟩:=je w7.heap.size;obtain⟨w8,a4⟩:=je (w7.alloc (.cells z8x32 25));have n6:g+1+1+1+1<gd:=by rw[a9];exact U.t.lt
   have d5:Hid (AB w8 gd 25 32 (c8 λq=>if q<4*0+0 then lS S q else 0)/\AB w8 gz 25 32 (c8 λ_=>0)/\Bw w w8):=jz (by
    have hb:Bw w7 w8:=by rw[a4];exact(ji _ w7).alloc (ja _) _
    have f7:=U.keep hb
    refine⟨?_,f7.z,f7.be⟩
    have hB:AB w8 gd 25 32 (c8 λ_=>0):=by rw[a4,a9];exact Blk.new _ _ _
    exact hB.ext (λq _=>by show _=Value.int .u8 ((if q<4*0+0 then lS S q else 0:Nat):Int);rw[jQ (by omega)];rfl))
   have e8:Hid (AB w8 (g+1) 253 8 (c32 S)):=jz (by
    have hb:Bw w7 w8:=by rw[a4];exact(ji _ w7).alloc (ja _) _
    exact U.s.keep hb)
   have f1:=jz (And.intro U.zl U.lo);have n1:Hid (WsF S):=jz (by rw[f0.out];exact JC _);rw[<- a4];simp only[<- a9];clear a4 a9 U;have h7:=e8.range;have f3:(prog.info? 253).map (·.size)=some (arr 8 (c32 S)).length:=by rw[aB];kernel_rfl
   go_wp2_with (refine ld 253 _ rfl rfl rfl h7 underlying253 rfl f3 ?_)
   obtain⟨O,hO⟩:=je ((arr 8 (c32 S)).toArray);have HO:Hid (∀ j,j<8->O[j]? = some (.int .u32 (S j:Nat))):=jz (λj hj=>by rw[hO,jf,fG _ hj];rfl);rw[<- hO];clear hO h7 f3 e8;go_loopw [31] (λi wr=>∃ k:Nat,k<=8/\i = .int .i64 (k:Int)/\Hid (AB wr gd 25 32 (c8 λq=>if q<4*k+0 then lS S q else 0)/\AB wr gz 25 32 (c8 λ_=>0)/\Bw w wr)) (λi _=>8-(intOf i).toNat)
   case atStart=>exact⟨0,j0 _,rfl,d5⟩
   case round=>
    clear d5;obtain⟨k,hk,rfl,K⟩:=hrel;rcases jo k 8 with R|f8
    ·have m5:(0:Int)<=k:=by omega
     have m6:(k:Int)<8:=by omega
     have m2:∀ W,(Instr.index 253 (.agg O) (.int .i64 (k:Int))).run prog W = .ok (.int .u32 (S k:Nat)) W:=fA _ k underlying253 R (λw=>by kernel_rfl) (λw=>by kernel_rfl) (HO k R);go_wp2_with fail
     clear m2;go_loopw [35] (λi wr=>∃ j:Nat,j<=4/\i = .int .i64 (j:Int)/\Hid (AB wr gd 25 32 (c8 λq=>if q<4*k+j then lS S q else 0)/\AB wr gz 25 32 (c8 λ_=>0)/\Bw w wr)) (λi _=>4-(intOf i).toNat)
     case atStart=>exact⟨0,j0 _,rfl,K⟩
     case round=>
      clear K;obtain⟨j,hj,rfl,K⟩:=hrel;rcases jo j 4 with m8|g0
      ·have q0:(0:Int)<=j:=by omega
       have q1:(j:Int)<4:=by omega
       have n2:wr.cell? ⟨gd,4*k+j,none⟩=some (.int .u8 0):=by
        rw[K.out.1.cell (i:=4*k+j) (by omega)];show some (Value.int .u8 ((if 4*k+j<4*k+j then lS S (4*k+j) else 0:Nat):Int))=_;rw[jQ (Nat.lt_irrefl _)];rfl
       have n4:=K.out.1.frozen (4*k+j);have d0:=K.out.1.set (4*k+j) (.int .u8 (lS S (4*k+j):Nat));rw[gV,<- OI S k j m8] at d0;have c4:Hid (AB (wr.setCell ⟨gd,4*k+j,none⟩ (.int .u8 (((S k:Nat):Int)/2 ^ (24-8*j) % 256))) gd 25 32 (c8 λq=>if q<4*k+(j+1) then lS S q else 0)/\AB (wr.setCell ⟨gd,4*k+j,none⟩ (.int .u8 (((S k:Nat):Int)/2 ^ (24-8*j) % 256))) gz 25 32 (c8 λ_=>0)/\Bw w (wr.setCell ⟨gd,4*k+j,none⟩ (.int .u8 (((S k:Nat):Int)/2 ^ (24-8*j) % 256)))):=jz ⟨d0.ext (λq _=>by
        show Value.int .u8 ((cJ (λq=>if q<4*k+j then lS S q else 0) (4*k+j) (lS S (4*k+j)) q:Nat):Int)=Value.int .u8 ((if q<4*k+(j+1) then lS S q else 0:Nat):Int)
        congr 2
        unfold cJ
        by_cases e:q=4*k+j
        ·rw[jP e,jP (by omega),e]
        ·rw[jQ e]
         show(if q<4*k+j then lS S q else 0)=_
         by_cases e2:q<4*k+j
         ·rw[jP e2,jP (by omega)]
         ·rw[jQ e2,jQ (by omega)]),K.out.2.1.far (by have:=f1.out.1;show gz≠gd;omega) _,K.out.2.2.setCell (by have:=f1.out.2;show w.heap.size<=gd;omega) _⟩
       have q4:(4:Int)*k+j<32:=by omega
       have q5:(0:Int)<=4*(k:Int)+j:=by omega
       clear d0 K;go_wp2_with fail
       exact⟨⟨j+1,by omega,by go_num,c4⟩,by simp[intOf];omega⟩
      ·have f9:j=4:=by omega
       have q2:¬(j:Int)<4:=by omega
       have c4:Hid (AB wr gd 25 32 (c8 λq=>if q<4*(k+1)+0 then lS S q else 0)/\AB wr gz 25 32 (c8 λ_=>0)/\Bw w wr):=jz (by
        have h1:=K.out
        rw[f9] at h1
        exact h1)
       clear K f9 hj g0;go_wp2_with fail
       exact⟨⟨k+1,by omega,by go_num,c4⟩,by simp[intOf];omega⟩
    ·have q3:k=8:=by omega
     have m9:¬(k:Int)<8:=by omega
     have hD:AB wr gd 25 32 (c8 (lS S)):=K.out.1.ext (λq hq=>by
      show Value.int .u8 ((if q<4*k+0 then lS S q else 0:Nat):Int)=Value.int .u8 (lS S q:Nat)
      rw[jP (by omega)])
     have h6:=hD.range;have k1:Blk wr gz 25 z8x32:=K.out.2.1;have h9:=jz K.out.2.2;have hI:(prog.info? 25).map (·.size)=some (arr 32 (c8 (lS S))).length:=by rw[aB];kernel_rfl
     obtain⟨M,hM⟩:=je (arr 32 (c8 (lS S)));rw[<- hM] at h6 hI;have a2:(prog.info? 25).map (·.size)=some M.toArray.size:=by rw[js];exact hI
     have b7:z8x32.size=M.toArray.size:=by rw[hM,aK];exact aK 32 _
     have c2:M.toArray.all (·.oneCell')=true:=by rw[hM];exact bW (λ_=>rfl)
     have HM:Hid (M=n8 (mR (cL ps))):=jz (by
      rw[hM,f0.out,k4.out,HL.out]
      unfold mR
      rw[FT])
     clear hM K hD;go_wp2_with (first
      | (refine ld 25 _ rfl rfl rfl h6 underlying25 rfl hI ?_)
      | (refine aO 25 (.tmp 2) (.tmp 51) rfl rfl rfl rfl k1 a2 b7 c2 ?_;intro w9 f2 f5 _ _;have h8:=jz f2;have k2:=jz f5;clear f2 f5))
     exact bodyPost_ret (results_cell_row rfl _ _ gz 25 _ (0,0) _ rfl h8 underlying25 rfl a2) rfl ⟨by rw[<- HM.out],h9.trans (k2.mono (by rw[e0.out];exact ja _))⟩
def s6(key:List Nat):Nat->Nat:=nth (if 64<key.length then mR key else key)
def OK(x:Nat)(f:Nat->Nat):Nat->Nat:=λk=>f k ^^^ x
def uU(x:Nat)(f:Nat->Nat)(l:List Nat):List Nat:=mR (arr 64 (OK x f)++l)
def jB(key l:List Nat):List Nat:=uU 92 (s6 key) (uU 54 (s6 key) l)
theorem JE{key:List Nat}(h:Byn key):bD (s6 key):=λk=>by
 unfold s6;split
 ·exact lK (jY key) k
 ·exact lK h k
theorem S4{x:Nat}{f:Nat->Nat}(D:x<256)(j:bD f):bD (OK x f):=λk=>Nat.xor_lt_two_pow (n:=8) (j k) D
theorem OL:SlT prog 261 68 1 24:=SlT.mk' underlying261 (z:=.slice none 0 0) (by kernel_rfl) rfl (by decide)
theorem PN.one{w:Wd}{D:Value}{ps:List (Value×List Nat)}(h:PN w D ps):∀ u∈ps.map (·.1),u.oneCell'=true:=λu x=>by
 obtain⟨p,j,rfl⟩:=List.mem_map.1 x;obtain⟨A,cap,e,_⟩:=h.part p j;rw[e];rfl
theorem JF{n:Nat}{f:Nat->Nat}(h:bD f):Byn (arr n f):=λx j=>by
 unfold arr at j;obtain⟨k,_,rfl⟩:=List.mem_map.1 j;exact h k
theorem C0(x:Nat)(pf:Nat->Nat)(gp:Nat)(va:Value)(ps:List (Value×List Nat))(w:Wd)(hx:x<256)(d7:bD pf)(hB:AB w gp 243 64 (c8 pf))(hP:PN w va ps)(hn:ps.length<=100)(ht:(cL ps).length<=800000000)(hk:TabK w):
  Wc 316 #[.int .u8 (x:Nat),va,.pointer (some ⟨gp,0,none⟩)] w (Rt w (.agg (n8 (uU x pf (cL ps))).toArray)):=by
 obtain⟨A,cap,rfl,f5,_,_⟩:=id hP.row;have HP:=jz hP;have HK:=jz hk;have c4:=jz d7;clear hP hk d7;go_enter func316,ntmps316
 go_upto_region 1 with (refine al 25 _ rfl rfl lT ?_)
 obtain⟨gz,a0⟩:=je w.heap.size;obtain⟨w1,a3⟩:=je (w.alloc (.cells z8x32 25));have I:Bw w w1:=by rw[a3];exact(ji _ w).alloc (ja _) _
 have c7:=hB.keep I;have a8:AB w1 gz 25 32 (c8 λ_=>0):=by rw[a3,a0];exact Blk.new _ _ _
 have d5:=hB.lt;have a7:Hid (gz=w.heap.size/\gz<w1.heap.size):=jz ⟨a0,a8.lt⟩;rw[<- a3];simp only[<- a0];have U:=jz I;have c6:=jz a8;clear a3 a0 hB a8 d5 I;have b7:=c7.range;have hI:(prog.info? 243).map (·.size)=some (arr 64 (c8 pf)).length:=by rw[aB];kernel_rfl
 obtain⟨O,hO⟩:=je (arr 64 (c8 pf));rw[<- hO] at b7 hI;have R:(prog.info? 243).map (·.size)=some O.toArray.size:=by rw[js];exact hI
 have a1:z8x64.size=O.toArray.size:=by rw[hO,aK];exact aK 64 _
 have a2:O.toArray.all (·.oneCell')=true:=by rw[hO];exact bW (λ_=>rfl)
 have HO:=jz hO;clear hO c7;go_upto_region 2 with (first
  | (refine ld 243 _ rfl rfl rfl b7 underlying243 rfl hI ?_)
  | (refine al 243 _ rfl rfl uT ?_)
  | (refine bZ (cells:=O.toArray) 243 (.tmp 6) (.tmp 8) rfl rfl (by rfl) (by rfl) R a1 a2 ?_;intro w3 V a9 e1))
 obtain⟨gf,b1⟩:=je w1.heap.size;rw[<- b1] at V ⊢;have h0:gz<gf:=by rw[b1];exact a7.out.2
 have c3:Hid (AB w3 gf 243 64 (c8 λq=>if q<0 then pf q ^^^ x else pf q)/\AB w3 gz 25 32 (c8 λ_=>0)/\Bw w w3):=jz (by
  rw[HO.out] at V
  exact⟨AB.ext V (λq _=>by show _=Value.int .u8 ((if q<0 then pf q ^^^ x else pf q:Nat):Int);rw[jQ (by omega)];rfl),c6.keep a9,aA U a9⟩)
 clear V a9 e1 b1 b7 hI R a1 a2 U c6 HO;go_wp2_with fail
 go_loopw [9] (λi wr=>∃ k:Nat,k<=64/\i = .int .i64 (k:Int)/\Hid (AB wr gf 243 64 (c8 λq=>if q<k then pf q ^^^ x else pf q)/\AB wr gz 25 32 (c8 λ_=>0)/\Bw w wr)) (λi _=>64-(intOf i).toNat)
 case atStart=>exact⟨0,j0 _,rfl,c3⟩
 case round=>
  clear c3;obtain⟨k,hk,rfl,D⟩:=hrel;rcases jo k 64 with f4|g0
  ·have g1:(0:Int)<=k:=by omega
   have g2:(k:Int)<64:=by omega
   have f8:wr.cell? ⟨gf,k,none⟩=some (.int .u8 (pf k:Nat)):=by
    rw[D.out.1.cell f4];show some (Value.int .u8 ((if k<k then pf k ^^^ x else pf k:Nat):Int))=_;rw[jQ (Nat.lt_irrefl _)]
   have f9:=D.out.1.frozen k;have g8:=u8_xor_nat (pf k) x (c4 k) hx;have c2:=D.out.1.set k (.int .u8 (pf k ^^^ x:Nat));rw[gV] at c2;have f2:Hid (AB (wr.setCell ⟨gf,k,none⟩ (.int .u8 (pf k ^^^ x:Nat))) gf 243 64 (c8 λq=>if q<k+1 then pf q ^^^ x else pf q)/\AB (wr.setCell ⟨gf,k,none⟩ (.int .u8 (pf k ^^^ x:Nat))) gz 25 32 (c8 λ_=>0)/\Bw w (wr.setCell ⟨gf,k,none⟩ (.int .u8 (pf k ^^^ x:Nat)))):=jz ⟨c2.ext (λq _=>by
    show Value.int .u8 ((cJ (λq=>if q<k then pf q ^^^ x else pf q) k (pf k ^^^ x) q:Nat):Int)=Value.int .u8 ((if q<k+1 then pf q ^^^ x else pf q:Nat):Int)
    congr 2
    unfold cJ
    by_cases e:q=k
    ·rw[jP e,jP (by omega),e]
    ·rw[jQ e]
     show(if q<k then pf q ^^^ x else pf q)=_
     by_cases e2:q<k
     ·rw[jP e2,jP (by omega)]
     ·rw[jQ e2,jQ (by omega)]),D.out.2.1.far (by show gz≠gf;omega) _,D.out.2.2.setCell (by have:=a7.out.1;show w.heap.size<=gf;omega) _⟩
   clear c2 D;go_wp2_with fail
   exact⟨⟨k+1,by omega,by go_num,f2⟩,by simp[intOf];omega⟩
  ·have f6:k=64:=by omega
   have g3:¬(k:Int)<64:=by omega
   have HF:Hid (AB wr gf 243 64 (c8 (OK x pf))):=jz (D.out.1.ext (λq hq=>by
    show Value.int .u8 ((if q<k then pf q ^^^ x else pf q:Nat):Int)=Value.int .u8 ((OK x pf q:Nat):Int)
    rw[jP (by omega)]
    rfl))
   have HZ:=jz D.out.2;have a6:Sn (wr.alloc (.cells #[.slice (some ⟨gf,0,none⟩) 64 64] 68)) 1 (.slice A ps.length cap) ps.length (ps.map (·.1)):=(HP.row.below D.out.2.2).alloc _;have a5:=World.ownsRow_lit (base:=w.heap.size) (e:=68) (size:=1) wr #[.slice (some ⟨gf,0,none⟩) 64 64] 1 D.out.2.2.size (by decide) rfl;have f7:=D.out.2.2.size;have a4:=HP.one;clear D;go_wp2_with (at_builtin;refine app OL (.tmp 20) (.tmp 21) rfl (by rfl) (base:=w.heap.size) (by rfl) a5 (by rfl) a6 a4 (by unfold maxLen;omega) (by omega) (by simp;omega) ?_;intro v' w' h2 hg h4)
   have j:Bw wr w':=((ji _ wr).alloc (ja _) _).grown hg (by simp) (λg e=>by cases e;exact ja _);obtain⟨F,hF⟩:=je (arr 64 (OK x pf));have Z:F.length=64:=by rw[hF];exact aB _ _
   have d0:Byn F:=by rw[hF];exact JF (S4 hx c4)
   have e0:PN w' v' ((.slice (some ⟨gf,0,none⟩) 64 64,F) :: ps):=⟨by
    have:=Sn.own h2
    rw[show 1+ps.length=((.slice (some ⟨gf,0,none⟩) 64 64,F) :: ps:List (Value×List Nat)).length from by simp;omega] at this
    exact this,λp hp=>by
    rcases List.mem_cons.1 hp with rfl|hp
    ·show Sn w' 1 (.slice (some ⟨gf,0,none⟩) 64 64) F.length (n8 F)
     rw[Z]
     refine⟨some ⟨gf,0,none⟩,64,rfl,ja _,by rw[aR,Z],λ_=>⟨gf,0,rfl,?_⟩⟩
     have h3:=(HF.keep j).range
     rw[hF,FT]
     exact h3
    ·exact(HP.part p hp).below (aA HZ.out.2 j),λp hp=>by
    rcases List.mem_cons.1 hp with rfl|hp
    ·exact d0
    ·exact HP.byn p hp⟩
   have J:cL ((.slice (some ⟨gf,0,none⟩) 64 64,F) :: ps)=F++cL ps:=by unfold cL;rw[List.flatMap_cons]
   have c5:=jz (JD v' ((.slice (some ⟨gf,0,none⟩) 64 64,F) :: ps) w' e0 (by simp;omega) (by rw[J,jj,Z];omega) (HK.below (aA HZ.out.2 j)));have d1:=HZ.out.1.keep j;have U:=jz (aA HZ.out.2 j);have HC:Hid (mR (cL ((.slice (some ⟨gf,0,none⟩) 64 64,F) :: ps))=uU x pf (cL ps)):=jz (by rw[J,hF];rfl);clear e0 J d0 Z hF a5 a6 a4 h2 hg h4 HF HZ j;refine c5.mono ?_;rintro e w7 ⟨rfl,b0⟩;rw[HC.out];have f1:Blk w7 gz 25 z8x32:=d1.keep b0;have e8:=jz (aA U b0);obtain⟨M,hM⟩:=je (n8 (uU x pf (cL ps)));have K:M.length=32:=by rw[hM,aR];exact dA _
   have R:(prog.info? 25).map (·.size)=some M.toArray.size:=by rw[js,K];kernel_rfl
   have a1:z8x32.size=M.toArray.size:=by rw[show M.toArray.size=32 from by rw[js,K]];exact aK 32 _
   have a2:M.toArray.all (·.oneCell')=true:=by rw[hM];exact all_oneCell_toArray (dO _)
   rw[<- hM];have HM:=jz hM;clear hM b0 d1 c5 K;go_wp2_with (refine aO 25 (.tmp 5) (.tmp 23) rfl rfl rfl rfl f1 R a1 a2 ?_;intro w9 c9 d2 _ _;have f0:=jz c9;have f3:=jz d2;clear c9 d2)
   exact bodyPost_ret (results_cell_row rfl _ _ gz 25 _ (0,0) _ rfl f0 underlying25 rfl R) rfl ⟨by rw[<- HM.out],e8.trans (f3.mono (by have:=a7.out.1;omega))⟩
theorem VW{w:Wd}{gi:Nat}{l:List Nat}(n:Nat)(j:l.length=n)(x:w.rangeAt gi 0 (n8 l)):Sn w 1 (.slice (some ⟨gi,0,none⟩) n n) l.length (n8 l):=by
 subst j;exact⟨some ⟨gi,0,none⟩,_,rfl,ja _,by rw[aR,Nat.mul_one],λ_=>⟨gi,0,rfl,x⟩⟩
theorem WM{w:Wd}{h gi:Nat}{l:List Nat}(n:Nat)(K:l.length=n)(O:w.rangeAt gi 0 (n8 l))(J:w.cell? ⟨h,0,none⟩=some (.slice (some ⟨gi,0,none⟩) n n))(hb:Byn l):PN w (.slice (some ⟨h,0,none⟩) 1 1) [(.slice (some ⟨gi,0,none⟩) n n,l)]:=
 ⟨⟨some ⟨h,0,none⟩,1,rfl,ja _,rfl,λ_=>⟨h,0,rfl,λj u D=>by
  have I:j=0:=by
   have:=(List.getElem?_eq_some_iff.1 D).1
   simp at this
   omega
  subst I
  have:some (Value.slice (some ⟨gi,0,none⟩) n n)=some u:=D
  injection this with this
  rw[<- this]
  exact J⟩⟩,λp x=>by
  rw[List.mem_singleton.1 x]
  exact VW n K O,λp x=>by
  rw[List.mem_singleton.1 x]
  exact hb⟩
theorem uV(vk va:Value)(key:List Nat)(ps:List (Value×List Nat))(w:Wd)(hs:Sn w 1 vk key.length (n8 key))(d1:Byn key)(f3:key.length<=64)(hP:PN w va ps)(hn:ps.length<=100)(ht:(cL ps).length<=800000000)(hk:TabK w):
  Wc 281 #[vk,va] w (Rt w (.agg (n8 (jB key (cL ps))).toArray)):=by
 obtain⟨Ak,f5,rfl,f2,_,_⟩:=id hs;have HP:=jz hP;have HK:=jz hk;have HS:=jz hs;have c3:=jz d1;clear hP hk hs d1;go_enter func281,ntmps281
 go_upto_region 2 with (first
  | (refine al 25 _ rfl rfl lT ?_)
  | (refine al 243 _ rfl rfl uT ?_))
 obtain⟨gz,a4⟩:=je w.heap.size;obtain⟨w1,a9⟩:=je ((w.alloc (.cells z8x32 25)).alloc (.cells z8x64 243));have x:Hid (AB w1 gz 25 32 (c8 λ_=>0)/\AB w1 (gz+1) 243 64 (c8 λ_=>0)/\Bw w w1):=jz (by
  rw[a9,a4]
  exact⟨(Blk.new _ _ _).alloc _,Blk.newAt _ _ _ _ (by simp),((ji _ w).alloc (ja _) _).alloc (by simp) _⟩)
 rw[<- a9];simp only[World.size_alloc,<- a4];have b1:=jz a4;clear a9 a4;have f6:(key.length:Int)<=64:=by omega
 have d5:=HS.below x.out.2.2;have d7:w1.there (gz+1) 0 key.length:=λj hj=>⟨by
  rw[Nat.zero_add,x.out.2.1.cell (i:=j) (by omega)]
  rfl,x.out.2.1.frozen _⟩
 have a6:=dO key;go_upto_region 6 with (refine cp (.tmp 18) (.tmp 19) rfl (by rfl) (b:=gz+1) (off:=0) (dn:=64) (dc:=64) (by rfl) (by rfl) underlying68 (by kernel_rfl) d5 f3 d7 a6 ?_)
 obtain⟨w2,b0⟩:=je (w1.setCells (gz+1) 0 (n8 key));have D:Hid (AB w2 gz 25 32 (c8 λ_=>0)/\AB w2 (gz+1) 243 64 (c8 (s6 key))/\Bw w w2):=jz (by
  rw[b0]
  refine⟨(bB (by omega) _ _ _).trans x.out.1,(x.out.2.1.setL key).ext (λq hq=>?_),x.out.2.2.trans (aS (by rw[b1.out];omega) _ _ _).1⟩
  show Value.int .u8 ((if 0<=q/\q<0+key.length then nth key (q-0) else 0:Nat):Int)=Value.int .u8 ((s6 key q:Nat):Int)
  congr 2
  unfold s6
  rw[jQ (show ¬64<key.length by omega)]
  by_cases e:q<key.length
  ·rw[jP (by omega),Nat.sub_zero]
  ·rw[jQ (by omega)]
   unfold nth
   rw[jn,List.getElem?_eq_none (by omega)]
   rfl)
 rw[<- b0];clear b0 d5 d7 a6 x;have b7:=jz (C0 54 (s6 key) (gz+1) va ps w2 (by omega) (JE c3) D.out.2.1 (HP.below D.out.2.2) hn ht (HK.below D.out.2.2));go_wp2_with fail
 refine b7.mono ?_;rintro e w3 ⟨rfl,a2⟩;have a0:Hid (AB w3 gz 25 32 (c8 λ_=>0)/\AB w3 (gz+1) 243 64 (c8 (s6 key))/\Bw w w3):=jz ⟨D.out.1.keep a2,D.out.2.1.keep a2,aA D.out.2.2 a2⟩;clear a2 D b7;obtain⟨I,hI⟩:=je (uU 54 (s6 key) (cL ps));have a1:I.length=32:=by rw[hI];exact dA _
 have c6:Byn I:=by rw[hI];exact jY _
 rw[<- hI];have J:(prog.info? 25).map (·.size)=some (n8 I).toArray.size:=by rw[js,aR,a1];kernel_rfl
 have V:z8x32.size=(n8 I).toArray.size:=by rw[show(n8 I).toArray.size=32 from by rw[js,aR,a1]];exact aK 32 _
 have Z:(n8 I).toArray.all (·.oneCell')=true:=all_oneCell_toArray (dO _);have HI:=jz hI;obtain⟨O,hO⟩:=je ((n8 I).toArray);rw[<- hO] at J V Z ⊢;have HO:=jz hO;clear hI hO;go_upto_region 8 with (first
  | (refine al 25 _ rfl rfl lT ?_)
  | (refine bZ (cells:=O) 25 (.tmp 8) (.tmp 24) rfl rfl (by rfl) (by rfl) J V Z ?_;intro w4 a7 a3 f4))
 obtain⟨gi,d0⟩:=je w3.heap.size;rw[<- d0] at a7 ⊢;obtain⟨w5,a5⟩:=je (w4.alloc (.cells #[.slice (some ⟨gi,0,none⟩) 32 32] 68));have K:Bw w4 w5:=by rw[a5];exact(ji _ w4).alloc (ja _) _
 have R:=aA (aA a0.out.2.2 a3) K;have d2:w5.rangeAt gi 0 (n8 I):=by
  have h1:Blk w4 gi 25 O:=a7;have:=(h1.keep K).range;rw[HO.out,jt] at this;exact this
 have c9:w5.cell? ⟨w4.heap.size,0,none⟩=some (.slice (some ⟨gi,0,none⟩) 32 32):=by rw[a5];exact((Blk.new w4 _ _).cell 0).trans rfl
 have c2:=jz (C0 92 (s6 key) (gz+1) (.slice (some ⟨w4.heap.size,0,none⟩) 1 1) [(.slice (some ⟨gi,0,none⟩) 32 32,I)] w5 (by omega) (JE c3) ((a0.out.2.1.keep a3).keep K) (WM 32 a1 d2 c9 c6) (by simp) (by unfold cL;simp;omega) (HK.below R));have c4:=jz (And.intro ((a0.out.1.keep a3).keep K) R);have HC:Hid (uU 92 (s6 key) (cL [(.slice (some ⟨gi,0,none⟩) 32 32,I)])=jB key (cL ps)):=jz (by
  unfold cL
  rw[List.flatMap_singleton,HI.out]
  rfl)
 have f1:=jz a5;clear a5 K R d2 c9 a7 a3 f4 a0 d0 J V Z HO HI a1 c6;go_wp2_with fail
 rw[<- f1.out];refine c2.mono ?_;rintro e w7 ⟨rfl,a8⟩;rw[HC.out];have e8:Blk w7 gz 25 z8x32:=c4.out.1.keep a8;have e0:=jz (aA c4.out.2 a8);obtain⟨M,hM⟩:=je (n8 (jB key (cL ps)));have U:M.length=32:=by rw[hM,aR];exact dA _
 have J:(prog.info? 25).map (·.size)=some M.toArray.size:=by rw[js,U];kernel_rfl
 have V:z8x32.size=M.toArray.size:=by rw[show M.toArray.size=32 from by rw[js,U]];exact aK 32 _
 have Z:M.toArray.all (·.oneCell')=true:=by rw[hM];exact all_oneCell_toArray (dO _)
 rw[<- hM];have HM:=jz hM;clear hM a8 c2 U;go_wp2_with (refine aO 25 (.tmp 4) (.tmp 28) rfl rfl rfl rfl e8 J V Z ?_;intro w9 c5 c7 _ _;have e1:=jz c5;have f0:=jz c7;clear c5 c7)
 exact bodyPost_ret (results_cell_row rfl _ _ gz 25 _ (0,0) _ rfl e1 underlying25 rfl J) rfl ⟨by rw[<- HM.out],e0.trans (f0.mono (by rw[b1.out];exact ja _))⟩
def bn(s:ByteArray):List Nat:=s.data.toList.map (·.toNat)
theorem oB(s:ByteArray):(bn s).length=s.size:=by unfold bn;rw[List.length_map];rfl
theorem WN(s:ByteArray):Byn (bn s):=λx j=>by
 unfold bn at j;obtain⟨b,_,rfl⟩:=List.mem_map.1 j;exact b.toNat_lt
theorem C1(s:ByteArray)(w:Wd)(O:s.size<=1000000):
  ∃ v w',(convert 9 68 (.string s)).run prog w = .ok v w'/\Sn w' 1 v (bn s).length (n8 (bn s))/\Bw w w':=by
 have K:=run_bytes_of_string (P:=prog) w 9 68 5 s underlying9 underlying68 underlying5;have D:=grownCap_ge w s.size 0 5;obtain⟨cap,x⟩:=je (grownCap w s.size 0 5);rw[<- x] at K D;refine⟨_,_,K,?_,(ji _ w).drew.alloc (ja _) _⟩;rw[oB];refine⟨_,_,rfl,D,by rw[aR,oB,Nat.mul_one],λ_=>⟨w.heap.size,0,rfl,λj u J=>?_⟩⟩;refine(cell_of_row _ w.heap.size (0+j) (bytesRow s cap) 5 _ (heap_alloc_new w.drew _)).trans ?_;have I:j<s.data.size:=by
  have:=(List.getElem?_eq_some_iff.1 J).1;rw[aR,oB] at this;exact this
 rw[Nat.zero_add,<- J];unfold bytesRow n8 bn;rw[Array.getElem?_append_left (by rw[Array.size_map];exact I)];simp[List.getElem?_map,Array.getElem?_map,I];rfl
theorem FU{w:Wd}{h:Nat}(ps:List (Value×List Nat))(n:Nat)(j:ps.length=n)(D:w.rangeAt h 0 (ps.map (·.1)))(x:∀ p∈ps,Sn w 1 p.1 p.2.length (n8 p.2))(hb:∀ p∈ps,Byn p.2):PN w (.slice (some ⟨h,0,none⟩) n n) ps:=by
 subst j;exact⟨⟨some ⟨h,0,none⟩,_,rfl,ja _,by simp,λ_=>⟨h,0,rfl,D⟩⟩,x,hb⟩
theorem JG{w:Wd}{base e s n:Nat}{v:Value}{D:Wv}(h:w.ownsRow base e s v n D):∀ b,v.ownBlock=some b->base<=b:=λb e=>by
 obtain⟨J,h|⟨I,j,x,rfl,hb,_⟩⟩:=h
 ·rw[h.1] at e;cases e
 ·injection e with e
  rw[<- e];exact hb
theorem uW(vk:Value)(key:List Nat)(s:ByteArray)(n:Nat)(w:Wd)(hs:Sn w 1 vk key.length (n8 key))(d1:Byn key)(g0:key.length<=64)(k0:s.size<=100)(h9:1<=n)(hn:n<=32)(hk:TabK w):
  Wc 279 #[vk,.string s,.int .i64 n] w λe w'=>∃ v,e = .returned v/\w'.ownsRow w.heap.size 5 1 v n (n8 ((jB key (1 :: bn s)).take n))/\Bw w w':=by
 obtain⟨Ak,c2,rfl,f9,_,_⟩:=id hs;have HK:=jz hk;have HS:=jz hs;have f1:=jz d1;clear hk hs d1;have h6:(1:Int)<=n:=by omega
 have h7:(n:Int)<=32:=by omega
 obtain⟨i,hi,hz,h0,f8⟩:=info_parts (P:=prog) (e:=5) (z:=.int .u8 0) (size:=1) (bytes:=1) (by kernel_rfl);obtain⟨D,hD⟩:=je (jB key (1 :: bn s));have c5:D.length=32:=by rw[hD];exact dA _
 rw[<- hD];have HD:=jz hD;clear hD;go_enter func279,ntmps279
 go_wp2_with (at_make;refine wpList_make_own _ rfl (.const (.int .i64 0)) (.tmp 16) 68 rfl w.heap.size 5 i (.int .u8 0) 1 underlying68 hi hz h0 .i64 .i64 (n:Int) n rfl rfl rfl (by rw[f8];omega) (by unfold maxLen;omega) (ja _) ?_;intro w2 a4 hg)
 have c6:Bw w w2:=(ji _ w).grown hg (ja _) (λg e=>by cases e);clear hg;go_loopw [8,7] (λi v wr=>∃ m:Nat,(m=0/\i = .int .i64 1\/m=n/\i = .int .i64 2)/\Hid (wr.ownsRow w.heap.size 5 1 v m (n8 (D.take m))/\Bw w wr)) (λi _ _=>2-(intOf i).toNat)
 case atStart=>exact⟨0,.inl ⟨rfl,rfl⟩,jz ⟨by rw[List.take_zero];exact a4,c6⟩⟩
 case round=>
  clear a4 c6;obtain⟨m,hm,HO⟩:=hrel;obtain⟨A,cap,rfl,h3,_,_⟩:=id (Sn.own HO.out.1);rcases hm with ⟨rfl,rfl⟩|⟨rfl,rfl⟩
  ·obtain⟨w3,a1⟩:=je (wr.alloc (.cells #[.int .u8 1] 5));have c7:Bw wr w3:=by rw[a1];exact(ji _ wr).alloc (ja _) _
   obtain⟨v4,w4,c9,b1,a7⟩:=C1 s w3 (by omega);have c3:w3.rangeAt wr.heap.size 0 (n8 [1]):=by rw[a1];exact(Blk.new wr _ _).range
   have Z:Sn w3 1 (.slice (some ⟨wr.heap.size,0,none⟩) 1 1) [1].length (n8 [1]):=VW 1 rfl c3;obtain⟨A4,c4,rfl,_,_,_⟩:=id b1;have f7:=jz a1;rw[a1] at c9;have e8:=jz (aA HO.out.2 c7);have f5:=jz (Z.below a7);have f6:=jz b1;have b7:=jz a7;clear a1 c7 c3 Z b1 a7;go_wp2_with fail
   obtain⟨w5,a2⟩:=je (w4.alloc (.cells #[.slice (some ⟨wr.heap.size,0,none⟩) 1 1,.slice A4 (bn s).length c4] 68));have K:Bw w4 w5:=by rw[a2];exact(ji _ w4).alloc (ja _) _
   have d5:w5.rangeAt w4.heap.size 0 ([((.slice (some ⟨wr.heap.size,0,none⟩) 1 1,[1]):Value×List Nat),(.slice A4 (bn s).length c4,bn s)].map (·.1)):=by rw[a2];exact(Blk.new w4 _ _).range
   have a5:=jz (aA (aA e8 b7) K);have d2:PN w5 (.slice (some ⟨w4.heap.size,0,none⟩) 2 2) [(.slice (some ⟨wr.heap.size,0,none⟩) 1 1,[1]),(.slice A4 (bn s).length c4,bn s)]:=FU _ 2 rfl d5 (λp hp=>by
    rcases List.mem_cons.1 hp with rfl|hp
    ·exact f5.below K
    ·rw[List.mem_singleton.1 hp]
     exact f6.below K) (λp hp=>by
    rcases List.mem_cons.1 hp with rfl|hp
    ·intro x hx
     rw[List.mem_singleton.1 hx]
     decide
    ·rw[List.mem_singleton.1 hp]
     exact WN s)
   have U:cL [(.slice (some ⟨wr.heap.size,0,none⟩) 1 1,[1]),(.slice A4 (bn s).length c4,bn s)]=1 :: bn s:=by simp[cL]
   have J:=uV (.slice Ak key.length c2) _ key _ w5 (HS.below a5) f1 g0 d2 (by simp) (by rw[U];simp[oB];omega) (HK.below a5);rw[U,<- HD.out] at J;have J:=jz J;have f2:=jz (aJ HO.out.1 (aA (aA (show Bw wr w3 by rw[f7.out];exact(ji _ wr).alloc (ja _) _) b7) K));rw[<- a2];clear c9 a2 K d5 d2 U;refine J.mono ?_;rintro e w6 ⟨rfl,a8⟩;have f0:=jz (aA a5 a8);have f3:=jz (aJ f2 a8);obtain⟨O,hO⟩:=je ((n8 D).toArray);have Z:(prog.info? 25).map (·.size)=some O.size:=by rw[hO,js,aR,c5];kernel_rfl
   have d7:z8x32.size=O.size:=by rw[show O.size=32 from by rw[hO,js,aR,c5]];exact aK 32 _
   have e0:O.all (·.oneCell')=true:=by rw[hO];exact all_oneCell_toArray (dO _)
   rw[<- hO];have f4:=jz hO;clear hO a8 J;go_upto_region 8 with (first
    | (refine al 25 _ rfl rfl lT ?_)
    | (refine bZ (cells:=O) 25 (.tmp 9) (.tmp 31) rfl rfl (by rfl) (by rfl) Z d7 e0 ?_;intro w7 a6 a9 g8))
   obtain⟨gc,d0⟩:=je w6.heap.size;rw[<- d0] at a6 ⊢;have R:=aA f0 a9;have V:=aJ f3 a9;have a0:Sn w7 1 (.slice (some ⟨gc,0,none⟩) n 32) n (n8 (D.take n)):=by
    have g3:w7.rangeAt gc 0 (n8 D):=by
     have h1:Blk w7 gc 25 O:=a6;have:=h1.range;rw[f4.out,jt] at this;exact this
    refine⟨some ⟨gc,0,none⟩,32,rfl,hn,by rw[aR,jv];omega,λ_=>⟨gc,0,rfl,λj u hj=>g3 j u ?_⟩⟩;rw[<- JB,List.getElem?_take] at hj;split at hj
    ·exact hj
    ·cases hj
   have h5:prog.arrayLen 25=32:=by kernel_rfl
   have a3:=dO (D.take n);have I:=R.size;clear a6 a9 g8 Z d7 e0 d0;have b0:n<32\/n=32:=by omega
   rcases b0 with hq|hq
   ·have g2:(n:Int)<32:=by omega
    have g1:min (32:Int) (n:Int)=n:=by omega
    go_wp2_with (at_builtin;refine app tY (.tmp 32) (.tmp 38) rfl (by rfl) (base:=w.heap.size) (by rfl) V (by rfl) a0 a3 (by unfold maxLen;omega) (by omega) I ?_;intro v' w' h2 hg h4)
    refine⟨⟨n,.inr ⟨rfl,rfl⟩,jz ⟨?_,R.grown hg I (λg e=>JG HO.out.1 g e)⟩⟩,by simp[intOf]⟩;rw[List.take_zero,Nat.zero_add] at h2;exact h2
   ·have g2:¬(n:Int)<32:=by omega
    have g1:min (32:Int) (n:Int)=32:=by omega
    have e1:Sn w7 1 (.slice (some ⟨gc,0,none⟩) 32 32) 32 (n8 (D.take n)):=by
     have h:=a0;simp only[hq] at h ⊢;exact h
    have HQ:=jz hq;clear a0 hq;go_wp2_with (at_builtin;refine app tY (.tmp 32) (.tmp 38) rfl (by rfl) (base:=w.heap.size) (by rfl) V (by rfl) e1 a3 (by unfold maxLen;omega) (by omega) I ?_;intro v' w' h2 hg h4)
    refine⟨⟨n,.inr ⟨rfl,rfl⟩,jz ⟨?_,R.grown hg I (λg e=>JG HO.out.1 g e)⟩⟩,by simp[intOf]⟩;rw[List.take_zero,Nat.zero_add] at h2;rw[show w'.ownsRow w.heap.size 5 1 v' n (n8 (D.take n))=w'.ownsRow w.heap.size 5 1 v' 32 (n8 (D.take n)) from by rw[HQ.out]];exact h2
  ·have h8:¬(m:Int)<m:=by omega
   go_wp2_with fail
   go_ret;exact⟨_,rfl,HO.out.1,HO.out.2⟩
section
variable {P : Program} {ops : Array Oper} {Q : Exit -> Act -> Wd -> Prop} {S : Wd -> Prop} {a : Act} {w : Wd} {listed : Array Bool} {fuel : Nat}
theorem kCp(i:Nat)(dst:Option Tmp){dT sT elem:TypeId}{p q:Operand}{b off dn dc n:Nat}{v:Value}{x:Wv}(U:P.underlying dT=some (.slice elem))(hs:(P.info? elem).map (·.size)=some 1)(V:Sn w 1 v n x)(J:n<=dn)(ht:w.there b off n)(h1:∀ u∈x,u.oneCell'=true)(hS:S (w.setCells b off x))
  {o:Oper} (K:ops[i]? = some o:=by rfl) (j:o.dst=dst:=by rfl) (D:o.op = .call { callee:=.builtin .copy,args:=#[p,q],argTypes:=#[dT,sT] }:=by rfl) (O:a.eval p = .slice (some ⟨b,off,none⟩) dn dc:=by kernel_rfl) (R:a.eval q=v:=by kernel_rfl) (I:kOne ops listed a i=true:=by kernel_rfl)
  (h:wpAnyH P .any ops Q S fuel (listed.setIfInBounds i true) (a.put dst (goInt n)) (w.setCells b off x)):wpAnyH P .any ops Q S (fuel+1) listed a w:=
 kS i dst (goInt n) (w.setCells b off x) K j I (by
  have hrun:=mZ (P:=P) (ty:=o.type) (sT:=sT) (dc:=dc) U hs V J ht h1
  unfold execOp
  simp only[D,resolve,invoke,builtin,Sem.run_bind,Sem.run_pure,Result.andThen_ok,List.map_toArray,List.map_cons,List.map_nil,O,R,hrun]) hS h
end
def z8x16:Wa:=(arr 16 (c8 λ_=>0)).toArray
theorem fB:∀ w,(zeroValue 35).run prog w = .ok (.agg z8x16) w:=λw=>by unfold z8x16;kernel_rfl
theorem AD{l:List Nat}{n:Nat}(h:l.length=n):n8 l=arr n (c8 (nth l)):=by
 subst h;apply List.ext_getElem?;intro k;by_cases hk:k<l.length
 ·rw[FQ l k hk,fG _ hk];rfl
 ·rw[List.getElem?_eq_none (by rw[aR];omega),List.getElem?_eq_none (by rw[aB];omega)]
def xN(key:List Nat)(s:ByteArray):List Nat:=(jB key (1 :: bn s)).take 16
theorem fS(key:List Nat)(s:ByteArray):(xN key s).length=16:=by
 unfold xN;rw[jv,show(jB key (1 :: bn s)).length=32 from dA _];rfl
theorem OM(key l:List Nat):Byn (jB key l):=jY _
theorem C3(key:List Nat)(s:ByteArray):Byn (xN key s):=λx j=>OM _ _ x (j7 j)
theorem S5(vk:Value)(key:List Nat)(s:ByteArray)(w:Wd)(hs:Sn w 1 vk key.length (n8 key))(a6:Byn key)(c4:key.length<=64)(c7:s.size<=100)(hk:TabK w):
  Wc 280 #[vk,.string s] w (Rt w (.agg (n8 (xN key s)).toArray)):=by
 obtain⟨Ak,O,rfl,c3,_,_⟩:=id hs;have HK:=jz hk;have HS:=jz hs;have c2:=jz a6;clear hk hs a6;go_enter func280,ntmps280
 go_upto_region 2 with (refine al 35 _ rfl rfl fB ?_)
 obtain⟨gz,K⟩:=je w.heap.size;obtain⟨w1,a0⟩:=je ((w.alloc (.cells z8x16 35)).alloc (.cells z8x16 35));have I:Hid (AB w1 gz 35 16 (c8 λ_=>0)/\AB w1 (gz+1) 35 16 (c8 λ_=>0)/\Bw w w1):=jz (by
  rw[a0,K]
  exact⟨(Blk.new _ _ _).alloc _,Blk.newAt _ _ _ _ (by simp),((ji _ w).alloc (ja _) _).alloc (by simp) _⟩)
 rw[<- a0];simp only[World.size_alloc,<- K];have a3:=jz K;clear a0 K;have c9:prog.arrayLen 35=16:=by kernel_rfl
 obtain⟨wS,a2⟩:=je w1.drew;have D:Hid (AB wS gz 35 16 (c8 λ_=>0)/\AB wS (gz+1) 35 16 (c8 λ_=>0)/\Bw w wS):=jz (by rw[a2];exact⟨I.out.1,I.out.2.1,I.out.2.2.drew⟩);have b1:=jz (uW (.slice Ak key.length O) key s 16 wS (HS.below D.out.2.2) c2 c4 c7 (by omega) (by omega) (HK.below D.out.2.2));refine kZ (n:=5) (λW=>True) trivial (h:=λhH=>?_);rw[<- a2];clear a2 I;refine qM 1 (.slice Ak key.length O) ?_;refine qM 2 (.string s) ?_;refine qT 0 (.slice (some ⟨gz+1,0,none⟩) 16 16) ?_;refine kF 3 (some 9) ((b1).mono ?_);rintro e w2 ⟨v,rfl,R,J⟩;refine⟨_,rfl,trivial,λhH=>?_⟩;simp only[jq];have x:Hid (AB w2 gz 35 16 (c8 λ_=>0)/\AB w2 (gz+1) 35 16 (c8 λ_=>0)/\Bw w w2):=jz ⟨D.out.1.keep J,D.out.2.1.keep J,aA D.out.2.2 J⟩;have a8:w2.there (gz+1) 0 16:=λj hj=>⟨by
  rw[Nat.zero_add,x.out.2.1.cell (i:=j) hj]
  rfl,x.out.2.1.frozen _⟩
 refine kCp 4 (some 10) (dn:=16) (dc:=16) underlying68 (by kernel_rfl) (Sn.own R) (ja _) a8 (dO _) trivial (h:=?_);simp only[jq];refine kE (h:=?_);obtain⟨w3,a1⟩:=je (w2.setCells (gz+1) 0 (n8 ((jB key (1 :: bn s)).take 16)));have U:Hid (AB w3 gz 35 16 (c8 λ_=>0)/\AB w3 (gz+1) 35 16 (c8 (nth (xN key s)))/\Bw w w3):=jz (by
  rw[a1]
  refine⟨(bB (by omega) _ _ _).trans x.out.1,(x.out.2.1.setL _).ext (λq hq=>?_),x.out.2.2.trans (aS (by rw[a3.out];omega) _ _ _).1⟩
  show Value.int .u8 ((if 0<=q/\q<0+(xN key s).length then nth (xN key s) (q-0) else 0:Nat):Int)=_
  rw[jP (by rw[fS];omega),Nat.sub_zero]
  rfl)
 rw[<- a1];clear a1 a8 R J x D hH;have Z:=U.out.2.1.range;rw[<- AD (fS key s)] at Z;obtain⟨M,hM⟩:=je (n8 (xN key s));rw[<- hM] at Z;have V:M.length=16:=by rw[hM,aR];exact fS _ _
 have hI:(prog.info? 35).map (·.size)=some M.length:=by rw[V];kernel_rfl
 have a7:(prog.info? 35).map (·.size)=some M.toArray.size:=by rw[js];exact hI
 have c5:z8x16.size=M.toArray.size:=by rw[show M.toArray.size=16 from by rw[js,V]];exact aK 16 _
 have c6:M.toArray.all (·.oneCell')=true:=by rw[hM];exact all_oneCell_toArray (dO _)
 have b0:Blk w3 gz 35 z8x16:=U.out.1;have HM:=jz hM;clear hM V;go_wp2_with (first
  | (refine ld 35 _ rfl rfl rfl Z underlying35 rfl hI ?_)
  | (refine aO 35 (.tmp 4) (.tmp 11) rfl rfl rfl rfl b0 a7 c5 c6 ?_;intro w9 a4 a5 _ _;have a9:=jz a4;have b7:=jz a5;clear a4 a5))
 exact bodyPost_ret (results_cell_row rfl _ _ gz 35 _ (0,0) _ rfl a9 underlying35 rfl a7) rfl ⟨by rw[<- HM.out],U.out.2.2.trans (b7.mono (by rw[a3.out];exact ja _))⟩
end
end Go.Proofs.YtiaigidbcljblaaGreatDoor
