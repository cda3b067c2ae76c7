import Derived.Test.YtiaigidbcljblaaGreatDoorMS12
import Derived.Test.YtiaigidbcljblaaGreatDoorMS11
import Derived.Shelf.SlLaysF0
import Derived.Ground.SlsfProg
set_option linter.unusedVariables false
set_option linter.unusedSimpArgs false
set_option maxRecDepth 100000
set_option maxHeartbeats 40000000
namespace Go.Proofs.YtiaigidbcljblaaGreatDoor
open Go.Proofs.Tryz
open Go.RowKit
attribute [local irreducible] wpQuiet wpAnyH
theorem QB(a b:Nat)(v:Value)(w:Wd)(ha:a<256)(hb:b<256)(hs:Sn w 1 v 1 (n8 [b])):Wc 351 #[.int .u8 (a:Nat),v] w λe w'=>e = .returned (.int .u8 (wC a b:Nat))/\w'=w:=by
 obtain⟨A,cap,rfl,D,_,K⟩:=hs;obtain⟨g,off,rfl,I⟩:=K (by omega);have R:w.cell? ⟨g,off,none⟩=some (.int .u8 (b:Nat)):=I 0 _ rfl;have O:=jz (sZ a b w ha hb);clear K I;go_enter func351,ntmps351
 go_wp2_with fail
 go_loopw [9,0] (λi x wr=>(i = .int .i64 0/\x = .int .u8 (a:Nat)\/i = .int .i64 1/\x = .int .u8 (wC a b:Nat))/\wr=w) (λi _ _=>1-(intOf i).toNat)
 case atStart=>exact⟨.inl ⟨rfl,rfl⟩,rfl⟩
 case round=>
  obtain⟨h,J⟩:=hrel;rw[J];clear J;rcases h with ⟨rfl,rfl⟩|⟨rfl,rfl⟩
  ·go_wp2_with fail
   refine O.mono ?_;rintro e w2 ⟨rfl,j⟩;rw[j];clear j w2;go_wp2_with fail
   exact⟨⟨.inr ⟨rfl,rfl⟩,trivial⟩,by simp[intOf]⟩
  ·go_wp2_with fail
   go_ret;exact⟨rfl,rfl⟩
def MK(a b:Nat->Nat):Nat->Nat
 | 0=>0
 | k+1=>MK a b k ^^^ wC (b k) (a k)
def US(a b:Nat->Nat):Nat:=MK a b 4
theorem BW{a b:Nat->Nat}(hb:bG b):∀ k,MK a b k<256
 | 0=>by show 0<256;omega
 | k+1=>Nat.xor_lt_two_pow (n:=8) (BW hb k) (BT (hb k))
theorem UT(a b:Nat->Nat)(w:Wd)(ha:bG a)(hb:bG b):Wc 355 #[.agg (arr 4 (c8 a)).toArray,.agg (arr 4 (c8 b)).toArray] w (Rt w (.int .u8 (US a b:Nat))):=by
 have HA:=jz ha;have V:=jz hb;clear ha hb;go_enter func355,ntmps355
 go_upto_region 2 with fail
 obtain⟨g,hg⟩:=je w.heap.size;obtain⟨w1,J⟩:=je ((w.alloc (.cells (arr 4 (c8 a)).toArray 462)).alloc (.cells (arr 4 (c8 b)).toArray 462));have D:Hid (AB w1 g 462 4 (c8 a)/\AB w1 (g+1) 462 4 (c8 b)/\Bw w w1):=jz (by
  rw[J,hg]
  exact⟨(Blk.new _ _ _).alloc _,Blk.newAt _ _ _ _ (by simp),((ji _ w).alloc (ja _) _).alloc (by simp) _⟩)
 rw[<- J];simp only[World.size_alloc,<- hg];clear J hg;go_wp2_with fail
 go_loopw [7,5] (λi x wr=>∃ k:Nat,k<=4/\i = .int .i64 (k:Int)/\x = .int .u8 (MK a b k:Nat)/\Hid (AB wr g 462 4 (c8 a)/\AB wr (g+1) 462 4 (c8 b)/\Bw w wr)) (λi _ _=>4-(intOf i).toNat)
 case atStart=>exact⟨0,j0 _,rfl,rfl,D⟩
 case round=>
  clear D;obtain⟨k,hk,rfl,rfl,D⟩:=hrel;rcases jo k 4 with K|a2
  ·have a3:(0:Int)<=k:=by omega
   have a4:(k:Int)<4:=by omega
   obtain⟨y,hy⟩:=je (MK a b k);have a0:y<256:=by rw[hy];exact BW V k
   rw[<- hy];obtain⟨z,R⟩:=je (wC (b k) (a k));have a1:z<256:=by rw[R];exact BT (V k)
   have HN:Hid (MK a b (k+1)=y ^^^ z):=jz (by rw[hy,R];rfl);have a7:=u8_xor_nat y z a0 a1;have HZ:=jz R;clear hy R;go_upto_region 5 with fail
   obtain⟨U,j⟩:=je wr.drew;have I:Hid (AB U g 462 4 (c8 a)/\AB U (g+1) 462 4 (c8 b)/\Bw w U):=jz (by rw[j];exact⟨D.out.1,D.out.2.1,D.out.2.2.drew⟩);clear D;refine kZ (n:=10) (λW=>AB W g 462 4 (c8 a)/\AB W (g+1) 462 4 (c8 b)/\Bw w W) (by rw[<- j];exact I) (h:=λhH=>?_);rw[<- j] at hH ⊢;clear j;refine qM 0 (.int .u8 (y:Nat)) ?_;refine qM 1 (.int .i64 k) ?_;refine qT 2 (.pointer (some ⟨g+1,k,none⟩)) ?_;refine qC 3 (v:=.int .u8 (b k:Nat)) (λW Z=>Z.2.1.cell (i:=k) K) ?_;refine qM 4 (.int .i64 k) ?_;refine qT 5 (.pointer (some ⟨g,k,none⟩)) ?_;refine qC 6 (v:=.int .u8 (a k:Nat)) (λW Z=>Z.1.cell (i:=k) K) ?_;refine kF 7 (some 17) ((sZ (b k) (a k) U (V k) (HA k)).mono ?_);rintro e w2 ⟨rfl,O⟩;rw[O,<- HZ.out];clear O w2;refine⟨_,rfl,I,λhH=>?_⟩;simp only[jq];refine qT 8 (.int .u8 (y ^^^ z:Nat)) ?_;refine qT 9 (.int .u8 (y ^^^ z:Nat)) ?_;refine kE (h:=?_);go_wp2_with fail
   exact⟨⟨k+1,by omega,by go_num,by rw[HN.out],I⟩,by simp[intOf];omega⟩
  ·have a5:k=4:=by omega
   have a6:¬(k:Int)<4:=by omega
   go_wp2_with fail
   go_ret;exact⟨rfl,D.out.2.2⟩
def wI(a b:Nat->Nat):Nat->Nat:=λk=>a k ^^^ b k
theorem BY{a b:Nat->Nat}(ha:bG a)(hb:bG b):bG (wI a b):=λk=>Nat.xor_lt_two_pow (n:=8) (ha k) (hb k)
structure XSa(w W:Wd)(g:Nat)(a b f:Nat->Nat):Prop where
 be:Bw w W
 lo:w.heap.size<=g
 p:AB W g 35 16 (c8 f)
 q:AB W (g+1) 35 16 (c8 b)
 r:AB W (g+1+1) 35 16 (c8 λ_=>0)
theorem XSa.drew{w W:Wd}{g:Nat}{a b f:Nat->Nat}(h:XSa w W g a b f):XSa w W.drew g a b f:=⟨h.be.drew,h.lo,h.p,h.q,h.r⟩
theorem rZ(a b:Nat->Nat)(w:Wd)(ha:bG a)(hb:bG b):Wc 348 #[.agg (arr 16 (c8 a)).toArray,.agg (arr 16 (c8 b)).toArray] w (Rt w (.agg (arr 16 (c8 (wI a b))).toArray)):=by
 have HA:=jz ha;have HB:=jz hb;clear ha hb;go_enter func348,ntmps348
 go_upto_region 1 with (refine al 35 _ rfl rfl fE ?_)
 obtain⟨g,hg⟩:=je w.heap.size;obtain⟨w1,J⟩:=je (((w.alloc (.cells (arr 16 (c8 a)).toArray 35)).alloc (.cells (arr 16 (c8 b)).toArray 35)).alloc (.cells z8x16 35));have D:Hid (XSa w w1 g a b (λq=>if q<0 then a q ^^^ b q else a q)):=jz (by
  rw[J,hg]
  exact⟨(((ji _ w).alloc (ja _) _).alloc (by simp) _).alloc (by simp;omega) _,ja _,by
   rw[show(λq=>if q<0 then a q ^^^ b q else a q)=a from by funext q;rw[jQ (by omega)]]
   exact((Blk.new _ _ _).alloc _).alloc _,(Blk.newAt _ _ _ _ (by simp)).alloc _,Blk.newAt _ _ _ _ (by simp)⟩)
 rw[<- J];simp only[World.size_alloc,<- hg];clear J hg;go_wp2_with fail
 go_loopw [6] (λi wr=>∃ k:Nat,k<=16/\i = .int .i64 (k:Int)/\Hid (XSa w wr g a b (λq=>if q<k then a q ^^^ b q else a q))) (λi _=>16-(intOf i).toNat)
 case atStart=>exact⟨0,j0 _,rfl,D⟩
 case round=>
  clear D;obtain⟨k,hk,rfl,D⟩:=hrel;rcases jo k 16 with a0|b0
  ·have c3:(0:Int)<=k:=by omega
   have c4:(k:Int)<16:=by omega
   have c6:=u8_xor_nat (a k) (b k) (HA k) (HB k);go_upto_region 4 with fail
   obtain⟨K,I⟩:=je wr.drew;have j:Hid (XSa w K g a b (λq=>if q<k then a q ^^^ b q else a q)):=jz (by rw[I];exact D.drew);have a7:Hid (∃ f,XSa w K g a b f/\f k=a k):=jz ⟨_,j,by show(if k<k then a k ^^^ b k else a k)=_;rw[jQ (Nat.lt_irrefl _)]⟩;have a9:=j.p.frozen k;have a8:K.cell? ⟨g,k,none⟩=some (.int .u8 (a k:Nat)):=by
    rw[j.p.cell a0];show some (Value.int .u8 ((if k<k then a k ^^^ b k else a k:Nat):Int))=_;rw[jQ (Nat.lt_irrefl _)]
   obtain⟨wz,x⟩:=je (K.setCell ⟨g,k,none⟩ (.int .u8 (a k ^^^ b k:Nat)));have a5:Hid (XSa w wz g a b (λq=>if q<k+1 then a q ^^^ b q else a q)):=jz (by
    have h:=j.out
    have h1:=h.p.set k (.int .u8 (a k ^^^ b k:Nat))
    rw[gY,<- x] at h1
    have b1:=h.lo
    refine⟨by rw[x];exact h.be.setCell (by show w.heap.size<=g;omega) _,b1,h1.ext (λq _=>?_),by rw[x];exact h.q.far (by show g+1≠g;omega) _,by rw[x];exact h.r.far (by show g+1+1≠g;omega) _⟩
    show Value.int .u8 ((cO (λq=>if q<k then a q ^^^ b q else a q) k (a k ^^^ b k) q:Nat):Int)=Value.int .u8 ((if q<k+1 then a q ^^^ b q else a q:Nat):Int)
    congr 2
    unfold cO
    by_cases e:q=k
    ·rw[jP e,jP (by omega),e]
    ·rw[jQ e]
     show(if q<k then a q ^^^ b q else a q)=_
     by_cases e2:q<k
     ·rw[jP e2,jP (by omega)]
     ·rw[jQ e2,jQ (by omega)])
   clear D;refine kZ (n:=9) (λW=>W.cell? ⟨g+1,k,none⟩=some (.int .u8 (b k:Nat))) (by rw[<- I];exact j.q.cell (i:=k) a0) (h:=λhH=>?_);rw[<- I] at hH ⊢;clear I;refine qM 0 (.int .i64 k) ?_;refine qT 1 (.pointer (some ⟨g,k,none⟩)) ?_;refine qM 3 (.int .i64 k) ?_;refine qT 4 (.pointer (some ⟨g+1,k,none⟩)) ?_;refine qC 5 (v:=.int .u8 (b k:Nat)) (λW hX=>hX) ?_;refine kS 2 (some 11) (.int .u8 (a k:Nat)) K (hS:=hH) (h:=?_);simp only[jq];refine qT 6 (.int .u8 (a k ^^^ b k:Nat)) ?_;refine qT 7 (.pointer (some ⟨g,k,none⟩)) ?_;refine kW 8 none (K.setCell ⟨g,k,none⟩ (.int .u8 (a k ^^^ b k:Nat))) (hS:=by rw[World.cell?_setCell_other];exact hH;simp) (h:=?_);simp only[jq];refine kE (h:=?_);rw[<- x];clear x j a7 a9 a8 hH;go_wp2_with fail
   exact⟨⟨k+1,by omega,by go_num,a5⟩,by simp[intOf];omega⟩
  ·have Z:k=16:=by omega
   have c5:¬(k:Int)<16:=by omega
   have hD:AB wr g 35 16 (c8 (wI a b)):=D.p.ext (λq hq=>by
    show Value.int .u8 ((if q<k then a q ^^^ b q else a q:Nat):Int)=Value.int .u8 ((wI a b q:Nat):Int)
    rw[jP (by omega)]
    rfl)
   have a1:=hD.range;have a4:Blk wr (g+1+1) 35 z8x16:=D.r;have O:=jz (And.intro D.be D.lo);have hI:(prog.info? 35).map (·.size)=some (arr 16 (c8 (wI a b))).length:=by rw[aB];kernel_rfl
   obtain⟨M,U⟩:=je (arr 16 (c8 (wI a b)));rw[<- U] at a1 hI;have a2:(prog.info? 35).map (·.size)=some M.toArray.size:=by rw[js];exact hI
   have b7:z8x16.size=M.toArray.size:=by rw[U,aL];exact aL 16 _
   have c2:M.toArray.all (·.oneCell')=true:=by rw[U];exact bY (λ_=>rfl)
   have HM:=jz U;clear U D hD Z hk b0;go_wp2_with (first
    | (refine ld 35 _ rfl rfl rfl a1 underlying35 rfl hI ?_)
    | (refine aP 35 (.tmp 4) (.tmp 18) rfl rfl rfl rfl a4 a2 b7 c2 ?_;intro w9 R V _ _;have a3:=jz R;have a6:=jz V;clear R V))
   exact bodyPost_ret (results_cell_row rfl _ _ (g+1+1) 35 _ (0,0) _ rfl a3 underlying35 rfl a2) rfl ⟨by rw[<- HM.out],O.out.1.trans (a6.mono (by have:=O.out.2;omega))⟩
def gF(nm bl:Nat->Nat):Nat->Nat:=λq=>US nm (λi=>bl ((q % 4+i) % 4+4*(q/4)))
theorem UU{a b:Nat->Nat}(hb:bG b):US a b<256:=BW hb 4
theorem KU{nm bl:Nat->Nat}(h:bG bl):bG (gF nm bl):=λq=>UU (λi=>h _)
def qR:Wa:=(arr 4 (c8 λ_=>0)).toArray
theorem oY:∀ w,(zeroValue 462).run prog w = .ok (.agg qR) w:=λw=>by unfold qR;kernel_rfl
structure MX(w W:Wd)(g:Nat)(bl nm f:Nat->Nat):Prop where
 be:Bw w W
 lo:w.heap.size<=g
 p:AB W g 35 16 (c8 bl)
 n:AB W (g+1) 462 4 (c8 nm)
 z:AB W (g+1+1) 35 16 (c8 λ_=>0)
 m:AB W (g+1+1+1) 35 16 (c8 f)
theorem MX.keep{w W W':Wd}{g:Nat}{bl nm f:Nat->Nat}(h:MX w W g bl nm f)(hb:Bw W W'):MX w W' g bl nm f:=⟨h.be.trans (hb.mono h.be.size),h.lo,h.p.keep hb,h.n.keep hb,h.z.keep hb,h.m.keep hb⟩
theorem MX.fn{w W:Wd}{g:Nat}{bl nm f f':Nat->Nat}(h:MX w W g bl nm f)(e:∀ q,q<16->f q=f' q):MX w W g bl nm f':=⟨h.be,h.lo,h.p,h.n,h.z,h.m.ext (λq j=>by unfold c8;rw[e q j])⟩
theorem MX.set{w W:Wd}{g:Nat}{bl nm f:Nat->Nat}(h:MX w W g bl nm f)(i v:Nat):MX w (W.setCell ⟨g+1+1+1,i,none⟩ (.int .u8 (v:Nat))) g bl nm (cO f i v):=
 ⟨h.be.setCell (by have:=h.lo;show w.heap.size<=g+1+1+1;omega) _,h.lo,h.p.far (by show g≠g+1+1+1;omega) _,h.n.far (by show g+1≠g+1+1+1;omega) _,h.z.far (by show g+1+1≠g+1+1+1;omega) _,by have:=h.m.set i (.int .u8 (v:Nat));rwa [gY] at this⟩
theorem MX.far{w W:Wd}{g:Nat}{bl nm f:Nat->Nat}(h:MX w W g bl nm f){p:Addr}(j:g+1+1+1<p.block)(u:Value):MX w (W.setCell p u) g bl nm f:=
 ⟨h.be.setCell (by have:=h.lo;omega) _,h.lo,h.p.far (by omega) _,h.n.far (by omega) _,h.z.far (by omega) _,h.m.far (by omega) _⟩
theorem G7(w W:Wd)(g c:Nat)(bl nm f:Nat->Nat)(h:MX w W g bl nm f)(a3:bG bl)(a5:bG nm)(hc:c<4):
  Wc 354 #[.int .i64 c,.pointer (some ⟨g,0,none⟩),.pointer (some ⟨g+1,0,none⟩),.pointer (some ⟨g+1+1+1,0,none⟩)] W λe w'=>e = .returned (.tuple #[])/\MX w w' g bl nm (λq=>if 4*c<=q/\q<4*c+4 then gF nm bl q else f q):=by
 have a9:=jz a3;have c2:=jz a5;have Z:Hid (MX w W g bl nm (λq=>if 4*c<=q/\q<4*c+0 then gF nm bl q else f q)):=jz (h.fn (λq _=>by rw[jQ (by omega)]));have c9:(0:Int)<=c:=by omega
 have d0:(c:Int)<4:=by omega
 clear a3 a5 h;go_enter func354,ntmps354
 go_wp2_with fail
 go_loopw [8] (λi wr=>∃ r:Nat,r<=4/\i = .int .i64 (r:Int)/\Hid (MX w wr g bl nm (λq=>if 4*c<=q/\q<4*c+r then gF nm bl q else f q))) (λi _=>4-(intOf i).toNat)
 case atStart=>exact⟨0,j0 _,rfl,Z⟩
 case round=>
  clear Z;obtain⟨r,hr,rfl,x⟩:=hrel;rcases jo r 4 with f3|e0
  ·have f5:(0:Int)<=r:=by omega
   have f6:(r:Int)<4:=by omega
   go_upto_region 4 with (refine al 462 _ rfl rfl oY ?_)
   obtain⟨ga,D⟩:=je wr.heap.size;obtain⟨w2,I⟩:=je (wr.alloc (.cells qR 462));have c4:g+1+1+1<ga:=by rw[D];exact x.m.lt
   have V:Hid (MX w w2 g bl nm (λq=>if 4*c<=q/\q<4*c+r then gF nm bl q else f q)/\AB w2 ga 462 4 (c8 λq=>if q<0 then bl ((r+q) % 4+4*c) else 0)):=jz (by
    have hb:Bw wr w2:=by rw[I];exact(ji _ wr).alloc (ja _) _
    refine⟨x.keep hb,?_⟩
    have hB:AB w2 ga 462 4 (c8 λ_=>0):=by rw[I,D];exact Blk.new _ _ _
    exact hB.ext (λq _=>by show _=Value.int .u8 ((if q<0 then bl ((r+q) % 4+4*c) else 0:Nat):Int);rw[jQ (by omega)];rfl))
   rw[<- I];simp only[<- D];clear I D x;go_wp2_with fail
   go_loopw [11] (λi wr=>∃ k:Nat,k<=4/\i = .int .i64 (k:Int)/\Hid (MX w wr g bl nm (λq=>if 4*c<=q/\q<4*c+r then gF nm bl q else f q)/\AB wr ga 462 4 (c8 λq=>if q<k then bl ((r+q) % 4+4*c) else 0))) (λi _=>4-(intOf i).toNat)
   case atStart=>exact⟨0,j0 _,rfl,V⟩
   case round=>
    clear V;obtain⟨k,hk,rfl,j⟩:=hrel;rcases jo k 4 with c7|a4
    ·have f0:(0:Int)<=k:=by omega
     have f1:(k:Int)<4:=by omega
     have c5:((r:Int)+k) % 4+4*c=(((r+k) % 4+4*c:Nat):Int):=by omega
     obtain⟨ix,hx⟩:=je ((r+k) % 4+4*c);rw[<- hx] at c5;have a7:ix<16:=by omega
     have f8:(ix:Int)<16:=by omega
     have d2:wr.cell? ⟨g,ix,none⟩=some (.int .u8 (bl ix:Nat)):=j.out.1.p.cell a7;have d1:wr.cell? ⟨ga,k,none⟩=some (.int .u8 0):=by
      rw[j.out.2.cell c7];show some (Value.int .u8 ((if k<k then bl ((r+k) % 4+4*c) else 0:Nat):Int))=_;rw[jQ (Nat.lt_irrefl _)];rfl
     have d5:=j.out.2.frozen k;have R:=j.out.2.set k (.int .u8 (bl ix:Nat));rw[gY] at R;have b0:Hid (MX w (wr.setCell ⟨ga,k,none⟩ (.int .u8 (bl ix:Nat))) g bl nm (λq=>if 4*c<=q/\q<4*c+r then gF nm bl q else f q)/\AB (wr.setCell ⟨ga,k,none⟩ (.int .u8 (bl ix:Nat))) ga 462 4 (c8 λq=>if q<k+1 then bl ((r+q) % 4+4*c) else 0)):=jz ⟨j.out.1.far (by exact c4) _,R.ext (λq _=>by
      show Value.int .u8 ((cO (λq=>if q<k then bl ((r+q) % 4+4*c) else 0) k (bl ix) q:Nat):Int)=Value.int .u8 ((if q<k+1 then bl ((r+q) % 4+4*c) else 0:Nat):Int)
      congr 2
      unfold cO
      by_cases e:q=k
      ·rw[jP e,jP (by omega),e,hx]
      ·rw[jQ e]
       show(if q<k then bl ((r+q) % 4+4*c) else 0)=_
       by_cases e2:q<k
       ·rw[jP e2,jP (by omega)]
       ·rw[jQ e2,jQ (by omega)])⟩
     clear R j hx a7;go_wp2_with fail
     exact⟨⟨k+1,by omega,by go_num,b0⟩,by simp[intOf];omega⟩
    ·have c6:k=4:=by omega
     have f2:¬(k:Int)<4:=by omega
     have HA:Hid (AB wr ga 462 4 (c8 λq=>bl ((r+q) % 4+4*c))):=jz (j.out.2.ext (λq hq=>by
      show Value.int .u8 ((if q<k then bl ((r+q) % 4+4*c) else 0:Nat):Int)=Value.int .u8 ((bl ((r+q) % 4+4*c):Nat):Int)
      rw[jP (by omega)]))
     have x:=jz j.out.1;have J:=x.n.range;have K:=HA.range;have a0:(prog.info? 462).map (·.size)=some (arr 4 (c8 nm)).length:=by rw[aB];kernel_rfl
     have a1:(prog.info? 462).map (·.size)=some (arr 4 (c8 λq=>bl ((r+q) % 4+4*c))).length:=by rw[aB];kernel_rfl
     have U:=jz (UT nm (λq=>bl ((r+q) % 4+4*c)) wr c2 (λq=>a9.out _));clear j c6 hk a4;go_wp2_with (first
      | (refine ld 462 (.tmp 2) rfl rfl rfl J underlying462 rfl a0 ?_)
      | (refine ld 462 (.tmp 6) rfl rfl rfl K underlying462 rfl a1 ?_))
     refine U.mono ?_;rintro e w5 ⟨rfl,a2⟩;have O:=jz (x.keep a2);have HV:Hid (US nm (λq=>bl ((r+q) % 4+4*c))=gF nm bl (r+4*c)):=jz (by
      unfold gF
      rw[show(r+4*c) % 4=r from by omega,show(r+4*c)/4=c from by omega])
     rw[HV.out];obtain⟨X,hX⟩:=je (gF nm bl (r+4*c));rw[<- hX];have c3:=O.m.cell (i:=r+4*c) (by omega);have d7:=O.m.frozen (r+4*c);have a8:c8 (λq=>if 4*c<=q/\q<4*c+r then gF nm bl q else f q) (r+4*c) = .int .u8 (f (r+4*c):Nat):=by
      show Value.int .u8 ((if 4*c<=r+4*c/\r+4*c<4*c+r then gF nm bl (r+4*c) else f (r+4*c):Nat):Int)=_;rw[jQ (by omega)]
     rw[a8] at c3;have b7:=jz ((O.set (r+4*c) X).fn (f':=λq=>if 4*c<=q/\q<4*c+(r+1) then gF nm bl q else f q) (λq _=>by
      unfold cO
      by_cases e:q=r+4*c
      ·rw[jP e,jP (by omega),e,hX]
      ·rw[jQ e]
       show(if 4*c<=q/\q<4*c+r then gF nm bl q else f q)=_
       by_cases e2:4*c<=q/\q<4*c+r
       ·rw[jP e2,jP (by omega)]
       ·rw[jQ e2,jQ (by omega)]))
     have e1:(0:Int)<=(r:Int)+4*c:=by omega
     have e8:(r:Int)+4*c<16:=by omega
     clear hX a2 x HA U J K a0 a1 a8;go_wp2_with fail
     exact⟨⟨r+1,by omega,by go_num,b7⟩,by simp[intOf];omega⟩
  ·have a6:r=4:=by omega
   have f7:¬(r:Int)<4:=by omega
   have hm:=x.out;rw[a6] at hm;have b1:=jz hm;clear hm x a6;go_wp2_with fail
   go_end0
   exact⟨rfl,b1⟩
theorem d4{L:Wv}(h:L.length=16):(prog.info? 35).map (·.size)=some L.length:=by rw[h];kernel_rfl
theorem UV(bl nm:Nat->Nat)(w:Wd)(U:bG bl)(Z:bG nm):Wc 352 #[.agg (arr 16 (c8 bl)).toArray,.agg (arr 4 (c8 nm)).toArray] w (Rt w (.agg (arr 16 (c8 (gF nm bl))).toArray)):=by
 have a3:=jz U;have a8:=jz Z;clear U Z;go_enter func352,ntmps352
 go_upto_region 2 with (refine al 35 _ rfl rfl fE ?_)
 obtain⟨g,hg⟩:=je w.heap.size;obtain⟨w1,x⟩:=je ((((w.alloc (.cells (arr 16 (c8 bl)).toArray 35)).alloc (.cells (arr 4 (c8 nm)).toArray 462)).alloc (.cells z8x16 35)).alloc (.cells z8x16 35));have K:Hid (MX w w1 g bl nm (λq=>if q<4*0 then gF nm bl q else 0)):=jz (by
  rw[x,hg]
  exact⟨((((ji _ w).alloc (ja _) _).alloc (by simp) _).alloc (by simp;omega) _).alloc (by simp;omega) _,ja _,(((Blk.new _ _ _).alloc _).alloc _).alloc _,((Blk.newAt _ _ _ _ (by simp)).alloc _).alloc _,(Blk.newAt _ _ _ _ (by simp)).alloc _,by
   rw[show(λq=>if q<4*0 then gF nm bl q else 0)=(λ_=>0) from by funext q;rw[jQ (by omega)]]
   exact Blk.newAt _ _ _ _ (by simp)⟩)
 rw[<- x];simp only[World.size_alloc,<- hg];clear x hg;go_wp2_with fail
 go_loopw [9] (λi wr=>∃ c:Nat,c<=4/\i = .int .i64 (c:Int)/\Hid (MX w wr g bl nm (λq=>if q<4*c then gF nm bl q else 0))) (λi _=>4-(intOf i).toNat)
 case atStart=>exact⟨0,j0 _,rfl,K⟩
 case round=>
  clear K;obtain⟨c,hc,rfl,j⟩:=hrel;rcases jo c 4 with b1|b0
  ·have c4:(0:Int)<=c:=by omega
   have c5:(c:Int)<4:=by omega
   have J:=jz (G7 w wr g c bl nm _ j a3 a8 b1);go_wp2_with fail
   refine J.mono ?_;rintro e w2 ⟨rfl,V⟩;have a7:Hid (MX w w2 g bl nm (λq=>if q<4*(c+1) then gF nm bl q else 0)):=jz (V.fn (λq _=>by
    by_cases e:4*c<=q/\q<4*c+4
    ·rw[jP e,jP (by omega)]
    ·rw[jQ e]
     by_cases e2:q<4*c
     ·rw[jP e2,jP (by omega)]
     ·rw[jQ e2,jQ (by omega)]))
   clear V J j;go_wp2_with fail
   exact⟨⟨c+1,by omega,by go_num,a7⟩,by simp[intOf];omega⟩
  ·have a9:c=4:=by omega
   have c3:¬(c:Int)<4:=by omega
   have hD:AB wr (g+1+1+1) 35 16 (c8 (gF nm bl)):=j.m.ext (λq hq=>by
    show Value.int .u8 ((if q<4*c then gF nm bl q else 0:Nat):Int)=Value.int .u8 ((gF nm bl q:Nat):Int)
    rw[jP (by omega)])
   have a0:=hD.range;have a4:Blk wr (g+1+1) 35 z8x16:=j.z;have I:=jz (And.intro j.be j.lo);obtain⟨M,D⟩:=je (arr 16 (c8 (gF nm bl)));rw[<- D] at a0;have hI:=d4 (L:=M) (by rw[D];exact aB _ _);have a1:(prog.info? 35).map (·.size)=some M.toArray.size:=by rw[js];exact hI
   have b7:z8x16.size=M.toArray.size:=by rw[D,aL];exact aL 16 _
   have c2:M.toArray.all (·.oneCell')=true:=by rw[D];exact bY (λ_=>rfl)
   have a6:=jz D;clear D j hD a9 hc b0;go_wp2_with (first
    | (refine ld 35 _ rfl rfl rfl a0 underlying35 rfl hI ?_)
    | (refine aP 35 (.tmp 4) (.tmp 16) rfl rfl rfl rfl a4 a1 b7 c2 ?_;intro w9 O R _ _;have a2:=jz O;have a5:=jz R;clear O R))
   exact bodyPost_ret (results_cell_row rfl _ _ (g+1+1) 35 _ (0,0) _ rfl a2 underlying35 rfl a1) rfl ⟨by rw[<- a6.out],I.out.1.trans (a5.mono (by have:=I.out.2;omega))⟩
def gG(bl:Nat->Nat):Nat->Nat:=λq=>lS (bl (q % 4+4*((q/4+q % 4) % 4)))
def nmR(i:Nat):Nat:=if i=0 then 2 else if i=1 then 3 else 1
def wJ(bl ky:Nat->Nat)(last:Bool):Nat->Nat:=wI (if last then gG bl else gF nmR (gG bl)) ky
theorem nY(bl:Nat->Nat):bG (gG bl):=λq=>oX _
theorem X7:bG nmR:=λi=>by
 unfold nmR;split
 ·omega
 ·split <;> omega
theorem MM{bl x:Nat->Nat}{last:Bool}(j:bG x):bG (wJ bl x last):=by
 unfold wJ;cases last with
 | true=>exact BY (nY bl) j
 | false=>exact BY (KU (nY bl)) j
structure RX4(w W:Wd)(g:Nat)(bl ky f:Nat->Nat):Prop where
 be:Bw w W
 lo:w.heap.size<=g
 p:AB W g 35 16 (c8 bl)
 n:AB W (g+1) 35 16 (c8 ky)
 z:AB W (g+1+1) 35 16 (c8 λ_=>0)
 m:AB W (g+1+1+1) 35 16 (c8 f)
theorem RX4.keep{w W W':Wd}{g:Nat}{bl nm f:Nat->Nat}(h:RX4 w W g bl nm f)(hb:Bw W W'):RX4 w W' g bl nm f:=⟨h.be.trans (hb.mono h.be.size),h.lo,h.p.keep hb,h.n.keep hb,h.z.keep hb,h.m.keep hb⟩
theorem RX4.fn{w W:Wd}{g:Nat}{bl nm f f':Nat->Nat}(h:RX4 w W g bl nm f)(e:∀ q,q<16->f q=f' q):RX4 w W g bl nm f':=⟨h.be,h.lo,h.p,h.n,h.z,h.m.ext (λq j=>by unfold c8;rw[e q j])⟩
theorem RX4.set{w W:Wd}{g:Nat}{bl nm f:Nat->Nat}(h:RX4 w W g bl nm f)(i v:Nat):RX4 w (W.setCell ⟨g+1+1+1,i,none⟩ (.int .u8 (v:Nat))) g bl nm (cO f i v):=
 ⟨h.be.setCell (by have:=h.lo;show w.heap.size<=g+1+1+1;omega) _,h.lo,h.p.far (by show g≠g+1+1+1;omega) _,h.n.far (by show g+1≠g+1+1+1;omega) _,h.z.far (by show g+1+1≠g+1+1+1;omega) _,by have:=h.m.set i (.int .u8 (v:Nat));rwa [gY] at this⟩
def rcF(bl:Nat->Nat)(r c:Nat):Nat->Nat:=λq=>if q % 4<r\/(q % 4=r/\q/4<c) then gG bl q else 0
theorem BZ(bl J:Nat->Nat)(last:Bool)(w:Wd)(d7:bG bl)(e1:bG J):Wc 349 #[.agg (arr 16 (c8 bl)).toArray,.agg (arr 16 (c8 J)).toArray,.bool last] w (Rt w (.agg (arr 16 (c8 (wJ bl J last))).toArray)):=by
 have f2:=jz d7;have c9:=jz e1;clear d7 e1;go_enter func349,ntmps349
 go_upto_region 2 with (refine al 35 _ rfl rfl fE ?_)
 obtain⟨g,hg⟩:=je w.heap.size;obtain⟨w1,c7⟩:=je ((((w.alloc (.cells (arr 16 (c8 bl)).toArray 35)).alloc (.cells (arr 16 (c8 J)).toArray 35)).alloc (.cells z8x16 35)).alloc (.cells z8x16 35));have d0:Hid (RX4 w w1 g bl J (rcF bl 0 0)):=jz (by
  rw[c7,hg]
  exact⟨((((ji _ w).alloc (ja _) _).alloc (by simp) _).alloc (by simp;omega) _).alloc (by simp;omega) _,ja _,(((Blk.new _ _ _).alloc _).alloc _).alloc _,((Blk.newAt _ _ _ _ (by simp)).alloc _).alloc _,(Blk.newAt _ _ _ _ (by simp)).alloc _,by
   rw[show rcF bl 0 0=(λ_=>0) from by funext q;unfold rcF;rw[jQ (by omega)]]
   exact Blk.newAt _ _ _ _ (by simp)⟩)
 rw[<- c7];simp only[World.size_alloc,<- hg];clear c7 hg;go_wp2_with fail
 go_loopw [10] (λi wr=>∃ r:Nat,r<=4/\i = .int .i64 (r:Int)/\Hid (RX4 w wr g bl J (rcF bl r 0))) (λi _=>4-(intOf i).toNat)
 case atStart=>exact⟨0,j0 _,rfl,d0⟩
 case round=>
  clear d0;obtain⟨r,hr,rfl,Z⟩:=hrel;rcases jo r 4 with h4|f7
  ·have h5:(0:Int)<=r:=by omega
   have h6:(r:Int)<4:=by omega
   go_wp2_with fail
   go_loopw [13] (λi wr=>∃ c:Nat,c<=4/\i = .int .i64 (c:Int)/\Hid (RX4 w wr g bl J (rcF bl r c))) (λi _=>4-(intOf i).toNat)
   case atStart=>exact⟨0,j0 _,rfl,Z⟩
   case round=>
    clear Z;obtain⟨c,hc,rfl,Z⟩:=hrel;rcases jo c 4 with g3|e0
    ·have g0:(0:Int)<=c:=by omega
     have g1:(c:Int)<4:=by omega
     obtain⟨ix,hx⟩:=je (r+4*((c+r) % 4));have h3:(r:Int)+4*(((c:Int)+r) % 4)=(ix:Int):=by omega
     have f9:ix<16:=by omega
     have h8:(ix:Int)<16:=by omega
     have f5:wr.cell? ⟨g,ix,none⟩=some (.int .u8 (bl ix:Nat)):=Z.p.cell f9;obtain⟨y,hy⟩:=je (bl ix);have f0:y<256:=by rw[hy];exact f2 ix
     rw[<- hy] at f5;have c5:=jz (qQ y wr f0);have hv:lS y=gG bl (r+4*c):=by
      rw[hy,hx];unfold gG;rw[show(r+4*c) % 4=r from by omega,show(r+4*c)/4=c from by omega]
     have f6:=Z.m.cell (i:=r+4*c) (by omega);have g8:=Z.m.frozen (r+4*c);have f1:c8 (rcF bl r c) (r+4*c) = .int .u8 0:=by
      show Value.int .u8 ((rcF bl r c (r+4*c):Nat):Int)=_;unfold rcF;rw[jQ (by omega)];rfl
     rw[f1] at f6;obtain⟨X,hX⟩:=je (lS y);rw[<- hX] at c5 hv;have c4:=jz ((Z.set (r+4*c) X).fn (f':=rcF bl r (c+1)) (λq hq=>by
      unfold cO
      by_cases e:q=r+4*c
      ·rw[jP e,hv,e]
       unfold rcF
       rw[jP (by omega)]
      ·rw[jQ e]
       unfold rcF
       by_cases e2:q % 4<r\/(q % 4=r/\q/4<c)
       ·rw[jP e2,jP (by omega)]
       ·rw[jQ e2,jQ (by omega)]))
     have h0:(0:Int)<=(r:Int)+4*c:=by omega
     have h2:(r:Int)+4*c<16:=by omega
     clear hX hv f1 hy hx f0 Z;go_wp2_with fail
     refine c5.mono ?_;rintro e w5 ⟨rfl,e8⟩;rw[e8];clear e8 w5 c5;go_wp2_with fail
     exact⟨⟨c+1,by omega,by go_num,c4⟩,by simp[intOf];omega⟩
    ·have f3:c=4:=by omega
     have g2:¬(c:Int)<4:=by omega
     have c4:Hid (RX4 w wr g bl J (rcF bl (r+1) 0)):=jz (Z.fn (λq hq=>by
      unfold rcF
      by_cases e:q % 4<r\/(q % 4=r/\q/4<c)
      ·rw[jP e,jP (by omega)]
      ·rw[jQ e,jQ (by omega)]))
     clear Z f3 hc e0;go_wp2_with fail
     exact⟨⟨r+1,by omega,by go_num,c4⟩,by simp[intOf];omega⟩
  ·have h7:¬(r:Int)<4:=by omega
   have D:Hid (RX4 w wr g bl J (gG bl)):=jz (Z.fn (λq hq=>by
    unfold rcF
    rw[jP (by omega)]))
   clear Z hr f7;have x:=D.m.range;have j:=d4 (L:=arr 16 (c8 (gG bl))) (aB _ _);cases last with
   | true=>
    clear x j;have x:=D.m.range;have a7:=D.n.range;have j:=d4 (L:=arr 16 (c8 (gG bl))) (aB _ _);have a5:=d4 (L:=arr 16 (c8 J)) (aB _ _);have a3:=jz (λW=>rZ (gG bl) J W (nY bl) c9);go_wp2_with (first
     | (refine ld 35 (.tmp 7) rfl rfl rfl x underlying35 rfl j ?_)
     | (refine ld 35 (.tmp 4) rfl rfl rfl a7 underlying35 rfl a5 ?_))
    refine(a3 _).mono ?_;rintro e w7 ⟨rfl,K⟩;have b1:Blk w7 (g+1+1) 35 z8x16:=(D.keep K).z;have a0:=jz (And.intro (D.keep K).be D.lo);obtain⟨M,R⟩:=je (arr 16 (c8 (wI (gG bl) J)));rw[<- R];have hI:=d4 (L:=M) (by rw[R];exact aB _ _);have I:(prog.info? 35).map (·.size)=some M.toArray.size:=by rw[js];exact hI
    have U:z8x16.size=M.toArray.size:=by rw[R,aL];exact aL 16 _
    have V:M.toArray.all (·.oneCell')=true:=by rw[R];exact bY (λ_=>rfl)
    have c3:=jz R;clear R K a3 x a7 j a5 hI;go_wp2_with (refine aP 35 (.tmp 6) (.tmp 40) rfl rfl rfl rfl b1 I U V ?_;intro w9 a4 a6 _ _;have b0:=jz a4;have b7:=jz a6;clear a4 a6)
    exact bodyPost_ret (results_cell_row rfl _ _ (g+1+1) 35 _ (0,0) _ rfl b0 underlying35 rfl I) rfl ⟨by rw[c3.out];rfl,a0.out.1.trans (b7.mono (by have:=a0.out.2;omega))⟩
   | false=>
    have a9:(arr 4 (c8 nmR)).toArray=#[.int .u8 2,.int .u8 3,.int .u8 1,.int .u8 1]:=by kernel_rfl
    have a2:=UV (gG bl) nmR wr (nY bl) X7;rw[a9] at a2;have a2:=jz a2;go_wp2_with (refine ld 35 (.tmp 7) rfl rfl rfl x underlying35 rfl j ?_)
    refine a2.mono ?_;rintro e w5 ⟨rfl,d2⟩;have c2:=jz (D.keep d2);have d1:Blk w5 (g+1+1+1) 35 (arr 16 (c8 (gG bl))).toArray:=c2.m;obtain⟨O,hO⟩:=je ((arr 16 (c8 (gF nmR (gG bl)))).toArray);have I:(prog.info? 35).map (·.size)=some O.size:=by rw[hO,aL];kernel_rfl
    have U:(arr 16 (c8 (gG bl))).toArray.size=O.size:=by rw[hO,aL,aL]
    have V:O.all (·.oneCell')=true:=by rw[hO];exact bY (λ_=>rfl)
    rw[<- hO];have HO:=jz hO;clear hO d2 x j a2 a9 D;go_upto_region 13 with (refine aP 35 (.tmp 7) (.tmp 37) rfl rfl rfl rfl d1 I U V ?_;intro w6 c6 d5 a8 _)
    rw[HO.out] at c6;have a1:Hid (RX4 w w6 g bl J (gF nmR (gG bl))):=jz (by
     have h:=c2.out
     have f8:=h.lo
     exact⟨h.be.trans (d5.mono (by omega)),f8,(a8 _ (by omega)).trans h.p,(a8 _ (by omega)).trans h.n,(a8 _ (by omega)).trans h.z,c6⟩)
    clear c6 d5 a8 d1 I U V c2 HO;have x:=a1.m.range;have a7:=a1.n.range;have j:=d4 (L:=arr 16 (c8 (gF nmR (gG bl)))) (aB _ _);have a5:=d4 (L:=arr 16 (c8 J)) (aB _ _);have a3:=jz (λW=>rZ (gF nmR (gG bl)) J W (KU (nY bl)) c9);go_wp2_with (first
     | (refine ld 35 (.tmp 7) rfl rfl rfl x underlying35 rfl j ?_)
     | (refine ld 35 (.tmp 4) rfl rfl rfl a7 underlying35 rfl a5 ?_))
    refine(a3 _).mono ?_;rintro e w7 ⟨rfl,K⟩;have b1:Blk w7 (g+1+1) 35 z8x16:=(a1.keep K).z;have a0:=jz (And.intro (a1.keep K).be a1.lo);obtain⟨M,R⟩:=je (arr 16 (c8 (wI (gF nmR (gG bl)) J)));rw[<- R];have hI:=d4 (L:=M) (by rw[R];exact aB _ _);have I:(prog.info? 35).map (·.size)=some M.toArray.size:=by rw[js];exact hI
    have U:z8x16.size=M.toArray.size:=by rw[R,aL];exact aL 16 _
    have V:M.toArray.all (·.oneCell')=true:=by rw[R];exact bY (λ_=>rfl)
    have c3:=jz R;clear R K a3 x a7 j a5 hI;go_wp2_with (refine aP 35 (.tmp 6) (.tmp 40) rfl rfl rfl rfl b1 I U V ?_;intro w9 a4 a6 _ _;have b0:=jz a4;have b7:=jz a6;clear a4 a6)
    exact bodyPost_ret (results_cell_row rfl _ _ (g+1+1) 35 _ (0,0) _ rfl b0 underlying35 rfl I) rfl ⟨by rw[c3.out];rfl,a0.out.1.trans (b7.mono (by have:=a0.out.2;omega))⟩
def lay{α:Type}(F:Nat->α)(o n:Nat)(G:Nat->α):Nat->α:=λq=>if o<=q/\q<o+n then G (q-o) else F q
theorem AB.setCells{g n:Nat}{t:TypeId}:∀(vs:Wv) (d:Value) {W:Wd} {F:Nat->Value} (o:Nat),AB W g t n F->AB (W.setCells g o vs) g t n (lay F o vs.length λk=>vs.getD k d)
 | [],d,W,F,o,h=>h.ext (λq _=>by unfold lay;rw[jQ (by simp)])
 | v :: r,d,W,F,o,h=>by
  have h1:=AB.setCells r d (o+1) (h.set o v);rw[World.setCells];refine h1.ext (λq _=>?_);unfold lay cO;rw[List.length_cons];by_cases e:q=o
  ·rw[jQ (by omega),jP e,jP (by omega),e,Nat.sub_self];rfl
  ·by_cases e2:o+1<=q/\q<o+1+r.length
   ·rw[jP e2,jP (by omega),show q-o=(q-(o+1))+1 from by omega];rfl
   ·rw[jQ e2,jQ e,jQ (by omega)]
theorem AB.lay8{W:Wd}{g n m o:Nat}{t:TypeId}{f a:Nat->Nat}(h:AB W g t n (c8 f)):AB (W.setCells g o (arr m (c8 a))) g t n (c8 (lay f o m a)):=
 (AB.setCells (arr m (c8 a)) (.bool false) o h).ext (λq _=>by
  unfold c8 lay
  rw[aB]
  by_cases e:o<=q/\q<o+m
  ·rw[jP e,jP e]
   show(arr m λk=>Value.int .u8 (a k:Nat)).getD (q-o) (.bool false)=_
   rw[jn,fJ _ (by omega)]
   rfl
  ·rw[jQ e,jQ e])
theorem Blk.farS{g b:Nat}{t:TypeId}{cs:Wa}(hg:g≠b):∀(vs:Wv) {W:Wd} (o:Nat),Blk W g t cs->Blk (W.setCells b o vs) g t cs
 | [],_,_,h=>h
 | v :: r,W,o,h=>by
  rw[World.setCells];exact Blk.farS hg r (o+1) (Blk.far h hg v)
theorem AB.farS{W:Wd}{g b n:Nat}{t:TypeId}{F:Nat->Value}(h:AB W g t n F)(hg:g≠b)(o:Nat)(vs:Wv):AB (W.setCells b o vs) g t n F:=Blk.farS hg vs o h
theorem Below.setS{m b:Nat}(hb:m<=b):∀(vs:Wv) {w W:Wd} (o:Nat),Below m w W->Below m w (W.setCells b o vs)
 | [],_,_,_,h=>h
 | v :: r,w,W,o,h=>by
  rw[World.setCells];exact Below.setS hb r (o+1) (h.setCell (by exact hb) v)
theorem AB.part{W:Wd}{g n o m:Nat}{t:TypeId}{F:Nat->Value}(h:AB W g t n F)(I:o+m<=n):W.rangeAt g o (arr m λk=>F (o+k)):=λj v x=>by
 have D:j<m:=by obtain⟨h1,_⟩:=List.getElem?_eq_some_iff.1 x;rw[aB] at h1;exact h1
 rw[fJ _ D] at x;rw[h.cell (by omega)];exact x
theorem AB.there{W:Wd}{g n o m:Nat}{t:TypeId}{F:Nat->Value}(h:AB W g t n F)(D:o+m<=n):W.there g o m:=λj x=>⟨by rw[h.cell (by omega)];rfl,h.frozen _⟩
theorem XG{P:Program}{ops:Array Oper}{rest:List Oper}{o:Oper}{a:Act}{w:Wd}{Q:Exit->Act->Wd->Prop}(ty:TypeId)(x y:Operand)(D:o.op = .store ty x y)(I:Region.wanted o (yielded ops a.tmps)=true)
  {b f:Nat} {cells:Wv} (J:a.eval x = .pointer (some ⟨b,f,none⟩)) (hy:a.eval y = .agg cells.toArray) (ht:w.there b f cells.length)
  (hi:(P.info? ty).map (·.size)=some cells.length) (h1:cells.toArray.all (·.oneCell')=true)
  (h:wpList P ops Q rest (a.put o.dst undef) (w.setCells b f cells)):wpList P ops Q (o :: rest) a w:=
 wpList_step λK j=>by
  rw[jP I];exact wp_store_mid ty x y D b f cells.toArray J hy (by rw[js];exact ht) (by rw[js];exact hi) h1 (j _ _ h)
def MN(bf:Nat->Nat)(pw:Nat):Nat->Nat:=λj=>if j=0 then lS (bf 13) ^^^ pw else if j=1 then lS (bf 14) else if j=2 then lS (bf 15) else lS (bf 12)
def r4(bf:Nat->Nat)(pw:Nat):Nat->Nat->Nat
 | 0=>MN bf pw
 | j+1=>cO (r4 bf pw j) (j % 4) (r4 bf pw j (j % 4) ^^^ bf j)
def nk(bf:Nat->Nat)(pw j:Nat):Nat:=r4 bf pw j (j % 4) ^^^ bf j
def pwr:Nat->Nat
 | 0=>1
 | i+1=>wC (pwr i) 2
def kyF(key:Nat->Nat):Nat->Nat->Nat
 | 0=>key
 | i+1=>nk (kyF key i) (pwr i)
theorem G8:∀ i,pwr i<256
 | 0=>by show 1<256;omega
 | i+1=>BT (G8 i)
theorem UW{bf:Nat->Nat}{pw:Nat}(h:pw<256):bG (MN bf pw):=λj=>by
 unfold MN;split
 ·exact Nat.xor_lt_two_pow (n:=8) (oX _) h
 ·split
  ·exact oX _
  ·split
   ·exact oX _
   ·exact oX _
theorem uM{bf:Nat->Nat}{pw:Nat}(hb:bG bf)(h:pw<256):∀ j,bG (r4 bf pw j)
 | 0=>UW h
 | j+1=>λq=>by
  show cO (r4 bf pw j) (j % 4) (r4 bf pw j (j % 4) ^^^ bf j) q<256;unfold cO;split
  ·exact Nat.xor_lt_two_pow (n:=8) (uM hb h j _) (hb j)
  ·exact uM hb h j q
theorem ZN{bf:Nat->Nat}{pw:Nat}(hb:bG bf)(h:pw<256):bG (nk bf pw):=λj=>Nat.xor_lt_two_pow (n:=8) (uM hb h j _) (hb j)
theorem r8{key:Nat->Nat}(j:bG key):∀ i,bG (kyF key i)
 | 0=>j
 | i+1=>ZN (r8 j i) (G8 i)
def kAt(key:Nat->Nat)(i j:Nat):Nat->Nat:=λq=>if q/16<i\/(q/16=i/\q % 16<j) then kyF key (q/16) (q % 16) else 0
theorem UX(key:Nat->Nat)(q:Nat):kAt key 1 0 q=lay (λ_=>0) 0 16 key q:=by
 unfold kAt lay;by_cases e:q<16
 ·rw[jP (by omega),jP (by omega),show q/16=0 from by omega,show q % 16=q-0 from by omega];rfl
 ·rw[jQ (by omega),jQ (by omega)]
theorem UY(key:Nat->Nat){i j:Nat}(x:j<16)(q:Nat):cO (kAt key (i+1) j) (16*(i+1)+j) (nk (kyF key i) (pwr i) j) q=kAt key (i+1) (j+1) q:=by
 unfold cO;by_cases e:q=16*(i+1)+j
 ·rw[jP e];unfold kAt;rw[jP (by omega),show q/16=i+1 from by omega,show q % 16=j from by omega];rfl
 ·rw[jQ e];unfold kAt;by_cases e2:q/16<i+1\/(q/16=i+1/\q % 16<j)
  ·rw[jP e2,jP (by omega)]
  ·rw[jQ e2,jQ (by omega)]
theorem QC(key:Nat->Nat)(i q:Nat):kAt key i 16 q=kAt key (i+1) 0 q:=by
 unfold kAt;by_cases e:q/16<i\/(q/16=i/\q % 16<16)
 ·rw[jP e,jP (by omega)]
 ·rw[jQ e,jQ (by omega)]
theorem UZ(key:Nat->Nat){i k:Nat}(j:k<16):kAt key (i+1) 0 (16*i+k)=kyF key i k:=by
 unfold kAt;rw[jP (by omega),show(16*i+k)/16=i from by omega,show(16*i+k) % 16=k from by omega]
end Go.Proofs.YtiaigidbcljblaaGreatDoor
namespace Go.Proofs
open Go.Shelf
def Tryz.sortEnt_ren:Go.Shelf.Ren:=⟨fun|6=>178|15=>233|14=>232|28=>299|29=>145|20=>291|21=>292|22=>293|23=>294|24=>295|25=>296|26=>297|27=>298|46=>320|47=>321|48=>322|49=>323|50=>324|57=>333|n=>n,fun|22=>52|24=>172|25=>296|3=>3|39=>129|0=>0|53=>51|55=>141|4=>4|46=>411|45=>410|50=>191|5=>5|9=>9|66=>436|70=>440|76=>450|77=>451|n=>n,fun|n=>n⟩
theorem Tryz.sortEnt:Go.Proofs.SlLaysF0.n6 prog Tryz.sortEnt_ren:={
 mixed:=by kernel_rfl
 f6:=⟨Tryz.f178.name,by decide,func178.trans (congrArg some (by kernel_rfl))⟩
 f14:=⟨Tryz.f232.name,by decide,func232.trans (congrArg some (by kernel_rfl))⟩
 f15:=func233.trans (congrArg some (by kernel_rfl))
 f20:=⟨Tryz.f291.name,by decide,func291.trans (congrArg some (by kernel_rfl))⟩
 f21:=⟨Tryz.f292.name,by decide,func292.trans (congrArg some (by kernel_rfl))⟩
 f22:=⟨Tryz.f293.name,by decide,func293.trans (congrArg some (by kernel_rfl))⟩
 f23:=⟨Tryz.f294.name,by decide,func294.trans (congrArg some (by kernel_rfl))⟩
 f24:=⟨Tryz.f295.name,by decide,func295.trans (congrArg some (by kernel_rfl))⟩
 f25:=⟨Tryz.f296.name,by decide,func296.trans (congrArg some (by kernel_rfl))⟩
 f26:=⟨Tryz.f297.name,by decide,func297.trans (congrArg some (by kernel_rfl))⟩
 f27:=⟨Tryz.f298.name,by decide,func298.trans (congrArg some (by kernel_rfl))⟩
 f28:=func299.trans (congrArg some (by kernel_rfl))
 f29:=func145.trans (congrArg some (by kernel_rfl))
 f46:=⟨Tryz.f320.name,by decide,func320.trans (congrArg some (by kernel_rfl))⟩
 f47:=func321.trans (congrArg some (by kernel_rfl))
 f48:=func322.trans (congrArg some (by kernel_rfl))
 f49:=⟨Tryz.f323.name,by decide,func323.trans (congrArg some (by kernel_rfl))⟩
 f50:=⟨Tryz.f324.name,by decide,func324.trans (congrArg some (by kernel_rfl))⟩
 f57:=⟨Tryz.f333.name,by decide,func333.trans (congrArg some (by kernel_rfl))⟩
 t0:=underlying0
 a0:=isAgg0
 z0:=sizeOf0
 v0:=zeroValue0
 t3:=underlying3
 a3:=isAgg3
 z3:=sizeOf3
 v3:=zeroValue3
 t4:=underlying4
 a4:=isAgg4
 z4:=sizeOf4
 v4:=zeroValue4
 t5:=underlying5
 a5:=isAgg5
 z5:=sizeOf5
 v5:=zeroValue5
 t9:=underlying9
 a9:=isAgg9
 z9:=sizeOf9
 v9:=zeroValue9
 t22:=underlying52
 a22:=isAgg52
 z22:=sizeOf52
 v22:=zeroValue52
 t25:=underlying296
 a25:=isAgg296
 z25:=sizeOf296
 v25:=zeroValue296
 t39:=underlying129
 a39:=isAgg129
 z39:=sizeOf129
 v39:=zeroValue129
 t45:=underlying410
 a45:=isAgg410
 z45:=sizeOf410
 v45:=zeroValue410
 t46:=underlying411
 a46:=isAgg411
 z46:=sizeOf411
 v46:=zeroValue411
 t50:=underlying191
 a50:=isAgg191
 z50:=sizeOf191
 v50:=zeroValue191
 t53:=underlying51
 a53:=isAgg51
 z53:=sizeOf51
 v53:=zeroValue51
 t55:=underlying141
 a55:=isAgg141
 z55:=sizeOf141
 v55:=zeroValue141
 t66:=underlying436
 a66:=isAgg436
 z66:=sizeOf436
 v66:=zeroValue436
 t70:=underlying440
 a70:=isAgg440
 z70:=sizeOf440
 v70:=zeroValue440
 t76:=underlying450
 a76:=isAgg450
 z76:=sizeOf450
 v76:=zeroValue450
 t77:=underlying451
 a77:=isAgg451
 z77:=sizeOf451
 v77:=zeroValue451 }
end Go.Proofs
namespace Go.Proofs.YtiaigidbcljblaaGreatDoor
open Go.Proofs.Tryz
open Go.RowKit
attribute [local irreducible] wpQuiet wpAnyH
abbrev RdS:=Wl×Bool
def aI(k:Nat)(s:RdS):Nat×RdS:=if s.2=false/\k<=s.1.length then (beN (s.1.take k),(s.1.drop k,false)) else (0,([],true))
def dM(n:Nat)(s:RdS):Wl×RdS:=if s.2=false/\n<=s.1.length then (s.1.take n,(s.1.drop n,false)) else ([],([],true))
def bF(k:Nat)(s:RdS):Wl×RdS:=if (aI k s).2.2 then ([],(aI k s).2) else dM (aI k s).1 (aI k s).2
def iA(s:RdS):Bool:=!s.2 && decide (s.1.length=0)
def RDB(B:Nat)(w:Wd)(r:Nat)(s:RdS):Prop:=∃ v,RD w r v s.1 s.2/\(0<s.1.length->∀ b,v.ownBlock=some b->b<B)
def RDR(w:Wd)(r:Nat)(s:RdS):Prop:=∃ B,RDB B w r s
theorem RDB.keep{B:Nat}{w w':Wd}{r:Nat}{s:RdS}(h:RDB B w r s)(hb:Bw w w'):RDB B w' r s:=by
 obtain⟨v,h1,j⟩:=h;exact⟨v,⟨h1.1.keep hb,h1.2.below hb⟩,j⟩
theorem RDB.lt{B:Nat}{w:Wd}{r:Nat}{s:RdS}(h:RDB B w r s):r<w.heap.size:=by
 obtain⟨v,h1,j⟩:=h;exact h1.1.lt
theorem RDR.keep{w w':Wd}{r:Nat}{s:RdS}(h:RDR w r s)(hb:Bw w w'):RDR w' r s:=by
 obtain⟨B,h⟩:=h;exact⟨B,h.keep hb⟩
theorem RDR.lt{w:Wd}{r:Nat}{s:RdS}(h:RDR w r s):r<w.heap.size:=by
 obtain⟨B,h⟩:=h;exact h.lt
theorem RDB.off{B:Nat}{w w':Wd}{r g:Nat}{s:RdS}(h:RDB B w r s)(I:Off g w w')(U:r≠g)(hg:B<=g):RDB B w' r s:=by
 obtain⟨v,h1,D⟩:=h;refine⟨v,⟨I.blk h1.1 U,?_⟩,D⟩;obtain⟨A,cap,rfl,K,R,V⟩:=h1.2;refine⟨A,cap,rfl,K,R,λJ=>?_⟩;obtain⟨b,off,rfl,x⟩:=V J;exact⟨b,off,rfl,λj u O=>I.cell (x j u O) (λe=>by have Z:=D J b rfl;have e:b=g:=e;omega)⟩
theorem RDB.new{w:Wd}{r:Nat}{v:Value}{D:Wl}{bad:Bool}(h:RD w r v D bad):RDB w.heap.size w r (D,bad):=by
 refine⟨v,h,λI b hb=>?_⟩;obtain⟨A,cap,rfl,R,U,O⟩:=h.2;obtain⟨J,off,rfl,j⟩:=O I;injection hb with hb
 have x:0<(u8s D).length:=by rw[aJ];exact I
 have K:J<w.heap.size:=dW (j 0 _ (List.getElem?_eq_getElem x));rw[<- hb];exact K
theorem RDR.sn{w w':Wd}{r n:Nat}{s:RdS}{x:Value}{j:Wl}(h:RDR w r s)(hs:Sn w 1 x n (u8s j))(D:Off r w w'):Sn w' 1 x n (u8s j):=by
 obtain⟨B,v,h1,J⟩:=h;obtain⟨A,cap,I,_⟩:=id h1.2;exact hs.offB h1.1 I D
structure RdOk(s:RdS):Prop where
 bys:Bys s.1
 len:s.1.length<=1000000
theorem RdOk.num{s:RdS}(h:RdOk s)(k:Nat):RdOk (aI k s).2:=by
 unfold aI;split
 ·exact⟨λb hb=>h.bys b (List.mem_of_mem_drop hb),by show(s.1.drop k).length<=_;rw[List.length_drop];have:=h.len;omega⟩
 ·exact⟨λb hb=>(by cases hb),j0 _⟩
theorem RdOk.next{s:RdS}(h:RdOk s)(n:Nat):RdOk (dM n s).2:=by
 unfold dM;split
 ·exact⟨λb hb=>h.bys b (List.mem_of_mem_drop hb),by show(s.1.drop n).length<=_;rw[List.length_drop];have:=h.len;omega⟩
 ·exact⟨λb hb=>(by cases hb),j0 _⟩
theorem RdOk.str{s:RdS}(h:RdOk s)(k:Nat):RdOk (bF k s).2:=by
 unfold bF;split
 ·exact h.num k
 ·exact(h.num k).next _
theorem pY{s:RdS}(h:RdOk s)(n:Nat):Bys (dM n s).1/\(dM n s).1.length<=s.1.length:=by
 unfold dM;split
 ·exact⟨λb hb=>h.bys b (j7 hb),by show(s.1.take n).length<=_;rw[jv];omega⟩
 ·exact⟨λb hb=>(by cases hb),j0 _⟩
theorem MO(s:RdS)(k:Nat):(aI k s).2.1.length<=s.1.length:=by
 unfold aI;split
 ·show(s.1.drop k).length<=_;rw[List.length_drop];omega
 ·exact j0 _
theorem jZ{s:RdS}(h:RdOk s)(k:Nat):Bys (bF k s).1/\(bF k s).1.length<=s.1.length:=by
 unfold bF;split
 ·exact⟨λb hb=>(by cases hb),j0 _⟩
 ·have:=pY (h.num k) (aI k s).1;exact⟨this.1,jm this.2 (MO s k)⟩
theorem EH{s:RdS}(h:RdOk s)(k:Nat):(aI k s).1<256 ^ k:=by
 unfold aI;split
 ·rename_i j;have:=nN (s.1.take k) (λb hb=>h.bys b (j7 hb))
  rwa [jv,Nat.min_eq_left j.2] at this
 ·exact Nat.pow_pos (by decide)
theorem wK(r:Nat)(v:Value)(J:Wl)(bad:Bool)(k:Nat)(w:Wd)(h:RD w r v J bad)(hb:Bys J)(hl:J.length<=1000000)(c7:1<=k)(c9:k<=8):
    Wc 216 #[.pointer (some ⟨r,0,none⟩),.int .i64 k] w λe w'=>Off r w w' /\
      ((bad = false /\ k <= J.length /\ ∃ v', e = .returned (.tuple #[.int .u64 (beN (J.take k)), .bool true]) /\ RD w' r v' (J.drop k) false /\ ∀ b, v'.ownBlock = some b -> v.ownBlock = some b) \/
       ((bad=true\/J.length<k)/\e = .returned (.tuple #[.int .u64 0,.bool false])/\RD w' r (.slice none 0 0) [] true)):=by
  have HR:=jz h;clear h;have c4:(1:Int)<=k:=by omega
  have c6:(k:Int)<=8:=by omega
  go_enter func216,ntmps216
  go_wp2_with fail
  refine(vK r v J bad k w HR hl).mono ?_;rintro e w1 ⟨ho,⟨rfl,b0,x,v',rfl,O,hR,a4⟩|⟨R,rfl,hR⟩⟩
  · obtain⟨A,cap,rfl,c2,_,_⟩:=id O;have Z:Bys (J.take k):=λb a8=>hb b (j7 a8)
    obtain⟨l,hL⟩:=je (J.take k);have a3:l.length=k:=by rw[hL,jv];omega
    rw[<- hL] at O Z;have HL:=jz hL;have a1:=jz Z;have a6:=jz O;have HO:=jz ho;have V:=jz hR;have U:=jz a3;have a7:=jz a4;clear a4 hL O Z ho hR b0 a3 hb;go_wp2_with fail
    go_loopw [30,8] (λi x wr=>∃ j:Nat,j<=k/\i = .int .i64 j/\x = .int .u64 (beN (l.take j))/\wr=w1) (λi _ _=>k-(intOf i).toNat)
    case atStart=>exact⟨0,j0 _,rfl,rfl,rfl⟩
    case round=>
      obtain⟨j,hj,rfl,rfl,rfl⟩:=hrel;by_cases hlt:j<k
      · obtain⟨A',b7,hA,_,b1,D⟩:=a6.out;injection hA with hA _ _
        subst hA;obtain⟨b,off,rfl,hr⟩:=D (by omega);have a0:j<l.length:=by rw[U.out];exact hlt
        have hc:=hr j _ (oO l j a0);have a9:=a1.out l[j] (List.getElem_mem a0);obtain⟨c,a2⟩:∃ c:Nat,l[j]=c:=⟨l[j].toNat,by omega⟩;have K:=uX l j a0;rw[a2] at hc K a9;have I:beN (l.take j)<256 ^ j:=by
          have:=nN (l.take j) (λb hb=>a1.out b (j7 hb))
          rwa [jv,Nat.min_eq_left (by omega)] at this
        obtain⟨y,hy⟩:=je (beN (l.take j));rw[<- hy] at K I;rw[<- hy];have a5:=jz K;have d0:bits .or .u64 (IntKind.u64.wrap ((y:Int)*256)) (c:Int)=((y*256+c:Nat):Int):=J4 y c j (by omega) I (by omega);have c3:(0:Int)<=j:=by omega
        have c5:(j:Int)<k:=by omega
        clear hr D K hy a2 b1;go_wp2_with fail
        refine⟨⟨j+1,by omega,by go_num,?_,by trivial⟩,by simp[intOf];omega⟩;rw[a5.out];simp
      · obtain rfl:j=k:=by omega
        rw[List.take_of_length_le (by rw[U.out];omega)];go_wp2_with fail
        go_ret2
        refine⟨HO,.inl ⟨?_,?_,v',V,a7⟩⟩
        · have:=U.out;rw[HL.out,jv] at this;omega
        · rw[HL.out];rfl
  · have HO:=jz ho;have V:=jz hR;have HB:=jz R;clear ho hR R;go_wp2_with fail
    go_ret2
    exact⟨HO,.inr ⟨HB,rfl,V⟩⟩
theorem G9(r:Nat)(v:Value)(x:Wl)(bad:Bool)(k:Nat)(w:Wd)(h:RD w r v x bad)(hb:Bys x)(hl:x.length<=1000000)(K:1<=k)(O:k<=8):
    Wc 159 #[.pointer (some ⟨r,0,none⟩),.int .i64 k] w λe w'=>Off r w w' /\
      ((bad = false /\ k <= x.length /\ ∃ v', e = .returned (.int .u64 (beN (x.take k))) /\ RD w' r v' (x.drop k) false /\ ∀ b, v'.ownBlock = some b -> v.ownBlock = some b) \/
       ((bad=true\/x.length<k)/\e = .returned (.int .u64 0)/\RD w' r (.slice none 0 0) [] true)):=by
  go_enter func159,ntmps159
  have HR:=jz h;clear h;go_wp2_with fail
  refine(wK r v x bad k w HR hb hl K O).mono ?_;rintro e w1 ⟨Z,⟨j,R,v',rfl,J,U⟩|⟨j,rfl,J⟩⟩
  all_goals
    have V:=jz Z;have I:=jz J;have D:=jz j;clear Z J j;go_wp2_with fail
    go_ret
  · exact⟨V,.inl ⟨D,R,v',rfl,I,U⟩⟩
  · exact⟨V,.inr ⟨D,rfl,I⟩⟩
section
variable {B : Nat} {w : Wd} {r : Nat} {s : RdS}
theorem r9(x:Value)(j:Wl)(w:Wd)(hs:Sn w 1 x j.length (u8s j))(K:j.length<=1000000):
  Wc 157 #[x] w λe w'=>∃ r,e = .returned (.pointer (some ⟨r,0,none⟩))/\RDB w'.heap.size w' r (j,false)/\w.heap.size<=r/\Bw w w':=by
 refine(zA x j w hs K).mono ?_;rintro e w' ⟨r,v,h1,D,O,I,J⟩;exact⟨r,h1,RDB.new D,I,J⟩
theorem MQ(x:Value)(j:Wl)(w:Wd)(hs:Sn w 1 x j.length (u8s j))(J:j.length<=1000000):
  Wc 157 #[x] w λe w'=>∃ r,e = .returned (.pointer (some ⟨r,0,none⟩))/\RDR w' r (j,false)/\w.heap.size<=r/\Bw w w':=by
 refine(r9 x j w hs J).mono ?_;rintro e w' ⟨r,h1,D,I⟩;exact⟨r,h1,⟨_,D⟩,I⟩
theorem H0(k:Nat)(h:RDB B w r s)(hs:RdOk s)(D:1<=k)(I:k<=8):
  Wc 216 #[.pointer (some ⟨r,0,none⟩),.int .i64 k] w λe w'=>Off r w w'/\RDB B w' r (aI k s).2/\e = .returned (.tuple #[.int .u64 ((aI k s).1:Nat),.bool (!(aI k s).2.2)]):=by
 obtain⟨v,h,U⟩:=h;refine(wK r v s.1 s.2 k w h hs.bys hs.len D I).mono ?_;rintro e w' ⟨O,⟨h1,R,v',rfl,x,K⟩|⟨h1,rfl,x⟩⟩
 ·have j:aI k s=(beN (s.1.take k),(s.1.drop k,false)):=jP ⟨h1,R⟩;rw[j];exact⟨O,⟨v',x,λJ b e=>U (by simp only[List.length_drop] at J;omega) b (K b e)⟩,rfl⟩
 ·have j:aI k s=(0,([],true)):=jQ (by
   rintro⟨a,b⟩
   rcases h1 with h1|h1
   ·rw[a] at h1;cases h1
   ·omega)
  rw[j];exact⟨O,⟨_,x,λJ=>by cases J⟩,rfl⟩
theorem fR(k:Nat)(h:RDB B w r s)(hs:RdOk s)(D:1<=k)(I:k<=8):
  Wc 159 #[.pointer (some ⟨r,0,none⟩),.int .i64 k] w λe w'=>Off r w w'/\RDB B w' r (aI k s).2/\e = .returned (.int .u64 ((aI k s).1:Nat)):=by
 obtain⟨v,h,U⟩:=h;refine(G9 r v s.1 s.2 k w h hs.bys hs.len D I).mono ?_;rintro e w' ⟨O,⟨h1,R,v',rfl,x,K⟩|⟨h1,rfl,x⟩⟩
 ·have j:aI k s=(beN (s.1.take k),(s.1.drop k,false)):=jP ⟨h1,R⟩;rw[j];exact⟨O,⟨v',x,λJ b e=>U (by simp only[List.length_drop] at J;omega) b (K b e)⟩,rfl⟩
 ·have j:aI k s=(0,([],true)):=jQ (by
   rintro⟨a,b⟩
   rcases h1 with h1|h1
   ·rw[a] at h1;cases h1
   ·omega)
  rw[j];exact⟨O,⟨_,x,λJ=>by cases J⟩,rfl⟩
theorem wL(h:RDB B w r s):Wc 161 #[.pointer (some ⟨r,0,none⟩)] w λe w'=>e = .returned (.bool (iA s))/\w=w':=by
 obtain⟨v,h,_⟩:=h;exact J6 r v s.1 s.2 w h
theorem pZ(k:Nat)(h:RDB B w r s)(hs:RdOk s)(c3:1<=k)(c4:k<=8):
  Wc 160 #[.pointer (some ⟨r,0,none⟩),.int .i64 k] w λe w'=>Off r w w'/\RDB B w' r (bF k s).2/\∃ y,e = .returned y/\Sn w' 1 y (bF k s).1.length (u8s (bF k s).1)/\∀ b,y.ownBlock=some b->w.heap.size<=b:=by
 have R:=jz (H0 k h hs c3 c4);have HS:Hid (bF k s=if (aI k s).2.2 then ([],(aI k s).2) else dM (aI k s).1 (aI k s).2):=jz rfl;have V:=jz (hs.num k);obtain⟨x,hx⟩:=je (aI k s);rw[<- hx] at R HS V;clear h hs hx;obtain⟨n,j,bad⟩:=x;cases bad with
 | true=>
  have hb:(!true)=false:=rfl;simp only[hb] at R;clear hb;go_enter func160,ntmps160
  go_wp2_with fail
  refine R.mono ?_;rintro e w1 ⟨ho,I,rfl⟩;have HO:=jz ho;have HR:=jz I;clear ho I R;go_wp2_with fail
  go_ret;have e1:bF k s=([],(j,true)):=HS.out;rw[e1];obtain⟨v,I,hv⟩:=HR.out;exact⟨HO,⟨v,I,hv⟩,_,rfl,⟨none,0,rfl,ja _,rfl,λh=>absurd h (by simp)⟩,λb h=>by cases h⟩
 | false=>
  have hb:(!false)=true:=rfl;simp only[hb] at R;clear hb;have e1:bF k s=dM n (j,false):=HS.out;have HE:=jz e1;clear e1 HS;go_enter func160,ntmps160
  go_wp2_with fail
  refine R.mono ?_;rintro e w1 ⟨ho,I,rfl⟩;obtain⟨v,I,hv⟩:=I;have a7:=jz hv;clear hv;have HO:=jz ho;have HR:=jz I;have U:=jz (vK r v j false n w1 I V.len);clear ho I R;go_wp2_with fail
  refine U.mono ?_;rintro e w2 ⟨D,⟨_,a2,x,v',rfl,a3,hR,a5⟩|⟨K,rfl,hR⟩⟩
  ·have Z:=jz (HO.trans D);have J:=jz hR;have c2:=jz a5;clear a5;have b0:=jz a3;have HK:=jz a2;have hn:=V.len;have a9:Hid (n<=1000000):=jz (by show n<=_;simp only at hn;omega);have b7:=jz (HO.size);have a0:=jz (D.size);clear D hR a3 a2 hn U;go_wp2_with fail
   refine(qN x n (u8s (j.take n)) w2 b0 (bS _) a9).mono ?_;rintro e w3 ⟨y,rfl,a4,hfr,a1⟩;have b1:=jz a4;have a8:=jz hfr;have O:=jz a1;clear a4 hfr a1;go_wp2_with fail
   go_ret;have e2:dM n (j,false)=(j.take n,(j.drop n,false)):=jP ⟨rfl,HK⟩;rw[HE.out,e2];refine⟨Z.trans (Off.of_below O),⟨v',⟨J.out.1.keep O,J.out.2.below O⟩,λhp b e=>a7.out (by have h7:0<(j.drop n).length:=hp;rw[List.length_drop] at h7;show 0<j.length;omega) b (c2 b e)⟩,y,rfl,?_,λb e=>jm (jm b7 a0) (a8 b e)⟩;have hl:(j.take n).length=n:=by rw[jv];have:=HK.out;omega
   rw[show((j.take n,(j.drop n,false)):Wl×RdS).1=j.take n from rfl,hl];exact b1.out
  ·have Z:=jz (HO.trans D);have J:=jz hR;have a6:=jz K;clear D hR K U;go_wp2_with fail
   go_ret;have e2:dM n (j,false)=([],([],true)):=jQ (by
    rintro⟨_,h⟩
    rcases a6 with h1|h1
    ·cases h1
    ·simp only at h;omega)
   rw[HE.out,e2];exact⟨Z,⟨_,J,λhp=>by cases hp⟩,_,rfl,⟨none,0,rfl,ja _,rfl,λh=>absurd h (by simp)⟩,λb h=>by cases h⟩
theorem QD(n:Nat)(h:RDB B w r s)(hs:RdOk s)(V:n<=1000000):
  Wc 223 #[.pointer (some ⟨r,0,none⟩),.int .i64 n] w λe w'=>Off r w w'/\RDB B w' r (dM n s).2/\∃ y,e = .returned y/\Sn w' 1 y (dM n s).1.length (u8s (dM n s).1):=by
 obtain⟨v,h,Z⟩:=h;refine(DO r v s.1 s.2 n w h hs.len V).mono ?_;rintro e w' ⟨O,⟨h1,R,x,v',rfl,J,D,K⟩|⟨h1,rfl,D⟩⟩
 ·have j:dM n s=(s.1.take n,(s.1.drop n,false)):=jP ⟨h1,R⟩;rw[j];have U:(s.1.take n).length=n:=by rw[jv];omega
  refine⟨O,⟨v',D,λI b e=>Z (by simp only[List.length_drop] at I;omega) b (K b e)⟩,x,rfl,?_⟩;rw[show((s.1.take n,(s.1.drop n,false)):Wl×RdS).1=s.1.take n from rfl,U];exact J
 ·have j:dM n s=([],([],true)):=jQ (by
   rintro⟨a,b⟩
   rcases h1 with h1|h1
   ·rw[a] at h1;cases h1
   ·omega)
  rw[j];exact⟨O,⟨_,D,λI=>by cases I⟩,_,rfl,⟨none,0,rfl,ja _,rfl,λh=>absurd h (by simp)⟩⟩
theorem IA(k:Nat)(h:RDR w r s)(hs:RdOk s)(j:1<=k)(x:k<=8):
  Wc 159 #[.pointer (some ⟨r,0,none⟩),.int .i64 k] w λe w'=>Off r w w'/\RDR w' r (aI k s).2/\e = .returned (.int .u64 ((aI k s).1:Nat)):=by
 obtain⟨B,h⟩:=h;exact(fR k h hs j x).mono λe w' ⟨h1,h2,h3⟩=>⟨h1,⟨B,h2⟩,h3⟩
theorem QE(h:RDR w r s):Wc 161 #[.pointer (some ⟨r,0,none⟩)] w λe w'=>e = .returned (.bool (iA s))/\w=w':=by
 obtain⟨B,h⟩:=h;exact wL h
theorem wO(k:Nat)(h:RDR w r s)(hs:RdOk s)(j:1<=k)(x:k<=8):
  Wc 160 #[.pointer (some ⟨r,0,none⟩),.int .i64 k] w λe w'=>Off r w w'/\RDR w' r (bF k s).2/\∃ y,e = .returned y/\Sn w' 1 y (bF k s).1.length (u8s (bF k s).1)/\∀ b,y.ownBlock=some b->w.heap.size<=b:=by
 obtain⟨B,h⟩:=h;exact(pZ k h hs j x).mono λe w' ⟨h1,h2,h3⟩=>⟨h1,⟨B,h2⟩,h3⟩
end
end Go.Proofs.YtiaigidbcljblaaGreatDoor
