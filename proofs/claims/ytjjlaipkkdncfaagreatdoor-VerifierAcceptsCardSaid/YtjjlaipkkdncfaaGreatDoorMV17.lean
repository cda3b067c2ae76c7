import Derived.Test.YtjjlaipkkdncfaaGreatDoorMV13
import Derived.Test.YtjjlaipkkdncfaaGreatDoorMV14
import Derived.Test.YtjjlaipkkdncfaaGreatDoorMV12
import Derived.Lib.Bytealg
import Derived.Lib.BytesEntry
import Derived.Sort.Grow
set_option linter.unusedVariables false
set_option linter.unusedSimpArgs false
set_option maxRecDepth 100000
set_option maxHeartbeats 40000000
namespace Go.Proofs.YtjjlaipkkdncfaaGreatDoor
open Go.Proofs.Tryz
section
open Go.RowKit
attribute [local irreducible] wpQuiet wpAnyH
def qN(a b:Nat->Nat):Nat->Nat:=λk=>a k ^^^ b k
theorem zI{a b:Nat->Nat}(ha:aQ a)(hb:aQ b):aQ (qN a b):=λk=>Nat.xor_lt_two_pow (n:=8) (ha k) (hb k)
structure XSa(w W:Wd)(g:Nat)(a b f:Nat->Nat):Prop where
 be:Bw w W
 lo:w.heap.size<=g
 p:AB W g 41 16 (c8 f)
 q:AB W (g+1) 41 16 (c8 b)
 r:AB W (g+1+1) 41 16 (c8 λ_=>0)
theorem XSa.drew{w W:Wd}{g:Nat}{a b f:Nat->Nat}(h:XSa w W g a b f):XSa w W.drew g a b f:=⟨h.be.drew,h.lo,h.p,h.q,h.r⟩
theorem qO(a b:Nat->Nat)(w:Wd)(ha:aQ a)(hb:aQ b):Wc 257 #[.agg (arr 16 (c8 a)).toArray,.agg (arr 16 (c8 b)).toArray] w (Rt w (.agg (arr 16 (c8 (qN a b))).toArray)):=by
 have HA:=jz ha;have HB:=jz hb;clear ha hb;go_enter func257,ntmps257
 go_upto_region 1 with (refine al 41 _ rfl rfl cK ?_)
 obtain⟨g,hg⟩:=je w.heap.size;obtain⟨w1,O⟩:=je (((w.alloc (.cells (arr 16 (c8 a)).toArray 41)).alloc (.cells (arr 16 (c8 b)).toArray 41)).alloc (.cells z8x16 41));have J:Hid (XSa w w1 g a b (λq=>if q<0 then a q ^^^ b q else a q)):=jz (by
  rw[O,hg]
  exact⟨(((ji _ w).alloc (ja _) _).alloc (by simp) _).alloc (by simp;omega) _,ja _,by
   rw[show(λq=>if q<0 then a q ^^^ b q else a q)=a from by funext q;rw[jQ (by omega)]]
   exact((Blk.new _ _ _).alloc _).alloc _,(Blk.newAt _ _ _ _ (by simp)).alloc _,Blk.newAt _ _ _ _ (by simp)⟩)
 rw[<- O];simp only[World.size_alloc,<- hg];clear O hg;go_wp2_with fail
 go_loopw [6] (λi wr=>∃ k:Nat,k<=16/\i = .int .i64 (k:Int)/\Hid (XSa w wr g a b (λq=>if q<k then a q ^^^ b q else a q))) (λi _=>16-(intOf i).toNat)
 case atStart=>exact⟨0,j0 _,rfl,J⟩
 case round=>
  clear J;obtain⟨k,hk,rfl,J⟩:=hrel;rcases jo k 16 with a2|b2
  ·have c2:(0:Int)<=k:=by omega
   have c3:(k:Int)<16:=by omega
   have c5:=u8_xor_nat (a k) (b k) (HA k) (HB k);go_upto_region 4 with fail
   obtain⟨R,K⟩:=je wr.drew;have D:Hid (XSa w R g a b (λq=>if q<k then a q ^^^ b q else a q)):=jz (by rw[K];exact J.drew);have a9:Hid (∃ f,XSa w R g a b f/\f k=a k):=jz ⟨_,D,by show(if k<k then a k ^^^ b k else a k)=_;rw[jQ (Nat.lt_irrefl _)]⟩;have b1:=D.p.frozen k;have b0:R.cell? ⟨g,k,none⟩=some (.int .u8 (a k:Nat)):=by
    rw[D.p.cell a2];show some (Value.int .u8 ((if k<k then a k ^^^ b k else a k:Nat):Int))=_;rw[jQ (Nat.lt_irrefl _)]
   obtain⟨wz,I⟩:=je (R.setCell ⟨g,k,none⟩ (.int .u8 (a k ^^^ b k:Nat)));have a7:Hid (XSa w wz g a b (λq=>if q<k+1 then a q ^^^ b q else a q)):=jz (by
    have h:=D.out
    have h1:=h.p.set k (.int .u8 (a k ^^^ b k:Nat))
    rw[cY,<- I] at h1
    have b3:=h.lo
    refine⟨by rw[I];exact h.be.setCell (by show w.heap.size<=g;omega) _,b3,h1.ext (λq _=>?_),by rw[I];exact h.q.far (by show g+1≠g;omega) _,by rw[I];exact h.r.far (by show g+1+1≠g;omega) _⟩
    show Value.int .u8 ((aY (λq=>if q<k then a q ^^^ b q else a q) k (a k ^^^ b k) q:Nat):Int)=Value.int .u8 ((if q<k+1 then a q ^^^ b q else a q:Nat):Int)
    congr 2
    unfold aY
    by_cases e:q=k
    ·rw[jP e,jP (by omega),e]
    ·rw[jQ e]
     show(if q<k then a q ^^^ b q else a q)=_
     by_cases e2:q<k
     ·rw[jP e2,jP (by omega)]
     ·rw[jQ e2,jQ (by omega)])
   clear J;refine kZ (n:=9) (λW=>W.cell? ⟨g+1,k,none⟩=some (.int .u8 (b k:Nat))) (by rw[<- K];exact D.q.cell (i:=k) a2) (h:=λhH=>?_);rw[<- K] at hH ⊢;clear K;refine qM 0 (.int .i64 k) ?_;refine qT 1 (.pointer (some ⟨g,k,none⟩)) ?_;refine qM 3 (.int .i64 k) ?_;refine qT 4 (.pointer (some ⟨g+1,k,none⟩)) ?_;refine qC 5 (v:=.int .u8 (b k:Nat)) (λW hX=>hX) ?_;refine kS 2 (some 11) (.int .u8 (a k:Nat)) R (hS:=hH) (h:=?_);simp only[jq];refine qT 6 (.int .u8 (a k ^^^ b k:Nat)) ?_;refine qT 7 (.pointer (some ⟨g,k,none⟩)) ?_;refine kW 8 none (R.setCell ⟨g,k,none⟩ (.int .u8 (a k ^^^ b k:Nat))) (hS:=by rw[World.cell?_setCell_other];exact hH;simp) (h:=?_);simp only[jq];refine kE (h:=?_);rw[<- I];clear I D a9 b1 b0 hH;go_wp2_with fail
   exact⟨⟨k+1,by omega,by go_num,a7⟩,by simp[intOf];omega⟩
  ·have a1:k=16:=by omega
   have c4:¬(k:Int)<16:=by omega
   have hD:AB wr g 41 16 (c8 (qN a b)):=J.p.ext (λq hq=>by
    show Value.int .u8 ((if q<k then a q ^^^ b q else a q:Nat):Int)=Value.int .u8 ((qN a b q:Nat):Int)
    rw[jP (by omega)]
    rfl)
   have a3:=hD.range;have a6:Blk wr (g+1+1) 41 z8x16:=J.r;have U:=jz (And.intro J.be J.lo);have hI:(prog.info? 41).map (·.size)=some (arr 16 (c8 (qN a b))).length:=by rw[aA];kernel_rfl
   obtain⟨M,Z⟩:=je (arr 16 (c8 (qN a b)));rw[<- Z] at a3 hI;have a4:(prog.info? 41).map (·.size)=some M.toArray.size:=by rw[js];exact hI
   have b7:z8x16.size=M.toArray.size:=by rw[Z,aC];exact aC 16 _
   have b9:M.toArray.all (·.oneCell')=true:=by rw[Z];exact aP (λ_=>rfl)
   have HM:=jz Z;clear Z J hD a1 hk b2;go_wp2_with (first
    | (refine ld 41 _ rfl rfl rfl a3 underlying41 rfl hI ?_)
    | (refine aN 41 (.tmp 4) (.tmp 18) rfl rfl rfl rfl a6 a4 b7 b9 ?_;intro w9 V a0 _ _;have a5:=jz V;have a8:=jz a0;clear V a0))
   exact bodyPost_ret (results_cell_row rfl _ _ (g+1+1) 41 _ (0,0) _ rfl a5 underlying41 rfl a4) rfl ⟨by rw[<- HM.out],U.out.1.trans (a8.mono (by have:=U.out.2;omega))⟩
def fL(nm bl:Nat->Nat):Nat->Nat:=λq=>MT nm (λi=>bl ((q % 4+i) % 4+4*(q/4)))
theorem Q6{a b:Nat->Nat}(hb:aQ b):MT a b<256:=zC hb 4
theorem G8{nm bl:Nat->Nat}(h:aQ bl):aQ (fL nm bl):=λq=>Q6 (λi=>h _)
def z8x4:Wa:=(arr 4 (c8 λ_=>0)).toArray
theorem lR:∀ w,(zeroValue 358).run prog w = .ok (.agg z8x4) w:=λw=>by unfold z8x4;kernel_rfl
structure MX(w W:Wd)(g:Nat)(bl nm f:Nat->Nat):Prop where
 be:Bw w W
 lo:w.heap.size<=g
 p:AB W g 41 16 (c8 bl)
 n:AB W (g+1) 358 4 (c8 nm)
 z:AB W (g+1+1) 41 16 (c8 λ_=>0)
 m:AB W (g+1+1+1) 41 16 (c8 f)
theorem MX.keep{w W W':Wd}{g:Nat}{bl nm f:Nat->Nat}(h:MX w W g bl nm f)(hb:Bw W W'):MX w W' g bl nm f:=⟨h.be.trans (hb.mono h.be.size),h.lo,h.p.keep hb,h.n.keep hb,h.z.keep hb,h.m.keep hb⟩
theorem MX.fn{w W:Wd}{g:Nat}{bl nm f f':Nat->Nat}(h:MX w W g bl nm f)(e:∀ q,q<16->f q=f' q):MX w W g bl nm f':=⟨h.be,h.lo,h.p,h.n,h.z,h.m.ext (λq D=>by unfold c8;rw[e q D])⟩
theorem MX.set{w W:Wd}{g:Nat}{bl nm f:Nat->Nat}(h:MX w W g bl nm f)(i v:Nat):MX w (W.setCell ⟨g+1+1+1,i,none⟩ (.int .u8 (v:Nat))) g bl nm (aY f i v):=
 ⟨h.be.setCell (by have:=h.lo;show w.heap.size<=g+1+1+1;omega) _,h.lo,h.p.far (by show g≠g+1+1+1;omega) _,h.n.far (by show g+1≠g+1+1+1;omega) _,h.z.far (by show g+1+1≠g+1+1+1;omega) _,by have:=h.m.set i (.int .u8 (v:Nat));rwa [cY] at this⟩
theorem MX.far{w W:Wd}{g:Nat}{bl nm f:Nat->Nat}(h:MX w W g bl nm f){p:Addr}(D:g+1+1+1<p.block)(u:Value):MX w (W.setCell p u) g bl nm f:=
 ⟨h.be.setCell (by have:=h.lo;omega) _,h.lo,h.p.far (by omega) _,h.n.far (by omega) _,h.z.far (by omega) _,h.m.far (by omega) _⟩
theorem E1(w W:Wd)(g c:Nat)(bl nm f:Nat->Nat)(h:MX w W g bl nm f)(a5:aQ bl)(a7:aQ nm)(hc:c<4):
  Wc 263 #[.int .i64 c,.pointer (some ⟨g,0,none⟩),.pointer (some ⟨g+1,0,none⟩),.pointer (some ⟨g+1+1+1,0,none⟩)] W λe w'=>e = .returned (.tuple #[])/\MX w w' g bl nm (λq=>if 4*c<=q/\q<4*c+4 then fL nm bl q else f q):=by
 have b1:=jz a5;have b9:=jz a7;have a1:Hid (MX w W g bl nm (λq=>if 4*c<=q/\q<4*c+0 then fL nm bl q else f q)):=jz (h.fn (λq _=>by rw[jQ (by omega)]));have c7:(0:Int)<=c:=by omega
 have c9:(c:Int)<4:=by omega
 clear a5 a7 h;go_enter func263,ntmps263
 go_wp2_with fail
 go_loopw [8] (λi wr=>∃ r:Nat,r<=4/\i = .int .i64 (r:Int)/\Hid (MX w wr g bl nm (λq=>if 4*c<=q/\q<4*c+r then fL nm bl q else f q))) (λi _=>4-(intOf i).toNat)
 case atStart=>exact⟨0,j0 _,rfl,a1⟩
 case round=>
  clear a1;obtain⟨r,hr,rfl,I⟩:=hrel;rcases jo r 4 with e4|d4
  ·have e5:(0:Int)<=r:=by omega
   have e6:(r:Int)<4:=by omega
   go_upto_region 4 with (refine al 358 _ rfl rfl lR ?_)
   obtain⟨ga,J⟩:=je wr.heap.size;obtain⟨w2,K⟩:=je (wr.alloc (.cells z8x4 358));have c3:g+1+1+1<ga:=by rw[J];exact I.m.lt
   have a0:Hid (MX w w2 g bl nm (λq=>if 4*c<=q/\q<4*c+r then fL nm bl q else f q)/\AB w2 ga 358 4 (c8 λq=>if q<0 then bl ((r+q) % 4+4*c) else 0)):=jz (by
    have hb:Bw wr w2:=by rw[K];exact(ji _ wr).alloc (ja _) _
    refine⟨I.keep hb,?_⟩
    have hB:AB w2 ga 358 4 (c8 λ_=>0):=by rw[K,J];exact Blk.new _ _ _
    exact hB.ext (λq _=>by show _=Value.int .u8 ((if q<0 then bl ((r+q) % 4+4*c) else 0:Nat):Int);rw[jQ (by omega)];rfl))
   rw[<- K];simp only[<- J];clear K J I;go_wp2_with fail
   go_loopw [11] (λi wr=>∃ k:Nat,k<=4/\i = .int .i64 (k:Int)/\Hid (MX w wr g bl nm (λq=>if 4*c<=q/\q<4*c+r then fL nm bl q else f q)/\AB wr ga 358 4 (c8 λq=>if q<k then bl ((r+q) % 4+4*c) else 0))) (λi _=>4-(intOf i).toNat)
   case atStart=>exact⟨0,j0 _,rfl,a0⟩
   case round=>
    clear a0;obtain⟨k,hk,rfl,D⟩:=hrel;rcases jo k 4 with c6|a6
    ·have e0:(0:Int)<=k:=by omega
     have e1:(k:Int)<4:=by omega
     have c4:((r:Int)+k) % 4+4*c=(((r+k) % 4+4*c:Nat):Int):=by omega
     obtain⟨ix,hx⟩:=je ((r+k) % 4+4*c);rw[<- hx] at c4;have a9:ix<16:=by omega
     have e8:(ix:Int)<16:=by omega
     have d1:wr.cell? ⟨g,ix,none⟩=some (.int .u8 (bl ix:Nat)):=D.out.1.p.cell a9;have d0:wr.cell? ⟨ga,k,none⟩=some (.int .u8 0):=by
      rw[D.out.2.cell c6];show some (Value.int .u8 ((if k<k then bl ((r+k) % 4+4*c) else 0:Nat):Int))=_;rw[jQ (Nat.lt_irrefl _)];rfl
     have d2:=D.out.2.frozen k;have V:=D.out.2.set k (.int .u8 (bl ix:Nat));rw[cY] at V;have b2:Hid (MX w (wr.setCell ⟨ga,k,none⟩ (.int .u8 (bl ix:Nat))) g bl nm (λq=>if 4*c<=q/\q<4*c+r then fL nm bl q else f q)/\AB (wr.setCell ⟨ga,k,none⟩ (.int .u8 (bl ix:Nat))) ga 358 4 (c8 λq=>if q<k+1 then bl ((r+q) % 4+4*c) else 0)):=jz ⟨D.out.1.far (by exact c3) _,V.ext (λq _=>by
      show Value.int .u8 ((aY (λq=>if q<k then bl ((r+q) % 4+4*c) else 0) k (bl ix) q:Nat):Int)=Value.int .u8 ((if q<k+1 then bl ((r+q) % 4+4*c) else 0:Nat):Int)
      congr 2
      unfold aY
      by_cases e:q=k
      ·rw[jP e,jP (by omega),e,hx]
      ·rw[jQ e]
       show(if q<k then bl ((r+q) % 4+4*c) else 0)=_
       by_cases e2:q<k
       ·rw[jP e2,jP (by omega)]
       ·rw[jQ e2,jQ (by omega)])⟩
     clear V D hx a9;go_wp2_with fail
     exact⟨⟨k+1,by omega,by go_num,b2⟩,by simp[intOf];omega⟩
    ·have c5:k=4:=by omega
     have e3:¬(k:Int)<4:=by omega
     have HA:Hid (AB wr ga 358 4 (c8 λq=>bl ((r+q) % 4+4*c))):=jz (D.out.2.ext (λq hq=>by
      show Value.int .u8 ((if q<k then bl ((r+q) % 4+4*c) else 0:Nat):Int)=Value.int .u8 ((bl ((r+q) % 4+4*c):Nat):Int)
      rw[jP (by omega)]))
     have I:=jz D.out.1;have O:=I.n.range;have R:=HA.range;have a2:(prog.info? 358).map (·.size)=some (arr 4 (c8 nm)).length:=by rw[aA];kernel_rfl
     have a3:(prog.info? 358).map (·.size)=some (arr 4 (c8 λq=>bl ((r+q) % 4+4*c))).length:=by rw[aA];kernel_rfl
     have Z:=jz (QY nm (λq=>bl ((r+q) % 4+4*c)) wr b9 (λq=>b1.out _));clear D c5 hk a6;go_wp2_with (first
      | (refine ld 358 (.tmp 2) rfl rfl rfl O underlying358 rfl a2 ?_)
      | (refine ld 358 (.tmp 6) rfl rfl rfl R underlying358 rfl a3 ?_))
     refine Z.mono ?_;rintro e w5 ⟨rfl,a4⟩;have U:=jz (I.keep a4);have HV:Hid (MT nm (λq=>bl ((r+q) % 4+4*c))=fL nm bl (r+4*c)):=jz (by
      unfold fL
      rw[show(r+4*c) % 4=r from by omega,show(r+4*c)/4=c from by omega])
     rw[HV.out];obtain⟨X,hX⟩:=je (fL nm bl (r+4*c));rw[<- hX];have c2:=U.m.cell (i:=r+4*c) (by omega);have d3:=U.m.frozen (r+4*c);have b0:c8 (λq=>if 4*c<=q/\q<4*c+r then fL nm bl q else f q) (r+4*c) = .int .u8 (f (r+4*c):Nat):=by
      show Value.int .u8 ((if 4*c<=r+4*c/\r+4*c<4*c+r then fL nm bl (r+4*c) else f (r+4*c):Nat):Int)=_;rw[jQ (by omega)]
     rw[b0] at c2;have b7:=jz ((U.set (r+4*c) X).fn (f':=λq=>if 4*c<=q/\q<4*c+(r+1) then fL nm bl q else f q) (λq _=>by
      unfold aY
      by_cases e:q=r+4*c
      ·rw[jP e,jP (by omega),e,hX]
      ·rw[jQ e]
       show(if 4*c<=q/\q<4*c+r then fL nm bl q else f q)=_
       by_cases e2:4*c<=q/\q<4*c+r
       ·rw[jP e2,jP (by omega)]
       ·rw[jQ e2,jQ (by omega)]))
     have d5:(0:Int)<=(r:Int)+4*c:=by omega
     have d7:(r:Int)+4*c<16:=by omega
     clear hX a4 I HA Z O R a2 a3 b0;go_wp2_with fail
     exact⟨⟨r+1,by omega,by go_num,b7⟩,by simp[intOf];omega⟩
  ·have a8:r=4:=by omega
   have e7:¬(r:Int)<4:=by omega
   have hm:=I.out;rw[a8] at hm;have b3:=jz hm;clear hm I a8;go_wp2_with fail
   go_end0
   exact⟨rfl,b3⟩
end
section
set_option maxRecDepth 100000
open Go.RowKit
def IX(w:Wd)(g b n:Nat)(f:Wl->Option Int)(c:Nat):Prop:=w.cell? ⟨g,0,none⟩=some (.map (some b))/\g≠b/\DM w b n f c
theorem IX.keep{w w':Wd}{g b n c:Nat}{f:Wl->Option Int}(h:IX w g b n f c)(hb:Bw w w'):IX w' g b n f c:=⟨j9 hb h.1,h.2.1,h.2.2.keep hb⟩
theorem IX.mono{w:Wd}{g b n m c:Nat}{f:Wl->Option Int}(h:IX w g b n f c)(D:n<=m):IX w g b m f c:=⟨h.1,h.2.1,h.2.2.mono D⟩
def old?(f:Wl->Option Int)(d:Wl)(t:Int):Bool:=(f d).isSome && decide (t<=(f d).getD 0)
def qQ(f:Wl->Option Int)(d:Wl)(t:Int):Wl->Option Int:=if old? f d t then f else upd f d t
def J0(f:Wl->Option Int)(d:Wl)(c:Nat):Nat:=if (f d).isSome then c else c+1
theorem G9(g b n c:Nat)(f:Wl->Option Int)(d:Wl)(t:Int)(w:Wd)(h:IX w g b n f c)(hd:DigOk d)(ht:aI t)(hn:n<maxLen):
  Wc 71 #[.pointer (some ⟨g,0,none⟩),.agg (cS d t).toArray] w λe w'=>e = .returned (.bool (!old? f d t))/\IX w' g b (n+1) (qQ f d t) (J0 f d c)/\Off b w w':=by
 go_enter func71,ntmps71
 have d0:=jH hd t;have a7:(u8s d).length=32:=by simp[u8s,hd.len]
 obtain⟨hg,a4,hm⟩:=h;have c9:=eQ hg;have a8:=hm.lt;have J:Bw w (w.alloc (.cells (cS d t).toArray 26)):=(by repeat (first|exact ji _ _|assumption|refine dG ?_ _|refine Below.setCell ?_ (by first|exact ja _|assumption|omega|(simp <;> omega)) _|refine Below.alloc ?_ (by first|exact ja _|assumption|omega|(simp <;> omega)) _));have hB:=Blk.new w 26 (cS d t).toArray;have b7:(w.alloc (.cells (cS d t).toArray 26)).heap.size=w.heap.size+1:=by simp
 have a2:=j9 J hg;have a6:=hm.keep J;have b0:=J.block b a8;go_wp2_with fail
 obtain⟨O,c2⟩:=je (w.alloc (.cells (cS d t).toArray 26));rw[<- c2] at J hB a2 a6 b0 b7 ⊢;clear c2;have b3:O.rangeAt w.heap.size 0 (u8s d):=λj u hj=>by
  rw[Nat.zero_add,hB.cell j];have c4:=(List.getElem?_eq_some_iff.1 hj).1;simp only[jf,cS];rw[jy c4];exact hj
 have b9:O.cell? ⟨w.heap.size,32,none⟩=some (.int .i64 t):=by
  rw[hB.cell 32];simp only[jf,cS];rw[jx (by omega),a7];rfl
 have a5:=fun(w':Wd) (c7:w'.heap[b]? = w.heap[b]?)=>(hm.of_block c7).look (tM:=149) underlying149 hd
 have c5:=underlying24;have c6:(prog.info? 24).map (·.size)=some (u8s d).length:=by rw[a7];kernel_rfl
 go_region_held3 (λw'=>w'.cell? ⟨g,0,none⟩=some (.map (some b))/\w'.rangeAt w.heap.size 0 (u8s d)/\w'.cell? ⟨w.heap.size,32,none⟩=some (.int .i64 t)/\w'.heap[b]? = w.heap[b]?/\Bw O w')
  (first
   | (refine⟨by assumption,by assumption,by assumption,by assumption,(ji _ _).drew⟩)
   | (go_split_ands;exact⟨by assumption,by assumption,by assumption,by assumption,by assumption⟩)
   | go_keep)
  (fail)
 have U:DM O.drew b n f c:=a6.of_block rfl;have R:Bw w O.drew:=J.drew;have a3:O.drew.cell? ⟨g,0,none⟩=some (.map (some b)):=a2;have a0:O.drew.cell? ⟨w.heap.size,32,none⟩=some (.int .i64 t):=b9;have Z:O.drew.rangeAt w.heap.size 0 (u8s d):=b3;obtain⟨w2,c3⟩:=je O.drew;rw[<- c3] at U R a3 a0 Z ⊢;rename_i hH;clear a5 hH c3 b3 b9 hB a2 a6 b0 J b7;rcases jb (old? f d t) with D|D
 ·have ho:=D;unfold old? at ho;obtain⟨t1,t2⟩:=(Bool.and_eq_true _ _).mp ho;have K:qQ f d t=f:=by unfold qQ;rw[jP D]
  have b2:J0 f d c=c:=by unfold J0;rw[jP t1]
  have HP:=jz K;have HC:=jz b2;have HO:=jz D;clear K b2 D ho c6 c5;go_wp2_with fail
  go_ret;rw[HP.out,HC.out,HO.out];exact⟨rfl,⟨a3,a4,U.mono (Nat.le_succ n)⟩,Off.of_below R⟩
 ·have K:qQ f d t=upd f d t:=by unfold qQ;rw[jQ (by rw[D];simp)]
  obtain⟨w3,hrun,b1,a9⟩:=(show DM w2.drew b n f c from U.of_block rfl).put_run (tM:=149) underlying149 hd ht hn;have I:Off b w2.drew w3:=Off.of_grown a9;have V:Bw w w2.drew:=R.drew;have k1:w3.cell? ⟨g,0,none⟩=some (.map (some b)):=I.cell (show w2.drew.cell? ⟨g,0,none⟩=some (.map (some b)) from a3) a4;have k2:w3.cell? ⟨w.heap.size,32,none⟩=some (.int .i64 t):=I.cell (show w2.drew.cell? ⟨w.heap.size,32,none⟩=some (.int .i64 t) from a0) (by show w.heap.size≠b;omega);have k3:w3.rangeAt w.heap.size 0 (u8s d):=λj u hj=>I.cell (show w2.drew.cell? ⟨w.heap.size,0+j,none⟩=some u from Z j u hj) (by show w.heap.size≠b;omega)
  have HP:=jz K;have HO:=jz D;have a1:(f d).isSome=false\/(f d).isSome=true/\decide (t<=(f d).getD 0)=false:=by
   unfold old? at D;cases h:(f d).isSome
   ·exact .inl rfl
   ·rw[h] at D;exact .inr ⟨rfl,by simpa using D⟩
  have HM:=jz b1;have HF:=jz ((Off.of_below V).trans I);clear K D b1 a9 I V U R;rcases a1 with t1|⟨t1,t2⟩
  all_goals
   go_wp2_with fail
   go_region_held3 (λw'=>w'.cell? ⟨g,0,none⟩=some (.map (some b))/\w'.rangeAt w.heap.size 0 (u8s d)/\w'.cell? ⟨w.heap.size,32,none⟩=some (.int .i64 t))
    (first
     | (refine⟨by assumption,by assumption,by assumption⟩)
     | (go_split_ands;exact⟨by assumption,by assumption,by assumption⟩)
     | go_keep)
    (fail)
   go_wp2_with fail
   go_ret;rw[HP.out,HO.out];exact⟨rfl,⟨k1,a4,HM⟩,HF⟩
end
section
set_option maxRecDepth 100000
open Go.RowKit
theorem Q7(g b n c:Nat)(f:Wl->Option Int)(d:Wl)(w:Wd)(h:IX w g b n f c)(hd:DigOk d):
  Wc 135 #[.pointer (some ⟨g,0,none⟩),.agg (u8s d).toArray] w (Rt w (.tuple #[.int .i64 ((f d).getD 0),.bool (f d).isSome])):=by
 obtain⟨hg,a0,Z⟩:=h;have U:=fun(w':Wd) (V:w'.heap[b]? = w.heap[b]?)=>(Z.of_block V).look (tM:=149) underlying149 hd
 have D:Bw w (w.alloc (.cells (u8s d).toArray 24)):=(by repeat (first|exact ji _ _|assumption|refine dG ?_ _|refine Below.setCell ?_ (by first|exact ja _|assumption|omega|(simp <;> omega)) _|refine Below.alloc ?_ (by first|exact ja _|assumption|omega|(simp <;> omega)) _));have I:=(Blk.new w 24 (u8s d).toArray).range;have J:(u8s d).length=32:=by simp[u8s,hd.len]
 have O:=j9 D hg;have R:=D.block b Z.lt;rw[jt] at I;go_enter func135,ntmps135
 go_wp2_with (refine ld 24 _ rfl rfl rfl I underlying24 rfl (by rw[J];kernel_rfl) ?_)
 obtain⟨w1,K⟩:=je (w.alloc (.cells (u8s d).toArray 24));rw[<- K] at D I O R ⊢;clear K;have a1:=underlying24;have a2:(prog.info? 24).map (·.size)=some (u8s d).length:=by rw[J];kernel_rfl
 go_region_held3 (λw'=>w'.cell? ⟨g,0,none⟩=some (.map (some b))/\w'.rangeAt w.heap.size 0 (u8s d)/\w'.heap[b]? = w.heap[b]?/\Bw w w')
  (first
   | (refine⟨by assumption,by assumption,by assumption,D.drew⟩)
   | (go_split_ands;exact⟨by assumption,by assumption,by assumption,by assumption⟩)
   | go_keep)
  (fail)
 go_wp2_with fail
 go_ret2
 exact⟨rfl,by go_split_ands;assumption⟩
theorem Q8(g b n c:Nat)(f:Wl->Option Int)(d:Wl)(now:Int)(w:Wd)(h:IX w g b n f c)(hd:DigOk d):
  Wc 80 #[.pointer (some ⟨g,0,none⟩),.agg (u8s d).toArray,.int .i64 now] w (Rt w (.bool ((f d).isSome && decide (now<=(f d).getD 0)))):=by
 have D:Bw w (w.alloc (.cells (u8s d).toArray 24)):=(by repeat (first|exact ji _ _|assumption|refine dG ?_ _|refine Below.setCell ?_ (by first|exact ja _|assumption|omega|(simp <;> omega)) _|refine Below.alloc ?_ (by first|exact ja _|assumption|omega|(simp <;> omega)) _));have I:=(Blk.new w 24 (u8s d).toArray).range;have J:(u8s d).length=32:=by simp[u8s,hd.len]
 rw[jt] at I;go_enter func80,ntmps80
 go_wp2_with (refine ld 24 _ rfl rfl rfl I underlying24 rfl (by rw[J];kernel_rfl) ?_)
 refine(Q7 g b n c f d _ (h.keep D) hd).mono ?_;rintro e V ⟨rfl,K⟩;have O:=aB D K;clear h;rcases jb (f d).isSome with R|R <;> rcases jb (decide (now<=(f d).getD 0)) with U|U
 all_goals
  go_wp2_with fail
  go_ret;exact⟨by rw[R,U];rfl,O⟩
end
section
set_option maxRecDepth 100000
open Go.RowKit
def mC(x y:Int):Int:=if x<y then -1 else if y<x then 1 else 0
def iN:Wl->Wl->Int
 | [],[]=>0
 | [],_ :: _=>-1
 | _ :: _,[]=>1
 | a :: xs,b :: ys=>if a<b then -1 else if b<a then 1 else iN xs ys
def dJ(p q:Wl×Int):Int:=if mC p.2 q.2≠0 then mC p.2 q.2 else iN p.1 q.1
theorem H0{a b:Int}(ha:0<=a/\a<=255)(hb:0<=b/\b<=255):a.toNat.toUInt8<b.toNat.toUInt8 ↔ a<b:=by
 rw[UInt8.lt_iff_toNat_lt];simp only[Nat.toUInt8_eq,UInt8.toNat_ofNat'];omega
theorem jX:∀(x y:Wl),(∀ b∈x,0<=b/\b<=255)->(∀ b∈y,0<=b/\b<=255)->Lib.compareBytes (Lib.bytesOf x) (Lib.bytesOf y)=iN x y
 | [],[],_,_=>rfl
 | [],_ :: _,_,_=>rfl
 | _ :: _,[],_,_=>rfl
 | a :: xs,b :: ys,hx,hy=>by
  have ih:=jX xs ys (λc D=>hx c (by simp[D])) (λc D=>hy c (by simp[D]));have ha:=hx a (by simp);have hb:=hy b (by simp);show(if a.toNat.toUInt8<b.toNat.toUInt8 then (-1:Int) else if b.toNat.toUInt8<a.toNat.toUInt8 then 1 else Lib.compareBytes (Lib.bytesOf xs) (Lib.bytesOf ys))=if a<b then -1 else if b<a then 1 else iN xs ys
  simp only[H0 ha hb,H0 hb ha,ih]
theorem Q9(g D:Nat)(c J:Nat)(x y:Wl)(w:Wd)(I:DigOk x)(hy:DigOk y)(h:w.rangeAt g 0 (u8s x))(K:w.rangeAt D 0 (u8s y)):
  (Extern.BytealgCompare.compare #[.slice (some ⟨g,0,none⟩) 32 c,.slice (some ⟨D,0,none⟩) 32 J]).run prog w = .ok (.int .i64 (iN x y)) w:=by
 have key:∀(g c:Nat) (x:Wl),DigOk x->w.rangeAt g 0 (u8s x)->(Extern.Bytes.bytesOf (.slice (some ⟨g,0,none⟩) 32 c)).run prog w = .ok ⟨(Lib.bytesOf x).toArray⟩ w:=by
  intro g c x I h;show(Extern.Bytes.loadBytes ⟨g,0,none⟩ 32 .empty).run prog w=_;have:=Lib.run_loadBytesX (P:=prog) (w:=w) x ⟨g,0,none⟩ .empty (λj u O=>by
   have h1:=h j (.int .u8 u) (by simp[u8s,O])
   by_cases hj0:j=0
   ·subst hj0;simpa [Addr.add] using h1
   ·simpa [Addr.add,hj0] using h1)
  rw[I.len] at this;rw[this];simp
 change Sem.run prog (do pure (goInt (Extern.BytealgCompare.cmp (<- Extern.Bytes.bytesOf (.slice (some ⟨g,0,none⟩) 32 c)) (<- Extern.Bytes.bytesOf (.slice (some ⟨D,0,none⟩) 32 J))))) w=_;simp only[Sem.run_bind,Sem.run_pure,key g c x I h,key D J y hy K,Result.andThen];rw[Lib.cmp_eq];show Result.ok (Value.int .i64 (Lib.compareBytes (Lib.bytesOf x).toArray.toList (Lib.bytesOf y).toArray.toList)) w=_;rw[jt,jt,jX x y I.byte hy.byte]
theorem wP(g D:Nat)(c I:Nat)(x y:Wl)(w:Wd)(K:DigOk x)(hy:DigOk y)(h:w.rangeAt g 0 (u8s x))(J:w.rangeAt D 0 (u8s y)):
  Wc 43 #[.slice (some ⟨g,0,none⟩) 32 c,.slice (some ⟨D,0,none⟩) 32 I] w λe w'=>e = .returned (.int .i64 (iN x y))/\w'=w:=by
 go_enter func43,ntmps43
 go_wp2
 rw[run_callFunc_extern func64 (by kernel_rfl) (by kernel_rfl) (by kernel_rfl) (e:=Extern.BytealgCompare.compare) (by kernel_rfl)];rw[Q9 g D c I x y w K hy h J];simp only[Result.andThen];rw[Oper.upon_value];go_wp2
 go_ret;exact⟨rfl,rfl⟩
theorem xT(x:Int)(w:Wd):Wc 63 #[.int .i64 x] w λe w'=>e = .returned (.bool false)/\w'=w:=by
 go_enter func63,ntmps63
 go_wp2_with fail
 go_ret;exact⟨rfl,rfl⟩
theorem CH(x y:Int)(w:Wd):
  Wc 42 #[.int .i64 x,.int .i64 y] w λe w'=>e = .returned (.int .i64 (mC x y))/\w'=w:=by
 rcases jb (decide (x<y)) with D|D <;> rcases jb (decide (y<x)) with I|I
 all_goals
  go_enter func42,ntmps42
  go_wp2_with fail
  refine(xT x w).mono ?_;rintro e J ⟨rfl,rfl⟩;go_wp2_with fail
  refine(xT y _).mono ?_;rintro e J ⟨rfl,rfl⟩;go_wp2_with fail
  go_ret;have u1:=D;have u2:=I;simp only[decide_eq_true_eq,decide_eq_false_iff_not] at u1 u2;refine⟨?_,rfl⟩;unfold mC;simp[u1,u2]
end
section
open Go.RowKit
attribute [local irreducible] wpQuiet wpAnyH
theorem bP{L:Wv}(h:L.length=16):(prog.info? 41).map (·.size)=some L.length:=by rw[h];kernel_rfl
theorem RA(bl nm:Nat->Nat)(w:Wd)(Z:aQ bl)(a1:aQ nm):Wc 261 #[.agg (arr 16 (c8 bl)).toArray,.agg (arr 4 (c8 nm)).toArray] w (Rt w (.agg (arr 16 (c8 (fL nm bl))).toArray)):=by
 have a5:=jz Z;have b0:=jz a1;clear Z a1;go_enter func261,ntmps261
 go_upto_region 2 with (refine al 41 _ rfl rfl cK ?_)
 obtain⟨g,hg⟩:=je w.heap.size;obtain⟨w1,I⟩:=je ((((w.alloc (.cells (arr 16 (c8 bl)).toArray 41)).alloc (.cells (arr 4 (c8 nm)).toArray 358)).alloc (.cells z8x16 41)).alloc (.cells z8x16 41));have R:Hid (MX w w1 g bl nm (λq=>if q<4*0 then fL nm bl q else 0)):=jz (by
  rw[I,hg]
  exact⟨((((ji _ w).alloc (ja _) _).alloc (by simp) _).alloc (by simp;omega) _).alloc (by simp;omega) _,ja _,(((Blk.new _ _ _).alloc _).alloc _).alloc _,((Blk.newAt _ _ _ _ (by simp)).alloc _).alloc _,(Blk.newAt _ _ _ _ (by simp)).alloc _,by
   rw[show(λq=>if q<4*0 then fL nm bl q else 0)=(λ_=>0) from by funext q;rw[jQ (by omega)]]
   exact Blk.newAt _ _ _ _ (by simp)⟩)
 rw[<- I];simp only[World.size_alloc,<- hg];clear I hg;go_wp2_with fail
 go_loopw [9] (λi wr=>∃ c:Nat,c<=4/\i = .int .i64 (c:Int)/\Hid (MX w wr g bl nm (λq=>if q<4*c then fL nm bl q else 0))) (λi _=>4-(intOf i).toNat)
 case atStart=>exact⟨0,j0 _,rfl,R⟩
 case round=>
  clear R;obtain⟨c,hc,rfl,D⟩:=hrel;rcases jo c 4 with b3|b2
  ·have c3:(0:Int)<=c:=by omega
   have c4:(c:Int)<4:=by omega
   have O:=jz (E1 w wr g c bl nm _ D a5 b0 b3);go_wp2_with fail
   refine O.mono ?_;rintro e w2 ⟨rfl,a0⟩;have a9:Hid (MX w w2 g bl nm (λq=>if q<4*(c+1) then fL nm bl q else 0)):=jz (a0.fn (λq _=>by
    by_cases e:4*c<=q/\q<4*c+4
    ·rw[jP e,jP (by omega)]
    ·rw[jQ e]
     by_cases e2:q<4*c
     ·rw[jP e2,jP (by omega)]
     ·rw[jQ e2,jQ (by omega)]))
   clear a0 O D;go_wp2_with fail
   exact⟨⟨c+1,by omega,by go_num,a9⟩,by simp[intOf];omega⟩
  ·have b1:c=4:=by omega
   have c2:¬(c:Int)<4:=by omega
   have hD:AB wr (g+1+1+1) 41 16 (c8 (fL nm bl)):=D.m.ext (λq hq=>by
    show Value.int .u8 ((if q<4*c then fL nm bl q else 0:Nat):Int)=Value.int .u8 ((fL nm bl q:Nat):Int)
    rw[jP (by omega)])
   have a2:=hD.range;have a6:Blk wr (g+1+1) 41 z8x16:=D.z;have K:=jz (And.intro D.be D.lo);obtain⟨M,J⟩:=je (arr 16 (c8 (fL nm bl)));rw[<- J] at a2;have hI:=bP (L:=M) (by rw[J];exact aA _ _);have a3:(prog.info? 41).map (·.size)=some M.toArray.size:=by rw[js];exact hI
   have b7:z8x16.size=M.toArray.size:=by rw[J,aC];exact aC 16 _
   have b9:M.toArray.all (·.oneCell')=true:=by rw[J];exact aP (λ_=>rfl)
   have a8:=jz J;clear J D hD b1 hc b2;go_wp2_with (first
    | (refine ld 41 _ rfl rfl rfl a2 underlying41 rfl hI ?_)
    | (refine aN 41 (.tmp 4) (.tmp 16) rfl rfl rfl rfl a6 a3 b7 b9 ?_;intro w9 U V _ _;have a4:=jz U;have a7:=jz V;clear U V))
   exact bodyPost_ret (results_cell_row rfl _ _ (g+1+1) 41 _ (0,0) _ rfl a4 underlying41 rfl a3) rfl ⟨by rw[<- a8.out],K.out.1.trans (a7.mono (by have:=K.out.2;omega))⟩
end
section
set_option maxRecDepth 100000
open Go.RowKit
def oI(l:List (Wl×Int)):(Wl->Option Int)×Nat:=l.foldl (λs p=>(qQ s.1 p.1 p.2,J0 s.1 p.1 s.2)) (λ_=>none,0)
theorem xU(l:List (Wl×Int))(k:Nat)(h:k<l.length):oI (l.take (k+1))=(qQ (oI (l.take k)).1 l[k].1 l[k].2,J0 (oI (l.take k)).1 l[k].1 (oI (l.take k)).2):=by
 unfold oI;rw[j6 h,List.foldl_append];rfl
attribute [irreducible] oI
theorem RB(v:Value)(l:List (Wl×Int))(w:Wd)(hs:Sn w 33 v l.length (l.flatMap aO))(V:∀ p∈l,EntOk p)(hl:l.length<=1000):
  Wc 46 #[v] w λe w'=>∃ g b,e = .returned (.pointer (some ⟨g,0,none⟩))/\IX w' g b l.length (oI l).1 (oI l).2/\w.heap.size<=g/\w.heap.size<=b/\Bw w w':=by
 obtain⟨A,cap,rfl,a3,_,_⟩:=id hs;have HS:=jz hs;have K:=jz V;clear hs V;have a1:∀ w:Wd,(Instr.makeMap 149 none).run prog w = .ok (.map (some w.heap.size)) (w.alloc (.map #[] 0)):=λw=>run_makeMap _ w
 go_enter func46,ntmps46
 go_wp2_with fail
 clear a1;go_loopw [11] (λi wr=>∃ k:Nat,k<=l.length/\i = .int .i64 k/\IX wr (w.heap.size+1) w.heap.size k (oI (l.take k)).1 (oI (l.take k)).2/\Bw w wr) (λi _=>l.length-(intOf i).toNat)
 case atStart=>
  refine⟨0,j0 _,rfl,⟨?_,by omega,?_⟩,(by repeat (first|exact ji _ _|assumption|refine dG ?_ _|refine Below.setCell ?_ (by first|exact ja _|assumption|omega|(simp <;> omega)) _|refine Below.alloc ?_ (by first|exact ja _|assumption|omega|(simp <;> omega)) _))⟩
  ·exact(Blk.newAt (w.alloc (.map #[] 0)) 151 #[.map (some w.heap.size)] (w.heap.size+1) (by simp)).cell 0
  ·unfold oI;exact(DM.made w).keep ((ji _ _).alloc (ja _) _)
 case round=>
  obtain⟨k,hk,rfl,hX,hb⟩:=hrel;by_cases hlt:k<l.length
  ·obtain⟨b,off,rfl,hr⟩:=QF aO EntOk 33 bC (HS.below hb) K k hlt;have hr:wr.rangeAt b (off+k*33) (aO l[k]):=hr;have I:=K.out l[k] (List.getElem_mem hlt);have D:=bC l[k] I;have h1:(aO l[k]).toArray.all (·.oneCell')=true:=gO l[k].1 l[k].2;have J:=jz (xU l k hlt);have a7:=hb.size;have a2:=hX.2.2.lt;have a5:(0:Int)<=k:=by omega
   have a6:(k:Int)<l.length:=by omega
   go_wp2_with (first
    | (refine ld 26 _ rfl rfl rfl hr underlying26 rfl (by rw[D];kernel_rfl) ?_)
    | (refine bQ 26 (.tmp 5) (.tmp 14) rfl rfl rfl rfl (by simp only[js,D];kernel_rfl) (by simp only[js,D] <;> rfl) h1 ?_;intro w2 R O a4;have Z:=Blk.range R;rw[jt] at Z)
    | (refine ld 26 _ rfl rfl rfl Z underlying26 rfl (by rw[D];kernel_rfl) ?_))
   refine(G9 _ _ k _ _ l[k].1 l[k].2 w2 (hX.keep O) I.dig I.exp (by unfold maxLen;omega)).mono ?_;rintro e w3 ⟨rfl,a0,U⟩;go_wp2_with fail
   refine⟨⟨k+1,by omega,by go_num,?_,(aB hb O).trans (U.below (ja _) (by omega))⟩,by simp[intOf];omega⟩;rw[J.out];exact a0
  ·obtain rfl:k=l.length:=by omega
   rw[List.take_length] at hX;go_wp2_with fail
   go_ret;exact⟨_,_,rfl,hX,Nat.le_succ _,ja _,hb⟩
end
section
set_option maxRecDepth 100000
open Go.RowKit
def mT(f:Wl->Option Int)(now:Int):Wl->Option Int:=λd=>match f d with|some t=>if t<now then none else some t|none=>none
theorem DM.zero{w:Wd}{b n c:Nat}{f:Wl->Option Int}(h:DM w b n f c)(V:∀ d,DigOk d->f d=none):c=0:=by
 obtain⟨D,K,R⟩:=h;obtain⟨w',hrun,Z,r2,r3⟩:=K.range keyed underlying149;rcases Z.next keyed 0 with ⟨U,_⟩|⟨key,v,kl,y,w'',O,I,J,_⟩
 ·rw[<- R.1];exact U
 ·obtain⟨d,hd,_,rfl⟩:=qI I;rw[R.has hd,V d hd] at J;cases J
theorem Off.of_turned{w w':Wd}{b:Nat}(h:w.mapTurned w' b):Off b w w':=Off.of_grown h.grown
theorem M8(g b n c:Nat)(f:Wl->Option Int)(now:Int)(w:Wd)(h:IX w g b n f c)(hn:n<=1000):
  Wc 48 #[.pointer (some ⟨g,0,none⟩),.int .i64 now] w λe w'=>∃ k V:Nat,e = .returned (.int .i64 k)/\k+V=c/\IX w' g b n (mT f now) V/\Off b w w':=by
 obtain⟨hg,hgb,hm⟩:=h;have hc:=hm.le;go_enter func48,ntmps48
 go_wp2_with (at_range;refine MM underlying149 rfl _ rfl rfl hm ?_;intro w1 b3 U e4)
 simp only[jq];have a7:Off b w w1:=⟨U.os,U.tape,U.output,U.size,λk hk _=>U.block k hk (by simp)⟩;have d4:=hm.lt;have d5:=eQ hg;go_loopw [5] (λm wr=>∃(k V cnt:Nat) (f':Wl->Option Int) (left:Wl->Bool),m = .int .i64 k/\k+V=c/\DR wr b w.heap.size n f' V left cnt/\Off b w wr/\Hid (∀ d,DigOk d->f' d=if left d then f d else mT f now d)) (λ_ wr=>wr.rangeLeft b w.heap.size)
 case atStart=>exact⟨0,c,c,f,_,rfl,by omega,b3,a7,jz (λd _=>by
  cases h:f d <;> simp[h,mT])⟩
 case round=>
  obtain⟨k,V,cnt,f',left,rfl,hk,hR,D,HF⟩:=hrel;have d1:wr.cell? ⟨g,0,none⟩=some (.map (some b)):=D.cell hg hgb;have a3:=jz hR.left_eq;have e2:=D.size;go_wp2_with (at_next;refine TI rfl _ rfl rfl hR ?_ ?_)
  ·intro h0 c2;go_wp2_with fail
   go_ret;refine⟨k,V,rfl,hk,⟨d1,hgb,hR.owns.congr λd hd=>?_⟩,D⟩;rw[HF.out d hd,jQ (by rw[c2 d hd];simp)]
  ·intro d t w2 a2 hd e5 hl a6 Z K a0 c5 d0;have h1:=dL d;have O:(u8s d).length=32:=by simp[u8s,hd.len]
   have a4:f d=some t:=by
    have:=HF.out d hd;rw[jP hl] at this;rw[<- this];exact a6
   have I:Off b w w2:=⟨a0.os.trans D.os,a0.tape.trans D.tape,a0.output.trans D.output,by omega,λi hi d2=>(a0.block i (by omega) (λe=>by injection e with e;omega)).trans (D.block i hi d2)⟩;have c3:w2.cell? ⟨g,0,none⟩=some (.map (some b)):=I.cell hg hgb;have b0:=jz a6;have a1:=jz a4;have b1:=jz K;have e3:=jz c5;clear hR b3 a6 a4 K c5;rcases jb (decide (t<now)) with t1|t1
   ·go_wp2_with (refine bQ 24 (.tmp 6) (.tmp 18) rfl rfl rfl rfl (by simp only[js,O];kernel_rfl) (by simp only[js,O] <;> rfl) h1 ?_;intro w3 R J d3)
    have d7:=j9 J c3;have c7:=Z.keep J;have a8:=I.trans (Off.of_below J);have a5:=Blk.range R;rw[jt] at a5;have c6:w2.heap.size≠b:=by have:=I.size;omega
    have e6:=underlying24;have e7:(prog.info? 24).map (·.size)=some (u8s d).length:=by rw[O];kernel_rfl
    have b7:DR w3.drew b w.heap.size n f' V (λx=>left x && !(x == d)) a2:=c7.of_blocks rfl rfl;have e1:IntKind.i64.wrap ((k:Int)+1)=(k:Int)+1:=IntWalk.i64_in _ (by omega);clear Z R d0
    go_region_held3 (λw'=>w'.cell? ⟨g,0,none⟩=some (.map (some b))/\w'.rangeAt w2.heap.size 0 (u8s d))
     (first
      | (refine⟨by assumption,by assumption⟩)
      | (go_split_ands;exact⟨by assumption,by assumption⟩)
      | (go_split_ands;exact⟨(Off.of_turned hturn).cell (by assumption) hgb,λj u hj=>(Off.of_turned hturn).cell (show w3.drew.cell? ⟨w2.heap.size,0+j,none⟩=some u from a5 j u hj) c6⟩)
      | go_keep)
     ((refine QX underlying149 _ _ rfl rfl rfl b7 hd rfl ?_;intro w4 c4 b2 b9 c9 e0 hturn))
    go_wp2_with fail
    have a9:=a8.trans (show Off b w3 w4 from(show Off b w3 w3.drew from⟨rfl,rfl,rfl,ja _,λ_ _ _=>rfl⟩).trans (Off.of_turned hturn));rw[b0.out,Option.isSome_some,jP rfl] at c9;refine⟨⟨k+1,c4,b2,cut f' d,_,by go_num,by omega,b9,a9,jz λx hx=>?_⟩,?_⟩
    ·by_cases hxd:x=d
     ·subst hxd;have K:=of_decide_eq_true t1;simp[cut,mT,a1.out,K]
     ·simp only[cut,jQ hxd];rw[HF.out x hx];simp[hxd]
    ·rw[a3.out,b9.left_eq];have:=b1.out;omega
   ·go_wp2_with (refine bQ 24 (.tmp 6) (.tmp 18) rfl rfl rfl rfl (by simp only[js,O];kernel_rfl) (by simp only[js,O] <;> rfl) h1 ?_;intro w3 R J d3)
    refine⟨⟨k,V,a2,f',_,rfl,hk,Z.keep J,I.trans (Off.of_below J),jz λx hx=>?_⟩,?_⟩
    ·by_cases hxd:x=d
     ·subst hxd;have K:=of_decide_eq_false t1;simp[mT,b0.out,a1.out,K]
     ·rw[HF.out x hx];simp[hxd]
    ·rw[a3.out,(Z.keep J).left_eq];exact b1.out
end
section
open Go.RowKit
attribute [local irreducible] wpQuiet wpAnyH
def bS(bl:Nat->Nat):Nat->Nat:=λq=>bO (bl (q % 4+4*((q/4+q % 4) % 4)))
def nmR(i:Nat):Nat:=if i=0 then 2 else if i=1 then 3 else 1
def dU(bl ky:Nat->Nat)(last:Bool):Nat->Nat:=qN (if last then bS bl else fL nmR (bS bl)) ky
theorem fD(bl:Nat->Nat):aQ (bS bl):=λq=>fT _
theorem UA:aQ nmR:=λi=>by
 unfold nmR;split
 ·omega
 ·split <;> omega
theorem J1{bl I:Nat->Nat}{last:Bool}(D:aQ I):aQ (dU bl I last):=by
 unfold dU;cases last with
 | true=>exact zI (fD bl) D
 | false=>exact zI (G8 (fD bl)) D
structure RX4(w W:Wd)(g:Nat)(bl ky f:Nat->Nat):Prop where
 be:Bw w W
 lo:w.heap.size<=g
 p:AB W g 41 16 (c8 bl)
 n:AB W (g+1) 41 16 (c8 ky)
 z:AB W (g+1+1) 41 16 (c8 λ_=>0)
 m:AB W (g+1+1+1) 41 16 (c8 f)
theorem RX4.keep{w W W':Wd}{g:Nat}{bl nm f:Nat->Nat}(h:RX4 w W g bl nm f)(hb:Bw W W'):RX4 w W' g bl nm f:=⟨h.be.trans (hb.mono h.be.size),h.lo,h.p.keep hb,h.n.keep hb,h.z.keep hb,h.m.keep hb⟩
theorem RX4.fn{w W:Wd}{g:Nat}{bl nm f f':Nat->Nat}(h:RX4 w W g bl nm f)(e:∀ q,q<16->f q=f' q):RX4 w W g bl nm f':=⟨h.be,h.lo,h.p,h.n,h.z,h.m.ext (λq D=>by unfold c8;rw[e q D])⟩
theorem RX4.set{w W:Wd}{g:Nat}{bl nm f:Nat->Nat}(h:RX4 w W g bl nm f)(i v:Nat):RX4 w (W.setCell ⟨g+1+1+1,i,none⟩ (.int .u8 (v:Nat))) g bl nm (aY f i v):=
 ⟨h.be.setCell (by have:=h.lo;show w.heap.size<=g+1+1+1;omega) _,h.lo,h.p.far (by show g≠g+1+1+1;omega) _,h.n.far (by show g+1≠g+1+1+1;omega) _,h.z.far (by show g+1+1≠g+1+1+1;omega) _,by have:=h.m.set i (.int .u8 (v:Nat));rwa [cY] at this⟩
def rcF(bl:Nat->Nat)(r c:Nat):Nat->Nat:=λq=>if q % 4<r\/(q % 4=r/\q/4<c) then bS bl q else 0
theorem zJ(bl R:Nat->Nat)(last:Bool)(w:Wd)(d2:aQ bl)(d4:aQ R):Wc 258 #[.agg (arr 16 (c8 bl)).toArray,.agg (arr 16 (c8 R)).toArray,.bool last] w (Rt w (.agg (arr 16 (c8 (dU bl R last))).toArray)):=by
 have e1:=jz d2;have c6:=jz d4;clear d2 d4;go_enter func258,ntmps258
 go_upto_region 2 with (refine al 41 _ rfl rfl cK ?_)
 obtain⟨g,hg⟩:=je w.heap.size;obtain⟨w1,c5⟩:=je ((((w.alloc (.cells (arr 16 (c8 bl)).toArray 41)).alloc (.cells (arr 16 (c8 R)).toArray 41)).alloc (.cells z8x16 41)).alloc (.cells z8x16 41));have c7:Hid (RX4 w w1 g bl R (rcF bl 0 0)):=jz (by
  rw[c5,hg]
  exact⟨((((ji _ w).alloc (ja _) _).alloc (by simp) _).alloc (by simp;omega) _).alloc (by simp;omega) _,ja _,(((Blk.new _ _ _).alloc _).alloc _).alloc _,((Blk.newAt _ _ _ _ (by simp)).alloc _).alloc _,(Blk.newAt _ _ _ _ (by simp)).alloc _,by
   rw[show rcF bl 0 0=(λ_=>0) from by funext q;unfold rcF;rw[jQ (by omega)]]
   exact Blk.newAt _ _ _ _ (by simp)⟩)
 rw[<- c5];simp only[World.size_alloc,<- hg];clear c5 hg;go_wp2_with fail
 go_loopw [10] (λi wr=>∃ r:Nat,r<=4/\i = .int .i64 (r:Int)/\Hid (RX4 w wr g bl R (rcF bl r 0))) (λi _=>4-(intOf i).toNat)
 case atStart=>exact⟨0,j0 _,rfl,c7⟩
 case round=>
  clear c7;obtain⟨r,hr,rfl,HM⟩:=hrel;rcases jo r 4 with f8|e6
  ·have f9:(0:Int)<=r:=by omega
   have g0:(r:Int)<4:=by omega
   go_wp2_with fail
   go_loopw [13] (λi wr=>∃ c:Nat,c<=4/\i = .int .i64 (c:Int)/\Hid (RX4 w wr g bl R (rcF bl r c))) (λi _=>4-(intOf i).toNat)
   case atStart=>exact⟨0,j0 _,rfl,HM⟩
   case round=>
    clear HM;obtain⟨c,hc,rfl,HM⟩:=hrel;rcases jo c 4 with f3|d3
    ·have f0:(0:Int)<=c:=by omega
     have f1:(c:Int)<4:=by omega
     obtain⟨ix,hx⟩:=je (r+4*((c+r) % 4));have f7:(r:Int)+4*(((c:Int)+r) % 4)=(ix:Int):=by omega
     have e8:ix<16:=by omega
     have g2:(ix:Int)<16:=by omega
     have e4:wr.cell? ⟨g,ix,none⟩=some (.int .u8 (bl ix:Nat)):=HM.p.cell e8;obtain⟨y,hy⟩:=je (bl ix);have d7:y<256:=by rw[hy];exact e1 ix
     rw[<- hy] at e4;have c3:=jz (pC y wr d7);have hv:bO y=bS bl (r+4*c):=by
      rw[hy,hx];unfold bS;rw[show(r+4*c) % 4=r from by omega,show(r+4*c)/4=c from by omega]
     have e5:=HM.m.cell (i:=r+4*c) (by omega);have f4:=HM.m.frozen (r+4*c);have e0:c8 (rcF bl r c) (r+4*c) = .int .u8 0:=by
      show Value.int .u8 ((rcF bl r c (r+4*c):Nat):Int)=_;unfold rcF;rw[jQ (by omega)];rfl
     rw[e0] at e5;obtain⟨X,hX⟩:=je (bO y);rw[<- hX] at c3 hv;have c2:=jz ((HM.set (r+4*c) X).fn (f':=rcF bl r (c+1)) (λq hq=>by
      unfold aY
      by_cases e:q=r+4*c
      ·rw[jP e,hv,e]
       unfold rcF
       rw[jP (by omega)]
      ·rw[jQ e]
       unfold rcF
       by_cases e2:q % 4<r\/(q % 4=r/\q/4<c)
       ·rw[jP e2,jP (by omega)]
       ·rw[jQ e2,jQ (by omega)]))
     have f5:(0:Int)<=(r:Int)+4*c:=by omega
     have f6:(r:Int)+4*c<16:=by omega
     clear hX hv e0 hy hx d7 HM;go_wp2_with fail
     refine c3.mono ?_;rintro e w5 ⟨rfl,d5⟩;rw[d5];clear d5 w5 c3;go_wp2_with fail
     exact⟨⟨c+1,by omega,by go_num,c2⟩,by simp[intOf];omega⟩
    ·have e3:c=4:=by omega
     have f2:¬(c:Int)<4:=by omega
     have c2:Hid (RX4 w wr g bl R (rcF bl (r+1) 0)):=jz (HM.fn (λq hq=>by
      unfold rcF
      by_cases e:q % 4<r\/(q % 4=r/\q/4<c)
      ·rw[jP e,jP (by omega)]
      ·rw[jQ e,jQ (by omega)]))
     clear HM e3 hc d3;go_wp2_with fail
     exact⟨⟨r+1,by omega,by go_num,c2⟩,by simp[intOf];omega⟩
  ·have g1:¬(r:Int)<4:=by omega
   have J:Hid (RX4 w wr g bl R (bS bl)):=jz (HM.fn (λq hq=>by
    unfold rcF
    rw[jP (by omega)]))
   clear HM hr e6;have I:=J.m.range;have D:=bP (L:=arr 16 (c8 (bS bl))) (aA _ _);cases last with
   | true=>
    clear I D;have I:=J.m.range;have a8:=J.n.range;have D:=bP (L:=arr 16 (c8 (bS bl))) (aA _ _);have a6:=bP (L:=arr 16 (c8 R)) (aA _ _);have a4:=jz (λW=>qO (bS bl) R W (fD bl) c6);go_wp2_with (first
     | (refine ld 41 (.tmp 7) rfl rfl rfl I underlying41 rfl D ?_)
     | (refine ld 41 (.tmp 4) rfl rfl rfl a8 underlying41 rfl a6 ?_))
    refine(a4 _).mono ?_;rintro e w7 ⟨rfl,U⟩;have b2:Blk w7 (g+1+1) 41 z8x16:=(J.keep U).z;have a1:=jz (And.intro (J.keep U).be J.lo);obtain⟨M,V⟩:=je (arr 16 (c8 (qN (bS bl) R)));rw[<- V];have hI:=bP (L:=M) (by rw[V];exact aA _ _);have K:(prog.info? 41).map (·.size)=some M.toArray.size:=by rw[js];exact hI
    have Z:z8x16.size=M.toArray.size:=by rw[V,aC];exact aC 16 _
    have a0:M.toArray.all (·.oneCell')=true:=by rw[V];exact aP (λ_=>rfl)
    have b9:=jz V;clear V U a4 I a8 D a6 hI;go_wp2_with (refine aN 41 (.tmp 6) (.tmp 40) rfl rfl rfl rfl b2 K Z a0 ?_;intro w9 a5 a7 _ _;have b1:=jz a5;have b3:=jz a7;clear a5 a7)
    exact bodyPost_ret (results_cell_row rfl _ _ (g+1+1) 41 _ (0,0) _ rfl b1 underlying41 rfl K) rfl ⟨by rw[b9.out];rfl,a1.out.1.trans (b3.mono (by have:=a1.out.2;omega))⟩
   | false=>
    have b0:(arr 4 (c8 nmR)).toArray=#[.int .u8 2,.int .u8 3,.int .u8 1,.int .u8 1]:=by kernel_rfl
    have a3:=RA (bS bl) nmR wr (fD bl) UA;rw[b0] at a3;have a3:=jz a3;go_wp2_with (refine ld 41 (.tmp 7) rfl rfl rfl I underlying41 rfl D ?_)
    refine a3.mono ?_;rintro e w5 ⟨rfl,d0⟩;have b7:=jz (J.keep d0);have c9:Blk w5 (g+1+1+1) 41 (arr 16 (c8 (bS bl))).toArray:=b7.m;obtain⟨O,hO⟩:=je ((arr 16 (c8 (fL nmR (bS bl)))).toArray);have K:(prog.info? 41).map (·.size)=some O.size:=by rw[hO,aC];kernel_rfl
    have Z:(arr 16 (c8 (bS bl))).toArray.size=O.size:=by rw[hO,aC,aC]
    have a0:O.all (·.oneCell')=true:=by rw[hO];exact aP (λ_=>rfl)
    rw[<- hO];have HO:=jz hO;clear hO d0 I D a3 b0 J;go_upto_region 13 with (refine aN 41 (.tmp 7) (.tmp 37) rfl rfl rfl rfl c9 K Z a0 ?_;intro w6 c4 d1 a9 _)
    rw[HO.out] at c4;have a2:Hid (RX4 w w6 g bl R (fL nmR (bS bl))):=jz (by
     have h:=b7.out
     have e7:=h.lo
     exact⟨h.be.trans (d1.mono (by omega)),e7,(a9 _ (by omega)).trans h.p,(a9 _ (by omega)).trans h.n,(a9 _ (by omega)).trans h.z,c4⟩)
    clear c4 d1 a9 c9 K Z a0 b7 HO;have I:=a2.m.range;have a8:=a2.n.range;have D:=bP (L:=arr 16 (c8 (fL nmR (bS bl)))) (aA _ _);have a6:=bP (L:=arr 16 (c8 R)) (aA _ _);have a4:=jz (λW=>qO (fL nmR (bS bl)) R W (G8 (fD bl)) c6);go_wp2_with (first
     | (refine ld 41 (.tmp 7) rfl rfl rfl I underlying41 rfl D ?_)
     | (refine ld 41 (.tmp 4) rfl rfl rfl a8 underlying41 rfl a6 ?_))
    refine(a4 _).mono ?_;rintro e w7 ⟨rfl,U⟩;have b2:Blk w7 (g+1+1) 41 z8x16:=(a2.keep U).z;have a1:=jz (And.intro (a2.keep U).be a2.lo);obtain⟨M,V⟩:=je (arr 16 (c8 (qN (fL nmR (bS bl)) R)));rw[<- V];have hI:=bP (L:=M) (by rw[V];exact aA _ _);have K:(prog.info? 41).map (·.size)=some M.toArray.size:=by rw[js];exact hI
    have Z:z8x16.size=M.toArray.size:=by rw[V,aC];exact aC 16 _
    have a0:M.toArray.all (·.oneCell')=true:=by rw[V];exact aP (λ_=>rfl)
    have b9:=jz V;clear V U a4 I a8 D a6 hI;go_wp2_with (refine aN 41 (.tmp 6) (.tmp 40) rfl rfl rfl rfl b2 K Z a0 ?_;intro w9 a5 a7 _ _;have b1:=jz a5;have b3:=jz a7;clear a5 a7)
    exact bodyPost_ret (results_cell_row rfl _ _ (g+1+1) 41 _ (0,0) _ rfl b1 underlying41 rfl K) rfl ⟨by rw[b9.out];rfl,a1.out.1.trans (b3.mono (by have:=a1.out.2;omega))⟩
end
section
set_option maxRecDepth 100000
theorem M9(x y:Int):mC y x = -mC x y:=by
 unfold mC;split <;> split <;> omega
theorem iZ(x y:Int):mC x y = -1/\x<y\/mC x y=0/\x=y\/mC x y=1/\y<x:=by
 unfold mC;split
 ·exact .inl ⟨rfl,by assumption⟩
 ·split
  ·exact .inr (.inr ⟨rfl,by assumption⟩)
  ·exact .inr (.inl ⟨rfl,by omega⟩)
theorem CI:∀ x y:Wl,iN y x = -iN x y
 | [],[]=>rfl
 | [],_ :: _=>rfl
 | _ :: _,[]=>rfl
 | a :: x,b :: y=>by
  have ih:=CI x y;simp only[iN];split
  ·rw[jQ (by omega)]
  ·split
   ·rfl
   ·exact ih
theorem xV:∀ x y:Wl,iN x y=0->x=y
 | [],[],_=>rfl
 | [],_ :: _,h=>by simp[iN] at h
 | _ :: _,[],h=>by simp[iN] at h
 | a :: x,b :: y,h=>by
  simp only[iN] at h;split at h
  ·omega
  ·split at h
   ·omega
   ·rw[xV x y h,show a=b by omega]
theorem xW:∀ x:Wl,iN x x=0
 | []=>rfl
 | a :: x=>by
  simp only[iN];rw[jQ (by omega),jQ (by omega)];exact xW x
theorem uP:∀ x y z:Wl,iN x y<=0->iN y z<=0->iN x z<=0
 | [],[],[],_,_=>by simp[iN]
 | [],_ :: _,[],_,_=>by simp[iN]
 | [],_,_ :: _,_,_=>by simp[iN]
 | _ :: _,[],_,h,_=>by simp[iN] at h
 | _ :: _,_ :: _,[],_,h=>by simp[iN] at h
 | a :: x,b :: y,c :: z,h,h'=>by
  have ih:=uP x y z;simp only[iN] at h h' ⊢;split at h
  ·split at h'
   ·rw[jP (by omega)];omega
   ·split at h'
    ·omega
    ·rw[jP (by omega)];omega
  ·split at h
   ·omega
   ·split at h'
    ·rw[jP (by omega)];omega
    ·split at h'
     ·omega
     ·rw[jQ (by omega),jQ (by omega)];exact ih h h'
theorem dN(p q:Wl×Int):dJ q p = -dJ p q:=by
 unfold dJ;rw[M9 p.2 q.2];have:=iZ p.2 q.2;by_cases h:mC p.2 q.2=0
 ·rw[h,jQ (by simp),jQ (by simp)];exact CI _ _
 ·rw[jP (by omega),jP h]
theorem fP(p q:Wl×Int):dJ p q=0 ↔ p=q:=by
 constructor
 ·intro h;unfold dJ at h;rcases iZ p.2 q.2 with ⟨e,_⟩|⟨e,D⟩|⟨e,_⟩
  ·rw[e] at h;simp at h
  ·rw[e,jQ (by simp)] at h;exact Prod.ext (xV _ _ h) D
  ·rw[e] at h;simp at h
 ·rintro rfl;unfold dJ;have:mC p.2 p.2=0:=by unfold mC;simp
  rw[this,jQ (by simp)];exact xW _
theorem lS(p q r:Wl×Int)(h:dJ p q<=0)(D:dJ q r<=0):dJ p r<=0:=by
 unfold dJ at h D ⊢;have t:=uP p.1 q.1 r.1;have c1:=iZ p.2 q.2;have I:=iZ q.2 r.2;have J:=iZ p.2 r.2;split at h <;> split at D <;> split <;> omega
set_option maxRecDepth 100000
theorem NA(l:List (Wl×Int)):oI l=l.foldl (λs p=>(qQ s.1 p.1 p.2,J0 s.1 p.1 s.2)) (λ_=>none,0):=by unfold oI;rfl
theorem nY:∀(L M:List (Wl×Int)),L.Pairwise (λp q=>dJ p q<0)->M.Pairwise (λp q=>dJ p q<0)->(∀ p,p∈L ↔ p∈M)->L=M
 | [],[],_,_,_=>rfl
 | [],q :: M,_,_,h=>by have:=(h q).2 (by simp);simp at this
 | p :: L,[],_,_,h=>by have:=(h p).1 (by simp);simp at this
 | p :: L,q :: M,hL,hM,h=>by
  rw[List.pairwise_cons] at hL hM;have J:p=q:=by
   have h1:=(h p).1 (by simp);have D:=(h q).2 (by simp);rw[jl] at h1 D;rcases h1 with h1|h1
   ·exact h1
   ·rcases D with D|D
    ·exact D.symm
    ·have O:=hM.1 p h1;have R:=hL.1 q D;have:=dN p q;omega
  subst J;have K:dJ p p=0:=(fP p p).2 rfl;rw[nY L M hL.2 hM.2 λr=>?_];constructor
  ·intro I;have h1:=(h r).1 (by simp[I]);rw[jl] at h1;rcases h1 with rfl|h1
   ·have:=hL.1 _ I;omega
   ·exact h1
  ·intro I;have h1:=(h r).2 (by simp[I]);rw[jl] at h1;rcases h1 with rfl|h1
   ·have:=hM.1 _ I;omega
   ·exact h1
set_option maxRecDepth 100000
open Go.RowKit
theorem DM.dropped{w:Wd}{b n c:Nat}{f:Wl->Option Int}(h:DM w b n f c){d:Wl}(hd:DigOk d):∃ w' J,DM w' b n (cut f d) J/\J+(if (f d).isSome then 1 else 0)=c:=by
 obtain⟨D,I,R⟩:=h;obtain⟨w',_,O,_⟩:=I.drop keyed underlying149 (iX hd) 0;obtain⟨J,K,e⟩:=R.del (I.tidy keyed) hd;exact⟨w',J,⟨_,O,K⟩,e⟩
theorem DM.count(b n:Nat):∀(K:List Wl) (w:Wd) (f:Wl->Option Int) (c:Nat),DM w b n f c->(∀ d∈K,DigOk d)->K.Nodup->(∀ d,DigOk d->((f d).isSome=true ↔ d∈K))->c=K.length
 | [],w,f,c,h,_,_,hf=>h.zero λd hd=>by
  cases h1:f d with
  | none=>rfl
  | some t=>
   have:=(hf d hd).1 (by rw[h1];rfl);simp at this
 | d :: K,w,f,c,h,hok,hnd,hf=>by
  rw[List.nodup_cons] at hnd;have hd:=hok d (by simp);obtain⟨w',I,J,e⟩:=h.dropped hd;rw[jP ((hf d hd).2 (by simp))] at e;have:=DM.count b n K w' (cut f d) I J (λx D=>hok x (by simp[D])) hnd.2 (λx D=>by
   unfold cut
   by_cases hxd:x=d
   ·subst hxd
    simp[hnd.1]
   ·rw[jQ hxd,hf x D]
    simp[hxd])
  simp only[List.length_cons];omega
structure Lists(f:Wl->Option Int)(L:List (Wl×Int)):Prop where
 mem:∀ p:Wl×Int,p∈L ↔ EntOk p/\f p.1=some p.2
 sorted:L.Pairwise (λp q=>dJ p q<0)
 exp:∀ d t,DigOk d->f d=some t->aI t
theorem uQ{f:Wl->Option Int}{now:Int}{d:Wl}{t:Int}(h:mT f now d=some t):f d=some t:=by
 unfold mT at h;cases hf:f d with
 | none=>rw[hf] at h;cases h
 | some s=>
  rw[hf] at h;simp only at h;split at h
  ·cases h
  ·exact h
theorem Lists.nodup{f:Wl->Option Int}{L:List (Wl×Int)}(h:Lists f L):(L.map (·.1)).Nodup:=by
 rw[List.nodup_iff_pairwise_ne,List.pairwise_map];have hs:L.Pairwise (λp q=>p≠q):=h.sorted.imp λ{p q} K e=>by
  subst e;have:=(fP p p).2 rfl;omega
 refine List.Pairwise.imp_of_mem (λ{p q} J O D e=>?_) hs;have h1:=((h.mem p).1 J).2;have I:=((h.mem q).1 O).2;rw[e,I] at h1;injection h1 with h1
 exact D (Prod.ext e h1.symm)
theorem Lists.count{f:Wl->Option Int}{L:List (Wl×Int)}(h:Lists f L){w:Wd}{b n c:Nat}(I:DM w b n f c):c=L.length:=by
 have:=DM.count b n (L.map (·.1)) w f c I (λd hd=>by
  obtain⟨p,D,rfl⟩:=List.mem_map.1 hd
  exact((h.mem p).1 D).1.dig) h.nodup (λd hd=>by
  constructor
  ·intro hs
   obtain⟨t,ht⟩:=Option.isSome_iff_exists.1 hs
   exact List.mem_map.2 ⟨(d,t),(h.mem _).2 ⟨⟨hd,I.i64 hd ht⟩,ht⟩,rfl⟩
  ·intro hs
   obtain⟨p,D,rfl⟩:=List.mem_map.1 hs
   rw[((h.mem p).1 D).2]
   rfl)
 rw[this,List.length_map]
theorem Lists.eq{f:Wl->Option Int}{L M:List (Wl×Int)}(h:Lists f L)(D:Lists f M):L=M:=
 nY L M h.sorted D.sorted λp=>by rw[h.mem,D.mem]
def bM(l:List (Wl×Int))(now:Int):List (Wl×Int):=l.filter λp=>decide (now<=p.2)
theorem Lists.live{f:Wl->Option Int}{L:List (Wl×Int)}(h:Lists f L)(now:Int):Lists (mT f now) (bM L now) where
 mem p:=by
  unfold bM;rw[List.mem_filter,h.mem p];unfold mT;simp only[decide_eq_true_eq];cases hf:f p.1 with
  | none=>simp
  | some t=>
   simp only[Option.some.injEq];constructor
   ·rintro⟨⟨h1,h2⟩,h3⟩;subst h2;exact⟨h1,by rw[jQ (by omega)]⟩
   ·rintro⟨h1,h2⟩;by_cases ht:t<now
    ·rw[jP ht] at h2;cases h2
    ·rw[jQ ht] at h2;injection h2 with h2
     exact⟨⟨h1,h2⟩,by omega⟩
 sorted:=h.sorted.sublist List.filter_sublist
 exp d t hd ht:=h.exp d t hd (uQ ht)
theorem Lists.of_live{f:Wl->Option Int}{now:Int}{L:List (Wl×Int)}(h:∀ p:Wl×Int,p∈L ↔ EntOk p/\f p.1=some p.2/\now<=p.2)(hs:L.Pairwise (λp q=>dJ p q<0))(hi:∀ d t,DigOk d->f d=some t->aI t):Lists (mT f now) L where
 mem p:=by
  rw[h p];unfold mT;cases hf:f p.1 with
  | none=>simp
  | some t=>
   simp only[Option.some.injEq];constructor
   ·rintro⟨h1,h2,h3⟩;subst h2;exact⟨h1,by rw[jQ (by omega)]⟩
   ·rintro⟨h1,h2⟩;by_cases ht:t<now
    ·rw[jP ht] at h2;cases h2
    ·rw[jQ ht] at h2;injection h2 with h2
     exact⟨h1,h2,by omega⟩
 sorted:=hs
 exp d t hd ht:=hi d t hd (uQ ht)
theorem Lists.congr{f g:Wl->Option Int}{L:List (Wl×Int)}(h:Lists f L)(e:∀ d,DigOk d->f d=g d):Lists g L where
 mem p:=by
  rw[h.mem p];constructor
  ·rintro⟨h1,h2⟩;exact⟨h1,by rw[<- e _ h1.dig];exact h2⟩
  ·rintro⟨h1,h2⟩;exact⟨h1,by rw[e _ h1.dig];exact h2⟩
 sorted:=h.sorted
 exp d t hd ht:=h.exp d t hd (by rw[e d hd];exact ht)
end
section
open Go.RowKit
attribute [local irreducible] wpQuiet wpAnyH
def lay{α:Type}(F:Nat->α)(o n:Nat)(G:Nat->α):Nat->α:=λq=>if o<=q/\q<o+n then G (q-o) else F q
theorem AB.setCells{g n:Nat}{t:TypeId}:∀(vs:Wv) (d:Value) {W:Wd} {F:Nat->Value} (o:Nat),AB W g t n F->AB (W.setCells g o vs) g t n (lay F o vs.length λk=>vs.getD k d)
 | [],d,W,F,o,h=>h.ext (λq _=>by unfold lay;rw[jQ (by simp)])
 | v :: r,d,W,F,o,h=>by
  have h1:=AB.setCells r d (o+1) (h.set o v);rw[World.setCells];refine h1.ext (λq _=>?_);unfold lay aY;rw[List.length_cons];by_cases e:q=o
  ·rw[jQ (by omega),jP e,jP (by omega),e,Nat.sub_self];rfl
  ·by_cases e2:o+1<=q/\q<o+1+r.length
   ·rw[jP e2,jP (by omega),show q-o=(q-(o+1))+1 from by omega];rfl
   ·rw[jQ e2,jQ e,jQ (by omega)]
theorem AB.lay8{W:Wd}{g n m o:Nat}{t:TypeId}{f a:Nat->Nat}(h:AB W g t n (c8 f)):AB (W.setCells g o (arr m (c8 a))) g t n (c8 (lay f o m a)):=
 (AB.setCells (arr m (c8 a)) (.bool false) o h).ext (λq _=>by
  unfold c8 lay
  rw[aA]
  by_cases e:o<=q/\q<o+m
  ·rw[jP e,jP e]
   show(arr m λk=>Value.int .u8 (a k:Nat)).getD (q-o) (.bool false)=_
   rw[jn,dC _ (by omega)]
   rfl
  ·rw[jQ e,jQ e])
theorem Blk.farS{g b:Nat}{t:TypeId}{cs:Wa}(hg:g≠b):∀(vs:Wv) {W:Wd} (o:Nat),Blk W g t cs->Blk (W.setCells b o vs) g t cs
 | [],_,_,h=>h
 | v :: r,W,o,h=>by
  rw[World.setCells];exact Blk.farS hg r (o+1) (Blk.far h hg v)
theorem AB.farS{W:Wd}{g b n:Nat}{t:TypeId}{F:Nat->Value}(h:AB W g t n F)(hg:g≠b)(o:Nat)(vs:Wv):AB (W.setCells b o vs) g t n F:=Blk.farS hg vs o h
theorem Below.setS{m b:Nat}(hb:m<=b):∀(vs:Wv) {w W:Wd} (o:Nat),Below m w W->Below m w (W.setCells b o vs)
 | [],_,_,_,h=>h
 | v :: r,w,W,o,h=>by
  rw[World.setCells];exact Below.setS hb r (o+1) (h.setCell (by exact hb) v)
theorem AB.part{W:Wd}{g n o m:Nat}{t:TypeId}{F:Nat->Value}(h:AB W g t n F)(J:o+m<=n):W.rangeAt g o (arr m λk=>F (o+k)):=λj v D=>by
 have I:j<m:=by obtain⟨h1,_⟩:=List.getElem?_eq_some_iff.1 D;rw[aA] at h1;exact h1
 rw[dC _ I] at D;rw[h.cell (by omega)];exact D
theorem AB.there{W:Wd}{g n o m:Nat}{t:TypeId}{F:Nat->Value}(h:AB W g t n F)(I:o+m<=n):W.there g o m:=λj D=>⟨by rw[h.cell (by omega)];rfl,h.frozen _⟩
theorem TJ{P:Program}{ops:Array Oper}{rest:List Oper}{o:Oper}{a:Act}{w:Wd}{Q:Exit->Act->Wd->Prop}(ty:TypeId)(x y:Operand)(I:o.op = .store ty x y)(J:Region.wanted o (yielded ops a.tmps)=true)
  {b f:Nat} {cells:Wv} (O:a.eval x = .pointer (some ⟨b,f,none⟩)) (hy:a.eval y = .agg cells.toArray) (ht:w.there b f cells.length)
  (hi:(P.info? ty).map (·.size)=some cells.length) (h1:cells.toArray.all (·.oneCell')=true)
  (h:wpList P ops Q rest (a.put o.dst undef) (w.setCells b f cells)):wpList P ops Q (o :: rest) a w:=
 wpList_step λK D=>by
  rw[jP J];exact wp_store_mid ty x y I b f cells.toArray O hy (by rw[js];exact ht) (by rw[js];exact hi) h1 (D _ _ h)
def CJ(bf:Nat->Nat)(pw:Nat):Nat->Nat:=λj=>if j=0 then bO (bf 13) ^^^ pw else if j=1 then bO (bf 14) else if j=2 then bO (bf 15) else bO (bf 12)
def i4(bf:Nat->Nat)(pw:Nat):Nat->Nat->Nat
 | 0=>CJ bf pw
 | j+1=>aY (i4 bf pw j) (j % 4) (i4 bf pw j (j % 4) ^^^ bf j)
def nk(bf:Nat->Nat)(pw j:Nat):Nat:=i4 bf pw j (j % 4) ^^^ bf j
def pwr:Nat->Nat
 | 0=>1
 | i+1=>mB (pwr i) 2
def kyF(key:Nat->Nat):Nat->Nat->Nat
 | 0=>key
 | i+1=>nk (kyF key i) (pwr i)
theorem uR:∀ i,pwr i<256
 | 0=>by show 1<256;omega
 | i+1=>zB (uR i)
theorem RC{bf:Nat->Nat}{pw:Nat}(h:pw<256):aQ (CJ bf pw):=λj=>by
 unfold CJ;split
 ·exact Nat.xor_lt_two_pow (n:=8) (fT _) h
 ·split
  ·exact fT _
  ·split
   ·exact fT _
   ·exact fT _
theorem tA{bf:Nat->Nat}{pw:Nat}(hb:aQ bf)(h:pw<256):∀ j,aQ (i4 bf pw j)
 | 0=>RC h
 | j+1=>λq=>by
  show aY (i4 bf pw j) (j % 4) (i4 bf pw j (j % 4) ^^^ bf j) q<256;unfold aY;split
  ·exact Nat.xor_lt_two_pow (n:=8) (tA hb h j _) (hb j)
  ·exact tA hb h j q
theorem V6{bf:Nat->Nat}{pw:Nat}(hb:aQ bf)(h:pw<256):aQ (nk bf pw):=λj=>Nat.xor_lt_two_pow (n:=8) (tA hb h j _) (hb j)
theorem fM{key:Nat->Nat}(D:aQ key):∀ i,aQ (kyF key i)
 | 0=>D
 | i+1=>V6 (fM D i) (uR i)
def kAt(key:Nat->Nat)(i j:Nat):Nat->Nat:=λq=>if q/16<i\/(q/16=i/\q % 16<j) then kyF key (q/16) (q % 16) else 0
theorem RE(key:Nat->Nat)(q:Nat):kAt key 1 0 q=lay (λ_=>0) 0 16 key q:=by
 unfold kAt lay;by_cases e:q<16
 ·rw[jP (by omega),jP (by omega),show q/16=0 from by omega,show q % 16=q-0 from by omega];rfl
 ·rw[jQ (by omega),jQ (by omega)]
theorem RF(key:Nat->Nat){i j:Nat}(D:j<16)(q:Nat):aY (kAt key (i+1) j) (16*(i+1)+j) (nk (kyF key i) (pwr i) j) q=kAt key (i+1) (j+1) q:=by
 unfold aY;by_cases e:q=16*(i+1)+j
 ·rw[jP e];unfold kAt;rw[jP (by omega),show q/16=i+1 from by omega,show q % 16=j from by omega];rfl
 ·rw[jQ e];unfold kAt;by_cases e2:q/16<i+1\/(q/16=i+1/\q % 16<j)
  ·rw[jP e2,jP (by omega)]
  ·rw[jQ e2,jQ (by omega)]
theorem NB(key:Nat->Nat)(i q:Nat):kAt key i 16 q=kAt key (i+1) 0 q:=by
 unfold kAt;by_cases e:q/16<i\/(q/16=i/\q % 16<16)
 ·rw[jP e,jP (by omega)]
 ·rw[jQ e,jQ (by omega)]
theorem RG(key:Nat->Nat){i k:Nat}(D:k<16):kAt key (i+1) 0 (16*i+k)=kyF key i k:=by
 unfold kAt;rw[jP (by omega),show(16*i+k)/16=i from by omega,show(16*i+k) % 16=k from by omega]
end
section
set_option maxRecDepth 100000
def dS(e:Wl×Int)(s:List (Wl×Int)×Bool)(q:Wl×Int):List (Wl×Int)×Bool:=
 let s':=if !s.2 && decide (dJ e q<0) then (s.1++[e],true) else s
 (if decide (q.1=e.1) then s'.1 else s'.1++[q],s'.2)
def mU(e q:Wl×Int):Bool:=decide (q.1=e.1) && decide (e.2<=q.2)
def uS(L:List (Wl×Int))(e:Wl×Int):List (Wl×Int)×Bool:=L.foldl (dS e) ([],false)
def cR(L:List (Wl×Int))(e:Wl×Int):List (Wl×Int)×Bool:=
 if L.any (mU e) then (L,false) else (if (uS L e).2 then (uS L e).1 else (uS L e).1++[e],true)
theorem ND(L:List (Wl×Int))(e:Wl×Int):(uS L e).1.length<=L.length+1/\((uS L e).2=false->(uS L e).1.length<=L.length):=by
 unfold uS;have key:∀(L:List (Wl×Int)) (s:List (Wl×Int)×Bool) (n:Nat),s.1.length<=n+1->(s.2=false->s.1.length<=n)->(L.foldl (dS e) s).1.length<=n+L.length+1/\((L.foldl (dS e) s).2=false->(L.foldl (dS e) s).1.length<=n+L.length):=by
  intro L;induction L with
  | nil=>intro s n h D;exact⟨by simpa using h,by simpa using D⟩
  | cons q L ih=>
   intro s n h D;rw[List.foldl_cons];have:=ih (dS e s q) (n+1) (by
    obtain⟨o,p⟩:=s
    unfold dS
    cases p <;> (simp only[Bool.not_true,Bool.not_false,Bool.false_and,Bool.true_and] at *;repeat' split) <;> simp at * <;> omega) (by
    obtain⟨o,p⟩:=s
    unfold dS
    cases p <;> (simp only[Bool.not_true,Bool.not_false,Bool.false_and,Bool.true_and] at *;repeat' split) <;> simp at * <;> omega)
   simp only[List.length_cons];exact⟨by omega,λI=>by have:=this.2 I;omega⟩
 have:=key L ([],false) 0 (by simp) (by simp);simpa using this
theorem E2(L:List (Wl×Int))(e:Wl×Int):(cR L e).1.length<=L.length+1:=by
 have:=ND L e;unfold cR;split
 ·simp
 ·split
  ·exact this.1
  ·rename_i h;have:=this.2 (by simpa using h);simp;omega
theorem wQ{p q r:Wl×Int}(h:dJ p q<0)(J:dJ q r<0):dJ p r<0:=by
 have K:=lS p q r (by omega) (by omega);have I:dJ p r≠0:=λe=>by
  have D:=(fP _ _).1 e;subst D;have:=dN p q;omega
 omega
theorem zK(e:Wl×Int):∀(rest out:List (Wl×Int)) (placed:Bool),rest.Pairwise (λp q=>dJ p q<0)->out.Pairwise (λp q=>dJ p q<0)->(∀ x∈out,∀ y∈rest,dJ x y<0)->(placed=false->∀ x∈out,dJ x e<0) ->
  (∀ q∈rest,q.1=e.1->q.2<e.2)->(placed=true->∀ q∈rest,dJ e q<0) ->
  let s:=rest.foldl (dS e) (out,placed)
  let r:=if s.2 then s.1 else s.1++[e]
  r.Pairwise (λp q=>dJ p q<0)/\∀ x,x∈r ↔ x∈out\/(placed=false/\x=e)\/(x∈rest/\x.1≠e.1)
 | [],out,placed,_,ho,_,hp,_,_=>by
  cases placed with
  | true=>simpa using ho
  | false=>
   simp only[List.foldl_nil,Bool.false_eq_true,if_false];refine⟨List.pairwise_append.2 ⟨ho,by simp,λx D y hy=>?_⟩,λx=>by simp⟩;obtain rfl:y=e:=by simpa using hy
   exact hp rfl x D
 | q :: rest,out,placed,hr,ho,hor,hp,hb,hpl=>by
  rw[List.foldl_cons];rw[List.pairwise_cons] at hr;have U:q.1=e.1->dJ q e<0:=λhd=>by
   have:=hb q (by simp) hd;unfold dJ mC;simp[this]
  -- the state behind q
  by_cases hplace:placed=false/\dJ e q<0
  ·obtain⟨rfl,K⟩:=hplace;have O:¬q.1=e.1:=λhd=>by
    have h1:=U hd;have:=dN q e;omega
   have I:dS e (out,false) q=(out++[e]++[q],true):=by
    unfold dS;simp[K,O]
   rw[I];have J:∀ y∈rest,dJ e y<0:=λy hy=>wQ K (hr.1 y hy)
   have:=zK e rest (out++[e]++[q]) true hr.2 (by
     refine List.pairwise_append.2 ⟨List.pairwise_append.2 ⟨ho,by simp,λx D y hy=>?_⟩,by simp,λx D y hy=>?_⟩
     ·obtain rfl:y=e:=by simpa using hy
      exact hp rfl x D
     ·obtain rfl:y=q:=by simpa using hy
      rcases List.mem_append.1 D with D|D
      ·exact hor x D y (by simp)
      ·obtain rfl:x=e:=by simpa using D
       exact K) (λx D y hy=>by
     rcases List.mem_append.1 D with D|D
     ·rcases List.mem_append.1 D with D|D
      ·exact hor x D y (by simp[hy])
      ·obtain rfl:x=e:=by simpa using D
       exact J y hy
     ·obtain rfl:x=q:=by simpa using D
      exact hr.1 y hy) (λh=>by simp at h) (λx D=>hb x (by simp[D])) (λ_=>J)
   refine⟨this.1,λx=>(this.2 x).trans ?_⟩;simp only[ju,jl,j8,or_false,Bool.true_eq_false,false_and,false_or,true_and];constructor
   ·rintro(((h|h)|h)|⟨h,h'⟩)
    ·exact .inl h
    ·exact .inr (.inl h)
    ·subst h;exact .inr (.inr ⟨.inl rfl,O⟩)
    ·exact .inr (.inr ⟨.inr h,h'⟩)
   ·rintro(h|h|⟨h|h,h'⟩)
    ·exact .inl (.inl (.inl h))
    ·exact .inl (.inl (.inr h))
    ·exact .inl (.inr h)
    ·exact .inr ⟨h,h'⟩
  ·have R:((!placed) && decide (dJ e q<0))=false:=by
    cases placed <;> simp at hplace ⊢
    exact hplace
   have V:placed=false->q.1≠e.1->dJ q e<0:=λh1 Z=>by
    have h3:¬dJ e q<0:=λh=>hplace ⟨h1,h⟩
    have h4:=dN q e;have h5:dJ q e≠0:=λh=>Z (by rw[(fP q e).1 h])
    omega
   by_cases hd:q.1=e.1
   ·have I:dS e (out,placed) q=(out,placed):=by
     unfold dS;simp[R,hd]
    rw[I];have:=zK e rest out placed hr.2 ho (λx D y hy=>hor x D y (by simp[hy])) hp (λx D=>hb x (by simp[D])) (λh y hy=>hpl h y (by simp[hy]));refine⟨this.1,λx=>(this.2 x).trans ?_⟩;rw[jl];constructor
    ·rintro(h|h|⟨h,h'⟩)
     ·exact .inl h
     ·exact .inr (.inl h)
     ·exact .inr (.inr ⟨.inr h,h'⟩)
    ·rintro(h|h|⟨h|h,h'⟩)
     ·exact .inl h
     ·exact .inr (.inl h)
     ·subst h;exact absurd hd h'
     ·exact .inr (.inr ⟨h,h'⟩)
   ·have I:dS e (out,placed) q=(out++[q],placed):=by
     unfold dS;simp[R,hd]
    rw[I];have:=zK e rest (out++[q]) placed hr.2 (by
      refine List.pairwise_append.2 ⟨ho,by simp,λx D y hy=>?_⟩
      obtain rfl:y=q:=by simpa using hy
      exact hor x D y (by simp)) (λx D y hy=>by
      rcases List.mem_append.1 D with D|D
      ·exact hor x D y (by simp[hy])
      ·obtain rfl:x=q:=by simpa using D
       exact hr.1 y hy) (λh x D=>by
      rcases List.mem_append.1 D with D|D
      ·exact hp h x D
      ·obtain rfl:x=q:=by simpa using D
       exact V h hd) (λx D=>hb x (by simp[D])) (λh y hy=>hpl h y (by simp[hy]))
    refine⟨this.1,λx=>(this.2 x).trans ?_⟩;simp only[ju,jl,j8,or_false];constructor
    ·rintro((h|h)|h|⟨h,h'⟩)
     ·exact .inl h
     ·subst h;exact .inr (.inr ⟨.inl rfl,hd⟩)
     ·exact .inr (.inl h)
     ·exact .inr (.inr ⟨.inr h,h'⟩)
    ·rintro(h|h|⟨h|h,h'⟩)
     ·exact .inl (.inl h)
     ·exact .inr (.inl h)
     ·exact .inl (.inr h)
     ·exact .inr (.inr ⟨h,h'⟩)
theorem qR{f:Wl->Option Int}{L:List (Wl×Int)}{e:Wl×Int}(h:Lists f L)(O:EntOk e):Lists (qQ f e.1 e.2) (cR L e).1/\(cR L e).2 = !old? f e.1 e.2:=by
 have I:L.any (mU e)=old? f e.1 e.2:=by
  cases h1:f e.1 with
  | none=>
   have:old? f e.1 e.2=false:=by unfold old?;simp[h1]
   rw[this,List.any_eq_false];intro q K D;unfold mU at D;simp only[Bool.and_eq_true,decide_eq_true_eq] at D;have:=((h.mem q).1 K).2;rw[D.1,h1] at this;cases this
  | some t=>
   unfold old?;rw[h1];simp only[Option.isSome_some,Bool.true_and,Option.getD_some];rw[Bool.eq_iff_iff,List.any_eq_true,decide_eq_true_eq];constructor
   ·rintro⟨q,K,D⟩;unfold mU at D;simp only[Bool.and_eq_true,decide_eq_true_eq] at D;have:=((h.mem q).1 K).2;rw[D.1,h1] at this;injection this with this
    omega
   ·intro V;exact⟨(e.1,t),(h.mem _).2 ⟨⟨O.dig,h.exp _ _ O.dig h1⟩,h1⟩,by simp[mU,V]⟩
 rcases jb (old? f e.1 e.2) with J|J
 ·have R:cR L e=(L,false):=by unfold cR;rw[I,J];rfl
  have U:qQ f e.1 e.2=f:=by unfold qQ;rw[jP J]
  rw[R,U,J];exact⟨h,rfl⟩
 ·have R:cR L e=(if (uS L e).2 then (uS L e).1 else (uS L e).1++[e],true):=by unfold cR;rw[I,J];rfl
  have U:qQ f e.1 e.2=upd f e.1 e.2:=by unfold qQ;rw[J];rfl
  rw[R,U,J];refine⟨?_,rfl⟩;have hb:∀ q∈L,q.1=e.1->q.2<e.2:=λq K hd=>by
   have h1:=List.any_eq_false.1 (I.trans J) q K;unfold mU at h1;simp only[Bool.and_eq_true,decide_eq_true_eq,not_and] at h1;have:=h1 hd;omega
  have key:=zK e L [] false h.sorted (by simp) (by simp) (by simp) hb (by simp);refine⟨λp=>?_,key.1,λd t hd ht=>?_⟩
  ·refine(key.2 p).trans ?_;rw[h.mem p];unfold upd;by_cases hp:p.1=e.1
   ·rw[jP hp];constructor
    ·rintro(h1|⟨_,h1⟩|⟨_,h1⟩)
     ·simp at h1
     ·subst h1;exact⟨O,rfl⟩
     ·exact absurd hp h1
    ·rintro⟨_,h1⟩;injection h1 with h1
     exact .inr (.inl ⟨rfl,Prod.ext hp h1.symm⟩)
   ·rw[jQ hp];constructor
    ·rintro(h1|⟨_,h1⟩|⟨h1,_⟩)
     ·simp at h1
     ·subst h1;exact absurd rfl hp
     ·exact h1
    ·intro h1;exact .inr (.inr ⟨h1,hp⟩)
  ·unfold upd at ht;split at ht
   ·injection ht with ht
    subst ht;exact O.exp
   ·exact h.exp d t hd ht
theorem Lists.nil:Lists (λ_=>none) []:=⟨λp=>by simp,List.Pairwise.nil,λd t _ h=>by cases h⟩
def gW(l:List (Wl×Int)):List (Wl×Int):=l.foldl (λo e=>(cR o e).1) []
theorem E3(l:List (Wl×Int))(k:Nat)(h:k<l.length):gW (l.take (k+1))=(cR (gW (l.take k)) l[k]).1:=by
 unfold gW;rw[j6 h,List.foldl_append];rfl
theorem CM:∀ l:List (Wl×Int),(∀ p∈l,EntOk p)->Lists (oI l).1 (gW l):=by
 intro l I;have key:∀ k,k<=l.length->Lists (oI (l.take k)).1 (gW (l.take k))/\(gW (l.take k)).length<=k:=by
  intro k;induction k with
  | zero=>
   intro _;rw[NA];exact⟨Lists.nil,ja _⟩
  | succ k ih=>
   intro K;have D:k<l.length:=by omega
   obtain⟨h1,J⟩:=ih (by omega);rw[xU l k D,E3 l k D];have:=E2 (gW (l.take k)) l[k];exact⟨(qR h1 (I _ (List.getElem_mem D))).1,by omega⟩
 have:=(key l.length (ja _)).1
 rwa [List.take_length] at this
set_option maxRecDepth 100000
open Go.RowKit
theorem CN{w:Wd}{g:Nat}{T:TypeId}{p:Wl×Int}(h:Blk w g T (aO p).toArray)(K:EntOk p):w.rangeAt g 0 (u8s p.1)/\w.cell? ⟨g,32,none⟩=some (.int .i64 p.2):=by
 have D:(u8s p.1).length=32:=by simp[u8s,K.dig.len]
 constructor
 ·intro j u J;rw[Nat.zero_add,h.cell j];have I:=(List.getElem?_eq_some_iff.1 J).1;simp only[jf,aO,cS];rw[jy I];exact J
 ·rw[h.cell 32];simp only[jf,aO,cS];rw[jx (by omega),D];rfl
theorem NE{P:Program}{f:FuncId}{args:Wa}{Q:Ending->Wd->Prop}(w':Wd)(h:∀ D,D=w'->Calls P f args D Q):Calls P f args w' Q:=h _ rfl
theorem zL(p q:Wl×Int)(w:Wd)(hp:EntOk p)(hq:EntOk q):
  Wc 27 #[.agg (aO p).toArray,.agg (aO q).toArray] w λe w'=>e = .returned (.int .i64 (dJ p q))/\∃(n:Nat) (os:Array Obj),w'=Sort.grow (w.drewN n) os:=by
 have R:Bw w ((w.alloc (.cells (aO p).toArray 26)).alloc (.cells (aO q).toArray 26)):=(by repeat (first|exact ji _ _|assumption|refine dG ?_ _|refine Below.setCell ?_ (by first|exact ja _|assumption|omega|(simp <;> omega)) _|refine Below.alloc ?_ (by first|exact ja _|assumption|omega|(simp <;> omega)) _));have K:=(Blk.new w 26 (aO p).toArray).alloc (.cells (aO q).toArray 26);have O:=Blk.newAt (w.alloc (.cells (aO p).toArray 26)) 26 (aO q).toArray (w.heap.size+1) (by simp);obtain⟨U,Z⟩:=CN K hp;obtain⟨V,a0⟩:=CN O hq;have l1:=bC p hp;have l2:=bC q hq;go_enter func27,ntmps27
 have I:=jz U;have J:=jz V;clear K O U V;rcases jb (mC p.2 q.2 == 0) with t1|t1
 all_goals
  go_wp2_with fail
  refine NE ((w.alloc (.cells (aO p).toArray 26)).alloc (.cells (aO q).toArray 26)) (λw1 D=>?_);rw[<- D] at R I J;have HW:Hid (w1=Sort.grow (w.drewN 0) #[.cells (aO p).toArray 26,.cells (aO q).toArray 26]):=jz (by rw[D,Sort.alloc_eq_grow,Sort.alloc_eq_grow,Sort.grow_grow];rfl);clear D Z a0;refine(CH p.2 q.2 w1).mono ?_;rintro e w2 ⟨rfl,rfl⟩;go_wp2_with fail
 ·go_region_held3 (λw'=>w'.rangeAt w.heap.size 0 (u8s p.1)/\w'.rangeAt (w.heap.size+1) 0 (u8s q.1)/\Bw w w')
   (first
    | (refine⟨I,J,R.drew⟩)
    | (go_split_ands;exact⟨by assumption,by assumption,by assumption⟩))
   ((go_at_call 43;refine(wP _ _ _ _ p.1 q.1 _ hp.dig hq.dig (by go_split_ands;assumption) (by go_split_ands;assumption)).mono ?_;rintro e wX ⟨rfl,rfl⟩))
  all_goals
   go_wp2_with fail
   go_ret;have u1:mC p.2 q.2=0:=by simpa using t1
   refine⟨?_,1,_,by rw[HW.out];rfl⟩;unfold dJ;rw[jQ (by rw[u1];simp)];rfl
 ·go_ret;have u1:mC p.2 q.2≠0:=by simpa using t1
  refine⟨?_,0,_,HW⟩;unfold dJ;rw[jP u1];rfl
end
section
set_option maxRecDepth 100000
end
end Go.Proofs.YtjjlaipkkdncfaaGreatDoor
