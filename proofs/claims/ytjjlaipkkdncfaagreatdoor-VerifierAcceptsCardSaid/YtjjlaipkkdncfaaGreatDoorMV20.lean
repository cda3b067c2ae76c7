import Derived.Test.YtjjlaipkkdncfaaGreatDoorMV17
import Derived.Test.YtjjlaipkkdncfaaGreatDoorMV15
import Derived.Shelf.SlSortCmp.NoneTotal
set_option linter.unusedVariables false
set_option linter.unusedSimpArgs false
set_option maxRecDepth 100000
set_option maxHeartbeats 40000000
namespace Go.Proofs.YtjjlaipkkdncfaaGreatDoor
open Go.Proofs.Tryz
section
open Go.RowKit
attribute [local irreducible] wpQuiet wpAnyH
def z8x176:Wa:=(arr 176 (c8 λ_=>0)).toArray
theorem lD:∀ w,(zeroValue 342).run prog w = .ok (.agg z8x176) w:=λw=>by unfold z8x176;kernel_rfl
structure KX(w W:Wd)(g:Nat)(key f:Nat->Nat):Prop where
 be:Bw w W
 lo:w.heap.size<=g
 p:AB W g 41 16 (c8 key)
 z:AB W (g+1) 342 176 (c8 λ_=>0)
 m:AB W (g+1+1) 342 176 (c8 f)
theorem KX.keep{w W W':Wd}{g:Nat}{key f:Nat->Nat}(h:KX w W g key f)(hb:Bw W W'):KX w W' g key f:=⟨h.be.trans (hb.mono h.be.size),h.lo,h.p.keep hb,h.z.keep hb,h.m.keep hb⟩
theorem KX.drew{w W:Wd}{g:Nat}{key f:Nat->Nat}(h:KX w W g key f):KX w W.drew g key f:=⟨h.be.drew,h.lo,h.p,h.z,h.m⟩
theorem KX.fn{w W:Wd}{g:Nat}{key f f':Nat->Nat}(h:KX w W g key f)(e:∀ q,q<176->f q=f' q):KX w W g key f':=⟨h.be,h.lo,h.p,h.z,h.m.ext (λq D=>by unfold c8;rw[e q D])⟩
theorem KX.set{w W:Wd}{g:Nat}{key f:Nat->Nat}(h:KX w W g key f)(i v:Nat):KX w (W.setCell ⟨g+1+1,i,none⟩ (.int .u8 (v:Nat))) g key (aY f i v):=
 ⟨h.be.setCell (by have:=h.lo;show w.heap.size<=g+1+1;omega) _,h.lo,h.p.far (by show g≠g+1+1;omega) _,h.z.far (by show g+1≠g+1+1;omega) _,by have:=h.m.set i (.int .u8 (v:Nat));rwa [cY] at this⟩
theorem KX.far{w W:Wd}{g:Nat}{key f:Nat->Nat}(h:KX w W g key f){p:Addr}(D:g+1+1<p.block)(u:Value):KX w (W.setCell p u) g key f:=
 ⟨h.be.setCell (by have:=h.lo;omega) _,h.lo,h.p.far (by omega) _,h.z.far (by omega) _,h.m.far (by omega) _⟩
theorem KX.lay16{w W:Wd}{g:Nat}{key f a:Nat->Nat}(h:KX w W g key f)(o:Nat):KX w (W.setCells (g+1+1) o (arr 16 (c8 a))) g key (lay f o 16 a):=
 ⟨Below.setS (by have:=h.lo;omega) _ _ h.be,h.lo,h.p.farS (by omega) _ _,h.z.farS (by omega) _ _,h.m.lay8⟩
structure CX(w W:Wd)(g gb ga:Nat)(key f bf c:Nat->Nat):Prop where
 k:KX w W g key f
 b:AB W gb 41 16 (c8 bf)
 c:AB W ga 358 4 (c8 c)
 hb:g+1+1<gb
 ha:gb<ga
theorem CX.drew{w W:Wd}{g gb ga:Nat}{key f bf c:Nat->Nat}(h:CX w W g gb ga key f bf c):CX w W.drew g gb ga key f bf c:=⟨h.k.drew,h.b,h.c,h.hb,h.ha⟩
theorem NI(key:Nat->Nat)(w:Wd)(d2:aQ key):Wc 256 #[.agg (arr 16 (c8 key)).toArray] w (Rt w (.agg (arr 176 (c8 λq=>kyF key (q/16) (q % 16))).toArray)):=by
 have HK:=jz d2;clear d2;go_enter func256,ntmps256
 go_upto_region 2 with (refine al 342 _ rfl rfl lD ?_)
 obtain⟨g,hg⟩:=je w.heap.size;obtain⟨w1,f0⟩:=je (((w.alloc (.cells (arr 16 (c8 key)).toArray 41)).alloc (.cells z8x176 342)).alloc (.cells z8x176 342));have b7:Hid (KX w w1 g key (λ_=>0)):=jz (by
  rw[f0,hg]
  exact⟨(((ji _ w).alloc (ja _) _).alloc (by simp) _).alloc (by simp;omega) _,ja _,((Blk.new _ _ _).alloc _).alloc _,(Blk.newAt _ _ _ _ (by simp)).alloc _,Blk.newAt _ _ _ _ (by simp)⟩)
 rw[<- f0];simp only[World.size_alloc,<- hg];clear f0 hg;have e8:=b7.p.range;have c2:=bP (L:=arr 16 (c8 key)) (aA _ _);obtain⟨KL,a2⟩:=je (arr 16 (c8 key));have k6:=jz a2;rw[<- a2] at e8 c2;have h9:w1.there (g+1+1) 0 KL.length:=by rw[a2,aA];exact b7.m.there (by omega)
 have g8:KL.toArray.all (·.oneCell')=true:=by rw[a2];exact aP (λ_=>rfl)
 obtain⟨K,D⟩:=je (w1.setCells (g+1+1) 0 KL);have f9:Hid (KX w K g key (kAt key 1 0)):=jz (by
  rw[D,a2]
  exact(b7.lay16 0).fn (λq _=>(RE key q).symm))
 have g1:=jz D;clear a2 D b7;go_wp2_with (first
  | (refine ld 41 (.tmp 1) rfl rfl rfl e8 underlying41 rfl c2 ?_)
  | (refine TJ 41 (.tmp 10) (.tmp 9) rfl rfl rfl rfl h9 c2 g8 ?_;rw[<- g1.out];clear g1 e8 c2 h9 g8 k6))
 go_loopw [4,5] (λp i wr=>∃ n:Nat,n<=10/\p = .int .u8 (pwr n:Nat)/\i = .int .i64 ((n:Int)+1)/\Hid (KX w wr g key (kAt key (n+1) 0))) (λ_ i _=>11-(intOf i).toNat)
 case atStart=>exact⟨0,j0 _,rfl,rfl,f9⟩
 case round=>
  clear f9;obtain⟨n,hn,rfl,rfl,HM⟩:=hrel;rcases jo n 10 with p6|m8
  ·have p9:(0:Int)<=(n:Int)+1-1:=by omega
   have q0:(n:Int)+1<11:=by omega
   have q1:(n:Int)+1-1<11:=by omega
   have q6:(n:Int)+1-1=(n:Int):=by omega
   have q2:(0:Int)<=(n:Int)+1:=by omega
   have q3:¬((n:Int)+1<0):=by omega
   have e3:wr.rangeAt (g+1+1) (n*16) (arr 16 (c8 (kyF key n))):=by
    rw[Nat.mul_comm];have h:=HM.m.part (o:=16*n) (m:=16) (by omega);rw[iM (λk hk=>by show Value.int .u8 ((kAt key (n+1) 0 (16*n+k):Nat):Int)=c8 (kyF key n) k;rw[RG key hk];rfl)] at h;exact h
   have b9:=bP (L:=arr 16 (c8 (kyF key n))) (aA _ _);obtain⟨pw,e7⟩:=je (pwr n);rw[<- e7];have a9:=jz e7;obtain⟨B,hB⟩:=je (arr 16 (c8 (kyF key n)));have HB:=jz hB;rw[<- hB] at e3 b9;have b2:(prog.info? 41).map (·.size)=some B.toArray.size:=by rw[js];exact b9
   have c7:z8x16.size=B.toArray.size:=by rw[hB,aC];exact aC 16 _
   have c9:B.toArray.all (·.oneCell')=true:=by rw[hB];exact aP (λ_=>rfl)
   clear hB e7;have f5:Blk (wr.alloc (.cells z8x16 41)) wr.heap.size 41 z8x16:=Blk.new _ _ _;have HP:=jz (uR n);go_upto_region 8 with (first
    | (refine ld 41 (.tmp 17) rfl rfl rfl e3 underlying41 rfl b9 ?_)
    | (refine al 41 _ rfl rfl cK ?_)
    | (refine aN 41 (.tmp 6) (.tmp 18) rfl rfl rfl rfl f5 b2 c7 c9 ?_;intro w3 h0 h4 _ k1;have f1:=jz h0;have f8:=jz h4;have m5:=jz k1;clear h0 h4 k1))
   clear e3 b9 b2 c7 c9 f5;obtain⟨gb,c5⟩:=je wr.heap.size;obtain⟨bf,c3⟩:=je (kyF key n);have Z:Hid (aQ bf):=jz (by rw[c3];exact fM HK n);have m9:g+1+1<gb:=by rw[c5];exact HM.m.lt
   have e0:Hid (KX w w3 g key (kAt key (n+1) 0)):=jz (HM.keep (((ji _ wr).alloc (ja _) _).trans f8));have d7:Hid (AB w3 gb 41 16 (c8 bf)):=jz (by
    have h:=f1.out
    rw[HB.out,<- c3,<- c5] at h
    exact h)
   have f3:=jz c3;rw[<- c5];clear c5 c3 HM f1 f8 m5
   try simp only[jq]
   go_cut [7] (λu W=>∃ ga,u = .pointer (some ⟨ga,0,none⟩)/\Hid (CX w W g gb ga key (kAt key (n+1) 0) bf (CJ bf pw)))
   case first=>
    obtain⟨O,I⟩:=je w3.drew;have m4:Hid (KX w O g key (kAt key (n+1) 0)):=jz (by rw[I];exact e0.drew);have d4:Hid (AB O gb 41 16 (c8 bf)):=jz (by rw[I];exact d7);have U:Hid (AB (O.alloc (.cells z8x4 358)) gb 41 16 (c8 bf)):=jz (d4.keep ((ji _ O).alloc (ja _) _));have a0:Hid (AB (O.alloc (.cells z8x4 358)) O.heap.size 358 4 (c8 λ_=>0)):=jz (Blk.new _ _ _);have m2:Hid (pw<256):=jz (by rw[a9.out];exact HP);have HA:=jz (λW=>pC (bf 13) W (Z 13));have HB2:=jz (λW=>pC (bf 14) W (Z 14));have HC:=jz (λW=>pC (bf 15) W (Z 15));have HD:=jz (λW=>pC (bf 12) W (Z 12));have hxo:=u8_xor_nat (bO (bf 13)) pw (fT _) m2.out;have HKC:Hid (arr 4 (c8 (CJ bf pw))=[.int .u8 (bO (bf 13) ^^^ pw:Nat),.int .u8 (bO (bf 14):Nat),.int .u8 (bO (bf 15):Nat),.int .u8 (bO (bf 12):Nat)]):=jz rfl;generalize bO (bf 13)=xA at HA hxo HKC;generalize bO (bf 14)=xB at HB2 HKC;generalize bO (bf 15)=xC at HC HKC;generalize bO (bf 12)=xD at HD HKC;obtain⟨CS,b1⟩:∃ L:Wv,L=[.int .u8 (xA ^^^ pw:Nat),.int .u8 (xB:Nat),.int .u8 (xC:Nat),.int .u8 (xD:Nat)]:=⟨_,rfl⟩;have a5:prog.built 358 [(0,.int .u8 (xA ^^^ pw:Nat)),(1,.int .u8 (xB:Nat)),(2,.int .u8 (xC:Nat)),(3,.int .u8 (xD:Nat))]=some CS.toArray:=by rw[b1];kernel_rfl
    have a7:CS.length=4:=by rw[b1];rfl
    have a6:∀ u∈CS,u.oneCell'=true:=by
     intro u hu;rw[b1] at hu;simp only[jl,j8,or_false] at hu;rcases hu with rfl|rfl|rfl|rfl <;> rfl
    have b0:Hid ((O.alloc (.cells z8x4 358)).there O.heap.size 0 4):=jz (a0.there (by omega));have n0:gb<O.heap.size:=d4.lt;have a1:Hid (AB ((O.alloc (.cells z8x4 358)).setCells O.heap.size 0 CS) gb 41 16 (c8 bf)):=jz (U.farS (by omega) _ _);have a8:Hid (CX w ((O.alloc (.cells z8x4 358)).setCells O.heap.size 0 CS) g gb O.heap.size key (kAt key (n+1) 0) bf (CJ bf pw)):=jz (by
     have hk:=m4.keep ((ji _ O).alloc (ja _) (.cells z8x4 358))
     refine⟨⟨Below.setS (by have:=hk.lo;omega) _ _ hk.be,hk.lo,hk.p.farS (by omega) _ _,hk.z.farS (by omega) _ _,hk.m.farS (by omega) _ _⟩,a1,?_,m9,n0⟩
     rw[b1,<- HKC.out]
     exact(a0.lay8 (f:=λ_=>0)).ext (λq hq=>by
      unfold c8 lay
      rw[jP (by omega)]
      rfl))
    clear b1 e0 d7;refine kZ (n:=17) (λW=>AB W gb 41 16 (c8 bf)) (by rw[<- I];exact d4) (h:=λhH=>?_);rw[<- I] at hH ⊢;clear I;refine qT 0 (.pointer (some ⟨gb,13,none⟩)) ?_;refine qC 1 (v:=.int .u8 (bf 13:Nat)) (λW V=>V.cell (i:=13) (by omega)) ?_;refine qM 3 (.int .u8 (pw:Nat)) ?_;refine qT 5 (.pointer (some ⟨gb,14,none⟩)) ?_;refine qC 6 (v:=.int .u8 (bf 14:Nat)) (λW V=>V.cell (i:=14) (by omega)) ?_;refine qT 8 (.pointer (some ⟨gb,15,none⟩)) ?_;refine qC 9 (v:=.int .u8 (bf 15:Nat)) (λW V=>V.cell (i:=15) (by omega)) ?_;refine qT 11 (.pointer (some ⟨gb,12,none⟩)) ?_;refine qC 12 (v:=.int .u8 (bf 12:Nat)) (λW V=>V.cell (i:=12) (by omega)) ?_;refine jW [2,15] (rF 2 (some 21) ((HA _).mono ?_) (rA 15 (some 7) z8x4 lR U ?_ jN))
    ·rintro e K ⟨rfl,D⟩;rw[D];clear D K;refine⟨_,rfl,hH,λ_=>?_⟩;simp only[jq];refine qT 4 (.int .u8 (xA ^^^ pw:Nat)) ?_;refine jW [7,15] (rF 7 (some 26) ((HB2 _).mono ?_) (rA 15 (some 7) z8x4 lR U ?_ jN))
     ·rintro e K ⟨rfl,D⟩;rw[D];clear D K;refine⟨_,rfl,hH,λ_=>?_⟩;simp only[jq];refine jW [10,15] (rF 10 (some 29) ((HC _).mono ?_) (rA 15 (some 7) z8x4 lR U ?_ jN))
      ·rintro e K ⟨rfl,D⟩;rw[D];clear D K;refine⟨_,rfl,hH,λ_=>?_⟩;simp only[jq];refine jW [13,15] (rF 13 (some 32) ((HD _).mono ?_) (rA 15 (some 7) z8x4 lR U ?_ jN))
       ·rintro e K ⟨rfl,D⟩;rw[D];clear D K;refine⟨_,rfl,hH,λ_=>?_⟩;simp only[jq];refine kB 14 (some 33) (vs:=[(0,.int .u8 (xA ^^^ pw:Nat)),(1,.int .u8 (xB:Nat)),(2,.int .u8 (xC:Nat)),(3,.int .u8 (xD:Nat))]) a5 (h:=?_);simp only[jq];refine jW [15] (rA 15 (some 7) z8x4 lR U ?_ jN);simp only[jq];have J:=U.out;refine kR 16 none b0 a7 a6 (a1) (h:=?_);simp only[jq];refine kE (h:=?_);go_wp2_with fail
        go_meet
        exact⟨_,rfl,a8⟩
       ·simp only[jq];have J:=U.out;refine kF 13 (some 32) ((HD _).mono ?_);rintro e K ⟨rfl,D⟩;rw[D];clear D K;refine⟨_,rfl,J,λ_=>?_⟩;simp only[jq];refine kB 14 (some 33) (vs:=[(0,.int .u8 (xA ^^^ pw:Nat)),(1,.int .u8 (xB:Nat)),(2,.int .u8 (xC:Nat)),(3,.int .u8 (xD:Nat))]) a5 (h:=?_);simp only[jq];refine kR 16 none b0 a7 a6 (a1) (h:=?_);simp only[jq];refine kE (h:=?_);go_wp2_with fail
        go_meet
        exact⟨_,rfl,a8⟩
      ·simp only[jq];have J:=U.out;refine kF 10 (some 29) ((HC _).mono ?_);rintro e K ⟨rfl,D⟩;rw[D];clear D K;refine⟨_,rfl,J,λ_=>?_⟩;simp only[jq];refine kF 13 (some 32) ((HD _).mono ?_);rintro e K ⟨rfl,D⟩;rw[D];clear D K;refine⟨_,rfl,J,λ_=>?_⟩;simp only[jq];refine kB 14 (some 33) (vs:=[(0,.int .u8 (xA ^^^ pw:Nat)),(1,.int .u8 (xB:Nat)),(2,.int .u8 (xC:Nat)),(3,.int .u8 (xD:Nat))]) a5 (h:=?_);simp only[jq];refine kR 16 none b0 a7 a6 (a1) (h:=?_);simp only[jq];refine kE (h:=?_);go_wp2_with fail
       go_meet
       exact⟨_,rfl,a8⟩
     ·simp only[jq];have J:=U.out;refine kF 7 (some 26) ((HB2 _).mono ?_);rintro e K ⟨rfl,D⟩;rw[D];clear D K;refine⟨_,rfl,J,λ_=>?_⟩;simp only[jq];refine kF 10 (some 29) ((HC _).mono ?_);rintro e K ⟨rfl,D⟩;rw[D];clear D K;refine⟨_,rfl,J,λ_=>?_⟩;simp only[jq];refine kF 13 (some 32) ((HD _).mono ?_);rintro e K ⟨rfl,D⟩;rw[D];clear D K;refine⟨_,rfl,J,λ_=>?_⟩;simp only[jq];refine kB 14 (some 33) (vs:=[(0,.int .u8 (xA ^^^ pw:Nat)),(1,.int .u8 (xB:Nat)),(2,.int .u8 (xC:Nat)),(3,.int .u8 (xD:Nat))]) a5 (h:=?_);simp only[jq];refine kR 16 none b0 a7 a6 (a1) (h:=?_);simp only[jq];refine kE (h:=?_);go_wp2_with fail
      go_meet
      exact⟨_,rfl,a8⟩
    ·simp only[jq];have J:=U.out;refine kF 2 (some 21) ((HA _).mono ?_);rintro e K ⟨rfl,D⟩;rw[D];clear D K;refine⟨_,rfl,J,λ_=>?_⟩;simp only[jq];refine qT 4 (.int .u8 (xA ^^^ pw:Nat)) ?_;refine kF 7 (some 26) ((HB2 _).mono ?_);rintro e K ⟨rfl,D⟩;rw[D];clear D K;refine⟨_,rfl,J,λ_=>?_⟩;simp only[jq];refine kF 10 (some 29) ((HC _).mono ?_);rintro e K ⟨rfl,D⟩;rw[D];clear D K;refine⟨_,rfl,J,λ_=>?_⟩;simp only[jq];refine kF 13 (some 32) ((HD _).mono ?_);rintro e K ⟨rfl,D⟩;rw[D];clear D K;refine⟨_,rfl,J,λ_=>?_⟩;simp only[jq];refine kB 14 (some 33) (vs:=[(0,.int .u8 (xA ^^^ pw:Nat)),(1,.int .u8 (xB:Nat)),(2,.int .u8 (xC:Nat)),(3,.int .u8 (xD:Nat))]) a5 (h:=?_);simp only[jq];refine kR 16 none b0 a7 a6 (a1) (h:=?_);simp only[jq];refine kE (h:=?_);go_wp2_with fail
     go_meet
     exact⟨_,rfl,a8⟩
   case rest=>
    rename Wd=>wc
    obtain⟨ga,rfl,f6⟩:=hcut;clear e0 d7;go_wp2_with fail
    go_loopw [34] (λi wr2=>∃ j:Nat,j<=16/\i = .int .i64 (j:Int)/\Hid (CX w wr2 g gb ga key (kAt key (n+1) j) bf (i4 bf pw j))) (λi _=>16-(intOf i).toNat)
    case atStart=>exact⟨0,j0 _,rfl,f6⟩
    case round=>
     clear f6;obtain⟨j,hj,rfl,b3⟩:=hrel
     rename Wd=>wj
     rcases jo j 16 with e5|h6
     ·have n1:(0:Int)<=j:=by omega
      have n4:(j:Int)<16:=by omega
      obtain⟨jm,c6⟩:=je (j % 4);have n3:(j:Int) % 4=(jm:Int):=by omega
      have p7:Int.tmod (j:Int) 4=(jm:Int):=by rw[Int.tmod_eq_emod_of_nonneg n1];exact n3
      have n2:(0:Int)<=jm:=by omega
      have p8:(jm:Int)<4:=by omega
      have e6:jm<4:=by omega
      obtain⟨co,a3⟩:=je (i4 bf pw j jm);have m6:co<256:=by rw[a3];exact tA Z (by rw[a9.out];exact HP) j jm
      have hxo:=u8_xor_nat co (bf j) m6 (Z j);go_upto_region 12 with fail
      obtain⟨O,I⟩:=je wj.drew;have R:Hid (CX w O g gb ga key (kAt key (n+1) j) bf (i4 bf pw j)):=jz (by rw[I];exact b3.drew);have c4:O.cell? ⟨ga,jm,none⟩=some (.int .u8 (co:Nat)):=by rw[a3];exact R.c.cell e6
      have e4:=R.c.frozen jm;have f4:Hid (O.cell? ⟨gb,j,none⟩=some (.int .u8 (bf j:Nat))):=jz (R.b.cell e5);obtain⟨X,V⟩:=je (co ^^^ bf j);obtain⟨wz,a4⟩:=je (O.setCell ⟨ga,jm,none⟩ (.int .u8 (X:Nat)));have a0:Hid (CX w wz g gb ga key (kAt key (n+1) j) bf (i4 bf pw (j+1))):=jz (by
       have h:=R.out
       have e1:=h.hb
       have e2:=h.ha
       have h1:=h.c.set jm (.int .u8 (X:Nat))
       rw[cY,<- a4] at h1
       refine⟨by rw[a4];exact h.k.far (by show g+1+1<ga;omega) _,by rw[a4];exact h.b.far (by show gb≠ga;omega) _,?_,h.hb,h.ha⟩
       rw[V,a3,c6] at h1
       exact h1)
      have g2:Hid (i4 bf pw (j+1) jm=X):=jz (by
       rw[V,a3,c6]
       exact mO _ _ _)
      have m3:Hid (X=nk bf pw j):=jz (by rw[V,a3,c6];rfl);rw[<- V] at hxo;have n6:(0:Int)<=(jm:Nat):=n2;clear V a3 b3 c6;refine kZ (n:=10) (λW=>W.cell? ⟨gb,j,none⟩=some (.int .u8 (bf j:Nat))) (by rw[<- I];exact f4) (h:=λhH=>?_);rw[<- I] at hH ⊢;clear I;refine qM 0 (.int .i64 (j:Int)) ?_;refine qM 4 (.int .i64 (j:Int)) ?_;refine qT 5 (.pointer (some ⟨gb,j,none⟩)) ?_;refine qC 6 (v:=.int .u8 (bf j:Nat)) (λW V=>V) ?_;refine qT 1 (.int .i64 (jm:Nat)) ?_;refine qT 2 (.pointer (some ⟨ga,jm,none⟩)) ?_;refine kS 3 (some 40) (.int .u8 (co:Nat)) O (hS:=hH) (h:=?_);simp only[jq];refine qT 7 (.int .u8 (X:Nat)) ?_;refine qT 8 (.pointer (some ⟨ga,jm,none⟩)) ?_;refine kW 9 none (O.setCell ⟨ga,jm,none⟩ (.int .u8 (X:Nat))) (hS:=by rw[<- a4];exact a0.b.cell e5) (h:=?_);simp only[jq];refine kE (h:=?_);rw[<- a4];clear a4 c4 e4 f4 hH R;go_upto_region 13 with fail
      obtain⟨O,I⟩:=je wz.drew;have R:Hid (CX w O g gb ga key (kAt key (n+1) j) bf (i4 bf pw (j+1))):=jz (by rw[I];exact a0.drew);have g3:Hid (O.cell? ⟨ga,jm,none⟩=some (.int .u8 (X:Nat))):=jz (by rw[<- g2.out];exact R.c.cell e6);have c4:O.cell? ⟨g+1+1,(n+1)*16+j,none⟩=some (.int .u8 (kAt key (n+1) j ((n+1)*16+j):Nat)):=R.k.m.cell (by omega);have e4:=R.k.m.frozen ((n+1)*16+j);obtain⟨old,d3⟩:=je (kAt key (n+1) j ((n+1)*16+j));rw[<- d3] at c4;obtain⟨wf,d0⟩:=je (O.setCell ⟨g+1+1,(n+1)*16+j,none⟩ (.int .u8 (X:Nat)));have f7:Hid (CX w wf g gb ga key (kAt key (n+1) (j+1)) bf (i4 bf pw (j+1))):=jz (by
       have h:=R.out
       have e1:=h.hb
       have e2:=h.ha
       rw[d0]
       refine⟨(h.k.set ((n+1)*16+j) X).fn (λq _=>?_),h.b.far (by show gb≠g+1+1;omega) _,h.c.far (by show ga≠g+1+1;omega) _,h.hb,h.ha⟩
       rw[m3.out,f3.out,a9.out,Nat.mul_comm]
       exact RF key e5 q)
      have q5:((n:Int)+1).toNat=n+1:=by omega
      clear d3 a0;refine kZ (n:=9) (λW=>W.cell? ⟨ga,jm,none⟩=some (.int .u8 (X:Nat))) (by rw[<- I];exact g3) (h:=λhH=>?_);rw[<- I] at hH ⊢;clear I;refine qM 0 (.int .i64 ((n:Int)+1)) ?_;refine qM 1 (.int .i64 (j:Int)) ?_;refine qM 2 (.int .i64 (j:Int)) ?_;refine qT 6 (.pointer (some ⟨g+1+1,(n+1)*16,none⟩)) ?_;refine qT 3 (.int .i64 (jm:Nat)) ?_;refine qT 4 (.pointer (some ⟨ga,jm,none⟩)) ?_;refine qC 5 (v:=.int .u8 (X:Nat)) (λW V=>V) ?_;refine qT 7 (.pointer (some ⟨g+1+1,(n+1)*16+j,none⟩)) ?_;refine kW 8 none (O.setCell ⟨g+1+1,(n+1)*16+j,none⟩ (.int .u8 (X:Nat))) (hS:=by rw[<- d0,<- g2.out];exact f7.c.cell e6) (h:=?_);simp only[jq];refine kE (h:=?_);rw[<- d0];clear d0 c4 e4 g3 hH R hxo;go_wp2_with fail
      exact⟨⟨j+1,by omega,by go_num,f7⟩,by simp[intOf];omega⟩
     ·have d1:j=16:=by omega
      have n7:¬(j:Int)<16:=by omega
      have k7:Hid (KX w wj g key (kAt key (n+1+1) 0)):=jz (b3.k.fn (λq _=>by rw[d1];exact NB key (n+1) q));clear d1 hj h6 b3;have d5:=jz (λW v hs=>MQ pw 2 v W (by rw[a9.out];exact HP) (by omega) hs);have g0:Hid (mB pw 2=pwr (n+1)):=jz (by rw[a9.out];rfl);obtain⟨P2,h3⟩:=je (mB pw 2);rw[<- h3] at d5 g0;clear h3;go_wp2_with fail
      refine(d5 _ _ (Sn.new wj #[.int .u8 2] 5 1 1 rfl)).mono ?_;rintro e w7 ⟨rfl,k0⟩;rw[k0];clear k0 w7 d5;have k5:=jz (k7.keep ((ji _ wj).alloc (ja _) (.cells #[.int .u8 2] 5)));go_wp2_with fail
      exact⟨⟨n+1,by omega,by rw[g0.out],by go_num,k5⟩,by simp[intOf];omega⟩
  ·have h7:n=10:=by omega
   have q4:¬((n:Int)+1<11):=by omega
   have hD:AB wr (g+1+1) 342 176 (c8 λq=>kyF key (q/16) (q % 16)):=HM.m.ext (λq hq=>by
    show Value.int .u8 ((kAt key (n+1) 0 q:Nat):Int)=Value.int .u8 ((kyF key (q/16) (q % 16):Nat):Int)
    unfold kAt
    rw[jP (by omega)])
   have h8:=hD.range;have k3:Blk wr (g+1) 342 z8x176:=HM.z;have f2:=jz (And.intro HM.be HM.lo);have hI:(prog.info? 342).map (·.size)=some (arr 176 (c8 λq=>kyF key (q/16) (q % 16))).length:=by rw[aA];kernel_rfl
   obtain⟨M,hM⟩:=je (arr 176 (c8 λq=>kyF key (q/16) (q % 16)));rw[<- hM] at h8 hI;have b2:(prog.info? 342).map (·.size)=some M.toArray.size:=by rw[js];exact hI
   have c7:z8x176.size=M.toArray.size:=by rw[hM,aC];exact aC 176 _
   have c9:M.toArray.all (·.oneCell')=true:=by rw[hM];exact aP (λ_=>rfl)
   have m1:=jz hM;clear hM HM hD h7 m8 hn;go_wp2_with (first
    | (refine ld 342 (.tmp 3) rfl rfl rfl h8 underlying342 rfl hI ?_)
    | (refine aN 342 (.tmp 2) (.tmp 58) rfl rfl rfl rfl k3 b2 c7 c9 ?_;intro w9 h2 h5 _ _;have k2:=jz h2;have k4:=jz h5;clear h2 h5))
   exact bodyPost_ret (results_cell_row rfl _ _ (g+1) 342 _ (0,0) _ rfl k2 underlying342 rfl b2) rfl ⟨by rw[<- m1.out],f2.out.1.trans (k4.mono (by have:=f2.out.2;omega))⟩
section
variable {P : Program} {ops : Array Oper} {Q : Exit -> Act -> Wd -> Prop} {S : Wd -> Prop} {a : Act} {w : Wd} {listed : Array Bool} {fuel : Nat}
theorem kLS(i:Nat)(dst:Option Tmp){cs:Wv}{b off n:Nat}(Z:w.rangeAt b off cs)(V:cs.length=n){o:Oper}{ty:TypeId}{x:Operand}(O:ops[i]? = some o:=by rfl)(D:o.dst=dst:=by rfl)(J:o.op = .load ty x:=by rfl)(hx:a.eval x = .pointer (some ⟨b,off,none⟩):=by kernel_rfl)
  (I:((P.underlying ty).map (·.isRow))=some true:=by kernel_rfl) (hi:(P.info? ty).map (·.size)=some n:=by kernel_rfl) (U:kOne ops listed a i=true:=by kernel_rfl) (hS:S w:=by assumption)
  (h:wpAnyH P .any ops Q S fuel (listed.setIfInBounds i true) (a.put dst (.agg cs.toArray)) w):wpAnyH P .any ops Q S (fuel+1) listed a w:=by
 subst D;have k:=kOne.out O U;refine wpAnyH_ready k.1 (by simp) (AllReadyH.cons O (λK R=>?_) jN);rw[jP k.2];cases hd:P.underlying ty with
 | none=>rw[hd] at I;cases I
 | some d=>
  rw[hd] at I;exact wp_load_mid ty x J b off hx cs d Z hd (by simpa using I) (by rw[V];exact hi) (R _ _ hS (λ_=>h))
end
def lT(key bl:Nat->Nat):Nat->Nat->Nat
 | 0=>qN bl (kyF key 0)
 | n+1=>dU (lT key bl n) (kyF key (n+1)) (decide (n=9))
theorem zM{key bl:Nat->Nat}(D:aQ key)(hb:aQ bl):∀ n,aQ (lT key bl n)
 | 0=>zI hb (fM D 0)
 | n+1=>J1 (fM D (n+1))
def dV(key bl:Nat->Nat):Nat->Nat:=lT key bl 10
theorem pG{key bl:Nat->Nat}(D:aQ key)(hb:aQ bl):aQ (dV key bl):=zM D hb 10
structure EX(w W:Wd)(g gk:Nat)(key f:Nat->Nat):Prop where
 be:Bw w W
 lo:w.heap.size<=g
 b:AB W (g+1) 41 16 (c8 f)
 r:AB W (g+1+1) 41 16 (c8 λ_=>0)
 k:AB W gk 342 176 (c8 λq=>kyF key (q/16) (q % 16))
 hg:g+1+1<gk
theorem EX.keep{w W W':Wd}{g D:Nat}{key f:Nat->Nat}(h:EX w W g D key f)(hb:Bw W W'):EX w W' g D key f:=⟨h.be.trans (hb.mono h.be.size),h.lo,h.b.keep hb,h.r.keep hb,h.k.keep hb,h.hg⟩
theorem EX.drew{w W:Wd}{g D:Nat}{key f:Nat->Nat}(h:EX w W g D key f):EX w W.drew g D key f:=⟨h.be.drew,h.lo,h.b,h.r,h.k,h.hg⟩
theorem EX.lay16{w W:Wd}{g D:Nat}{key f a:Nat->Nat}(h:EX w W g D key f):EX w (W.setCells (g+1) 0 (arr 16 (c8 a))) g D key a:=
 ⟨Below.setS (by have:=h.lo;omega) _ _ h.be,h.lo,(h.b.lay8 (o:=0) (m:=16) (a:=a)).ext (λq I=>by unfold c8 lay;rw[jP (by omega)];rfl),h.r.farS (by omega) _ _,h.k.farS (by have:=h.hg;omega) _ _,h.hg⟩
theorem EX.row{w W:Wd}{g D:Nat}{key f:Nat->Nat}(h:EX w W g D key f){i:Nat}(hi:i<=10):W.rangeAt D (i*16) (arr 16 (c8 (kyF key i))):=by
 have h1:=h.k.part (o:=i*16) (m:=16) (by omega);rw[iM (λk I=>by show Value.int .u8 ((kyF key ((i*16+k)/16) ((i*16+k) % 16):Nat):Int)=c8 (kyF key i) k;rw[show(i*16+k)/16=i from by omega,show(i*16+k) % 16=k from by omega];rfl)] at h1;exact h1
theorem CP(key bl:Nat->Nat)(w:Wd)(Z:aQ key)(d2:aQ bl):Wc 255 #[.agg (arr 16 (c8 key)).toArray,.agg (arr 16 (c8 bl)).toArray] w (Rt w (.agg (arr 16 (c8 (dV key bl))).toArray)):=by
 have HK:=jz Z;have HB:=jz d2;clear Z d2;go_enter func255,ntmps255
 go_upto_region 1 with (refine al 41 _ rfl rfl cK ?_)
 obtain⟨g,hg⟩:=je w.heap.size;obtain⟨w1,a4⟩:=je (((w.alloc (.cells (arr 16 (c8 key)).toArray 41)).alloc (.cells (arr 16 (c8 bl)).toArray 41)).alloc (.cells z8x16 41));have a1:Hid (Bw w w1/\w.heap.size<=g/\AB w1 g 41 16 (c8 key)/\AB w1 (g+1) 41 16 (c8 bl)/\AB w1 (g+1+1) 41 16 (c8 λ_=>0)):=jz (by
  rw[a4,hg]
  exact⟨(((ji _ w).alloc (ja _) _).alloc (by simp) _).alloc (by simp;omega) _,ja _,((Blk.new _ _ _).alloc _).alloc _,(Blk.newAt _ _ _ _ (by simp)).alloc _,Blk.newAt _ _ _ _ (by simp)⟩)
 rw[<- a4];simp only[World.size_alloc,<- hg];clear a4 hg;have e2:=a1.out.2.2.1.range;have c7:=bP (L:=arr 16 (c8 key)) (aA _ _);have b0:=jz (λW=>NI key W HK);go_wp2_with (refine ld 41 (.tmp 2) rfl rfl rfl e2 underlying41 rfl c7 ?_)
 refine(b0 _).mono ?_;rintro e w5 ⟨rfl,hb5⟩;clear e2 c7 b0;obtain⟨KL,I⟩:=je (arr 176 (c8 λq=>kyF key (q/16) (q % 16)));have e8:=jz I;rw[<- I];have hI:(prog.info? 342).map (·.size)=some KL.toArray.size:=by rw[js,I,aA];kernel_rfl
 have d3:z8x176.size=KL.toArray.size:=by rw[I,aC];exact aC 176 _
 have d4:KL.toArray.all (·.oneCell')=true:=by rw[I];exact aP (λ_=>rfl)
 have a8:Blk (w5.alloc (.cells z8x176 342)) w5.heap.size 342 z8x176:=Blk.new _ _ _;have O:=jz hb5;clear I hb5;go_upto_region 2 with (first
  | (refine al 342 _ rfl rfl lD ?_)
  | (refine aN 342 (.tmp 5) (.tmp 8) rfl rfl rfl rfl a8 hI d3 d4 ?_;intro w6 c2 c9 _ f7;have a6:=jz c2;have a9:=jz c9;clear c2 c9 f7))
 try simp only[jq]
 obtain⟨V,R⟩:=je w5.heap.size;have J:Hid (EX w w6 g V key bl):=jz (by
  have hb:Bw w5 w6:=((ji _ w5).alloc (ja _) _).trans a9.out
  have h:=a1.out
  have hk:=a6.out
  rw[e8.out,<- R] at hk
  have r5:=h.2.2.2.2.keep O.out
  have b5:=h.2.2.2.1.keep O.out
  exact⟨(h.1.trans (O.mono h.1.size)).trans (hb.mono (h.1.trans (O.mono h.1.size)).size),h.2.1,b5.keep hb,r5.keep hb,hk,by rw[R];exact r5.lt⟩)
 rw[<- R];clear R a1 O a6 a9 hI d3 d4 a8;have d7:=J.b.range;have c4:=bP (L:=arr 16 (c8 bl)) (aA _ _);have e1:w6.rangeAt V 0 (arr 16 (c8 (kyF key 0))):=J.row (i:=0) (by omega);have c5:=bP (L:=arr 16 (c8 (kyF key 0))) (aA _ _);have b7:=jz (λW=>qO bl (kyF key 0) W HB (fM HK 0));go_wp2_with (first
  | (refine ld 41 (.tmp 3) rfl rfl rfl d7 underlying41 rfl c4 ?_)
  | (refine ld 41 (.tmp 10) rfl rfl rfl e1 underlying41 rfl c5 ?_))
 refine(b7 _).mono ?_;rintro e w7 ⟨rfl,d0⟩;have a2:=jz (J.keep d0);clear d7 c4 e1 c5 b7 d0 J;obtain⟨M,K⟩:=je (arr 16 (c8 (qN bl (kyF key 0))));rw[<- K];have e4:w7.there (g+1) 0 M.length:=by rw[K,aA];exact a2.b.there (by omega)
 have b9:M.toArray.all (·.oneCell')=true:=by rw[K];exact aP (λ_=>rfl)
 have c6:=bP (L:=M) (by rw[K];exact aA _ _);obtain⟨w8,a5⟩:=je (w7.setCells (g+1) 0 M);have b2:Hid (EX w w8 g V key (lT key bl 0)):=jz (by rw[a5,K];exact a2.lay16);have b1:=jz a5;clear K a5 a2;go_wp2_with (refine TJ 41 (.tmp 3) (.tmp 12) rfl rfl rfl rfl e4 c6 b9 ?_;rw[<- b1.out];clear b1 e4 b9 c6)
 go_loopw [6] (λi wr=>∃(n:Nat) (D:Int),n<=10/\D=(n:Int)+1/\i = .int .i64 D/\Hid (EX w wr g V key (lT key bl n))) (λi _=>11-(intOf i).toNat)
 case atStart=>exact⟨0,1,j0 _,rfl,rfl,b2⟩
 case round=>
  clear b2;obtain⟨n,D,hn,a3,rfl,J⟩:=hrel;rcases jo n 10 with g0|f4
  ·have g1:(0:Int)<=D:=by omega
   have g2:D<11:=by omega
   have g3:D<=10:=by omega
   have g8:¬D<0:=by omega
   have h2:D.toNat=n+1:=by omega
   have h0:D+1=(n:Int)+1+1:=by omega
   obtain⟨lb,d5⟩:∃ b:Bool,decide (D=10)=b:=⟨_,rfl⟩;have f8:(D == 10)=lb:=by rw[<- d5];rfl
   have f0:Hid (decide (n=9)=lb):=jz (by rw[<- d5];exact decide_eq_decide.2 (by omega));have HRO:=jz (λW=>zJ (lT key bl n) (kyF key (n+1)) lb W (zM HK HB n) (fM HK (n+1)));have f3:Hid (dU (lT key bl n) (kyF key (n+1)) lb=lT key bl (n+1)):=jz (by rw[<- f0.out];rfl);rw[f3.out] at HRO;have f1:=jz a3;clear a3;go_upto_region 6 with fail
   obtain⟨wS,U⟩:=je wr.drew;have HXS:Hid (EX w wS g V key (lT key bl n)):=jz (by rw[U];exact J.drew);clear J;refine kZ (n:=8) (λW=>EX w W g V key (lT key bl n)\/EX w W g V key (lT key bl (n+1))) (by rw[<- U];exact .inl HXS) (h:=λhH=>?_);rw[<- U] at hH ⊢;clear U;refine qM 1 (.int .i64 D) ?_;refine qT 2 (.pointer (some ⟨V,(n+1)*16,none⟩)) ?_;refine qM 4 (.int .i64 D) ?_;refine qT 5 (.bool lb) ?_;refine qL 3 (cs:=arr 16 (c8 (kyF key (n+1)))) (λW hX=>by rcases hX with h|h <;> exact h.row (by omega)) (aA _ _) ?_;refine kLS 0 (some 17) (cs:=arr 16 (c8 (lT key bl n))) (HXS.b.range) (aA _ _) (h:=?_);simp only[jq];refine kF 6 (some 23) ((HRO _).mono ?_);rintro e w5 ⟨rfl,hb5⟩;have HX5:=jz (HXS.keep hb5);clear hb5;refine⟨_,rfl,.inl HX5,λhH=>?_⟩;simp only[jq];have b3:=jz (HX5.lay16 (a:=lT key bl (n+1)));refine kR 7 none (n:=16) (cs:=arr 16 (c8 (lT key bl (n+1)))) (HX5.b.there (by omega)) (aA _ _) (λu hu=>by obtain⟨q,_,rfl⟩:=List.mem_map.1 hu;rfl) (.inr b3) (h:=?_);simp only[jq];refine kE (h:=?_);go_wp2_with fail
   exact⟨⟨n+1,D+1,by omega,by rw[f1.out];omega,by go_num,b3⟩,by simp[intOf];omega⟩
  ·have f9:¬D<=10:=by omega
   have a0:n=10:=by omega
   have hD:AB wr (g+1) 41 16 (c8 (dV key bl)):=by
    have h:=J.b;rw[a0] at h;exact h
   have e0:=hD.range;have e6:Blk wr (g+1+1) 41 z8x16:=J.r;have a7:=jz (And.intro J.be J.lo);have hI:=bP (L:=arr 16 (c8 (dV key bl))) (aA _ _);obtain⟨M,K⟩:=je (arr 16 (c8 (dV key bl)));rw[<- K] at e0 hI;have e3:(prog.info? 41).map (·.size)=some M.toArray.size:=by rw[js];exact hI
   have f5:z8x16.size=M.toArray.size:=by rw[K,aC];exact aC 16 _
   have f6:M.toArray.all (·.oneCell')=true:=by rw[K];exact aP (λ_=>rfl)
   have f2:=jz K;clear K J hD a0 f4 hn a3;go_wp2_with (first
    | (refine ld 41 (.tmp 3) rfl rfl rfl e0 underlying41 rfl hI ?_)
    | (refine aN 41 (.tmp 4) (.tmp 24) rfl rfl rfl rfl e6 e3 f5 f6 ?_;intro w9 c3 d1 _ _;have e5:=jz c3;have e7:=jz d1;clear c3 d1))
   exact bodyPost_ret (results_cell_row rfl _ _ (g+1+1) 41 _ (0,0) _ rfl e5 underlying41 rfl e3) rfl ⟨by rw[<- f2.out],a7.out.1.trans (e7.mono (by have:=a7.out.2;omega))⟩
end
section
set_option maxRecDepth 100000
open Go.RowKit Go.Shelf Go.Lib Go.Sort
def Ent:Type:={ p:Wl×Int // EntOk p }
instance:Inhabited Ent:=⟨⟨(List.replicate 32 0,0),⟨by simp,λb hb=>by have:=(List.mem_replicate.1 hb).2;omega⟩,by constructor <;> decide⟩⟩
def mV(x:Ent):Wv:=aO x.1
def cfE(x y:Ent):Int:=dJ x.1 y.1
theorem ltE(x y:Ent):ltOf cfE x y=decide (dJ x.1 y.1<0):=rfl
theorem WT:SWO (ltOf cfE) where
 irrefl x:=by
  rw[ltE,(fP x.1 x.1).2 rfl];rfl
 trans x y z h1 h2:=by
  rw[ltE,decide_eq_true_eq] at *
  have I:=lS x.1 y.1 z.1 (by omega) (by omega);have J:dJ x.1 z.1≠0:=λe=>by
   have D:=(fP _ _).1 e;rw[D] at h1;have:=dN y.1 z.1;omega
  omega
 ntrans x y z h1 h2:=by
  rw[ltE,decide_eq_false_iff_not] at *
  have K:=dN x.1 y.1;have O:=dN y.1 z.1;have R:=dN x.1 z.1;have I:=lS z.1 y.1 x.1 (by omega) (by omega);omega
theorem WU(x y:Ent)(h1:ltOf cfE x y=false)(D:ltOf cfE y x=false):x=y:=by
 rw[ltE,decide_eq_false_iff_not] at *
 have I:=dN x.1 y.1;exact Subtype.ext ((fP _ _).1 (by omega))
theorem NJ{α:Type}(C:α->Wv)(s:Nat)(D:∀ r,(C r).length=s)(l:List α)(k j:Nat)(J:k<l.length)(I:j<s):(l.flatMap C)[k*s+j]? = (C l[k])[j]?:=by
 have e:l.flatMap C=(l.take k).flatMap C++(C l[k]++(l.drop (k+1)).flatMap C):=by
  conv=>lhs;rw[<- List.take_append_drop k l,List.drop_eq_getElem_cons J]
  rw[List.flatMap_append,List.flatMap_cons]
 have h1:((l.take k).flatMap C).length=k*s:=by
  have key:∀ m:List α,(m.flatMap C).length=m.length*s:=by
   intro m;induction m with
   | nil=>simp
   | cons r m ih=>simp[List.flatMap_cons,D r,ih,Nat.add_mul];omega
  rw[key,jv,Nat.min_eq_left (by omega)]
 rw[e,jx (by omega),h1,Nat.add_sub_cancel_left,jy (by rw[D];exact I)]
theorem mW(x:Ent):(mV x).length=33:=bC x.1 x.2
theorem xZ(d:Array Ent)(t:Nat)(h:t<d.size*33):(d.toList.flatMap mV)[t]? = some (flatK mV 33 d)[t]!:=by
 rw[get_flatK mV 33 d t h];have h1:t/33<d.toList.length:=by rw[jk];omega
 have D:t % 33<33:=Nat.mod_lt _ (by omega);have I:=NJ mV 33 mW d.toList (t/33) (t % 33) h1 D;rw[show t/33*33+t % 33=t by omega] at I;rw[I];have K:d[t/33]! = d.toList[t/33]:=by
  rw[getElem!_pos d (t/33) (by simpa using h1)];simp
 rw[K];have J:t % 33<(mV d.toList[t/33]).length:=by rw[mW];exact D
 rw[List.getElem?_eq_getElem J,getElem!_pos (mV d.toList[t/33]) (t % 33) J]
theorem E5(w:Wd)(g n:Nat)(d:Array Ent)(os:Array Obj)(B:Nat)(I:B<=g)(hs:B<=w.heap.size):Below B w (sortWorldK mV 33 w g 0 n d os):=by
 refine⟨rfl,rfl,rfl,?_,λk J=>?_⟩
 ·exact size_sortWorldK_c mV 33 w g 0 n d os
 ·show((mapBlock (Sort.ahead w n) g _).heap++os)[k]? = _;have D:(mapBlock (Sort.ahead w n) g (putCells id 0 (flatK mV 33 d))).heap.size=w.heap.size:=by simp[mapBlock,Sort.ahead]
  rw[Array.getElem?_append_left (by rw[D];omega)];simp only[mapBlock,Sort.ahead,Array.getElem?_modify];rw[jQ (by omega)]
theorem WV:∀ w,(isAgg (Tryz.sortEnt_ren.t 24)).run prog w = .ok true w:=λw=>by kernel_rfl
theorem V8:∀ w,(Go.sizeOf (Tryz.sortEnt_ren.t 24)).run prog w = .ok 33 w:=λw=>by kernel_rfl
theorem NK(g:Nat)(size:Nat)(w:Wd):CmpLays prog 27 #[] mV 33 cfE g 0 size w:=
 λ_ _ _ _ x y=>zL x.1 y.1 _ x.2 y.2
theorem NL(base n:Nat)(v:Value)(M:List (Wl×Int))(w:Wd)(hn:n=M.length)(a5:w.ownsRow base 26 33 v n (M.flatMap aO))(b0:∀ p∈M,EntOk p)(hl:M.length<=1000)(a7:base<=w.heap.size):
  Wc 95 #[v,.func (.func 27) #[] #[]] w λe w'=>e = .returned (.tuple #[])/\∃ L:List (Wl×Int),L.Perm M/\L.Pairwise (λp q=>dJ p q<=0)/\Sn w' 33 v L.length (L.flatMap aO)/\Below base w w':=by
 subst hn;obtain⟨a3,h|⟨g,cap,Z,rfl,hb,hh,a8,hm,b2,b1⟩⟩:=a5
 ·obtain⟨rfl,h0⟩:=h;have hM:M=[]:=List.eq_nil_of_length_eq_zero h0;subst hM;have D:=AnyF.slices_SortFunc_none Tryz.sortEnt none 0 (.func (.func 27) #[] #[]) w;change Wc 95 _ _ _ at D;refine D.mono ?_;rintro e w' ⟨rfl,rfl⟩;exact⟨rfl,[],List.Perm.refl _,List.Pairwise.nil,⟨none,0,rfl,ja _,rfl,λh=>absurd h (by simp)⟩,ji _ _⟩
 ·obtain⟨d,hd⟩:∃ d:Array Ent,d.toList.map (·.1)=M:=⟨(M.attach.map λp=>(⟨p.1,b0 p.1 p.2⟩:Ent)).toArray,by
   rw[jt]
   exact List.map_map.trans (List.attach_map_subtype_val M)⟩
  have J:d.size=M.length:=by rw[<- hd];simp
  have a0:d.toList.flatMap mV=M.flatMap aO:=by rw[<- hd,List.flatMap_map];rfl
  have hH:HoldsK mV 33 w g 0 d:=by
   intro j V;rw[size_flatK] at V;have hg:=xZ d j V;rw[a0] at hg;refine⟨?_,frozen_of_row w g (0+j) Z _ hh⟩;rw[cell_of_row w g (0+j) Z _ (0,0) hh,Nat.zero_add];rw[<- b1,List.getElem?_take] at hg;split at hg
   ·simpa using hg
   ·cases hg
  have a1:g<w.heap.size:=by
   rcases jo g w.heap.size with h'|h'
   ·exact h'
   ·rw[Array.getElem?_eq_none h'] at hh;cases hh
  have eg:∀ args w,(callFunc 27 args).run prog w = .ok (.enter 27 args) w:=enters_of func27 (by kernel_rfl) rfl;have D:=AnyQ.slices_SortFunc_total Tryz.sortEnt 33 WV V8 mV mW (λx u hu=>by
   have:=gO x.1.1 x.1.2
   simp only[List.all_toArray,List.all_eq_true] at this
   exact this u hu) cfE WT 27 #[] g 0 cap d w eg (NK g d.size w) hH a1 (by omega) WU
  change Wc 95 _ _ _ at D;rw[J] at D;refine D.mono ?_;rintro e w' ⟨rfl,m,os,rfl⟩;obtain⟨d',U⟩:∃ d':Array Ent,d'=(d.toList.mergeSort λx y=>!(ltOf cfE) y x).toArray:=⟨_,rfl⟩;rw[<- U];have I:d'.toList.Perm d.toList:=by rw[U];simpa using List.mergeSort_perm d.toList _
  have O:d'.size=d.size:=by rw[<- jk,I.length_eq,jk]
  have K:d'.toList.Pairwise (λx y=>dJ x.1 y.1<=0):=by
   rw[U,jt];have h1:=List.pairwise_mergeSort (le:=λx y:Ent=>!(ltOf cfE) y x) (λx y z h1 h2=>by
    simp only[ltE,Bool.not_eq_true',decide_eq_false_iff_not] at *
    have n1:=dN x.1 y.1
    have n2:=dN y.1 z.1
    have n3:=dN x.1 z.1
    have:=lS x.1 y.1 z.1 (by omega) (by omega)
    omega) (λx y=>by
    simp only[ltE,Bool.or_eq_true,Bool.not_eq_true',decide_eq_false_iff_not]
    have n1:=dN x.1 y.1
    omega) d.toList
   refine h1.imp λ{x y} h=>?_
   simp only[ltE,Bool.not_eq_true',decide_eq_false_iff_not] at h;have n1:=dN x.1 y.1;omega
  have a6:=holdsK_sortWorldK_c mV 33 w g 0 d d' m os hH a1 O;refine⟨rfl,d'.toList.map (·.1),by rw[<- hd];exact I.map _,?_,?_,E5 w g m d' os base hb a7⟩
  ·rw[List.pairwise_map];exact K
  ·have a9:(d'.toList.map (·.1)).length=M.length:=by rw[List.length_map,jk,O,J]
   rw[a9];have R:(d'.toList.map (·.1)).flatMap aO=d'.toList.flatMap mV:=by rw[List.flatMap_map];rfl
   have a4:((d'.toList.map (·.1)).flatMap aO).length=M.length*33:=by
    rw[R,(I.flatMap_right mV).length_eq,a0];exact a3
   refine⟨_,cap,rfl,a8,a4,λ_=>⟨g,0,rfl,λj u V=>?_⟩⟩;have a2:j<d'.size*33:=by
    have:=(List.getElem?_eq_some_iff.1 V).1;rw[a4] at this;rw[O,J];exact this
   rw[R,xZ d' j a2] at V;have h1:=(a6 j (by rw[size_flatK];exact a2)).1;rw[h1];exact V
end
section
open Go.RowKit
attribute [local irreducible] wpQuiet wpAnyH
def uV(nn:Nat->Nat)(i m:Nat):Nat->Nat:=λq=>if q<8 then nn q else if 16-m<=q then i/256 ^ (15-q) % 256 else 0
def dQ(nn:Nat->Nat)(i:Nat):Nat->Nat:=uV nn i 8
theorem lU{nn:Nat->Nat}(h:aQ nn)(i m:Nat):aQ (uV nn i m):=λq=>by
 unfold uV;split
 ·exact h q
 ·split
  ·exact Nat.mod_lt _ (by omega)
  ·omega
theorem J2(nn:Nat->Nat)(i:Nat){m:Nat}(h:m<8):aY (uV nn i m) (15-m) (i/256 ^ m % 256)=uV nn i (m+1):=by
 funext q
 unfold aY uV;by_cases e:q=15-m
 ·rw[jP e,jQ (by omega),jP (by omega),show 15-q=m from by omega]
 ·rw[jQ e];by_cases e0:q<8
  ·rw[jP e0,jP e0]
  ·rw[jQ e0,jQ e0];by_cases e1:16-m<=q
   ·rw[jP e1,jP (by omega)]
   ·rw[jQ e1,jQ (by omega)]
structure BX(w W:Wd)(g:Nat)(key nn f:Nat->Nat):Prop where
 be:Bw w W
 lo:w.heap.size<=g
 k:AB W g 41 16 (c8 key)
 n:AB W (g+1) 100 8 (c8 nn)
 r:AB W (g+1+1) 41 16 (c8 λ_=>0)
 b:AB W (g+1+1+1) 41 16 (c8 f)
theorem BX.drew{w W:Wd}{g:Nat}{key nn f:Nat->Nat}(h:BX w W g key nn f):BX w W.drew g key nn f:=⟨h.be.drew,h.lo,h.k,h.n,h.r,h.b⟩
theorem BX.set{w W:Wd}{g:Nat}{key nn f:Nat->Nat}(h:BX w W g key nn f)(i v:Nat):BX w (W.setCell ⟨g+1+1+1,i,none⟩ (.int .u8 (v:Nat))) g key nn (aY f i v):=
 ⟨h.be.setCell (by have:=h.lo;show w.heap.size<=g+1+1+1;omega) _,h.lo,h.k.far (by show g≠g+1+1+1;omega) _,h.n.far (by show g+1≠g+1+1+1;omega) _,h.r.far (by show g+1+1≠g+1+1+1;omega) _,by have:=h.b.set i (.int .u8 (v:Nat));rwa [cY] at this⟩
theorem BX.lay8{w W:Wd}{g:Nat}{key nn f a:Nat->Nat}(h:BX w W g key nn f)(o m:Nat):BX w (W.setCells (g+1+1+1) o (arr m (c8 a))) g key nn (lay f o m a):=
 ⟨Below.setS (by have:=h.lo;omega) _ _ h.be,h.lo,h.k.farS (by omega) _ _,h.n.farS (by omega) _ _,h.r.farS (by omega) _ _,h.b.lay8⟩
theorem J3(key nn:Nat->Nat)(i:Nat)(w:Wd)(K:aQ key)(b3:aQ nn)(hi:i<18446744073709551616):Wc 254 #[.agg (arr 16 (c8 key)).toArray,.agg (arr 8 (c8 nn)).toArray,.int .u64 (i:Nat)] w (Rt w (.agg (arr 16 (c8 (dV key (dQ nn i)))).toArray)):=by
 have HK:=jz K;have HN:=jz b3;have HI:=jz hi;clear K b3 hi;go_enter func254,ntmps254
 go_upto_region 2 with (refine al 41 _ rfl rfl cK ?_)
 obtain⟨g,hg⟩:=je w.heap.size;obtain⟨w1,a0⟩:=je ((((w.alloc (.cells (arr 16 (c8 key)).toArray 41)).alloc (.cells (arr 8 (c8 nn)).toArray 100)).alloc (.cells z8x16 41)).alloc (.cells z8x16 41));have a4:Hid (BX w w1 g key nn (λ_=>0)):=jz (by
  rw[a0,hg]
  exact⟨((((ji _ w).alloc (ja _) _).alloc (by simp) _).alloc (by simp;omega) _).alloc (by simp;omega) _,ja _,(((Blk.new _ _ _).alloc _).alloc _).alloc _,((Blk.newAt _ _ _ _ (by simp)).alloc _).alloc _,(Blk.newAt _ _ _ _ (by simp)).alloc _,Blk.newAt _ _ _ _ (by simp)⟩)
 rw[<- a0];simp only[World.size_alloc,<- hg];clear a0 hg;have d1:prog.arrayLen 41=16:=by kernel_rfl
 have b0:prog.arrayLen 100=8:=by kernel_rfl
 obtain⟨wS,a2⟩:=je w1.drew;have J:Hid (BX w wS g key nn (λ_=>0)):=jz (by rw[a2];exact a4.drew);refine kZ (n:=4) (λW=>True) trivial (h:=λhH=>?_);rw[<- a2];clear a2 a4;refine qT 0 (.slice (some ⟨g+1+1+1,0,none⟩) 16 16) ?_;refine qT 1 (.slice (some ⟨g+1,0,none⟩) 8 8) ?_;have c3:Sn wS 1 (.slice (some ⟨g+1,0,none⟩) 8 8) 8 (arr 8 (c8 nn)):=⟨_,8,rfl,ja _,by rw[aA],λ_=>⟨g+1,0,rfl,J.n.range⟩⟩;refine kCp 2 (some 12) (dn:=16) (dc:=16) underlying60 (by kernel_rfl) c3 (show 8<=16 by omega) (J.b.there (o:=0) (m:=8) (by omega)) (λu hu=>by obtain⟨q,_,rfl⟩:=List.mem_map.1 hu;rfl) trivial (h:=?_);simp only[jq];refine qT 3 (.int .i64 8) ?_;refine kE (h:=?_);obtain⟨w3,a1⟩:=je (wS.setCells (g+1+1+1) 0 (arr 8 (c8 nn)));have a5:Hid (BX w w3 g key nn (uV nn i 0)):=jz (by
  rw[a1]
  have h:=J.lay8 (a:=nn) 0 8
  refine⟨h.be,h.lo,h.k,h.n,h.r,h.b.ext (λq hq=>?_)⟩
  unfold c8 lay uV
  by_cases e:q<8
  ·rw[jP (by omega),jP e,Nat.sub_zero]
  ·rw[jQ (by omega),jQ e,jQ (by omega)])
 rw[<- a1];clear a1 c3 J hH d1 b0;go_wp2_with fail
 go_loopw [9,2] (λx y wr=>∃ m:Nat,m<=8/\x = .int .i64 (15-(m:Int))/\y = .int .u64 ((i/256 ^ m:Nat):Int)/\Hid (BX w wr g key nn (uV nn i m))) (λx _ _=>(intOf x).toNat)
 case atStart=>exact⟨0,j0 _,by simp,by simp,a5⟩
 case round=>
  clear a5;obtain⟨m,hm,rfl,rfl,R⟩:=hrel;obtain⟨L,U⟩:=je (i/256 ^ m);have V:L/256=i/256 ^ (m+1):=by rw[U,Nat.div_div_eq_div_mul,Nat.pow_succ]
  have a9:L<=i:=by rw[U];exact Nat.div_le_self _ _
  have e2:L<18446744073709551616:=by have:=HI.out;omega
  rw[<- U];rcases jo m 8 with d4|d2
  ·have e1:((L % 256:Nat):Int)=(L:Int) % 256:=by omega
   have I:=R.set (15-m) (L % 256);rw[U,J2 nn i d4,<- U,e1] at I;have I:=jz I;obtain⟨old,O⟩:=je (uV nn i m (15-m));have e3:wr.cell? ⟨g+1+1+1,15-m,none⟩=some (.int .u8 (old:Nat)):=by rw[O];exact R.b.cell (by omega)
   have e4:=R.b.frozen (15-m);have e5:(0:Int)<=15-(m:Int):=by omega
   have e6:(15:Int)-(m:Int)<16:=by omega
   have d3:(8:Int)<=15-(m:Int):=by omega
   have e7:((15:Int)-(m:Int)).toNat=15-m:=by omega
   have c9:Hid ((L:Int)/256=((i/256 ^ (m+1):Nat):Int)):=jz (by rw[<- V];omega);have e0:(0:Int)<=L:=by omega
   clear O e1 R U V a9;go_wp2_with fail
   exact⟨⟨m+1,by omega,by go_num,by rw[c9.out],I⟩,by simp[intOf];omega⟩
  ·have b2:m=8:=by omega
   have d3:¬(8:Int)<=15-(m:Int):=by omega
   have D:Hid (BX w wr g key nn (dQ nn i)):=jz (by rw[b2] at R;exact R);have b9:=D.k.range;have a8:=bP (L:=arr 16 (c8 key)) (aA _ _);have b7:=D.b.range;have a7:=bP (L:=arr 16 (c8 (dQ nn i))) (aA _ _);have c7:=jz (λW=>CP key (dQ nn i) W HK (lU HN i 8));clear R b2 hm d2 U V a9;go_wp2_with (first
    | (refine ld 41 (.tmp 3) rfl rfl rfl b9 underlying41 rfl a8 ?_)
    | (refine ld 41 (.tmp 7) rfl rfl rfl b7 underlying41 rfl a7 ?_))
   refine(c7 _).mono ?_;rintro e w7 ⟨rfl,Z⟩;have c5:Blk w7 (g+1+1) 41 z8x16:=D.r.keep Z;have a3:=jz (And.intro (D.be.trans (Z.mono D.be.size)) D.lo);have hI:=bP (L:=arr 16 (c8 (dV key (dQ nn i)))) (aA _ _);obtain⟨M,hM⟩:=je (arr 16 (c8 (dV key (dQ nn i))));rw[<- hM] at hI ⊢;have c2:(prog.info? 41).map (·.size)=some M.toArray.size:=by rw[js];exact hI
   have d5:z8x16.size=M.toArray.size:=by rw[hM,aC];exact aC 16 _
   have d7:M.toArray.all (·.oneCell')=true:=by rw[hM];exact aP (λ_=>rfl)
   have d0:=jz hM;clear hM Z D b9 a8 b7 a7;go_wp2_with (refine aN 41 (.tmp 6) (.tmp 26) rfl rfl rfl rfl c5 c2 d5 d7 ?_;intro w9 a6 b1 _ _;have c4:=jz a6;have c6:=jz b1;clear a6 b1)
   exact bodyPost_ret (results_cell_row rfl _ _ (g+1+1) 41 _ (0,0) _ rfl c4 underlying41 rfl c2) rfl ⟨by rw[<- d0.out],a3.out.1.trans (c6.mono (by have:=a3.out.2;omega))⟩
def sL(key nn:Nat->Nat)(used:Nat):Wv:=arr 16 (c8 key)++arr 8 (c8 nn)++[.int .i64 (used:Nat)]
theorem NO{L:Wv}(h:L.length=8):(prog.info? 100).map (·.size)=some L.length:=by rw[h];kernel_rfl
theorem RJ(key nn:Nat->Nat)(w:Wd):Wc 213 #[.agg (arr 16 (c8 key)).toArray,.agg (arr 8 (c8 nn)).toArray] w λe w'=>∃ p,e = .returned (.pointer (some ⟨p,0,none⟩))/\Blk w' p 338 (sL key nn 0).toArray/\w.heap.size<=p/\Bw w w':=by
 go_enter func213,ntmps213
 go_upto_region 1 with fail
 obtain⟨g,hg⟩:=je w.heap.size;obtain⟨Z,D⟩:=je ((w.alloc (.cells (arr 16 (c8 key)).toArray 41)).alloc (.cells (arr 8 (c8 nn)).toArray 100));have I:Hid (Bw w Z/\w.heap.size<=g/\AB Z g 41 16 (c8 key)/\AB Z (g+1) 100 8 (c8 nn)):=jz (by
  rw[D,hg]
  exact⟨((ji _ w).alloc (ja _) _).alloc (by simp) _,ja _,(Blk.new _ _ _).alloc _,Blk.newAt _ _ _ _ (by simp)⟩)
 rw[<- D];simp only[World.size_alloc,<- hg];clear D hg;have U:=I.out.2.2.1.range;have O:=bP (L:=arr 16 (c8 key)) (aA _ _);have V:=I.out.2.2.2.range;have R:=NO (L:=arr 8 (c8 nn)) (aA _ _);have J:prog.built 338 [(0,.agg (arr 16 (c8 key)).toArray),(1,.agg (arr 8 (c8 nn)).toArray)]=some (sL key nn 0).toArray:=by kernel_rfl
 obtain⟨C,K⟩:=je (sL key nn 0);rw[<- K] at J;have HC:=jz K;clear K;go_wp2_with (first
  | (refine ld 41 (.tmp 2) rfl rfl rfl U underlying41 rfl O ?_)
  | (refine ld 100 (.tmp 3) rfl rfl rfl V underlying100 rfl R ?_)
  | (refine gF 338 _ rfl (by rfl) (by rfl) J ?_))
 go_ret;exact⟨_,rfl,by rw[<- HC.out];exact Blk.new _ _ _,I.out.1.size,I.out.1.alloc (I.out.1.size) _⟩
end
end Go.Proofs.YtjjlaipkkdncfaaGreatDoor
