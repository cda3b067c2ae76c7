import Derived.Test.YtiaigidbcljblaaGreatDoorMB14
import Derived.Test.YtiaigidbcljblaaGreatDoorMB13
set_option linter.unusedVariables false
set_option linter.unusedSimpArgs false
set_option maxRecDepth 100000
set_option maxHeartbeats 40000000
namespace Go.Proofs.YtiaigidbcljblaaGreatDoor
open Go.Proofs.Tryz
section
open Go.RowKit
attribute [local irreducible] wpQuiet wpAnyH
def z8x176:Wa:=(arr 176 (c8 λ_=>0)).toArray
theorem yQ:∀ w,(zeroValue 456).run prog w = .ok (.agg z8x176) w:=λw=>by unfold z8x176;kernel_rfl
structure KX(w W:Wd)(g:Nat)(key f:Nat->Nat):Prop where
 be:Bw w W
 lo:w.heap.size<=g
 p:AB W g 35 16 (c8 key)
 z:AB W (g+1) 456 176 (c8 λ_=>0)
 m:AB W (g+1+1) 456 176 (c8 f)
theorem KX.keep{w W W':Wd}{g:Nat}{key f:Nat->Nat}(h:KX w W g key f)(hb:Bw W W'):KX w W' g key f:=⟨h.be.trans (hb.mono h.be.size),h.lo,h.p.keep hb,h.z.keep hb,h.m.keep hb⟩
theorem KX.drew{w W:Wd}{g:Nat}{key f:Nat->Nat}(h:KX w W g key f):KX w W.drew g key f:=⟨h.be.drew,h.lo,h.p,h.z,h.m⟩
theorem KX.fn{w W:Wd}{g:Nat}{key f f':Nat->Nat}(h:KX w W g key f)(e:∀ q,q<176->f q=f' q):KX w W g key f':=⟨h.be,h.lo,h.p,h.z,h.m.ext (λq j=>by unfold c8;rw[e q j])⟩
theorem KX.set{w W:Wd}{g:Nat}{key f:Nat->Nat}(h:KX w W g key f)(i v:Nat):KX w (W.setCell ⟨g+1+1,i,none⟩ (.int .u8 (v:Nat))) g key (cJ f i v):=
 ⟨h.be.setCell (by have:=h.lo;show w.heap.size<=g+1+1;omega) _,h.lo,h.p.far (by show g≠g+1+1;omega) _,h.z.far (by show g+1≠g+1+1;omega) _,by have:=h.m.set i (.int .u8 (v:Nat));rwa [gV] at this⟩
theorem KX.far{w W:Wd}{g:Nat}{key f:Nat->Nat}(h:KX w W g key f){p:Addr}(j:g+1+1<p.block)(u:Value):KX w (W.setCell p u) g key f:=
 ⟨h.be.setCell (by have:=h.lo;omega) _,h.lo,h.p.far (by omega) _,h.z.far (by omega) _,h.m.far (by omega) _⟩
theorem KX.lay16{w W:Wd}{g:Nat}{key f a:Nat->Nat}(h:KX w W g key f)(o:Nat):KX w (W.setCells (g+1+1) o (arr 16 (c8 a))) g key (lay f o 16 a):=
 ⟨Below.setS (by have:=h.lo;omega) _ _ h.be,h.lo,h.p.farS (by omega) _ _,h.z.farS (by omega) _ _,h.m.lay8⟩
structure CX(w W:Wd)(g gb ga:Nat)(key f bf c:Nat->Nat):Prop where
 k:KX w W g key f
 b:AB W gb 35 16 (c8 bf)
 c:AB W ga 462 4 (c8 c)
 hb:g+1+1<gb
 ha:gb<ga
theorem CX.drew{w W:Wd}{g gb ga:Nat}{key f bf c:Nat->Nat}(h:CX w W g gb ga key f bf c):CX w W.drew g gb ga key f bf c:=⟨h.k.drew,h.b,h.c,h.hb,h.ha⟩
theorem O9(key:Nat->Nat)(w:Wd)(d5:bD key):Wc 347 #[.agg (arr 16 (c8 key)).toArray] w (Rt w (.agg (arr 176 (c8 λq=>kyF key (q/16) (q % 16))).toArray)):=by
 have HK:=jz d5;clear d5;go_enter func347,ntmps347
 go_upto_region 2 with (refine al 456 _ rfl rfl yQ ?_)
 obtain⟨g,hg⟩:=je w.heap.size;obtain⟨w1,f8⟩:=je (((w.alloc (.cells (arr 16 (c8 key)).toArray 35)).alloc (.cells z8x176 456)).alloc (.cells z8x176 456));have b7:Hid (KX w w1 g key (λ_=>0)):=jz (by
  rw[f8,hg]
  exact⟨(((ji _ w).alloc (ja _) _).alloc (by simp) _).alloc (by simp;omega) _,ja _,((Blk.new _ _ _).alloc _).alloc _,(Blk.newAt _ _ _ _ (by simp)).alloc _,Blk.newAt _ _ _ _ (by simp)⟩)
 rw[<- f8];simp only[World.size_alloc,<- hg];clear f8 hg;have f7:=b7.p.range;have c3:=dW (L:=arr 16 (c8 key)) (aB _ _);obtain⟨KL,a0⟩:=je (arr 16 (c8 key));have n1:=jz a0;rw[<- a0] at f7 c3;have m3:w1.there (g+1+1) 0 KL.length:=by rw[a0,aB];exact b7.m.there (by omega)
 have h8:KL.toArray.all (·.oneCell')=true:=by rw[a0];exact bW (λ_=>rfl)
 obtain⟨w2,x⟩:=je (w1.setCells (g+1+1) 0 KL);have h3:Hid (KX w w2 g key (kAt key 1 0)):=jz (by
  rw[x,a0]
  exact(b7.lay16 0).fn (λq _=>(TH key q).symm))
 have h5:=jz x;clear a0 x b7;go_wp2_with (first
  | (refine ld 35 (.tmp 1) rfl rfl rfl f7 underlying35 rfl c3 ?_)
  | (refine VY 35 (.tmp 10) (.tmp 9) rfl rfl rfl rfl m3 c3 h8 ?_;rw[<- h5.out];clear h5 f7 c3 m3 h8 n1))
 go_loopw [4,5] (λp i wr=>∃ n:Nat,n<=10/\p = .int .u8 (pwr n:Nat)/\i = .int .i64 ((n:Int)+1)/\Hid (KX w wr g key (kAt key (n+1) 0))) (λ_ i _=>11-(intOf i).toNat)
 case atStart=>exact⟨0,j0 _,rfl,rfl,h3⟩
 case round=>
  clear h3;obtain⟨n,hn,rfl,rfl,HM⟩:=hrel;rcases jo n 10 with r5|q3
  ·have s0:(0:Int)<=(n:Int)+1-1:=by omega
   have s1:(n:Int)+1<11:=by omega
   have s3:(n:Int)+1-1<11:=by omega
   have t2:(n:Int)+1-1=(n:Int):=by omega
   have s4:(0:Int)<=(n:Int)+1:=by omega
   have s5:¬((n:Int)+1<0):=by omega
   have f2:wr.rangeAt (g+1+1) (n*16) (arr 16 (c8 (kyF key n))):=by
    rw[Nat.mul_comm];have h:=HM.m.part (o:=16*n) (m:=16) (by omega);rw[tK (λk hk=>by show Value.int .u8 ((kAt key (n+1) 0 (16*n+k):Nat):Int)=c8 (kyF key n) k;rw[TJ key hk];rfl)] at h;exact h
   have c2:=dW (L:=arr 16 (c8 (kyF key n))) (aB _ _);obtain⟨pw,f6⟩:=je (pwr n);rw[<- f6];have a7:=jz f6;obtain⟨B,hB⟩:=je (arr 16 (c8 (kyF key n)));have HB:=jz hB;rw[<- hB] at f2 c2;have b0:(prog.info? 35).map (·.size)=some B.toArray.size:=by rw[js];exact c2
   have c9:z8x16.size=B.toArray.size:=by rw[hB,aK];exact aK 16 _
   have d0:B.toArray.all (·.oneCell')=true:=by rw[hB];exact bW (λ_=>rfl)
   clear hB f6;have g3:Blk (wr.alloc (.cells z8x16 35)) wr.heap.size 35 z8x16:=Blk.new _ _ _;have HP:=jz (FZ n);go_upto_region 8 with (first
    | (refine ld 35 (.tmp 17) rfl rfl rfl f2 underlying35 rfl c2 ?_)
    | (refine al 35 _ rfl rfl fB ?_)
    | (refine aO 35 (.tmp 6) (.tmp 18) rfl rfl rfl rfl g3 b0 c9 d0 ?_;intro w3 h9 k2 _ m5;have f9:=jz h9;have h2:=jz k2;have q1:=jz m5;clear h9 k2 m5))
   clear f2 c2 b0 c9 d0 g3;obtain⟨gb,c6⟩:=je wr.heap.size;obtain⟨bf,c4⟩:=je (kyF key n);have U:Hid (bD bf):=jz (by rw[c4];exact rG HK n);have q4:g+1+1<gb:=by rw[c6];exact HM.m.lt
   have f1:Hid (KX w w3 g key (kAt key (n+1) 0)):=jz (HM.keep (((ji _ wr).alloc (ja _) _).trans h2));have f0:Hid (AB w3 gb 35 16 (c8 bf)):=jz (by
    have h:=f9.out
    rw[HB.out,<- c4,<- c6] at h
    exact h)
   have g1:=jz c4;rw[<- c6];clear c6 c4 HM f9 h2 q1
   try simp only[jq]
   go_cut [7] (λu W=>∃ ga,u = .pointer (some ⟨ga,0,none⟩)/\Hid (CX w W g gb ga key (kAt key (n+1) 0) bf (KV bf pw)))
   case first=>
    obtain⟨J,D⟩:=je w3.drew;have q0:Hid (KX w J g key (kAt key (n+1) 0)):=jz (by rw[D];exact f1.drew);have e0:Hid (AB J gb 35 16 (c8 bf)):=jz (by rw[D];exact f0);have O:Hid (AB (J.alloc (.cells pU 462)) gb 35 16 (c8 bf)):=jz (e0.keep ((ji _ J).alloc (ja _) _));have V:Hid (AB (J.alloc (.cells pU 462)) J.heap.size 462 4 (c8 λ_=>0)):=jz (Blk.new _ _ _);have n4:Hid (pw<256):=jz (by rw[a7.out];exact HP);have HA:=jz (λW=>pT (bf 13) W (U 13));have HB2:=jz (λW=>pT (bf 14) W (U 14));have HC:=jz (λW=>pT (bf 15) W (U 15));have HD:=jz (λW=>pT (bf 12) W (U 12));have hxo:=u8_xor_nat (lL (bf 13)) pw (oC _) n4.out;have HKC:Hid (arr 4 (c8 (KV bf pw))=[.int .u8 (lL (bf 13) ^^^ pw:Nat),.int .u8 (lL (bf 14):Nat),.int .u8 (lL (bf 15):Nat),.int .u8 (lL (bf 12):Nat)]):=jz rfl;generalize lL (bf 13)=xA at HA hxo HKC;generalize lL (bf 14)=xB at HB2 HKC;generalize lL (bf 15)=xC at HC HKC;generalize lL (bf 12)=xD at HD HKC;obtain⟨CS,a9⟩:∃ L:Wv,L=[.int .u8 (xA ^^^ pw:Nat),.int .u8 (xB:Nat),.int .u8 (xC:Nat),.int .u8 (xD:Nat)]:=⟨_,rfl⟩;have a3:prog.built 462 [(0,.int .u8 (xA ^^^ pw:Nat)),(1,.int .u8 (xB:Nat)),(2,.int .u8 (xC:Nat)),(3,.int .u8 (xD:Nat))]=some CS.toArray:=by rw[a9];kernel_rfl
    have a5:CS.length=4:=by rw[a9];rfl
    have a4:∀ u∈CS,u.oneCell'=true:=by
     intro u hu;rw[a9] at hu;simp only[jl,j8,or_false] at hu;rcases hu with rfl|rfl|rfl|rfl <;> rfl
    have a8:Hid ((J.alloc (.cells pU 462)).there J.heap.size 0 4):=jz (V.there (by omega));have q5:gb<J.heap.size:=e0.lt;have Z:Hid (AB ((J.alloc (.cells pU 462)).setCells J.heap.size 0 CS) gb 35 16 (c8 bf)):=jz (O.farS (by omega) _ _);have a6:Hid (CX w ((J.alloc (.cells pU 462)).setCells J.heap.size 0 CS) g gb J.heap.size key (kAt key (n+1) 0) bf (KV bf pw)):=jz (by
     have hk:=q0.keep ((ji _ J).alloc (ja _) (.cells pU 462))
     refine⟨⟨Below.setS (by have:=hk.lo;omega) _ _ hk.be,hk.lo,hk.p.farS (by omega) _ _,hk.z.farS (by omega) _ _,hk.m.farS (by omega) _ _⟩,Z,?_,q4,q5⟩
     rw[a9,<- HKC.out]
     exact(V.lay8 (f:=λ_=>0)).ext (λq hq=>by
      unfold c8 lay
      rw[jP (by omega)]
      rfl))
    clear a9 f1 f0;refine kZ (n:=17) (λW=>AB W gb 35 16 (c8 bf)) (by rw[<- D];exact e0) (h:=λhH=>?_);rw[<- D] at hH ⊢;clear D;refine qT 0 (.pointer (some ⟨gb,13,none⟩)) ?_;refine qC 1 (v:=.int .u8 (bf 13:Nat)) (λW R=>R.cell (i:=13) (by omega)) ?_;refine qM 3 (.int .u8 (pw:Nat)) ?_;refine qT 5 (.pointer (some ⟨gb,14,none⟩)) ?_;refine qC 6 (v:=.int .u8 (bf 14:Nat)) (λW R=>R.cell (i:=14) (by omega)) ?_;refine qT 8 (.pointer (some ⟨gb,15,none⟩)) ?_;refine qC 9 (v:=.int .u8 (bf 15:Nat)) (λW R=>R.cell (i:=15) (by omega)) ?_;refine qT 11 (.pointer (some ⟨gb,12,none⟩)) ?_;refine qC 12 (v:=.int .u8 (bf 12:Nat)) (λW R=>R.cell (i:=12) (by omega)) ?_;refine jW [2,15] (rF 2 (some 21) ((HA _).mono ?_) (rA 15 (some 7) pU oD O ?_ jN))
    ·rintro e w2 ⟨rfl,x⟩;rw[x];clear x w2;refine⟨_,rfl,hH,λ_=>?_⟩;simp only[jq];refine qT 4 (.int .u8 (xA ^^^ pw:Nat)) ?_;refine jW [7,15] (rF 7 (some 26) ((HB2 _).mono ?_) (rA 15 (some 7) pU oD O ?_ jN))
     ·rintro e w2 ⟨rfl,x⟩;rw[x];clear x w2;refine⟨_,rfl,hH,λ_=>?_⟩;simp only[jq];refine jW [10,15] (rF 10 (some 29) ((HC _).mono ?_) (rA 15 (some 7) pU oD O ?_ jN))
      ·rintro e w2 ⟨rfl,x⟩;rw[x];clear x w2;refine⟨_,rfl,hH,λ_=>?_⟩;simp only[jq];refine jW [13,15] (rF 13 (some 32) ((HD _).mono ?_) (rA 15 (some 7) pU oD O ?_ jN))
       ·rintro e w2 ⟨rfl,x⟩;rw[x];clear x w2;refine⟨_,rfl,hH,λ_=>?_⟩;simp only[jq];refine kB 14 (some 33) (vs:=[(0,.int .u8 (xA ^^^ pw:Nat)),(1,.int .u8 (xB:Nat)),(2,.int .u8 (xC:Nat)),(3,.int .u8 (xD:Nat))]) a3 (h:=?_);simp only[jq];refine jW [15] (rA 15 (some 7) pU oD O ?_ jN);simp only[jq];have I:=O.out;refine kR 16 none a8 a5 a4 (Z) (h:=?_);simp only[jq];refine kE (h:=?_);go_wp2_with fail
        go_meet
        exact⟨_,rfl,a6⟩
       ·simp only[jq];have I:=O.out;refine kF 13 (some 32) ((HD _).mono ?_);rintro e w2 ⟨rfl,x⟩;rw[x];clear x w2;refine⟨_,rfl,I,λ_=>?_⟩;simp only[jq];refine kB 14 (some 33) (vs:=[(0,.int .u8 (xA ^^^ pw:Nat)),(1,.int .u8 (xB:Nat)),(2,.int .u8 (xC:Nat)),(3,.int .u8 (xD:Nat))]) a3 (h:=?_);simp only[jq];refine kR 16 none a8 a5 a4 (Z) (h:=?_);simp only[jq];refine kE (h:=?_);go_wp2_with fail
        go_meet
        exact⟨_,rfl,a6⟩
      ·simp only[jq];have I:=O.out;refine kF 10 (some 29) ((HC _).mono ?_);rintro e w2 ⟨rfl,x⟩;rw[x];clear x w2;refine⟨_,rfl,I,λ_=>?_⟩;simp only[jq];refine kF 13 (some 32) ((HD _).mono ?_);rintro e w2 ⟨rfl,x⟩;rw[x];clear x w2;refine⟨_,rfl,I,λ_=>?_⟩;simp only[jq];refine kB 14 (some 33) (vs:=[(0,.int .u8 (xA ^^^ pw:Nat)),(1,.int .u8 (xB:Nat)),(2,.int .u8 (xC:Nat)),(3,.int .u8 (xD:Nat))]) a3 (h:=?_);simp only[jq];refine kR 16 none a8 a5 a4 (Z) (h:=?_);simp only[jq];refine kE (h:=?_);go_wp2_with fail
       go_meet
       exact⟨_,rfl,a6⟩
     ·simp only[jq];have I:=O.out;refine kF 7 (some 26) ((HB2 _).mono ?_);rintro e w2 ⟨rfl,x⟩;rw[x];clear x w2;refine⟨_,rfl,I,λ_=>?_⟩;simp only[jq];refine kF 10 (some 29) ((HC _).mono ?_);rintro e w2 ⟨rfl,x⟩;rw[x];clear x w2;refine⟨_,rfl,I,λ_=>?_⟩;simp only[jq];refine kF 13 (some 32) ((HD _).mono ?_);rintro e w2 ⟨rfl,x⟩;rw[x];clear x w2;refine⟨_,rfl,I,λ_=>?_⟩;simp only[jq];refine kB 14 (some 33) (vs:=[(0,.int .u8 (xA ^^^ pw:Nat)),(1,.int .u8 (xB:Nat)),(2,.int .u8 (xC:Nat)),(3,.int .u8 (xD:Nat))]) a3 (h:=?_);simp only[jq];refine kR 16 none a8 a5 a4 (Z) (h:=?_);simp only[jq];refine kE (h:=?_);go_wp2_with fail
      go_meet
      exact⟨_,rfl,a6⟩
    ·simp only[jq];have I:=O.out;refine kF 2 (some 21) ((HA _).mono ?_);rintro e w2 ⟨rfl,x⟩;rw[x];clear x w2;refine⟨_,rfl,I,λ_=>?_⟩;simp only[jq];refine qT 4 (.int .u8 (xA ^^^ pw:Nat)) ?_;refine kF 7 (some 26) ((HB2 _).mono ?_);rintro e w2 ⟨rfl,x⟩;rw[x];clear x w2;refine⟨_,rfl,I,λ_=>?_⟩;simp only[jq];refine kF 10 (some 29) ((HC _).mono ?_);rintro e w2 ⟨rfl,x⟩;rw[x];clear x w2;refine⟨_,rfl,I,λ_=>?_⟩;simp only[jq];refine kF 13 (some 32) ((HD _).mono ?_);rintro e w2 ⟨rfl,x⟩;rw[x];clear x w2;refine⟨_,rfl,I,λ_=>?_⟩;simp only[jq];refine kB 14 (some 33) (vs:=[(0,.int .u8 (xA ^^^ pw:Nat)),(1,.int .u8 (xB:Nat)),(2,.int .u8 (xC:Nat)),(3,.int .u8 (xD:Nat))]) a3 (h:=?_);simp only[jq];refine kR 16 none a8 a5 a4 (Z) (h:=?_);simp only[jq];refine kE (h:=?_);go_wp2_with fail
     go_meet
     exact⟨_,rfl,a6⟩
   case rest=>
    rename Wd=>wc
    obtain⟨ga,rfl,g8⟩:=hcut;clear f1 f0;go_wp2_with fail
    go_loopw [34] (λi wr2=>∃ j:Nat,j<=16/\i = .int .i64 (j:Int)/\Hid (CX w wr2 g gb ga key (kAt key (n+1) j) bf (rE bf pw j))) (λi _=>16-(intOf i).toNat)
    case atStart=>exact⟨0,j0 _,rfl,g8⟩
    case round=>
     clear g8;obtain⟨j,hj,rfl,b1⟩:=hrel
     rename Wd=>wj
     rcases jo j 16 with f4|k4
     ·have q6:(0:Int)<=j:=by omega
      have r1:(j:Int)<16:=by omega
      obtain⟨jm,c7⟩:=je (j % 4);have r0:(j:Int) % 4=(jm:Int):=by omega
      have r6:Int.tmod (j:Int) 4=(jm:Int):=by rw[Int.tmod_eq_emod_of_nonneg q6];exact r0
      have q7:(0:Int)<=jm:=by omega
      have r7:(jm:Int)<4:=by omega
      have f5:jm<4:=by omega
      obtain⟨co,a1⟩:=je (rE bf pw j jm);have q2:co<256:=by rw[a1];exact tL U (by rw[a7.out];exact HP) j jm
      have hxo:=u8_xor_nat co (bf j) q2 (U j);go_upto_region 12 with fail
      obtain⟨J,D⟩:=je wj.drew;have K:Hid (CX w J g gb ga key (kAt key (n+1) j) bf (rE bf pw j)):=jz (by rw[D];exact b1.drew);have c5:J.cell? ⟨ga,jm,none⟩=some (.int .u8 (co:Nat)):=by rw[a1];exact K.c.cell f5
      have f3:=K.c.frozen jm;have g2:Hid (J.cell? ⟨gb,j,none⟩=some (.int .u8 (bf j:Nat))):=jz (K.b.cell f4);obtain⟨X,R⟩:=je (co ^^^ bf j);obtain⟨wz,a2⟩:=je (J.setCell ⟨ga,jm,none⟩ (.int .u8 (X:Nat)));have V:Hid (CX w wz g gb ga key (kAt key (n+1) j) bf (rE bf pw (j+1))):=jz (by
       have h:=K.out
       have e1:=h.hb
       have e2:=h.ha
       have h1:=h.c.set jm (.int .u8 (X:Nat))
       rw[gV,<- a2] at h1
       refine⟨by rw[a2];exact h.k.far (by show g+1+1<ga;omega) _,by rw[a2];exact h.b.far (by show gb≠ga;omega) _,?_,h.hb,h.ha⟩
       rw[R,a1,c7] at h1
       exact h1)
      have h6:Hid (rE bf pw (j+1) jm=X):=jz (by
       rw[R,a1,c7]
       exact pS _ _ _)
      have n6:Hid (X=nk bf pw j):=jz (by rw[R,a1,c7];rfl);rw[<- R] at hxo;have r2:(0:Int)<=(jm:Nat):=q7;clear R a1 b1 c7;refine kZ (n:=10) (λW=>W.cell? ⟨gb,j,none⟩=some (.int .u8 (bf j:Nat))) (by rw[<- D];exact g2) (h:=λhH=>?_);rw[<- D] at hH ⊢;clear D;refine qM 0 (.int .i64 (j:Int)) ?_;refine qM 4 (.int .i64 (j:Int)) ?_;refine qT 5 (.pointer (some ⟨gb,j,none⟩)) ?_;refine qC 6 (v:=.int .u8 (bf j:Nat)) (λW R=>R) ?_;refine qT 1 (.int .i64 (jm:Nat)) ?_;refine qT 2 (.pointer (some ⟨ga,jm,none⟩)) ?_;refine kS 3 (some 40) (.int .u8 (co:Nat)) J (hS:=hH) (h:=?_);simp only[jq];refine qT 7 (.int .u8 (X:Nat)) ?_;refine qT 8 (.pointer (some ⟨ga,jm,none⟩)) ?_;refine kW 9 none (J.setCell ⟨ga,jm,none⟩ (.int .u8 (X:Nat))) (hS:=by rw[<- a2];exact V.b.cell f4) (h:=?_);simp only[jq];refine kE (h:=?_);rw[<- a2];clear a2 c5 f3 g2 hH K;go_upto_region 13 with fail
      obtain⟨J,D⟩:=je wz.drew;have K:Hid (CX w J g gb ga key (kAt key (n+1) j) bf (rE bf pw (j+1))):=jz (by rw[D];exact V.drew);have h7:Hid (J.cell? ⟨ga,jm,none⟩=some (.int .u8 (X:Nat))):=jz (by rw[<- h6.out];exact K.c.cell f5);have c5:J.cell? ⟨g+1+1,(n+1)*16+j,none⟩=some (.int .u8 (kAt key (n+1) j ((n+1)*16+j):Nat)):=K.k.m.cell (by omega);have f3:=K.k.m.frozen ((n+1)*16+j);obtain⟨old,d7⟩:=je (kAt key (n+1) j ((n+1)*16+j));rw[<- d7] at c5;obtain⟨wf,d1⟩:=je (J.setCell ⟨g+1+1,(n+1)*16+j,none⟩ (.int .u8 (X:Nat)));have h0:Hid (CX w wf g gb ga key (kAt key (n+1) (j+1)) bf (rE bf pw (j+1))):=jz (by
       have h:=K.out
       have e1:=h.hb
       have e2:=h.ha
       rw[d1]
       refine⟨(h.k.set ((n+1)*16+j) X).fn (λq _=>?_),h.b.far (by show gb≠g+1+1;omega) _,h.c.far (by show ga≠g+1+1;omega) _,h.hb,h.ha⟩
       rw[n6.out,g1.out,a7.out,Nat.mul_comm]
       exact TI key f4 q)
      have t1:((n:Int)+1).toNat=n+1:=by omega
      clear d7 V;refine kZ (n:=9) (λW=>W.cell? ⟨ga,jm,none⟩=some (.int .u8 (X:Nat))) (by rw[<- D];exact h7) (h:=λhH=>?_);rw[<- D] at hH ⊢;clear D;refine qM 0 (.int .i64 ((n:Int)+1)) ?_;refine qM 1 (.int .i64 (j:Int)) ?_;refine qM 2 (.int .i64 (j:Int)) ?_;refine qT 6 (.pointer (some ⟨g+1+1,(n+1)*16,none⟩)) ?_;refine qT 3 (.int .i64 (jm:Nat)) ?_;refine qT 4 (.pointer (some ⟨ga,jm,none⟩)) ?_;refine qC 5 (v:=.int .u8 (X:Nat)) (λW R=>R) ?_;refine qT 7 (.pointer (some ⟨g+1+1,(n+1)*16+j,none⟩)) ?_;refine kW 8 none (J.setCell ⟨g+1+1,(n+1)*16+j,none⟩ (.int .u8 (X:Nat))) (hS:=by rw[<- d1,<- h6.out];exact h0.c.cell f5) (h:=?_);simp only[jq];refine kE (h:=?_);rw[<- d1];clear d1 c5 f3 h7 hH K hxo;go_wp2_with fail
      exact⟨⟨j+1,by omega,by go_num,h0⟩,by simp[intOf];omega⟩
     ·have d2:j=16:=by omega
      have r3:¬(j:Int)<16:=by omega
      have n2:Hid (KX w wj g key (kAt key (n+1+1) 0)):=jz (b1.k.fn (λq _=>by rw[d2];exact OY key (n+1) q));clear d2 hj k4 b1;have e8:=jz (λW v hs=>OX pw 2 v W (by rw[a7.out];exact HP) (by omega) hs);have h4:Hid (uZ pw 2=pwr (n+1)):=jz (by rw[a7.out];rfl);obtain⟨P2,k1⟩:=je (uZ pw 2);rw[<- k1] at e8 h4;clear k1;go_wp2_with fail
      refine(e8 _ _ (Sn.new wj #[.int .u8 2] 5 1 1 rfl)).mono ?_;rintro e w7 ⟨rfl,m4⟩;rw[m4];clear m4 w7 e8;have n0:=jz (n2.keep ((ji _ wj).alloc (ja _) (.cells #[.int .u8 2] 5)));go_wp2_with fail
      exact⟨⟨n+1,by omega,by rw[h4.out],by go_num,n0⟩,by simp[intOf];omega⟩
  ·have m1:n=10:=by omega
   have t0:¬((n:Int)+1<11):=by omega
   have hD:AB wr (g+1+1) 456 176 (c8 λq=>kyF key (q/16) (q % 16)):=HM.m.ext (λq hq=>by
    show Value.int .u8 ((kAt key (n+1) 0 q:Nat):Int)=Value.int .u8 ((kyF key (q/16) (q % 16):Nat):Int)
    unfold kAt
    rw[jP (by omega)])
   have m2:=hD.range;have m8:Blk wr (g+1) 456 z8x176:=HM.z;have g0:=jz (And.intro HM.be HM.lo);have hI:(prog.info? 456).map (·.size)=some (arr 176 (c8 λq=>kyF key (q/16) (q % 16))).length:=by rw[aB];kernel_rfl
   obtain⟨M,hM⟩:=je (arr 176 (c8 λq=>kyF key (q/16) (q % 16)));rw[<- hM] at m2 hI;have b0:(prog.info? 456).map (·.size)=some M.toArray.size:=by rw[js];exact hI
   have c9:z8x176.size=M.toArray.size:=by rw[hM,aK];exact aK 176 _
   have d0:M.toArray.all (·.oneCell')=true:=by rw[hM];exact bW (λ_=>rfl)
   have n3:=jz hM;clear hM HM hD m1 q3 hn;go_wp2_with (first
    | (refine ld 456 (.tmp 3) rfl rfl rfl m2 underlying456 rfl hI ?_)
    | (refine aO 456 (.tmp 2) (.tmp 58) rfl rfl rfl rfl m8 b0 c9 d0 ?_;intro w9 k0 k3 _ _;have m6:=jz k0;have m9:=jz k3;clear k0 k3))
   exact bodyPost_ret (results_cell_row rfl _ _ (g+1) 456 _ (0,0) _ rfl m6 underlying456 rfl b0) rfl ⟨by rw[<- n3.out],g0.out.1.trans (m9.mono (by have:=g0.out.2;omega))⟩
section
variable {P : Program} {ops : Array Oper} {Q : Exit -> Act -> Wd -> Prop} {S : Wd -> Prop} {a : Act} {w : Wd} {listed : Array Bool} {fuel : Nat}
theorem kLS(i:Nat)(dst:Option Tmp){cs:Wv}{b off n:Nat}(V:w.rangeAt b off cs)(U:cs.length=n){o:Oper}{ty:TypeId}{x:Operand}(J:ops[i]? = some o:=by rfl)(j:o.dst=dst:=by rfl)(I:o.op = .load ty x:=by rfl)(Z:a.eval x = .pointer (some ⟨b,off,none⟩):=by kernel_rfl)
  (D:((P.underlying ty).map (·.isRow))=some true:=by kernel_rfl) (hi:(P.info? ty).map (·.size)=some n:=by kernel_rfl) (R:kOne ops listed a i=true:=by kernel_rfl) (hS:S w:=by assumption)
  (h:wpAnyH P .any ops Q S fuel (listed.setIfInBounds i true) (a.put dst (.agg cs.toArray)) w):wpAnyH P .any ops Q S (fuel+1) listed a w:=by
 subst j;have k:=kOne.out J R;refine wpAnyH_ready k.1 (by simp) (AllReadyH.cons J (λK O=>?_) jN);rw[jP k.2];cases hd:P.underlying ty with
 | none=>rw[hd] at D;cases D
 | some d=>
  rw[hd] at D;exact wp_load_mid ty x I b off Z cs d V hd (by simpa using D) (by rw[U];exact hi) (O _ _ hS (λ_=>h))
end
def pY(key bl:Nat->Nat):Nat->Nat->Nat
 | 0=>vC bl (kyF key 0)
 | n+1=>vD (pY key bl n) (kyF key (n+1)) (decide (n=9))
theorem JP{key bl:Nat->Nat}(j:bD key)(hb:bD bl):∀ n,bD (pY key bl n)
 | 0=>AL hb (rG j 0)
 | n+1=>KU (rG j (n+1))
def jE(key bl:Nat->Nat):Nat->Nat:=pY key bl 10
theorem JQ{key bl:Nat->Nat}(j:bD key)(hb:bD bl):bD (jE key bl):=JP j hb 10
structure EX(w W:Wd)(g gk:Nat)(key f:Nat->Nat):Prop where
 be:Bw w W
 lo:w.heap.size<=g
 b:AB W (g+1) 35 16 (c8 f)
 r:AB W (g+1+1) 35 16 (c8 λ_=>0)
 k:AB W gk 456 176 (c8 λq=>kyF key (q/16) (q % 16))
 hg:g+1+1<gk
theorem EX.keep{w W W':Wd}{g j:Nat}{key f:Nat->Nat}(h:EX w W g j key f)(hb:Bw W W'):EX w W' g j key f:=⟨h.be.trans (hb.mono h.be.size),h.lo,h.b.keep hb,h.r.keep hb,h.k.keep hb,h.hg⟩
theorem EX.drew{w W:Wd}{g j:Nat}{key f:Nat->Nat}(h:EX w W g j key f):EX w W.drew g j key f:=⟨h.be.drew,h.lo,h.b,h.r,h.k,h.hg⟩
theorem EX.lay16{w W:Wd}{g j:Nat}{key f a:Nat->Nat}(h:EX w W g j key f):EX w (W.setCells (g+1) 0 (arr 16 (c8 a))) g j key a:=
 ⟨Below.setS (by have:=h.lo;omega) _ _ h.be,h.lo,(h.b.lay8 (o:=0) (m:=16) (a:=a)).ext (λq x=>by unfold c8 lay;rw[jP (by omega)];rfl),h.r.farS (by omega) _ _,h.k.farS (by have:=h.hg;omega) _ _,h.hg⟩
theorem EX.row{w W:Wd}{g j:Nat}{key f:Nat->Nat}(h:EX w W g j key f){i:Nat}(hi:i<=10):W.rangeAt j (i*16) (arr 16 (c8 (kyF key i))):=by
 have h1:=h.k.part (o:=i*16) (m:=16) (by omega);rw[tK (λk x=>by show Value.int .u8 ((kyF key ((i*16+k)/16) ((i*16+k) % 16):Nat):Int)=c8 (kyF key i) k;rw[show(i*16+k)/16=i from by omega,show(i*16+k) % 16=k from by omega];rfl)] at h1;exact h1
theorem DG(key bl:Nat->Nat)(w:Wd)(U:bD key)(d5:bD bl):Wc 345 #[.agg (arr 16 (c8 key)).toArray,.agg (arr 16 (c8 bl)).toArray] w (Rt w (.agg (arr 16 (c8 (jE key bl))).toArray)):=by
 have HK:=jz U;have HB:=jz d5;clear U d5;go_enter func345,ntmps345
 go_upto_region 1 with (refine al 35 _ rfl rfl fB ?_)
 obtain⟨g,hg⟩:=je w.heap.size;obtain⟨w1,a2⟩:=je (((w.alloc (.cells (arr 16 (c8 key)).toArray 35)).alloc (.cells (arr 16 (c8 bl)).toArray 35)).alloc (.cells z8x16 35));have Z:Hid (Bw w w1/\w.heap.size<=g/\AB w1 g 35 16 (c8 key)/\AB w1 (g+1) 35 16 (c8 bl)/\AB w1 (g+1+1) 35 16 (c8 λ_=>0)):=jz (by
  rw[a2,hg]
  exact⟨(((ji _ w).alloc (ja _) _).alloc (by simp) _).alloc (by simp;omega) _,ja _,((Blk.new _ _ _).alloc _).alloc _,(Blk.newAt _ _ _ _ (by simp)).alloc _,Blk.newAt _ _ _ _ (by simp)⟩)
 rw[<- a2];simp only[World.size_alloc,<- hg];clear a2 hg;have f2:=Z.out.2.2.1.range;have c9:=dW (L:=arr 16 (c8 key)) (aB _ _);have a8:=jz (λW=>O9 key W HK);go_wp2_with (refine ld 35 (.tmp 2) rfl rfl rfl f2 underlying35 rfl c9 ?_)
 refine(a8 _).mono ?_;rintro e w5 ⟨rfl,hb5⟩;clear f2 c9 a8;obtain⟨KL,x⟩:=je (arr 176 (c8 λq=>kyF key (q/16) (q % 16)));have f8:=jz x;rw[<- x];have hI:(prog.info? 456).map (·.size)=some KL.toArray.size:=by rw[js,x,aB];kernel_rfl
 have d7:z8x176.size=KL.toArray.size:=by rw[x,aK];exact aK 176 _
 have e0:KL.toArray.all (·.oneCell')=true:=by rw[x];exact bW (λ_=>rfl)
 have a6:Blk (w5.alloc (.cells z8x176 456)) w5.heap.size 456 z8x176:=Blk.new _ _ _;have J:=jz hb5;clear x hb5;go_upto_region 2 with (first
  | (refine al 456 _ rfl rfl yQ ?_)
  | (refine aO 456 (.tmp 5) (.tmp 8) rfl rfl rfl rfl a6 hI d7 e0 ?_;intro w6 c3 d0 _ h2;have a4:=jz c3;have a7:=jz d0;clear c3 d0 h2))
 try simp only[jq]
 obtain⟨R,K⟩:=je w5.heap.size;have D:Hid (EX w w6 g R key bl):=jz (by
  have hb:Bw w5 w6:=((ji _ w5).alloc (ja _) _).trans a7.out
  have h:=Z.out
  have hk:=a4.out
  rw[f8.out,<- K] at hk
  have r5:=h.2.2.2.2.keep J.out
  have b5:=h.2.2.2.1.keep J.out
  exact⟨(h.1.trans (J.mono h.1.size)).trans (hb.mono (h.1.trans (J.mono h.1.size)).size),h.2.1,b5.keep hb,r5.keep hb,hk,by rw[K];exact r5.lt⟩)
 rw[<- K];clear K Z J a4 a7 hI d7 e0 a6;have e8:=D.b.range;have c5:=dW (L:=arr 16 (c8 bl)) (aB _ _);have f1:w6.rangeAt R 0 (arr 16 (c8 (kyF key 0))):=D.row (i:=0) (by omega);have c6:=dW (L:=arr 16 (c8 (kyF key 0))) (aB _ _);have b7:=jz (λW=>rD bl (kyF key 0) W HB (rG HK 0));go_wp2_with (first
  | (refine ld 35 (.tmp 3) rfl rfl rfl e8 underlying35 rfl c5 ?_)
  | (refine ld 35 (.tmp 10) rfl rfl rfl f1 underlying35 rfl c6 ?_))
 refine(b7 _).mono ?_;rintro e w7 ⟨rfl,d1⟩;have a0:=jz (D.keep d1);clear e8 c5 f1 c6 b7 d1 D;obtain⟨M,I⟩:=je (arr 16 (c8 (vC bl (kyF key 0))));rw[<- I];have f4:w7.there (g+1) 0 M.length:=by rw[I,aB];exact a0.b.there (by omega)
 have c2:M.toArray.all (·.oneCell')=true:=by rw[I];exact bW (λ_=>rfl)
 have c7:=dW (L:=M) (by rw[I];exact aB _ _);obtain⟨w8,a3⟩:=je (w7.setCells (g+1) 0 M);have b0:Hid (EX w w8 g R key (pY key bl 0)):=jz (by rw[a3,I];exact a0.lay16);have a9:=jz a3;clear I a3 a0;go_wp2_with (refine VY 35 (.tmp 3) (.tmp 12) rfl rfl rfl rfl f4 c7 c2 ?_;rw[<- a9.out];clear a9 f4 c2 c7)
 go_loopw [6] (λi wr=>∃(n:Nat) (j:Int),n<=10/\j=(n:Int)+1/\i = .int .i64 j/\Hid (EX w wr g R key (pY key bl n))) (λi _=>11-(intOf i).toNat)
 case atStart=>exact⟨0,1,j0 _,rfl,rfl,b0⟩
 case round=>
  clear b0;obtain⟨n,j,hn,a1,rfl,D⟩:=hrel;rcases jo n 10 with h5|g3
  ·have h6:(0:Int)<=j:=by omega
   have h7:j<11:=by omega
   have h8:j<=10:=by omega
   have h9:¬j<0:=by omega
   have k1:j.toNat=n+1:=by omega
   have k0:j+1=(n:Int)+1+1:=by omega
   obtain⟨lb,e1⟩:∃ b:Bool,decide (j=10)=b:=⟨_,rfl⟩;have h3:(j == 10)=lb:=by rw[<- e1];rfl
   have f9:Hid (decide (n=9)=lb):=jz (by rw[<- e1];exact decide_eq_decide.2 (by omega));have HRO:=jz (λW=>AM (pY key bl n) (kyF key (n+1)) lb W (JP HK HB n) (rG HK (n+1)));have g2:Hid (vD (pY key bl n) (kyF key (n+1)) lb=pY key bl (n+1)):=jz (by rw[<- f9.out];rfl);rw[g2.out] at HRO;have g0:=jz a1;clear a1;go_upto_region 6 with fail
   obtain⟨wS,O⟩:=je wr.drew;have HXS:Hid (EX w wS g R key (pY key bl n)):=jz (by rw[O];exact D.drew);clear D;refine kZ (n:=8) (λW=>EX w W g R key (pY key bl n)\/EX w W g R key (pY key bl (n+1))) (by rw[<- O];exact .inl HXS) (h:=λhH=>?_);rw[<- O] at hH ⊢;clear O;refine qM 1 (.int .i64 j) ?_;refine qT 2 (.pointer (some ⟨R,(n+1)*16,none⟩)) ?_;refine qM 4 (.int .i64 j) ?_;refine qT 5 (.bool lb) ?_;refine qL 3 (cs:=arr 16 (c8 (kyF key (n+1)))) (λW hX=>by rcases hX with h|h <;> exact h.row (by omega)) (aB _ _) ?_;refine kLS 0 (some 17) (cs:=arr 16 (c8 (pY key bl n))) (HXS.b.range) (aB _ _) (h:=?_);simp only[jq];refine kF 6 (some 23) ((HRO _).mono ?_);rintro e w5 ⟨rfl,hb5⟩;have HX5:=jz (HXS.keep hb5);clear hb5;refine⟨_,rfl,.inl HX5,λhH=>?_⟩;simp only[jq];have b1:=jz (HX5.lay16 (a:=pY key bl (n+1)));refine kR 7 none (n:=16) (cs:=arr 16 (c8 (pY key bl (n+1)))) (HX5.b.there (by omega)) (aB _ _) (λu hu=>by obtain⟨q,_,rfl⟩:=List.mem_map.1 hu;rfl) (.inr b1) (h:=?_);simp only[jq];refine kE (h:=?_);go_wp2_with fail
   exact⟨⟨n+1,j+1,by omega,by rw[g0.out];omega,by go_num,b1⟩,by simp[intOf];omega⟩
  ·have h4:¬j<=10:=by omega
   have V:n=10:=by omega
   have hD:AB wr (g+1) 35 16 (c8 (jE key bl)):=by
    have h:=D.b;rw[V] at h;exact h
   have f0:=hD.range;have f6:Blk wr (g+1+1) 35 z8x16:=D.r;have a5:=jz (And.intro D.be D.lo);have hI:=dW (L:=arr 16 (c8 (jE key bl))) (aB _ _);obtain⟨M,I⟩:=je (arr 16 (c8 (jE key bl)));rw[<- I] at f0 hI;have f3:(prog.info? 35).map (·.size)=some M.toArray.size:=by rw[js];exact hI
   have g8:z8x16.size=M.toArray.size:=by rw[I,aK];exact aK 16 _
   have h0:M.toArray.all (·.oneCell')=true:=by rw[I];exact bW (λ_=>rfl)
   have g1:=jz I;clear I D hD V g3 hn a1;go_wp2_with (first
    | (refine ld 35 (.tmp 3) rfl rfl rfl f0 underlying35 rfl hI ?_)
    | (refine aO 35 (.tmp 4) (.tmp 24) rfl rfl rfl rfl f6 f3 g8 h0 ?_;intro w9 c4 d2 _ _;have f5:=jz c4;have f7:=jz d2;clear c4 d2))
   exact bodyPost_ret (results_cell_row rfl _ _ (g+1+1) 35 _ (0,0) _ rfl f5 underlying35 rfl f3) rfl ⟨by rw[<- g1.out],a5.out.1.trans (f7.mono (by have:=a5.out.2;omega))⟩
end
section
open Go.RowKit
attribute [local irreducible] wpQuiet wpAnyH
def xR(nn:Nat->Nat)(i m:Nat):Nat->Nat:=λq=>if q<8 then nn q else if 16-m<=q then i/256 ^ (15-q) % 256 else 0
def kV(nn:Nat->Nat)(i:Nat):Nat->Nat:=xR nn i 8
theorem AN{nn:Nat->Nat}(h:bD nn)(i m:Nat):bD (xR nn i m):=λq=>by
 unfold xR;split
 ·exact h q
 ·split
  ·exact Nat.mod_lt _ (by omega)
  ·omega
theorem LD(nn:Nat->Nat)(i:Nat){m:Nat}(h:m<8):cJ (xR nn i m) (15-m) (i/256 ^ m % 256)=xR nn i (m+1):=by
 funext q
 unfold cJ xR;by_cases e:q=15-m
 ·rw[jP e,jQ (by omega),jP (by omega),show 15-q=m from by omega]
 ·rw[jQ e];by_cases e0:q<8
  ·rw[jP e0,jP e0]
  ·rw[jQ e0,jQ e0];by_cases e1:16-m<=q
   ·rw[jP e1,jP (by omega)]
   ·rw[jQ e1,jQ (by omega)]
structure BX(w W:Wd)(g:Nat)(key nn f:Nat->Nat):Prop where
 be:Bw w W
 lo:w.heap.size<=g
 k:AB W g 35 16 (c8 key)
 n:AB W (g+1) 308 8 (c8 nn)
 r:AB W (g+1+1) 35 16 (c8 λ_=>0)
 b:AB W (g+1+1+1) 35 16 (c8 f)
theorem BX.drew{w W:Wd}{g:Nat}{key nn f:Nat->Nat}(h:BX w W g key nn f):BX w W.drew g key nn f:=⟨h.be.drew,h.lo,h.k,h.n,h.r,h.b⟩
theorem BX.set{w W:Wd}{g:Nat}{key nn f:Nat->Nat}(h:BX w W g key nn f)(i v:Nat):BX w (W.setCell ⟨g+1+1+1,i,none⟩ (.int .u8 (v:Nat))) g key nn (cJ f i v):=
 ⟨h.be.setCell (by have:=h.lo;show w.heap.size<=g+1+1+1;omega) _,h.lo,h.k.far (by show g≠g+1+1+1;omega) _,h.n.far (by show g+1≠g+1+1+1;omega) _,h.r.far (by show g+1+1≠g+1+1+1;omega) _,by have:=h.b.set i (.int .u8 (v:Nat));rwa [gV] at this⟩
theorem BX.lay8{w W:Wd}{g:Nat}{key nn f a:Nat->Nat}(h:BX w W g key nn f)(o m:Nat):BX w (W.setCells (g+1+1+1) o (arr m (c8 a))) g key nn (lay f o m a):=
 ⟨Below.setS (by have:=h.lo;omega) _ _ h.be,h.lo,h.k.farS (by omega) _ _,h.n.farS (by omega) _ _,h.r.farS (by omega) _ _,h.b.lay8⟩
theorem LE(key nn:Nat->Nat)(i:Nat)(w:Wd)(J:bD key)(b7:bD nn)(hi:i<18446744073709551616):Wc 341 #[.agg (arr 16 (c8 key)).toArray,.agg (arr 8 (c8 nn)).toArray,.int .u64 (i:Nat)] w (Rt w (.agg (arr 16 (c8 (jE key (kV nn i)))).toArray)):=by
 have HK:=jz J;have HN:=jz b7;have HI:=jz hi;clear J b7 hi;go_enter func341,ntmps341
 go_upto_region 2 with (refine al 35 _ rfl rfl fB ?_)
 obtain⟨g,hg⟩:=je w.heap.size;obtain⟨w1,Z⟩:=je ((((w.alloc (.cells (arr 16 (c8 key)).toArray 35)).alloc (.cells (arr 8 (c8 nn)).toArray 308)).alloc (.cells z8x16 35)).alloc (.cells z8x16 35));have a3:Hid (BX w w1 g key nn (λ_=>0)):=jz (by
  rw[Z,hg]
  exact⟨((((ji _ w).alloc (ja _) _).alloc (by simp) _).alloc (by simp;omega) _).alloc (by simp;omega) _,ja _,(((Blk.new _ _ _).alloc _).alloc _).alloc _,((Blk.newAt _ _ _ _ (by simp)).alloc _).alloc _,(Blk.newAt _ _ _ _ (by simp)).alloc _,Blk.newAt _ _ _ _ (by simp)⟩)
 rw[<- Z];simp only[World.size_alloc,<- hg];clear Z hg;have d5:prog.arrayLen 35=16:=by kernel_rfl
 have a9:prog.arrayLen 308=8:=by kernel_rfl
 obtain⟨wS,a1⟩:=je w1.drew;have I:Hid (BX w wS g key nn (λ_=>0)):=jz (by rw[a1];exact a3.drew);refine kZ (n:=4) (λW=>True) trivial (h:=λhH=>?_);rw[<- a1];clear a1 a3;refine qT 0 (.slice (some ⟨g+1+1+1,0,none⟩) 16 16) ?_;refine qT 1 (.slice (some ⟨g+1,0,none⟩) 8 8) ?_;have c5:Sn wS 1 (.slice (some ⟨g+1,0,none⟩) 8 8) 8 (arr 8 (c8 nn)):=⟨_,8,rfl,ja _,by rw[aB],λ_=>⟨g+1,0,rfl,I.n.range⟩⟩;refine kCp 2 (some 12) (dn:=16) (dc:=16) underlying68 (by kernel_rfl) c5 (show 8<=16 by omega) (I.b.there (o:=0) (m:=8) (by omega)) (λu hu=>by obtain⟨q,_,rfl⟩:=List.mem_map.1 hu;rfl) trivial (h:=?_);simp only[jq];refine qT 3 (.int .i64 8) ?_;refine kE (h:=?_);obtain⟨w3,a0⟩:=je (wS.setCells (g+1+1+1) 0 (arr 8 (c8 nn)));have a4:Hid (BX w w3 g key nn (xR nn i 0)):=jz (by
  rw[a0]
  have h:=I.lay8 (a:=nn) 0 8
  refine⟨h.be,h.lo,h.k,h.n,h.r,h.b.ext (λq hq=>?_)⟩
  unfold c8 lay xR
  by_cases e:q<8
  ·rw[jP (by omega),jP e,Nat.sub_zero]
  ·rw[jQ (by omega),jQ e,jQ (by omega)])
 rw[<- a0];clear a0 c5 I hH d5 a9;go_wp2_with fail
 go_loopw [9,2] (λx y wr=>∃ m:Nat,m<=8/\x = .int .i64 (15-(m:Int))/\y = .int .u64 ((i/256 ^ m:Nat):Int)/\Hid (BX w wr g key nn (xR nn i m))) (λx _ _=>(intOf x).toNat)
 case atStart=>exact⟨0,j0 _,by simp,by simp,a4⟩
 case round=>
  clear a4;obtain⟨m,hm,rfl,rfl,O⟩:=hrel;obtain⟨L,R⟩:=je (i/256 ^ m);have U:L/256=i/256 ^ (m+1):=by rw[R,Nat.div_div_eq_div_mul,Nat.pow_succ]
  have a8:L<=i:=by rw[R];exact Nat.div_le_self _ _
  have f3:L<18446744073709551616:=by have:=HI.out;omega
  rw[<- R];rcases jo m 8 with e8|d7
  ·have e1:((L % 256:Nat):Int)=(L:Int) % 256:=by omega
   have D:=O.set (15-m) (L % 256);rw[R,LD nn i e8,<- R,e1] at D;have D:=jz D;obtain⟨old,K⟩:=je (xR nn i m (15-m));have f4:wr.cell? ⟨g+1+1+1,15-m,none⟩=some (.int .u8 (old:Nat)):=by rw[K];exact O.b.cell (by omega)
   have f5:=O.b.frozen (15-m);have f6:(0:Int)<=15-(m:Int):=by omega
   have f7:(15:Int)-(m:Int)<16:=by omega
   have e0:(8:Int)<=15-(m:Int):=by omega
   have f8:((15:Int)-(m:Int)).toNat=15-m:=by omega
   have d1:Hid ((L:Int)/256=((i/256 ^ (m+1):Nat):Int)):=jz (by rw[<- U];omega);have f2:(0:Int)<=L:=by omega
   clear K e1 O R U a8;go_wp2_with fail
   exact⟨⟨m+1,by omega,by go_num,by rw[d1.out],D⟩,by simp[intOf];omega⟩
  ·have b1:m=8:=by omega
   have e0:¬(8:Int)<=15-(m:Int):=by omega
   have j:Hid (BX w wr g key nn (kV nn i)):=jz (by rw[b1] at O;exact O);have c3:=j.k.range;have a7:=dW (L:=arr 16 (c8 key)) (aB _ _);have c2:=j.b.range;have a6:=dW (L:=arr 16 (c8 (kV nn i))) (aB _ _);have d0:=jz (λW=>DG key (kV nn i) W HK (AN HN i 8));clear O b1 hm d7 R U a8;go_wp2_with (first
    | (refine ld 35 (.tmp 3) rfl rfl rfl c3 underlying35 rfl a7 ?_)
    | (refine ld 35 (.tmp 7) rfl rfl rfl c2 underlying35 rfl a6 ?_))
   refine(d0 _).mono ?_;rintro e w7 ⟨rfl,V⟩;have c7:Blk w7 (g+1+1) 35 z8x16:=j.r.keep V;have a2:=jz (And.intro (j.be.trans (V.mono j.be.size)) j.lo);have hI:=dW (L:=arr 16 (c8 (jE key (kV nn i)))) (aB _ _);obtain⟨M,hM⟩:=je (arr 16 (c8 (jE key (kV nn i))));rw[<- hM] at hI ⊢;have c4:(prog.info? 35).map (·.size)=some M.toArray.size:=by rw[js];exact hI
   have f0:z8x16.size=M.toArray.size:=by rw[hM,aK];exact aK 16 _
   have f1:M.toArray.all (·.oneCell')=true:=by rw[hM];exact bW (λ_=>rfl)
   have d2:=jz hM;clear hM V j c3 a7 c2 a6;go_wp2_with (refine aO 35 (.tmp 6) (.tmp 26) rfl rfl rfl rfl c7 c4 f0 f1 ?_;intro w9 a5 b0 _ _;have c6:=jz a5;have c9:=jz b0;clear a5 b0)
   exact bodyPost_ret (results_cell_row rfl _ _ (g+1+1) 35 _ (0,0) _ rfl c6 underlying35 rfl c4) rfl ⟨by rw[<- d2.out],a2.out.1.trans (c9.mono (by have:=a2.out.2;omega))⟩
end
end Go.Proofs.YtiaigidbcljblaaGreatDoor
