import Derived.Test.YtjjlaipkkdncfaaGreatDoorMV37
import Derived.Test.YtjjlaipkkdncfaaGreatDoorMV34
set_option linter.unusedVariables false
set_option linter.unusedSimpArgs false
set_option maxRecDepth 100000
set_option maxHeartbeats 40000000
namespace Go.Proofs.YtjjlaipkkdncfaaGreatDoor
open Go.Proofs.Tryz
section
open Go.RowKit
attribute [local irreducible] wpQuiet wpAnyH
theorem SY(n:Nat)(h:n<=1099511627776)(W:Wd):(convert 2 181 (.int .i64 (n:Int))).run prog W = .ok (.int .u64 (n:Int)) W:=by
 have h1:=run_convert_int (P:=prog) (w:=W) 2 181 .i64 (n:Int) (by kernel_rfl) (by kernel_rfl);have e:prog.intKind 181 = .u64:=by kernel_rfl
 rw[e] at h1;rw[h1,show IntKind.u64.wrap (n:Int)=(n:Int) from by
  unfold IntKind.wrap
  simp[IntKind.signed,IntKind.bits]
  omega]
theorem I3(n:Nat)(h:n<4294967296)(W:Wd):(convert 34 181 (.int .u32 (n:Int))).run prog W = .ok (.int .u64 (n:Int)) W:=by
 have h1:=run_convert_int (P:=prog) (w:=W) 34 181 .u32 (n:Int) (by kernel_rfl) (by kernel_rfl);have e:prog.intKind 181 = .u64:=by kernel_rfl
 rw[e] at h1;rw[h1,show IntKind.u64.wrap (n:Int)=(n:Int) from by
  unfold IntKind.wrap
  simp[IntKind.signed,IntKind.bits]
  omega]
theorem GB(n:Nm)(A:Option Addr)(cap T M Q:Nat)(w:Wd)(hn:NmOk n)(hs:Sn w 1 (.slice A n.parts.length cap) n.parts.length (fG n.parts))(hT:T<=1099511627776)(hM:M<=999999):
  Wc 125 #[.agg #[.string (bI n.realm),.slice A n.parts.length cap,.int .i64 (T:Nat),.int .u32 (M:Nat),.int .u32 (Q:Nat)]] w (Rt w (.bool true)):=by
 have U:=jz (fun(W:Wd) (h:Bw w W)=>vV n A cap W hn (hs.below h));obtain⟨S,hS⟩:=je (bI n.realm);obtain⟨m,hm⟩:=je n.parts.length;rw[<- hS] at U ⊢;rw[<- hm] at U ⊢;have t1:(0:Int)<=T:=by omega
 have t2:(T:Int)<=1099511627776:=by omega
 have t3:(M:Int)<=999999:=by omega
 clear hn hs hS hm hT hM;obtain⟨g,hg⟩:=je w.heap.size;obtain⟨V,D⟩:=je (w.alloc (.cells #[.string S,.slice A m cap,.int .i64 (T:Nat),.int .u32 (M:Nat),.int .u32 (Q:Nat)] 55));have I:Hid (Bw w V):=jz (by rw[D];exact aV _ _);have J:Hid (Blk V g 55 #[.string S,.slice A m cap,.int .i64 (T:Nat),.int .u32 (M:Nat),.int .u32 (Q:Nat)]):=jz (by rw[D,hg];exact Blk.new _ _ _);have R:Hid (V.rangeAt g 0 [.string S,.slice A m cap]):=jz (λj u hj=>by
  have a0:j<2:=(List.getElem?_eq_some_iff.1 hj).1
  have h:=J.cell j
  rw[Nat.zero_add,h]
  have hc:j=0\/j=1:=by omega
  rcases hc with rfl|rfl <;> exact hj)
 have HI:Hid ((prog.info? 51).map (·.size)=some [Value.string S,.slice A m cap].length):=jz mZ;go_enter func125,ntmps125
 go_upto_region 1 with fail
 rw[<- D,<- hg];clear D hg;go_wp2_with (refine ld 51 (.tmp 3) rfl rfl (by rfl) R underlying51 rfl HI ?_)
 refine(U V I).mono ?_;rintro e w2 ⟨rfl,K⟩;have Z:=jz (aB I K);have O:=jz (J.keep K);clear K J I R U;have c2:=O.cell 2;have c3:=O.cell 3;simp only[jf,jh,jg] at c2 c3;go_wp2_with fail
 go_ret;exact⟨rfl,Z⟩
theorem D4(O k x base n:Nat)(v:Value)(xs:Wv)(w:Wd)(a5:1<=k)(V:k<=8)(hx:x<256 ^ k)(hB:Blk w O 60 #[v])(ho:w.ownsRow base 5 1 v n xs)(hb:base<=w.heap.size)(a4:base<=O)(hn:n<=100000):
  Wc 128 #[.int .i64 k,.int .u64 x,.pointer (some ⟨O,0,none⟩)] w λe w'=>e = .returned (.tuple #[])/\∃ v',Blk w' O 60 #[v']/\w'.ownsRow base 5 1 v' (n+k) (xs++u8s (beB k x))/\Below base w w'/\∀ g t cs,Blk w g t cs->t≠5->g≠O->Blk w' g t cs:=by
 have a2:=jz (jI k x w a5 V hx);have HB:=jz hB;have HO:=jz ho;have Z:=jz (And.intro hb (And.intro a4 (And.intro hn V)));clear a5 V hx hB ho hb a4 hn;go_enter func128,ntmps128
 go_wp2_with fail
 refine a2.mono ?_;rintro e w1 ⟨z,rfl,a6,K⟩;obtain⟨ZA,zc,rfl,a7,_⟩:=bN a6;have a8:=jz a7;have a0:=jz (HB.keep K);have D:=jz (aE HO K);have J:=jz K;clear a6 a7 K a2;obtain⟨VA,vc,rfl,_,_⟩:=bN D.out;have c0:=a0.cell 0;simp only[jf,jg] at c0;go_wp2_with (refine app fQ (.tmp 13) (.tmp 14) rfl rfl (by rfl) D (by rfl) a8 (cI _) (by have:=Z.out;unfold maxLen;omega) (by have:=Z.out;omega) (jm Z.out.1 J.size) ?_;intro v2 w2 R U a9;obtain⟨A2,c2,rfl,_,_⟩:=bN R;have a3:=jz R;have a1:=jz U;have I:=jz (i7 U D a0 (by decide));clear R U a9 c0;have n8:=I.cell 0;have m8:=I.frozen 0;simp only[jf,jg] at n8)
 refine bodyPost_end (results_none rfl _ _ _) rfl ⟨rfl,_,I.set_ 0 _,?_,?_,?_⟩
 ·exact ownsRow_setCell_other a3 (a:=⟨O,0,none⟩) (λe=>cQ a3 I (by decide) e.symm) _
 ·exact((J.mono Z.out.1).grown a1 (jm Z.out.1 J.size) (λb hb=>(D.lt b hb).1)).setCell Z.out.2.1 _ (p:=⟨O,0,none⟩)
 ·intro g t cs h ht b0;exact(i7 a1 D (h.keep J) ht).far b0 _
theorem SZ(x y z:Int):prog.built 228 [(0,.int .u64 x),(1,.int .u64 y),(2,.int .u64 z)]=some #[.int .u64 x,.int .u64 y,.int .u64 z]:=by kernel_rfl
def fdN(T M Q k:Nat):Nat:=if k=0 then T else if k=1 then M else Q
def fdL(l:List Nat)(T M Q:Nat):Nat->List Nat
 | 0=>l
 | k+1=>fdL l T M Q k++dB (szN k) (fdN T M Q k)
theorem wH(l:List Nat)(T M Q:Nat):∀ k,(fdL l T M Q k).length<=l.length+8*k
 | 0=>ja _
 | k+1=>by
  have:=wH l T M Q k;unfold fdL;rw[jj,gY];have D:szN k<=8:=by unfold szN;split <;> omega
  omega
theorem S0(k x:Nat):u8s (beB k x)=n8 (dB k x):=pM (fR k x)
theorem VL(a b:List Nat):n8 (a++b)=n8 a++n8 b:=by unfold n8;rw[List.map_append]
structure AbX(w wr:Wd)(g8 gB k T M Q:Nat)(l:List Nat):Prop where
 f:Blk wr g8 228 #[.int .u64 (T:Nat),.int .u64 (M:Nat),.int .u64 (Q:Nat)]
 bel:Bw w wr
 ro:∃ v,Blk wr gB 60 #[v]/\wr.ownsRow w.heap.size 5 1 v (fdL l T M Q k).length (n8 (fdL l T M Q k))
theorem GC(n:Nm)(A:Option Addr)(cap T M Q:Nat)(w:Wd)(hn:NmOk n)(hs:Sn w 1 (.slice A n.parts.length cap) n.parts.length (fG n.parts))(hT:T<=1099511627776)(hM:M<=999999)(hQ:Q<4294967296):
  Wc 78 #[.agg #[.string (bI n.realm),.slice A n.parts.length cap,.int .i64 (T:Nat),.int .u32 (M:Nat),.int .u32 (Q:Nat)]] w λe w'=>∃ y,e = .returned (.tuple #[y,.bool true])/\w'.ownsRow w.heap.size 5 1 y (fdL (2 :: nmN n) T M Q 3).length (n8 (fdL (2 :: nmN n) T M Q 3))/\Bw w w':=by
 have HV:=jz (fun(W:Wd) (h:Bw w W)=>GB n A cap T M Q W hn (hs.below h) hT hM);have J:=jz (fun(W:Wd) (h:Bw w W)=>F4 n A cap W hn (hs.below h));have a1:=jz (tE hn);have a2:=jz (And.intro hT (And.intro hM hQ));obtain⟨l0,h6⟩:=je (nmN n);rw[<- h6] at J a1 ⊢;obtain⟨S,hS⟩:=je (bI n.realm);obtain⟨m,hm⟩:=je n.parts.length;rw[<- hS] at HV J ⊢;rw[<- hm] at HV J ⊢;clear hn hs hS hm h6;obtain⟨g1,e0⟩:=je w.heap.size;obtain⟨C,hC⟩:∃ C:Wv,C=[.string S,.slice A m cap,.int .i64 (T:Nat),.int .u32 (M:Nat),.int .u32 (Q:Nat)]:=⟨_,rfl⟩;obtain⟨w1,a9⟩:=je (w.alloc (.cells #[.string S,.slice A m cap,.int .i64 (T:Nat),.int .u32 (M:Nat),.int .u32 (Q:Nat)] 55));have b2:Hid (Bw w w1):=jz (by rw[a9];exact aV _ _);have c6:Hid (Blk w1 g1 55 #[.string S,.slice A m cap,.int .i64 (T:Nat),.int .u32 (M:Nat),.int .u32 (Q:Nat)]):=jz (by rw[a9,e0];exact Blk.new _ _ _);have f2:Hid (w1.rangeAt g1 0 [.string S,.slice A m cap,.int .i64 (T:Nat),.int .u32 (M:Nat),.int .u32 (Q:Nat)]):=jz c6.range;have e7:Hid ((prog.info? 55).map (·.size)=some [Value.string S,.slice A m cap,.int .i64 (T:Nat),.int .u32 (M:Nat),.int .u32 (Q:Nat)].length):=jz auI;clear hC C hT hM hQ;go_enter func78,ntmps78
 go_upto_region 1 with fail
 rw[<- a9,<- e0];clear a9 e0;go_wp2_with (refine ld 55 (.tmp 1) rfl rfl (by rfl) f2 underlying55 rfl e7 ?_)
 refine(HV w1 b2).mono ?_;rintro e w2 ⟨rfl,d3⟩;have b3:=jz (aB b2 d3);have c7:=jz (c6.keep d3);have f3:Hid (w2.rangeAt g1 0 [.string S,.slice A m cap]):=jz (λj u hj=>by
  have m2:j<2:=(List.getElem?_eq_some_iff.1 hj).1
  have h:=c7.cell j
  rw[Nat.zero_add,h]
  have hc:j=0\/j=1:=by omega
  rcases hc with rfl|rfl <;> exact hj)
 have HI:Hid ((prog.info? 51).map (·.size)=some [Value.string S,.slice A m cap].length):=jz mZ;clear d3 c6 b2 f2 e7 HV;go_wp2_with (refine ld 51 (.tmp 15) rfl rfl (by rfl) f3 underlying51 rfl HI ?_)
 refine(J w2 b3).mono ?_;rintro e I ⟨y,rfl,D,d4⟩;obtain⟨YA,yc,rfl,_,_⟩:=bN D;have d2:=jz D;have e4:=jz (aB b3 d4);have e8:=jz (c7.keep d4);obtain⟨ly,e2⟩:=je l0.length;have c9:=jz e2;rw[<- e2] at d2 a1 ⊢;clear D d4 e2 f3 HI J c7 b3;go_wp2_with fail
 obtain⟨w4,U⟩:=je ((I.alloc (.cells #[.int .u8 2] 5)).alloc (.cells #[.slice (some ⟨I.heap.size,0,none⟩) 1 1,.slice YA ly yc] 60));have a4:Bw I w4:=by rw[U];exact aB (aV _ _) (aV _ _)
 have hP:Parts w4 (.slice (some ⟨I.heap.size+1,0,none⟩) 2 2) [(.slice (some ⟨I.heap.size,0,none⟩) 1 1,[2]),(.slice YA ly yc,aG l0)]:=by
  refine⟨?_,λp hp=>?_⟩
  ·have h:=Sn.newAt (I.alloc (.cells #[.int .u8 2] 5)) #[.slice (some ⟨I.heap.size,0,none⟩) 1 1,.slice YA ly yc] 60 1 2 (I.heap.size+1) rfl (by simp);rw[<- U] at h;exact h
  ·simp only[jl,j8,or_false] at hp;rcases hp with rfl|rfl
   ·have h:=(Sn.new I #[.int .u8 2] 5 1 1 rfl).alloc (.cells #[.slice (some ⟨I.heap.size,0,none⟩) 1 1,.slice YA ly yc] 60);rw[<- U] at h;exact h
   ·have h:=(Sn.own d2).below a4;simp only[aL,<- c9.out];rw[<- eI];exact h
 have d1:Hid (d9 [(Value.slice (some ⟨I.heap.size,0,none⟩) 1 1,[2]),(.slice YA ly yc,aG l0)]=(2 :: l0).length):=jz (by
  unfold d9
  simp only[List.map_cons,List.map_nil,List.sum_cons,List.sum_nil,aL,List.length_cons,List.length_nil]
  omega)
 have e6:Hid (u8s (cat [(Value.slice (some ⟨I.heap.size,0,none⟩) 1 1,[2]),(.slice YA ly yc,aG l0)])=n8 (2 :: l0)):=jz (by
  show u8s ([2]++(aG l0++[]))=_
  rw[List.append_nil,fH,<- eI]
  rfl)
 have HJ:=jz (kV _ _ w4 hP (by simp) (by rw[d1.out,List.length_cons];have:=a1.out;have:=c9.out;omega));rw[d1.out,e6.out] at HJ;have b7:=jz (aB e4 a4);have f0:=jz (e8.keep a4);rw[<- U];clear U hP a4 d1 e6 d2 e8 e4;refine HJ.mono ?_;rintro e w5 ⟨y,rfl,D,d5⟩;obtain⟨XA,xc,rfl,_,_⟩:=bN D;have a3:=jz (aT D b7.size);have b9:=jz (aB b7 d5);have f1:=jz (f0.keep d5);obtain⟨V,a8⟩:∃ l,l=2 :: l0:=⟨_,rfl⟩;rw[<- a8] at a3 ⊢;have k0:=jz a8;have k1:Hid (V.length<=1001):=jz (by rw[a8,List.length_cons];have:=a1.out;have:=c9.out;omega);obtain⟨nx,e3⟩:=je V.length;rw[<- e3] at a3 ⊢;have k3:=jz e3;clear D d5 HJ a8 e3 f0 b7;go_upto_region 5 with fail
 obtain⟨w6,b0⟩:=je (w5.alloc (.cells #[.slice XA nx xc] 60));obtain⟨gB,a7⟩:=je w5.heap.size;have a5:Bw w5 w6:=by rw[b0];exact aV _ _
 have d0:Hid (Blk w6 gB 60 #[.slice XA nx xc]):=jz (by rw[b0,a7];exact Blk.new _ _ _);have f6:=jz (aE a3 a5);have e5:=jz (aB b9 a5);have a0:=jz (f1.keep a5);have h9:Hid (w.heap.size<=gB):=jz (by rw[a7];exact b9.size);rw[<- b0,<- a7];clear b0 a7 a5 a3 b9 f1;have c2:=a0.cell 2;have c3:=a0.cell 3;have c4:=a0.cell 4;simp only[jf,jh,jg] at c2 c3 c4;have g0:=SY T a2.out.1;have g2:=I3 M (by have:=a2.out;omega);have g3:=I3 Q a2.out.2.2;have h8:=jz (SZ (T:Nat) (M:Nat) (Q:Nat));go_upto_region 7 with fail
 clear g0 g2 g3 c2 c3 c4 h8;obtain⟨w7,b1⟩:=je (w6.alloc (.cells #[.int .u64 (T:Nat),.int .u64 (M:Nat),.int .u64 (Q:Nat)] 228));obtain⟨g8,e1⟩:=je w6.heap.size;have a6:Bw w6 w7:=by rw[b1];exact aV _ _
 have f4:Hid (AbX w w7 g8 gB 0 T M Q V):=jz ⟨by rw[b1,e1];exact Blk.new _ _ _,aB e5 a6,_,d0.keep a6,by
  show w7.ownsRow _ _ 1 (.slice XA nx xc) V.length (n8 V)
  rw[<- k3.out]
  exact aE f6 a6⟩
 have k2:Hid (g8≠gB):=jz (by have:=d0.lt;omega);rw[<- b1,<- e1];clear b1 e1 a6 d0 f6 e5 a0;go_wp2_with fail
 refine(yQ w7).mono ?_;rintro e w8 ⟨rfl,R⟩;have f5:Hid (AbX w w8 g8 gB 0 T M Q V):=jz (by
  obtain⟨h1,h2,v,h3,h4⟩:=f4.out
  exact⟨h1.keep R,aB h2 R,v,h3.keep R,aE h4 R⟩)
 clear R f4;unfold sz3;go_wp2_with fail
 go_loopw [36] (λi wr=>∃ k:Nat,k<=3/\i = .int .i64 k/\Hid (AbX w wr g8 gB k T M Q V)) (λi _=>3-(intOf i).toNat)
 case atStart=>exact⟨0,by omega,rfl,f5⟩
 case round=>
  clear f5;obtain⟨k,hk,rfl,HX⟩:=hrel;rcases jo k 3 with k5|k6
  ·have m1:(k:Int)<3:=by omega
   have k7:(0:Int)<=k:=by omega
   have h0:=λW=>TS k k5 W
   obtain⟨v,O,K⟩:=HX.ro;have Z:=jz (D4 gB (szN k) (fdN T M Q k) w.heap.size _ v _ wr (by unfold szN;split <;> omega) (by unfold szN;split <;> omega) (by
    have:=a2.out
    have hc:k=0\/k=1\/k=2:=by omega
    rcases hc with rfl|rfl|rfl
    ·show T<256 ^ 8;omega
    ·show M<256 ^ 4;omega
    ·show Q<256 ^ 4;omega) O K HX.bel.size h9 (by have:=wH V T M Q k;have:=k1.out;omega))
   have cF:wr.cell? ⟨g8,k,none⟩=some (.int .u64 ((fdN T M Q k:Nat):Int)):=by
    rw[HX.f.cell k];have hc:k=0\/k=1\/k=2:=by omega
    rcases hc with rfl|rfl|rfl <;> rfl
   obtain⟨z,hz⟩:=je (szN k);obtain⟨fv,d7⟩:=je (fdN T M Q k);have h7:Hid (fdL V T M Q (k+1)=fdL V T M Q k++dB z fv):=jz (by rw[hz,d7];rfl);rw[<- hz] at h0 Z;rw[<- d7] at Z cF;have HF:=jz HX.f;have c5:=jz HX.bel;clear hz d7 O K HX;go_wp2_with fail
   refine Z.mono ?_;rintro e w9 ⟨rfl,v',f8,f7,f9,h5⟩;have k4:Hid (AbX w w9 g8 gB (k+1) T M Q V):=jz ⟨h5 _ _ _ HF (by decide) k2,c5.trans f9,v',f8,by
    rw[h7.out,jj,gY,VL,<- S0]
    exact f7⟩
   clear f8 f7 f9 h5 Z cF h0;go_wp2_with fail
   exact⟨⟨k+1,by omega,by go_num,k4⟩,by simp[intOf];omega⟩
  ·obtain rfl:k=3:=by omega
   obtain⟨v,O,K⟩:=HX.ro;have cB:=O.cell 0;simp only[jf,jg] at cB;have HO:=jz K;have c5:=jz HX.bel;clear O K HX;go_wp2_with fail
   first|go_ret2|skip
   have h:=HO.out;rw[k0.out] at h;exact⟨v,rfl,h,c5⟩
theorem S4(a:AuD):fdL (2 :: nmN a.client) a.time a.micro a.seq 3=auN a:=rfl
theorem D5(a:AuD)(v:Value)(w:Wd)(ha:AuOk a)(hs:Sn w 1 v a.client.parts.length (fG a.client.parts))(hk:TabK w):
  Wc 52 #[.agg (auC a v).toArray] w (Rt w (.tuple #[.agg (n8 (auG a)).toArray,.bool true])):=by
 obtain⟨A,cap,rfl,_⟩:=id hs;have a3:=jz (fun(W:Wd) (h:Bw w W)=>GC a.client A cap a.time a.micro a.seq W ha.nm (hs.below h) ha.time ha.micro ha.seq);rw[S4] at a3;have a4:=jz (And.intro (tG ha) (z2 ha));have d4:=jz hk;obtain⟨C,hC⟩:=je ((auC a (.slice A a.client.parts.length cap)).toArray);have J:Hid (∀(W:Wd),Bw w W->Wc 78 #[.agg C] W λe w'=>∃ y,e = .returned (.tuple #[y,.bool true])/\w'.ownsRow W.heap.size 5 1 y (auN a).length (n8 (auN a))/\Bw W w'):=jz (by rw[hC];exact a3);obtain⟨I,b1⟩:=je (auN a);have HG:Hid (auG a=iD I):=jz (by rw[b1];rfl);rw[<- b1] at J a4;rw[HG.out];have b9:Hid ((prog.info? 55).map (·.size)=some C.toList.length):=jz (by rw[hC];exact auI);rw[<- hC];clear ha hs hk b1 a3 hC;obtain⟨g1,V⟩:=je w.heap.size;obtain⟨w1,U⟩:=je (w.alloc (.cells C 55));have b3:Hid (Bw w w1):=jz (by rw[U];exact aV _ _);have c5:Hid (w1.rangeAt g1 0 C.toList):=jz (by rw[U,V];exact(Blk.new w _ C).range);go_enter func52,ntmps52
 go_upto_region 1 with (refine al 24 dZ rfl rfl IR ?_)
 obtain⟨w2,Z⟩:=je (w1.alloc (.cells dZ 24));obtain⟨g2,b0⟩:=je (g1+1);have a7:Bw w1 w2:=by rw[Z];exact aV _ _
 have c2:Hid (Blk w2 g2 24 dZ):=jz (by rw[Z,b0];exact Blk.newAt _ _ _ _ (by rw[U,V];simp));have c6:Hid (w2.rangeAt g1 0 C.toList):=jz (λj u hj=>j9 a7 (c5 j u hj));have a1:=jz (aB b3 a7);have d3:Hid (w.heap.size<=g2):=jz (by omega);rw[<- U,<- Z,<- V];rw[<- b0];clear U Z V b0 a7 b3 c5;go_wp2_with (refine ld 55 (.tmp 1) rfl rfl (by rfl) c6 underlying55 rfl b9 ?_)
 refine(J w2 a1).mono ?_;rintro e w3 ⟨y,rfl,c7,a8⟩;obtain⟨YA,yc,rfl,c9,_⟩:=bN c7;have a5:=jz c9;have c3:=jz (c2.keep a8);have a2:=jz (aB a1 a8);obtain⟨ly,b2⟩:=je I.length;have d5:=jz b2;rw[<- b2] at a5 ⊢;clear c7 c9 a8 b2 J c2 a1 c6 b9;go_wp2_with fail
 obtain⟨w4,a0⟩:=je (w3.alloc (.cells #[.slice YA ly yc] 60));have O:Bw w3 w4:=by rw[a0];exact aV _ _
 have hP:PN w4 (.slice (some ⟨w3.heap.size,0,none⟩) 1 1) [(.slice YA ly yc,I)]:=by
  refine qJ _ 1 rfl ?_ (λp hp=>?_) (λp hp=>?_)
  ·have h:=(Blk.new w3 60 #[.slice YA ly yc]).range;rw[<- a0] at h;exact h
  ·simp only[jl,j8,or_false] at hp;subst hp;show Sn w4 1 (.slice YA ly yc) I.length (n8 I);rw[<- d5.out];exact a5.below O
  ·simp only[jl,j8,or_false] at hp;subst hp;exact a4.out.2
 have R:bJ [(Value.slice YA ly yc,I)]=I:=by
  unfold bJ;simp
 have a6:=jz (G2 _ _ w4 hP (by simp) (by rw[R];have:=a4.out.1;omega) ((d4.below a2).below O));rw[R] at a6;have c4:=jz (c3.keep O);have b7:=jz (aB a2 O);rw[<- a0];clear a0 hP R O c3 a2 a5;refine a6.mono ?_;rintro e w5 ⟨rfl,a9⟩;have d1:=jz (c4.keep a9);have d0:=jz (aB b7 a9);have K:Hid ((prog.info? 24).map (·.size)=some (n8 (iD I)).toArray.size/\dZ.size=(n8 (iD I)).toArray.size/\(n8 (iD I)).toArray.all (·.oneCell')=true):=jz (by
  have hl:(n8 (iD I)).length=32:=by rw[aJ];exact bL _
  have h3:(n8 (iD I)).toArray.size=32:=by rw[js,hl]
  refine⟨by rw[js,hl];kernel_rfl,by rw[h3];rfl,all_oneCell_toArray (bK _)⟩)
 obtain⟨D,hD⟩:=je ((n8 (iD I)).toArray);rw[<- hD] at K ⊢;have d2:=jz hD;clear hD a9 a6 c4 b7;go_wp2_with (refine aN 24 (.tmp 2) (.tmp 16) rfl rfl (by rfl) (by rfl) d1 K.out.1 K.out.2.1 K.out.2.2 ?_;intro w9 d7 e0 e1 e2)
 refine bodyPost_ret (aD (P:=prog) rfl _ rfl d7.range underlying24 rfl (by rw[jk];exact K.out.1)) rfl ?_;refine⟨?_,d0.trans (e0.mono d3)⟩;rw[<- d2.out];rfl
theorem LG(a b:Int)(w:Wd)(ha:aI a)(hb:aI b):
  Wc 124 #[.int .i64 a,.int .i64 b] w λe w'=>e = .returned (.int .i64 (kP a b))/\w'=w:=by
 have J:Hid (∀ x y:Int,(x=a\/x=b)->(y=a\/y=b)->Wc 170 #[.int .i64 x,.int .i64 y] w λe w'=>e = .returned (.int .i64 (oO x y))/\w=w'):=jz (λx y K hy=>yO x y w (by rcases K with rfl|rfl <;> assumption) (by rcases hy with rfl|rfl <;> assumption));have I:Hid (kP a b=oO (max a b) (min a b)):=jz rfl;clear ha hb;have D:Hid ((max a b=a\/max a b=b)/\(min a b=a\/min a b=b)):=jz ⟨by omega,by omega⟩;go_enter func124,ntmps124
 go_wp2_with fail
 refine(J _ _ D.out.1 D.out.2).mono ?_;rintro e O ⟨rfl,rfl⟩;go_wp2_with fail
 go_ret;exact⟨by rw[I.out];rfl,rfl⟩
theorem GD(a b s:Int)(w:Wd)(ha:aI a)(hb:aI b)(hs:aI s):
  Wc 118 #[.int .i64 a,.int .i64 b,.int .i64 s] w (Rt w (.tuple #[.int .i64 (oO a s),.int .i64 (e9 b s)])):=by
 have J:=jz (yO a s w ha hs);have I:Hid (∀ W v,Sl W v [.int .i64 s]->Wc 47 #[.int .i64 b,v] W (Rt W (.int .i64 (e9 b s)))):=jz (λW v h=>zO b s v W hb hs h);clear ha hb hs;go_enter func118,ntmps118
 go_wp2_with fail
 refine J.mono ?_;rintro e O ⟨rfl,rfl⟩;clear J;go_wp2_with fail
 refine(I _ _ (Sn.new w #[.int .i64 s] 2 1 1 rfl).sl).mono ?_;rintro e R ⟨rfl,D⟩;have K:=jz (aB (aV w _) D);clear D I;go_wp2_with fail
 first|go_ret2|skip
 exact⟨rfl,K⟩
def xE(a b:Nm):Bool:=decide (a.realm=b.realm) && decide (a.parts=b.parts)
def fY(t:TkD)(a:AuD)(now skew:Int):Int:=
 if now<oO t.start skew then 3
 else if e9 t.fin skew<now then 4
 else if xE t.client a.client=false then 5
 else if skew<kP a.time now then 6
 else 0
theorem GE(a:AuD)(v:Value)(skew:Int)(w:Wd)(hs:aI skew)(ht:a.time<=1099511627776)(hv:v.oneCell'=true):
  Wc 53 #[.agg (auC a v).toArray,.int .i64 skew] w (Rt w (.int .i64 (e9 a.time skew))):=by
 have K:Hid (∀ W v,Sl W v [.int .i64 skew]->Wc 47 #[.int .i64 (a.time:Nat),v] W (Rt W (.int .i64 (e9 a.time skew)))):=jz (λW v h=>zO a.time skew v W (by unfold aI;omega) hs h);unfold auC;obtain⟨S,hS⟩:=je (bI a.client.realm);obtain⟨T,V⟩:=je a.time;obtain⟨M,hM⟩:=je a.micro;obtain⟨Q,hQ⟩:=je a.seq;rw[<- V] at K;rw[<- hS,<- V,<- hM,<- hQ];clear hS V hM hQ hs ht;obtain⟨g,hg⟩:=je w.heap.size;obtain⟨J,D⟩:=je (w.alloc (.cells #[.string S,v,.int .i64 (T:Nat),.int .u32 (M:Nat),.int .u32 (Q:Nat)] 55));have O:Hid (Bw w J):=jz (by rw[D];exact aV _ _);have U:Hid (Blk J g 55 #[.string S,v,.int .i64 (T:Nat),.int .u32 (M:Nat),.int .u32 (Q:Nat)]):=jz (by rw[D,hg];exact Blk.new _ _ _);have Z:=U.cell 2;simp only[jf,jh,jg] at Z;go_enter func53,ntmps53
 go_upto_region 1 with fail
 rw[<- D,<- hg];clear D hg;go_wp2_with fail
 refine(K _ _ (Sn.new J #[.int .i64 skew] 2 1 1 rfl).sl).mono ?_;rintro e w2 ⟨rfl,I⟩;have R:=jz (aB O (aB (aV J _) I));clear I K Z;go_wp2_with fail
 go_ret;exact⟨rfl,R⟩
theorem D6{a b:Bs}(h:bI a=bI b):a=b:=by
 unfold bI at h;injection h with h
 injection h
theorem yR(l:List Bs)(j:Nat)(h:j<l.length):(fG l)[j]? = some (.string ((l.map bI).getD j ByteArray.empty)):=by
 unfold fG;simp[h]
theorem AM{a b:List Bs}(h:a.map bI=b.map bI):a=b:=by
 induction a generalizing b with
 | nil=>cases b with
  | nil=>rfl
  | cons y b=>cases h
 | cons x a ih=>cases b with
  | nil=>cases h
  | cons y b=>
   rw[List.map_cons,List.map_cons,List.cons.injEq] at h;rw[D6 h.1,ih h.2]
theorem PV(l1 l2:List Bs)(J K:Option Addr)(c1 D:Nat)(w:Wd)(h1:Sn w 1 (.slice J l1.length c1) l1.length (fG l1))(h2:Sn w 1 (.slice K l2.length D) l2.length (fG l2))(a0:l1.length<=100)(a1:l2.length<=100):
  Wc 171 #[.slice J l1.length c1,.slice K l2.length D] w (Rt w (.bool (decide (l1=l2)))):=by
 rcases Nat.eq_zero_or_pos l1.length with h0|hp
 ·have e1:l1=[]:=List.eq_nil_of_length_eq_zero h0;subst e1;refine(Tryz.slices_Equal_string_empty J K c1 l2.length D w (by omega)).mono ?_;rintro e w' ⟨rfl,rfl⟩;refine⟨?_,ji _ _⟩;have e:decide (l2.length=0)=decide (([]:List Bs)=l2):=by
   cases l2 with
   | nil=>rfl
   | cons y l=>simp
  rw[e]
 by_cases hn:l1.length=l2.length
 ·obtain⟨A,c,e,_,_,hx⟩:=h1;injection e with e1 _ _
  subst e1;obtain⟨V,o1,rfl,O⟩:=hx hp;obtain⟨A',c',e',_,_,U⟩:=h2;injection e' with e1' _ _
  subst e1';obtain⟨Z,o2,rfl,R⟩:=U (by omega);refine(Tryz.slices_Equal_string V o1 l1.length c1 Z o2 l2.length D (l1.map bI) (l2.map bI) w (by rw[List.length_map];exact ja _) (by rw[List.length_map];exact ja _) (by omega) (by omega) (λj I=>O j _ (yR l1 j (by rw[List.length_map] at I;exact I))) (λj I=>R j _ (yR l2 j (by rw[List.length_map] at I;exact I)))).mono ?_;rintro e w' ⟨rfl,q,rfl⟩;refine⟨?_,dG (ji _ _) q⟩;rw[List.take_of_length_le (by rw[List.length_map];exact ja _),List.take_of_length_le (by rw[List.length_map];exact ja _)];have e:decide (l1.map bI=l2.map bI)=decide (l1=l2):=decide_eq_decide.2 ⟨AM,λh=>by rw[h]⟩;rw[e]
 ·refine(Tryz.slices_Equal_string_lens J K l1.length c1 l2.length D w hn).mono ?_;rintro e w' ⟨rfl,rfl⟩;refine⟨?_,ji _ _⟩;rw[decide_eq_false (λh=>hn (by rw[h]))]
theorem LH(D I:Nm)(A1 A2:Option Addr)(c1 c2:Nat)(w:Wd)(h1:Sn w 1 (.slice A1 D.parts.length c1) D.parts.length (fG D.parts))(h2:Sn w 1 (.slice A2 I.parts.length c2) I.parts.length (fG I.parts))(V:D.parts.length<=100)(Z:I.parts.length<=100):
  Wc 122 #[.agg #[.string (bI D.realm),.slice A1 D.parts.length c1],.agg #[.string (bI I.realm),.slice A2 I.parts.length c2]] w (Rt w (.bool (xE D I))):=by
 have HE:=jz (fun(W:Wd) (hb:Bw w W)=>PV D.parts I.parts A1 A2 c1 c2 W (h1.below hb) (h2.below hb) V Z);have K:Hid (xE D I=(decide (D.realm=I.realm) && decide (D.parts=I.parts))):=jz rfl;have J:Hid (((bI D.realm).toList == (bI I.realm).toList)=decide (D.realm=I.realm)):=jz (by
  rw[P9]
  exact decide_eq_decide.2 ⟨D6,λh=>by rw[h]⟩)
 obtain⟨S1,O⟩:=je (bI D.realm);obtain⟨S2,R⟩:=je (bI I.realm);obtain⟨m1,a0⟩:=je D.parts.length;obtain⟨m2,a1⟩:=je I.parts.length;rw[<- O,<- R] at J ⊢;rw[<- a0,<- a1] at HE ⊢;clear O R a0 a1 h1 h2 V Z;obtain⟨q,hq⟩:=je (xE D I);rw[<- hq] at K ⊢;clear hq;cases hr:decide (D.realm=I.realm) with
 | true=>
  have a2:(S1.toList == S2.toList)=true:=by rw[J.out,hr]
  rw[hr] at K;clear hr;go_enter func122,ntmps122
  go_wp2_with fail
  refine(HE _ (aB (aV _ _) (aV _ _))).mono ?_;rintro e w3 ⟨rfl,U⟩;have a3:=jz (aB (aB (aV _ _) (aV _ _)) U);clear U HE a2;go_wp2_with fail
  go_ret;exact⟨by rw[K.out];rfl,a3⟩
 | false=>
  have a2:(S1.toList == S2.toList)=false:=by rw[J.out,hr]
  rw[hr] at K;clear hr;go_enter func122,ntmps122
  go_wp2_with fail
  go_ret;exact⟨by rw[K.out];rfl,aB (aV _ _) (aV _ _)⟩
structure ChX(g4 g5 g6 g7 g9 g10:Nat)(t:TkD)(a:AuD)(v1 v2:Value)(now skew:Int)(W:Wd):Prop where
 bt:Blk W g4 53 (tkC t v1).toArray
 ba:Blk W g5 55 (auC a v2).toArray
 n:Blk W g6 2 #[.int .i64 now]
 s:Blk W g7 2 #[.int .i64 skew]
 f:Blk W g9 2 #[.int .i64 (oO t.start skew)]
 u:Blk W g10 2 #[.int .i64 (e9 t.fin skew)]
 p:Sn W 1 v1 t.client.parts.length (fG t.client.parts)
 q:Sn W 1 v2 a.client.parts.length (fG a.client.parts)
theorem ChX.keep{g4 g5 g6 g7 g9 g10:Nat}{t:TkD}{a:AuD}{v1 v2:Value}{now skew:Int}{W W':Wd}(h:ChX g4 g5 g6 g7 g9 g10 t a v1 v2 now skew W)(hb:Bw W W'):ChX g4 g5 g6 g7 g9 g10 t a v1 v2 now skew W':=
 ⟨h.bt.keep hb,h.ba.keep hb,h.n.keep hb,h.s.keep hb,h.f.keep hb,h.u.keep hb,h.p.below hb,h.q.below hb⟩
section
variable {g4 g5 g6 g7 g9 g10 : Nat} {t : TkD} {a : AuD} {v1 v2 : Value} {now skew : Int} {w : Wd}
theorem PW(h:ChX g4 g5 g6 g7 g9 g10 t a v1 v2 now skew w):Wc 119 #[.pointer (some ⟨g6,0,none⟩),.pointer (some ⟨g9,0,none⟩)] w (Rt w (.bool (decide (now<oO t.start skew)))):=by
 have c1:=h.n.cell 0;have D:=h.f.cell 0;simp only[jf,jg] at c1 D;clear h;go_enter func119,ntmps119
 go_wp2_with fail
 go_ret;exact⟨rfl,ji _ _⟩
theorem PX(h:ChX g4 g5 g6 g7 g9 g10 t a v1 v2 now skew w):Wc 120 #[.pointer (some ⟨g6,0,none⟩),.pointer (some ⟨g10,0,none⟩)] w (Rt w (.bool (decide (e9 t.fin skew<now)))):=by
 have c1:=h.n.cell 0;have D:=h.u.cell 0;simp only[jf,jg] at c1 D;clear h;go_enter func120,ntmps120
 go_wp2_with fail
 go_ret;exact⟨rfl,ji _ _⟩
theorem S5{W:Wd}{g:Nat}{t:TkD}{v:Value}(h:Blk W g 53 (tkC t v).toArray):W.rangeAt g 0 [.string (bI t.client.realm),v]:=λj u D=>by
 have J:j<2:=(List.getElem?_eq_some_iff.1 D).1;have h:=h.cell j;rw[Nat.zero_add,h];have I:j=0\/j=1:=by omega
 rcases I with rfl|rfl <;> exact D
theorem S6{W:Wd}{g:Nat}{a:AuD}{v:Value}(h:Blk W g 55 (auC a v).toArray):W.rangeAt g 0 [.string (bI a.client.realm),v]:=λj u D=>by
 have J:j<2:=(List.getElem?_eq_some_iff.1 D).1;have h:=h.cell j;rw[Nat.zero_add,h];have I:j=0\/j=1:=by omega
 rcases I with rfl|rfl <;> exact D
theorem PY(h:ChX g4 g5 g6 g7 g9 g10 t a v1 v2 now skew w)(ht:TkOk t)(ha:AuOk a):Wc 121 #[.pointer (some ⟨g4,0,none⟩),.pointer (some ⟨g5,0,none⟩)] w (Rt w (.bool (!xE t.client a.client))):=by
 have O:=jz (S5 h.bt);have R:=jz (S6 h.ba);have HI:Hid (∀(x y:Value),(prog.info? 51).map (·.size)=some [x,y].length):=jz (λ_ _=>mZ);obtain⟨A1,c1,rfl,_⟩:=id h.p;obtain⟨A2,c2,rfl,_⟩:=id h.q;have Z:=jz (LH t.client a.client A1 A2 c1 c2 w h.p h.q (by have:=ht.nm.few;omega) (by have:=ha.nm.few;omega));obtain⟨S1,D⟩:=je (bI t.client.realm);obtain⟨S2,I⟩:=je (bI a.client.realm);obtain⟨m1,J⟩:=je t.client.parts.length;obtain⟨m2,K⟩:=je a.client.parts.length;obtain⟨b,hb⟩:=je (xE t.client a.client);rw[<- hb] at Z ⊢;rw[<- D,<- J,<- I,<- K] at Z;rw[<- D,<- J] at O;rw[<- I,<- K] at R;clear h ht ha D I J K hb;go_enter func121,ntmps121
 go_wp2_with (first
  | (refine ld 51 (.tmp 3) rfl rfl (by rfl) O underlying51 rfl (HI _ _) ?_)
  | (refine ld 51 (.tmp 5) rfl rfl (by rfl) R underlying51 rfl (HI _ _) ?_))
 refine Z.mono ?_;rintro e w3 ⟨rfl,U⟩;have V:=jz U;clear U;go_wp2_with fail
 go_ret;exact⟨rfl,V⟩
theorem PZ(h:ChX g4 g5 g6 g7 g9 g10 t a v1 v2 now skew w)(U:aI now)(ha:AuOk a):Wc 123 #[.pointer (some ⟨g5,0,none⟩),.pointer (some ⟨g6,0,none⟩),.pointer (some ⟨g7,0,none⟩)] w (Rt w (.bool (decide (skew<kP a.time now)))):=by
 have I:Hid (∀ W,Bw w W->(W.cell? ⟨g5,2,none⟩=some (.int .i64 (a.time:Nat))/\W.cell? ⟨g6,0,none⟩=some (.int .i64 now))/\W.cell? ⟨g7,0,none⟩=some (.int .i64 skew)):=jz (λW D=>by
  have h1:=(h.ba.keep D).cell 2
  have Z:=(h.n.keep D).cell 0
  have h3:=(h.s.keep D).cell 0
  exact⟨⟨h1,Z⟩,h3⟩)
 have J:=jz (λW=>LG (a.time:Nat) now W (by have:=ha.time;unfold aI;omega) U);obtain⟨T,R⟩:∃ T:Int,T=(a.time:Nat):=⟨_,rfl⟩;rw[<- R] at I J ⊢;obtain⟨r,V⟩:=je (kP T now);rw[<- V] at J ⊢;clear h U ha R V;go_enter func123,ntmps123
 go_upto_region 1 with fail
 refine kZ (n:=7) (λW=>Bw w W) ((ji _ _).drew) (h:=λO=>?_);refine qT 0 (.pointer (some ⟨g5,2,none⟩)) ?_;refine qC 1 (v:=.int .i64 T) (λW D=>(I W D).1.1) ?_;refine qC 2 (v:=.int .i64 now) (λW D=>(I W D).1.2) ?_;refine qC 4 (v:=.int .i64 skew) (λW D=>(I W D).2) ?_;refine kF 3 (some 7) ((J _).mono ?_);rintro e w3 ⟨rfl,rfl⟩;refine⟨_,rfl,O,λK=>?_⟩;simp only[jq];refine qT 5 (.bool (decide (skew<r))) ?_;refine qT 6 (.bool (decide (skew<r))) ?_;refine kE (h:=?_);clear K;go_wp2_with fail
 go_ret;exact⟨rfl,O⟩
def W0(g4 g5 g6 g7 g9 g10:Nat):Wa:=#[.int .i64 3,.func (.func 119) #[] #[.pointer (some ⟨g6,0,none⟩),.pointer (some ⟨g9,0,none⟩)],.int .i64 4,.func (.func 120) #[] #[.pointer (some ⟨g6,0,none⟩),.pointer (some ⟨g10,0,none⟩)],.int .i64 5,.func (.func 121) #[] #[.pointer (some ⟨g4,0,none⟩),.pointer (some ⟨g5,0,none⟩)],.int .i64 6,.func (.func 123) #[] #[.pointer (some ⟨g5,0,none⟩),.pointer (some ⟨g6,0,none⟩),.pointer (some ⟨g7,0,none⟩)]]
theorem GF(ht:TkOk t)(ha:AuOk a)(hn:aI now)(hs:aI skew)(h1:Sn w 1 v1 t.client.parts.length (fG t.client.parts))(h2:Sn w 1 v2 a.client.parts.length (fG a.client.parts)):
  Wc 77 #[.agg (tkC t v1).toArray,.agg (auC a v2).toArray,.int .i64 now,.int .i64 skew] w λe w'=>∃ gs g4 g5 g6 g7 g9 g10,e = .returned (.slice (some ⟨gs,0,none⟩) 4 4)/\Blk w' gs 166 (W0 g4 g5 g6 g7 g9 g10)/\ChX g4 g5 g6 g7 g9 g10 t a v1 v2 now skew w'/\Bw w w':=by
 have b3:∀(fn:Fn) (first cap:Wa) (w:Wd),(Instr.makeFunc fn first cap).run prog w = .ok (.func fn first cap) w:=λ_ _ _ _=>rfl
 have HW:=jz (λW=>GD (t.start:Nat) (t.fin:Nat) skew W (by have:=ht.se;have:=ht.mx;unfold aI;omega) (by have:=ht.mx;unfold aI;omega) hs);obtain⟨R,I⟩:=je ((((w.alloc (.cells (tkC t v1).toArray 53)).alloc (.cells (auC a v2).toArray 55)).alloc (.cells #[.int .i64 now] 2)).alloc (.cells #[.int .i64 skew] 2));obtain⟨g,hg⟩:=je w.heap.size;have b1:Hid (Bw w R):=jz (by rw[I];exact aB (aB (aV _ _) (aV _ _)) (aB (aV _ _) (aV _ _)));have K:Hid (Blk R g 53 (tkC t v1).toArray):=jz (by rw[I,hg];exact(((Blk.new _ _ _).alloc _).alloc _).alloc _);have a1:Hid (Blk R (g+1) 55 (auC a v2).toArray):=jz (by rw[I,hg];exact((Blk.newAt _ _ _ _ (by simp)).alloc _).alloc _);have a5:Hid (Blk R (g+1+1) 2 #[.int .i64 now]):=jz (by rw[I,hg];exact(Blk.newAt _ _ _ _ (by simp)).alloc _);have V:Hid (Blk R (g+1+1+1) 2 #[.int .i64 skew]):=jz (by rw[I,hg];exact Blk.newAt _ _ _ _ (by simp));have a6:=jz (And.intro h1 h2);have c2:R.cell? ⟨g,2,none⟩=some (.int .i64 (t.start:Nat)):=K.cell 2;have c3:R.cell? ⟨g,3,none⟩=some (.int .i64 (t.fin:Nat)):=K.cell 3;have s0:=V.cell 0;simp only[jf,jg] at s0;have a4:Hid (∃ x y,x=oO t.start skew/\y=e9 t.fin skew):=jz ⟨_,_,rfl,rfl⟩;obtain⟨x,y,hx,hy⟩:=a4.out;have a8:=jz (And.intro hx hy);rw[<- hx,<- hy] at HW;obtain⟨T1,a9⟩:∃ T:Int,T=(t.start:Nat):=⟨_,rfl⟩;obtain⟨T2,b0⟩:∃ T:Int,T=(t.fin:Nat):=⟨_,rfl⟩;rw[<- a9] at c2 HW;rw[<- b0] at c3 HW;obtain⟨C,hC⟩:=je ((tkC t v1).toArray);obtain⟨D,hD⟩:=je ((auC a v2).toArray);have a2:=jz (And.intro hC hD);rw[<- hC] at I ⊢;rw[<- hD] at I ⊢;clear ht ha hn hs h1 h2 hx hy a4 a9 b0 hC hD;go_enter func77,ntmps77
 go_upto_region 1 with fail
 rw[<- I];simp only[<- hg];clear I hg;go_wp2_with fail
 refine(HW R).mono ?_;rintro e w2 ⟨rfl,Z⟩;clear c2 c3 s0 HW;go_upto_region 2 with fail
 obtain⟨g9,O⟩:=je w2.heap.size;obtain⟨w3,J⟩:=je ((w2.alloc (.cells #[.int .i64 x] 2)).alloc (.cells #[.int .i64 y] 2));have a0:Bw w2 w3:=by rw[J];exact aB (aV _ _) (aV _ _)
 have a3:Hid (Blk w3 g9 2 #[.int .i64 x]):=jz (by rw[J,O];exact(Blk.new _ _ _).alloc _);have a7:Hid (Blk w3 (g9+1) 2 #[.int .i64 y]):=jz (by rw[J,O];exact Blk.newAt _ _ _ _ (by simp));have U:=jz (aB b1 (aB Z a0));have b2:Hid (ChX g (g+1) (g+1+1) (g+1+1+1) g9 (g9+1) t a v1 v2 now skew w3):=jz (by
  have hb:=aB Z a0
  refine⟨?_,?_,a5.keep hb,V.keep hb,?_,?_,a6.out.1.below U,a6.out.2.below U⟩
  ·rw[<- a2.out.1]
   exact(by rw[a2.out.1];exact K.keep hb)
  ·exact a1.keep hb
  ·rw[<- a8.out.1];exact a3.out
  ·rw[<- a8.out.2];exact a7)
 rw[<- J];simp only[<- O];clear J O Z a0 a3 a7 K a1 a5 V;go_wp2_with fail
 go_ret;refine⟨w3.heap.size,_,_,_,_,_,_,rfl,?_,b2.keep (aV _ _),aB U (aV _ _)⟩;exact Blk.new _ _ _
end
end
section
open Go.RowKit
attribute [local irreducible] wpQuiet wpAnyH
def LI:Wa:=#[.int .i64 0,.nilFunc]
theorem tI:∀ w,(zeroValue 166).run prog w = .ok (.agg LI) w:=λw=>by unfold LI;kernel_rfl
theorem P1:(prog.info? 166).map (·.size)=some 2:=by kernel_rfl
section
variable {t : TkD} {a : AuD} {v1 v2 : Value} {now skew : Int} {w : Wd}
theorem GG(ht:TkOk t)(ha:AuOk a)(hn:aI now)(hs:aI skew)(h1:Sn w 1 v1 t.client.parts.length (fG t.client.parts))(h2:Sn w 1 v2 a.client.parts.length (fG a.client.parts))(c5:v1.oneCell'=true)(c6:v2.oneCell'=true):
  Wc 51 #[.agg (tkC t v1).toArray,.agg (auC a v2).toArray,.int .i64 now,.int .i64 skew] w (Rt w (.int .i64 (fY t a now skew))):=by
 have V:Hid (fY t a now skew=if now<oO t.start skew then 3 else if e9 t.fin skew<now then 4 else if xE t.client a.client=false then 5 else if skew<kP a.time now then 6 else 0):=jz rfl;have HC:=jz (fun(W:Wd) (hb:Bw w W)=>GF (w:=W) ht ha hn hs (h1.below hb) (h2.below hb));have a5:=jz (And.intro ht (And.intro ha hn));obtain⟨Z,hZ⟩:=je (fY t a now skew);rw[<- hZ] at V ⊢;obtain⟨w1,a0⟩:=je ((w.alloc (.cells (tkC t v1).toArray 53)).alloc (.cells (auC a v2).toArray 55));obtain⟨g,hg⟩:=je w.heap.size;have a6:Hid (Bw w w1):=jz (by rw[a0];exact aB (aV _ _) (aV _ _));have a2:Hid (w1.rangeAt g 0 (tkC t v1)):=jz (by rw[a0,hg];have h:=((Blk.new w 53 (tkC t v1).toArray).alloc (.cells (auC a v2).toArray 55)).range;rwa [jt] at h);have a3:Hid (w1.rangeAt (g+1) 0 (auC a v2)):=jz (by rw[a0,hg];have h:=(Blk.newAt (w.alloc (.cells (tkC t v1).toArray 53)) 55 (auC a v2).toArray (w.heap.size+1) (by simp)).range;rwa [jt] at h);have HI:Hid ((prog.info? 53).map (·.size)=some (tkC t v1).length/\(prog.info? 55).map (·.size)=some (auC a v2).length):=jz ⟨(lI c5).2.2.2,(wE c6).2.2.2⟩;obtain⟨C,hC⟩:=je (tkC t v1);obtain⟨D,hD⟩:=je (auC a v2);rw[<- hC] at a0 a2 HI HC ⊢;rw[<- hD] at a0 a3 HI HC ⊢;clear ht ha hn hs h1 h2 c5 c6 hZ hC hD;go_enter func51,ntmps51
 go_upto_region 1 with fail
 rw[<- a0];simp only[<- hg];clear a0 hg;go_wp2_with (first
  | (refine ld 53 (.tmp 4) rfl rfl (by rfl) a2 underlying53 rfl HI.out.1 ?_)
  | (refine ld 55 (.tmp 5) rfl rfl (by rfl) a3 underlying55 rfl HI.out.2 ?_))
 refine(HC w1 a6).mono ?_;rintro e w2 ⟨gs,g4,g5,g6,g7,g9,g10,rfl,c4,hx,c3⟩;have b1:=jz c4;have c2:=jz hx;have b3:=jz (aB a6 c3);have a4:Hid (∀ x y:Value,(prog.info? 166).map (·.size)=some [x,y].length):=jz (λ_ _=>P1);clear c4 hx c3 HC HI a2 a3 a6;go_wp2_with fail
 refine wp_loop_rounds 5 ?_;rw[rounds_succ];have a2:Hid (w2.rangeAt gs 0 [.int .i64 3,.func (.func 119) #[] #[.pointer (some ⟨g6,0,none⟩),.pointer (some ⟨g9,0,none⟩)]]):=jz (λj u hj=>by
  have b2:j<2:=(List.getElem?_eq_some_iff.1 hj).1
  have h:=b1.cell (0+j)
  rw[h]
  have hc:j=0\/j=1:=by omega
  rcases hc with rfl|rfl <;> exact hj)
 go_upto_region 3 with fail
 go_upto_region 4 with (first
  | (refine ld 166 (.tmp 19) rfl rfl (by rfl) a2 underlying166 rfl (a4 _ _) ?_)
  | (refine al 166 LI rfl rfl tI ?_)
  | (refine bQ 166 (.tmp 10) (.tmp 20) rfl rfl (by rfl) (by rfl) (cells:=#[.int .i64 3,.func (.func 119) #[] #[.pointer (some ⟨g6,0,none⟩),.pointer (some ⟨g9,0,none⟩)]]) P1 rfl (by rw[List.all_toArray];rfl) ?_;intro e2 O J a1))
 try simp only[jq]
 obtain⟨d5,R⟩:=je w2.heap.size;rw[<- R] at O;have HX1a:=jz (c2.keep J);have HS1a:=jz (b1.keep J);have HG1a:Hid (Blk e2 d5 166 #[.int .i64 3,.func (.func 119) #[] #[.pointer (some ⟨g6,0,none⟩),.pointer (some ⟨g9,0,none⟩)]]):=jz O;have HB1a:=jz (aB b3 J);have a7:=jz (PW HX1a);obtain⟨b,hb⟩:=je ((decide (now<oO t.start skew)));rw[<- hb] at a7;simp only[<- R];have K:=jz hb;clear O a1 R J hb c2 b1 b3 a2;have U:=HG1a.cell 1;simp only[jf,jh,jg] at U;go_wp2_with fail
 refine a7.mono ?_;clear U;rintro e c7 ⟨rfl,I⟩;have HX1b:=jz (HX1a.keep I);have HS1b:=jz (HS1a.keep I);have HG1b:=jz (HG1a.keep I);have HB1b:=jz (aB HB1a I);clear I a7 HX1a HS1a HG1a HB1a;have d1:=V;cases b
 case true=>
  have hb:=K.out;have HZ:Hid (Z=3):=jz (by rw[V.out,jP (of_decide_eq_true hb.symm)]);have c0:=HG1b.cell 0;simp only[jf,jg] at c0;clear hb;go_wp2_with fail
  go_ret;exact⟨by rw[HZ.out];rfl,HB1b⟩
 have hb:=K.out;replace V:=jz (V.trans (jQ (of_decide_eq_false hb.symm)));clear hb K HG1b d1;go_wp2_with fail
 rw[rounds_succ];have a3:Hid (c7.rangeAt gs 2 [.int .i64 4,.func (.func 120) #[] #[.pointer (some ⟨g6,0,none⟩),.pointer (some ⟨g10,0,none⟩)]]):=jz (λj u hj=>by
  have b2:j<2:=(List.getElem?_eq_some_iff.1 hj).1
  have h:=HS1b.cell (2+j)
  rw[h]
  have hc:j=0\/j=1:=by omega
  rcases hc with rfl|rfl <;> exact hj)
 go_upto_region 3 with fail
 go_upto_region 4 with (first
  | (refine ld 166 (.tmp 19) rfl rfl (by rfl) a3 underlying166 rfl (a4 _ _) ?_)
  | (refine al 166 LI rfl rfl tI ?_)
  | (refine bQ 166 (.tmp 10) (.tmp 20) rfl rfl (by rfl) (by rfl) (cells:=#[.int .i64 4,.func (.func 120) #[] #[.pointer (some ⟨g6,0,none⟩),.pointer (some ⟨g10,0,none⟩)]]) P1 rfl (by rw[List.all_toArray];rfl) ?_;intro e3 O J a1))
 try simp only[jq]
 obtain⟨d7,R⟩:=je c7.heap.size;rw[<- R] at O;have HX2a:=jz (HX1b.keep J);have HS2a:=jz (HS1b.keep J);have HG2a:Hid (Blk e3 d7 166 #[.int .i64 4,.func (.func 120) #[] #[.pointer (some ⟨g6,0,none⟩),.pointer (some ⟨g10,0,none⟩)]]):=jz O;have HB2a:=jz (aB HB1b J);have a8:=jz (PX HX2a);obtain⟨b,hb⟩:=je ((decide (e9 t.fin skew<now)));rw[<- hb] at a8;simp only[<- R];have K:=jz hb;clear O a1 R J hb HX1b HS1b HB1b a3;have U:=HG2a.cell 1;simp only[jf,jh,jg] at U;go_wp2_with fail
 refine a8.mono ?_;clear U;rintro e c9 ⟨rfl,I⟩;have HX2b:=jz (HX2a.keep I);have HS2b:=jz (HS2a.keep I);have HG2b:=jz (HG2a.keep I);have HB2b:=jz (aB HB2a I);clear I a8 HX2a HS2a HG2a HB2a;have d2:=V;cases b
 case true=>
  have hb:=K.out;have HZ:Hid (Z=4):=jz (by rw[V.out,jP (of_decide_eq_true hb.symm)]);have c0:=HG2b.cell 0;simp only[jf,jg] at c0;clear hb;go_wp2_with fail
  go_ret;exact⟨by rw[HZ.out];rfl,HB2b⟩
 have hb:=K.out;replace V:=jz (V.trans (jQ (of_decide_eq_false hb.symm)));clear hb K HG2b d2;go_wp2_with fail
 rw[rounds_succ];have b7:Hid (c9.rangeAt gs 4 [.int .i64 5,.func (.func 121) #[] #[.pointer (some ⟨g4,0,none⟩),.pointer (some ⟨g5,0,none⟩)]]):=jz (λj u hj=>by
  have b2:j<2:=(List.getElem?_eq_some_iff.1 hj).1
  have h:=HS2b.cell (4+j)
  rw[h]
  have hc:j=0\/j=1:=by omega
  rcases hc with rfl|rfl <;> exact hj)
 go_upto_region 3 with fail
 go_upto_region 4 with (first
  | (refine ld 166 (.tmp 19) rfl rfl (by rfl) b7 underlying166 rfl (a4 _ _) ?_)
  | (refine al 166 LI rfl rfl tI ?_)
  | (refine bQ 166 (.tmp 10) (.tmp 20) rfl rfl (by rfl) (by rfl) (cells:=#[.int .i64 5,.func (.func 121) #[] #[.pointer (some ⟨g4,0,none⟩),.pointer (some ⟨g5,0,none⟩)]]) P1 rfl (by rw[List.all_toArray];rfl) ?_;intro e4 O J a1))
 try simp only[jq]
 obtain⟨e0,R⟩:=je c9.heap.size;rw[<- R] at O;have HX3a:=jz (HX2b.keep J);have HS3a:=jz (HS2b.keep J);have HG3a:Hid (Blk e4 e0 166 #[.int .i64 5,.func (.func 121) #[] #[.pointer (some ⟨g4,0,none⟩),.pointer (some ⟨g5,0,none⟩)]]):=jz O;have HB3a:=jz (aB HB2b J);have a9:=jz (PY HX3a a5.out.1 a5.out.2.1);obtain⟨b,hb⟩:=je ((!xE t.client a.client));rw[<- hb] at a9;simp only[<- R];have K:=jz hb;clear O a1 R J hb HX2b HS2b HB2b b7;have U:=HG3a.cell 1;simp only[jf,jh,jg] at U;go_wp2_with fail
 refine a9.mono ?_;clear U;rintro e d0 ⟨rfl,I⟩;have HX3b:=jz (HX3a.keep I);have HS3b:=jz (HS3a.keep I);have HG3b:=jz (HG3a.keep I);have HB3b:=jz (aB HB3a I);clear I a9 HX3a HS3a HG3a HB3a;have d3:=V;cases b
 case true=>
  have hb:=K.out;have HZ:Hid (Z=5):=jz (by rw[V.out,jP (by simpa using hb.symm)]);have c0:=HG3b.cell 0;simp only[jf,jg] at c0;clear hb;go_wp2_with fail
  go_ret;exact⟨by rw[HZ.out];rfl,HB3b⟩
 have hb:=K.out;replace V:=jz (V.trans (jQ (by simpa using hb.symm)));clear hb K HG3b d3;go_wp2_with fail
 rw[rounds_succ];have b9:Hid (d0.rangeAt gs 6 [.int .i64 6,.func (.func 123) #[] #[.pointer (some ⟨g5,0,none⟩),.pointer (some ⟨g6,0,none⟩),.pointer (some ⟨g7,0,none⟩)]]):=jz (λj u hj=>by
  have b2:j<2:=(List.getElem?_eq_some_iff.1 hj).1
  have h:=HS3b.cell (6+j)
  rw[h]
  have hc:j=0\/j=1:=by omega
  rcases hc with rfl|rfl <;> exact hj)
 go_upto_region 3 with fail
 go_upto_region 4 with (first
  | (refine ld 166 (.tmp 19) rfl rfl (by rfl) b9 underlying166 rfl (a4 _ _) ?_)
  | (refine al 166 LI rfl rfl tI ?_)
  | (refine bQ 166 (.tmp 10) (.tmp 20) rfl rfl (by rfl) (by rfl) (cells:=#[.int .i64 6,.func (.func 123) #[] #[.pointer (some ⟨g5,0,none⟩),.pointer (some ⟨g6,0,none⟩),.pointer (some ⟨g7,0,none⟩)]]) P1 rfl (by rw[List.all_toArray];rfl) ?_;intro e5 O J a1))
 try simp only[jq]
 obtain⟨e1,R⟩:=je d0.heap.size;rw[<- R] at O;have HX4a:=jz (HX3b.keep J);have HS4a:=jz (HS3b.keep J);have HG4a:Hid (Blk e5 e1 166 #[.int .i64 6,.func (.func 123) #[] #[.pointer (some ⟨g5,0,none⟩),.pointer (some ⟨g6,0,none⟩),.pointer (some ⟨g7,0,none⟩)]]):=jz O;have HB4a:=jz (aB HB3b J);have b0:=jz (PZ HX4a a5.out.2.2 a5.out.2.1);obtain⟨b,hb⟩:=je ((decide (skew<kP a.time now)));rw[<- hb] at b0;simp only[<- R];have K:=jz hb;clear O a1 R J hb HX3b HS3b HB3b b9;have U:=HG4a.cell 1;simp only[jf,jh,jg] at U;go_wp2_with fail
 refine b0.mono ?_;clear U;rintro e e6 ⟨rfl,I⟩;have HX4b:=jz (HX4a.keep I);have HS4b:=jz (HS4a.keep I);have HG4b:=jz (HG4a.keep I);have HB4b:=jz (aB HB4a I);clear I b0 HX4a HS4a HG4a HB4a;have d4:=V;cases b
 case true=>
  have hb:=K.out;have HZ:Hid (Z=6):=jz (by rw[V.out,jP (of_decide_eq_true hb.symm)]);have c0:=HG4b.cell 0;simp only[jf,jg] at c0;clear hb;go_wp2_with fail
  go_ret;exact⟨by rw[HZ.out];rfl,HB4b⟩
 have hb:=K.out;replace V:=jz (V.trans (jQ (of_decide_eq_false hb.symm)));clear hb K HG4b d4;go_wp2_with fail
 rw[rounds_succ];go_wp2_with fail
 go_ret;exact⟨by rw[V.out];rfl,HB4b⟩
end
end
end Go.Proofs.YtjjlaipkkdncfaaGreatDoor
