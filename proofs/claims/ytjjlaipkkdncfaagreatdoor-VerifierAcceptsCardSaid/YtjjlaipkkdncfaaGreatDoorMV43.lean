import Derived.Test.YtjjlaipkkdncfaaGreatDoorMV41
import Derived.Test.YtjjlaipkkdncfaaGreatDoorMV42
set_option linter.unusedVariables false
set_option linter.unusedSimpArgs false
set_option maxRecDepth 100000
set_option maxHeartbeats 40000000
namespace Go.Proofs.YtjjlaipkkdncfaaGreatDoor
open Go.Proofs.Tryz
open Go.RowKit
attribute [local irreducible] wpQuiet wpAnyH
theorem TE(t:TkD):sP (bI t.client.realm) (t.client.parts.map bI) t.start t.fin t.key=tkN t:=by
 unfold sP tkN;rw[I1,nA,nA]
theorem P6(key nn:Nat->Nat)(t:TkD)(a:AuD):mkR key nn (tkN t) (auN a) t.key=pS key nn t a:=by
 unfold mkR pS rqR rqN psR;rw[D3,D3,nA,nA]
theorem P7(q:Nat):prog.built 100 [(0,.int .u8 ((q % 256:Nat):Int))]=some (arr 8 (c8 (nnK q))).toArray:=by unfold nnK;kernel_rfl
theorem EA(n:Int):((iA (kdN n)).parts.map bI).length=1/\(∀ s∈(iA (kdN n)).parts.map bI,s.size<=255):=by
 refine⟨rfl,λs hs=>?_⟩;obtain⟨p,D,rfl⟩:=List.mem_map.1 hs;unfold iA at D;rw[List.mem_singleton.1 D];split
 ·decide
 ·split <;> decide
theorem yT(cl ot:Int)(st fi tm sq:Nat)(hc:aI cl)(ho:aI ot)(h1:st<=fi)(h2:fi<=1099511627776)(h3:tm<=1099511627776)(h4:sq<4294967296)(w:Wd):
  Wc 19 #[.agg (kdC ⟨cl,ot,st,fi,tm,sq,false,0⟩).toArray] w λe w'=>∃ v,e = .returned v/\w'.ownsRow w.heap.size 5 1 v (kdB (kdN cl) (clN cl) st fi (kdN ot) tm sq).length (n8 (kdB (kdN cl) (clN cl) st fi (kdN ot) tm sq))/\Bw w w':=by
 have HP:=jz (λW=>wI cl ot st fi tm sq false 0 hc ho W);obtain⟨K,hK⟩:=je (kdC ⟨cl,ot,st,fi,tm,sq,false,0⟩);have HK:=jz hK;rw[<- hK] at HP ⊢;clear hK hc ho;go_enter func19,ntmps19
 go_upto_region 1 with fail
 obtain⟨g,hg⟩:=je w.heap.size;obtain⟨I,c3⟩:=je (w.alloc (.cells K.toArray 37));have H1:Hid (Blk I g 37 K.toArray/\Bw w I/\g=w.heap.size/\I.heap.size=g+1):=jz (by rw[c3,hg];exact⟨Blk.new _ _ _,(ji _ w).alloc (ja _) _,rfl,by simp⟩);have a5:Hid (∀ W,Bw I W->W.rangeAt g 0 K/\W.cell? ⟨g,5,none⟩=some (.int .u32 sq)/\W.cell? ⟨g,6,none⟩=some (.bool false)/\W.cell? ⟨g,7,none⟩=some (.int .u16 0)):=jz (λW hW=>by
  have hk:=H1.out.1.keep hW
  have hr:=hk.range
  rw[jt] at hr
  refine⟨hr,(hk.cell 5).trans ?_,(hk.cell 6).trans ?_,(hk.cell 7).trans ?_⟩ <;> (rw[HK.out];rfl))
 have e4:Hid ((prog.info? 37).map (·.size)=some K.length):=jz (by rw[HK.out];kernel_rfl);rw[<- c3,<- hg];clear c3 hg;go_wp2_with (refine ld 37 (.tmp 1) rfl rfl (by rfl) (a5 _ (ji _ _)).1 underlying37 rfl e4 ?_)
 refine(HP I).mono ?_;rintro e w2 ⟨A1,c1,A2,c2,rfl,d5,d7,d2⟩;obtain⟨T,hT⟩:=je (tkC (tkK (kdN cl) (clN cl) st fi) (.slice A1 1 c1));obtain⟨U,hU⟩:=je (auC (auK (kdN ot) tm sq) (.slice A2 1 c2));rw[<- hT,<- hU];have J:Hid (((prog.info? 53).map (·.size)=some T.toArray.size/\tkZ.size=T.toArray.size/\T.toArray.all (·.oneCell')=true)/\((prog.info? 55).map (·.size)=some U.toArray.size/\auZ.size=U.toArray.size/\U.toArray.all (·.oneCell')=true)):=jz (by
  have hu:U.length=5:=by rw[hU];rfl
  have ht:=lI (t:=tkK (kdN cl) (clN cl) st fi) (v:=.slice A1 1 c1) rfl
  rw[<- hT] at ht
  exact⟨⟨ht.1,ht.2.1,ht.2.2.1⟩,by rw[js,hu];exact auI,(by rw[js,hu]:5=U.toArray.size),all_oneCell_toArray (by rw[hU];exact nP rfl)⟩)
 have a0:Hid (T=tkC (tkK (kdN cl) (clN cl) st fi) (.slice A1 1 c1)/\U=auC (auK (kdN ot) tm sq) (.slice A2 1 c2)):=jz ⟨hT,hU⟩;have H2:Hid (Bw I w2/\w2.ownsRow I.heap.size 9 1 (.slice A1 1 c1) 1 (nmV cl)/\w2.ownsRow I.heap.size 9 1 (.slice A2 1 c2) 1 (nmV ot)):=jz ⟨d2,d5,d7⟩;clear d5 d7 d2 hT hU;obtain⟨g2,a8⟩:=je w2.heap.size;have f4:=jz a8;go_upto_region 2 with (first
  | (refine al 53 tkZ rfl rfl iE ?_)
  | (refine al 55 auZ rfl rfl lZ ?_)
  | (show wpList _ _ _ [_,_] _ _;refine R2 ?_))
 unfold Stp;refine aN 53 (.tmp 3) (.tmp 11) rfl rfl (by rfl) (by rfl) ((Blk.new w2 53 tkZ).alloc (.cells auZ 55)) J.out.1.1 J.out.1.2.1 J.out.1.2.2 ?_;intro w3 d0 d3 e0 f1;have c9:Blk w3 (w2.heap.size+1) 55 auZ:=(e0 _ (by omega)).trans (Blk.newAt _ _ _ _ (by simp));refine aN 55 (.tmp 4) (.tmp 12) rfl rfl (by rfl) (by rfl) c9 J.out.2.1 J.out.2.2.1 J.out.2.2.2 ?_;intro w4 d1 R e2 f2;have O:Bw w2 w4:=by
  have h1:Bw w2 ((w2.alloc (.cells tkZ 53)).alloc (.cells auZ 55)):=((ji _ w2).alloc (ja _) _).alloc (by simp) _;have h3:=h1.trans d3;exact h3.trans ⟨R.os,R.tape,R.output,R.size,λk hk=>R.block k (by omega)⟩
 obtain⟨g3,b3⟩:=je (g2+1);have H4:Hid (Bw I w4/\Blk w4 g2 53 T.toArray/\Blk w4 g3 55 U.toArray/\w4.ownsRow I.heap.size 9 1 (.slice A1 1 c1) 1 (nmV cl)/\w4.ownsRow I.heap.size 9 1 (.slice A2 1 c2) 1 (nmV ot)):=jz (by
  rw[b3,a8]
  exact⟨aB H2.out.1 O,(e2 _ (by omega)).trans d0,d1,aE H2.out.2.1 O,aE H2.out.2.2 O⟩)
 rw[<- a8,<- b3];simp only[p5];clear O d0 d3 e0 f1 c9 d1 R e2 f2 a8 b3;have c5:=jz (m0 w4);go_wp2_with fail
 refine c5.mono ?_;rintro e w5 ⟨rfl,d4⟩;obtain⟨KY,b0⟩:=je (arr 16 (c8 kyK));have c4:Hid (KY=arr 16 (c8 kyK)):=jz b0;rw[<- b0];clear b0;obtain⟨g5,b7⟩:=je w5.heap.size;have a4:=jz d4;have a6:Hid ((prog.info? 41).map (·.size)=some KY.toArray.size/\z8x16.size=KY.toArray.size/\KY.toArray.all (·.oneCell')=true/\(prog.info? 41).map (·.size)=some KY.length):=jz (by
  rw[c4.out]
  exact⟨by rw[aC];kernel_rfl,by rw[aC];exact aC 16 _,aP (λ_=>rfl),by rw[aA];kernel_rfl⟩)
 clear d4;go_upto_region 3 with (first
  | (refine al 41 z8x16 rfl rfl cK ?_)
  | (refine aN 41 (.tmp 5) (.tmp 13) rfl rfl (by rfl) (by rfl) (Blk.new w5 41 z8x16) a6.out.1 a6.out.2.1 a6.out.2.2.1 ?_;intro Z a9 V f0 f3))
 have D:Bw w4 Z:=by
  have h1:Bw w4 (w5.alloc (.cells z8x16 41)):=a4.alloc a4.size _;exact h1.trans ⟨V.os,V.tape,V.output,V.size,λk hk=>V.block k (by have:=a4.size;omega)⟩
 have H6:Hid (Bw I Z/\(∀ W,Bw Z W->W.rangeAt g2 0 T/\W.rangeAt g3 0 U/\W.rangeAt g5 0 KY)/\Z.ownsRow I.heap.size 9 1 (.slice A1 1 c1) 1 (nmV cl)/\Z.ownsRow I.heap.size 9 1 (.slice A2 1 c2) 1 (nmV ot)):=jz (by
  refine⟨aB H4.out.1 D,λW hW=>?_,aE H4.out.2.2.2.1 D,aE H4.out.2.2.2.2 D⟩
  have k1:=((H4.out.2.1.keep D).keep hW).range
  have k2:=((H4.out.2.2.1.keep D).keep hW).range
  rw[<- b7] at a9
  have k3:=(Blk.keep a9 hW).range
  rw[jt] at k1 k2 k3
  exact⟨k1,k2,k3⟩)
 simp only[pe,p5,<- b7];dsimp only [List.set];clear D a9 V f0 f3 b7 a4 H4 c5;have e8:=(a5.out Z H6.out.1).2.2.1;go_upto_region 5 with fail
 clear e8;have e7:=(a5.out Z H6.out.1).2.1;have hq:IntKind.u8.wrap (sq:Int)=((sq % 256:Nat):Int):=by rw[IntKind.wrap_u8];omega
 have a7:=P7 sq;obtain⟨NN,b1⟩:=je ((arr 8 (c8 (nnK sq))).toArray);rw[<- b1] at a7;obtain⟨q8,e3⟩:=je (sq % 256);rw[<- e3] at hq a7;have e6:=jz b1;have a1:=EA cl;have a2:=EA ot;have c6:Hid (Wc 38 #[.agg KY.toArray,.agg NN,.agg T.toArray,.agg U.toArray] Z λe w'=>∃ v,e = .returned v/\w'.ownsRow Z.heap.size 5 1 v (kdB (kdN cl) (clN cl) st fi (kdN ot) tm sq).length (n8 (kdB (kdN cl) (clN cl) st fi (kdN ot) tm sq))/\Bw Z w'):=jz (by
  have e1:kdB (kdN cl) (clN cl) st fi (kdN ot) tm sq=mkR kyK (nnK sq) (tkN (tkK (kdN cl) (clN cl) st fi)) (auN (auK (kdN ot) tm sq)) (tkK (kdN cl) (clN cl) st fi).key:=(P6 _ _ _ _).symm
  have ht:=z8 (n:=kdN cl) (c:=clN cl) h1 h2
  have ha:=AC (n:=kdN ot) h3 h4
  rw[e1,c4.out,e6.out]
  refine K8 kyK (nnK sq) _ _ _ T U Z oQ (O7 sq) ht.key (by rw[a0.out.1];exact eO _ _) (by rw[a0.out.2];rfl) (λj u hj=>?_) ⟨IT ht,?_,?_⟩ ⟨z2 ha,?_,?_⟩ (λW hW=>?_) (λW hW=>?_)
  ·rw[a0.out.1]
   unfold tkC
   rw[jx (by simp)]
   rw[show 4+j - [Value.string (bI (tkK (kdN cl) (clN cl) st fi).client.realm),.slice A1 1 c1,.int .i64 ((tkK (kdN cl) (clN cl) st fi).start:Nat),.int .i64 ((tkK (kdN cl) (clN cl) st fi).fin:Nat)].length=j by simp]
   exact hj
  ·unfold tkN;simp
  ·have:=AD ht;omega
  ·unfold auN;simp
  ·have:=tG ha;omega
  ·have h:=AF (bI [82]) ((iA (kdN cl)).parts.map bI) A1 c1 st fi (tkK (kdN cl) (clN cl) st fi).key W (by rw[a1.1];exact(Sn.own H6.out.2.2.1).below hW) (by decide) (by rw[a1.1];omega) a1.2 (by omega) (by omega) ht.key
   rw[a1.1,show sP (bI [82]) ((iA (kdN cl)).parts.map bI) st fi (tkK (kdN cl) (clN cl) st fi).key=tkN (tkK (kdN cl) (clN cl) st fi) from TE (tkK (kdN cl) (clN cl) st fi)] at h
   rw[a0.out.1]
   exact h
  ·have h:=AE (bI [82]) ((iA (kdN ot)).parts.map bI) A2 c2 tm 0 sq W (by rw[a2.1];exact(Sn.own H6.out.2.2.2).below hW) (by decide) (by rw[a2.1];omega) a2.2 (by omega) (by omega) (by omega)
   rw[a2.1,show vX (bI [82]) ((iA (kdN ot)).parts.map bI) tm 0 sq=auN (auK (kdN ot) tm sq) from ST (auK (kdN ot) tm sq)] at h
   rw[a0.out.2]
   exact h)
 clear h1 h2 h3 h4 b1 e3 a1 a2;go_wp2_with (first
  | (refine ld 41 (.tmp 5) rfl rfl (by rfl) (H6.out.2.1 _ (ji _ _)).2.2 underlying41 rfl a6.out.2.2.2 ?_)
  | (refine gF 100 _ rfl rfl rfl a7 ?_)
  | (refine ld 53 (.tmp 3) rfl rfl (by rfl) (H6.out.2.1 _ (ji _ _)).1 underlying53 rfl (by rw[<- js];exact J.out.1.1) ?_)
  | (refine ld 55 (.tmp 4) rfl rfl (by rfl) (H6.out.2.1 _ (ji _ _)).2.1 underlying55 rfl (by rw[<- js];exact J.out.2.1) ?_))
 refine c6.mono ?_;rintro e w7 ⟨v7,rfl,a3,b2⟩;obtain⟨A7,c7,rfl,_,_⟩:=aM a3;have H7:Hid (w7.ownsRow w.heap.size 5 1 (.slice A7 (kdB (kdN cl) (clN cl) st fi (kdN ot) tm sq).length c7) (kdB (kdN cl) (clN cl) st fi (kdN ot) tm sq).length (n8 (kdB (kdN cl) (clN cl) st fi (kdN ot) tm sq))/\Bw w w7):=jz (by
  have hb:=aB H1.out.2.1 (aB H6.out.1 b2)
  exact⟨aT a3 (by have:=H1.out.2.1.size;have:=H6.out.1.size;omega),hb⟩)
 have f5:=(a5.out w7 (aB H6.out.1 b2)).2.2.2;clear a3 b2 c6 e7 hq a7;obtain⟨n7,b9⟩:=je ((kdB (kdN cl) (clN cl) st fi (kdN ot) tm sq).length);have e5:=jz b9;rw[<- b9] at H7;clear b9;go_wp2_with fail
 go_ret;exact⟨_,rfl,by rw[<- e5.out];exact H7.out.1,H7.out.2⟩
theorem TF:prog.built 37 [(3,.int .i64 100),(4,.int .i64 10)]=some (kdC ⟨0,0,(0:Nat),(100:Nat),(10:Nat),(0:Nat),false,0⟩).toArray:=by kernel_rfl
theorem P8(b o:Nat)(w:Wd):(binOp .eql 39 (.pointer (some ⟨b,o,none⟩)) (.pointer none)).run prog w = .ok (.bool false) w:=by kernel_rfl
theorem XT.own{w w':Wd}{X:Nat->Prop}{base e s n:Nat}{v:Value}{D:Wv}(h:XT X w w')(J:w.ownsRow base e s v n D)(I:∀ b,v.ownBlock=some b->X b):w'.ownsRow base e s v n D:=aS J (λb hb=>h.block b (I b hb))
theorem nB(w:Wd)(hT:TabK w):Wc 10 #[] w (Rt w (.bool true)):=by
 obtain⟨S1,S2,S3,C,p1,p2,p3,p4,f7,p6,p7,p8,p9,f4,f5,f6⟩:=xF;have HT:=jz hT;have D:=jz (And.intro p1 (And.intro p2 (And.intro p3 (And.intro p4 (And.intro f7 (And.intro p6 (And.intro p7 (And.intro p8 (And.intro p9 (And.intro f4 (And.intro f5 f6)))))))))));clear p1 p2 p3 p4 f7 p6 p7 p8 p9 f4 f5 f6 hT;go_enter func10,ntmps10
 go_wp2_with fail
 refine(m0 w).mono ?_;rintro e w1 ⟨rfl,Z⟩;go_wp2_with fail
 refine(tQ 8 w1 (by decide) (by decide)).mono ?_;rintro e w2 ⟨m,rfl,d3,c4,d2⟩;have a2:Hid (St w w2 m (gQ 8)):=jz ⟨d3,λk hk=>jm Z.size (d2 k hk),aB Z c4⟩;clear d3 c4 d2 Z;go_wp2_with fail
 refine(TR (k:=0) (N:=8) kyK 5 (by decide) a2 rfl (by decide) (by decide)).mono ?_;rintro e w3 ⟨gv,rfl,d5,f9,g0⟩;have h0:=P8 gv 0;have R:Hid (VE w w3 gv m.g 0 8 kyK 5 ⟨gQ 8,0,none⟩ (λ_=>False)):=jz ⟨m,_,_,rfl,d5,λb hb=>hb.elim⟩;obtain⟨g9,g1⟩:=je m.g;rw[<- g1] at R;clear d5 f9 g0 a2;go_wp2_with fail
 refine(m0 w3).mono ?_;rintro e w4 ⟨rfl,c5⟩;go_wp2_with fail
 refine(tQ 8 w4 (by decide) (by decide)).mono ?_;rintro e w5 ⟨m2,rfl,_,c6,_⟩;go_wp2_with fail
 refine(sE (arr 16 (c8 kyK)) _ 0 (.inl rfl) w5).mono ?_;rintro e w6 ⟨rfl,c7⟩;go_wp2_with fail
 refine(m0 w6).mono ?_;rintro e w7 ⟨rfl,c9⟩;go_wp2_with fail
 refine(sE (arr 16 (c8 kyK)) none 5 (.inr ⟨rfl,rfl⟩) w7).mono ?_;rintro e w8 ⟨rfl,d0⟩;have a3:=jz (R.keep (aB (aB (aB (aB c5 c6) c7) c9) d0));clear c5 c6 c7 c9 d0 R;go_wp2_with (refine gF 37 _ rfl rfl rfl TF ?_)
 refine(yT 0 0 0 100 10 0 (by unfold aI;omega) (by unfold aI;omega) (by decide) (by decide) (by decide) (by decide) w8).mono ?_;rintro e w9 ⟨v,rfl,I,d1⟩;have d4:kdB (kdN 0) (clN 0) 0 100 (kdN 0) 10 0=awB:=rfl;rw[d4] at I;obtain⟨n,hn⟩:=je awB.length;rw[<- hn] at I;obtain⟨A,c,rfl,_,g2⟩:=aM I;have a4:=jz (a3.xw d1);have O:Hid (∀ W,XT (XW (λ_=>False) w8 w9) w9 W->Sn W 1 (.slice A n c) (aG awB).length (u8s (aG awB))):=jz (λW hW=>by
  have h:=Sn.own (hW.own I (λb e=>.inr (I.lt b e)))
  rw[aL,<- eI,<- hn]
  exact h)
 have J:Hid (Bys (aG awB)/\(aG awB).length<=1000000):=jz ⟨fE TC,by rw[aL];have:=TD;omega⟩;clear I d1 hn g2 d4 a3;go_wp2_with fail
 refine(F6 4 (by unfold aI;omega) a4).mono ?_;rintro e wa ⟨rfl,a0,e6⟩;rw[D.out.1] at a0;have a5:=jz a0;have U:=jz e6;clear a0 e6 a4;go_wp2_with fail
 refine(lJ (aG awB) A n c oQ HT (O _ U) J.out.1 J.out.2 (by decide) a5).mono ?_;rw[D.out.2.1];rintro e wb ⟨rfl,d7,e7⟩;have a6:=jz d7;have b3:=jz (U.trans e7);clear d7 e7 a5 U;go_wp2_with fail
 refine(PP (by decide) a6).mono ?_;rw[D.out.2.2.1];rintro e wc ⟨rfl,e0,e8⟩;have a7:=jz e0;have b7:=jz (b3.trans e8);have K:bV none = .nilIface:=rfl;simp only[K];clear e0 e8 a6 b3 K;go_wp2_with fail
 refine(F6 6 (by unfold aI;omega) a7).mono ?_;rintro e wd ⟨rfl,a1,f0⟩;rw[D.out.2.2.2.1] at a1;have a8:=jz a1;have b9:=jz (b7.trans f0);clear a1 f0 a7 b7;have g8:=jZ;go_wp2_with fail
 refine(WK a8).mono ?_;rw[D.out.2.2.2.2.1,D.out.2.2.2.2.2.1];rintro e wf ⟨rfl,e1,f1⟩;have a9:=jz e1;have c2:=jz (b9.trans f1);clear e1 f1 a8 b9;go_wp2_with fail
 refine(SV a9 (by rw[D.out.2.2.2.2.2.1];exact D.out.2.2.2.2.2.2.1)).mono ?_;rw[D.out.2.2.2.2.2.2.2.1,D.out.2.2.2.2.2.1];rintro e wg ⟨rfl,e2,f2⟩;have b0:=jz e2;have V:=jz (c2.trans f2);clear e2 f2 a9 c2;go_wp2_with fail
 refine(lJ (aG awB) A n c oQ HT (O _ V) J.out.1 J.out.2 (by decide) b0).mono ?_;rw[D.out.2.2.2.2.2.2.2.2.1];rintro e wh ⟨rfl,e3,f3⟩;have b1:=jz e3;have c3:=jz (V.trans f3);clear e3 f3 b0 V;go_wp2_with fail
 refine(lJ (aG awB) A n c oQ HT (O _ c3) J.out.1 J.out.2 (by decide) b1).mono ?_;rw[D.out.2.2.2.2.2.2.2.2.2.2.2];rintro e wi ⟨rfl,e4,g3⟩;have b2:=jz e4;clear e4 g3 b1 c3;go_wp2_with fail
 refine(F7 (by decide) b2).mono ?_;rw[D.out.2.2.2.2.2.2.2.2.2.2.1,D.out.2.2.2.2.2.2.2.2.2.1];rintro e wj ⟨AL,cL,rfl,_,e5,_⟩;have f8:=jz e5.bel;clear e5 b2;go_wp2_with fail
 refine(GA A n c wj).mono ?_;rintro e wk ⟨rfl,hw⟩;rw[hw];clear hw;go_wp2_with fail
 refine(SW wj).mono ?_;rintro e wl ⟨rfl,hw⟩;rw[hw];clear hw;go_wp2_with fail
 go_ret;exact⟨rfl,f8⟩
theorem LO{w:Wd}{m:DiskM}{n B g:Nat}(h:DK w m (gQ n))(J:∀ k∈aZ m,B<=k)(hg:g<B):Apart m g:=
 ⟨λO=>by have:=J g O;omega,λk K v D e=>by
  have:=h.crv k K
  have I:(gQ n).cr k=none:=rfl
  rw[I] at this
  rw[this] at D
  cases D⟩
theorem EB(k:KdD)(a3 sk:Int)(hr:oS k=false)(w:Wd)(hT:TabK w):Wc 4 #[.agg (kdC k).toArray,.int .u16 a3,.int .u16 sk] w (Rt w (.bool true)):=by
 obtain⟨K,hK⟩:=je (kdC k);obtain⟨w1,D⟩:=je (w.alloc (.cells K.toArray 37));have I:Hid (Bw w w1):=jz (by rw[D];exact(ji _ w).alloc (ja _) _);have a2:Hid (∀ W,Bw w1 W->W.rangeAt w.heap.size 0 K):=jz (λW hW=>by
  have h:Blk w1 w.heap.size 37 K.toArray:=by rw[D];exact Blk.new _ _ _
  have:=(h.keep hW).range
  rwa [jt] at this)
 have a1:Hid ((prog.info? 37).map (·.size)=some K.length):=jz (by rw[hK];kernel_rfl);have R:=jz (λW=>pW k W);rw[hr,<- hK] at R;rw[<- hK];have HT:=jz hT;clear hK hT hr;go_enter func4,ntmps4
 go_upto_region 1 with fail
 rw[<- D];clear D;go_wp2_with fail
 refine(nB w1 (HT.below I)).mono ?_;rintro e w2 ⟨rfl,U⟩;have J:=jz U;clear U;go_wp2_with (refine ld 37 (.tmp 3) rfl rfl (by rfl) (a2 _ J) underlying37 rfl a1 ?_)
 refine(R w2).mono ?_;rintro e w3 ⟨rfl,V⟩;have O:=jz (aB I (aB J V));clear V;go_wp2_with fail
 refine(nB w3 (HT.below O)).mono ?_;rintro e w4 ⟨rfl,Z⟩;have a0:=jz (aB O Z);clear Z;go_wp2_with fail
 go_ret;exact⟨rfl,a0⟩
theorem AN(cl ot:Int)(st fi tm sq:Nat)(fo:Bool)(sp J sk:Int)(hc:aI cl)(h1:st<=fi)(h2:fi<=1099511627776)(h3:tm<=1099511627776)(h4:sq<4294967296)(h5:0<=J/\J<=65535)(h6:0<=sk/\sk<=65535)(w:Wd)(hT:TabK w):
  Wc 4 #[.agg (kdC ⟨cl,ot,st,fi,tm,sq,fo,sp⟩).toArray,.int .u16 J,.int .u16 sk] w (Rt w (.bool true)):=by
 obtain⟨I,e7⟩:=je w.heap.size;obtain⟨K,hK⟩:=je (kdC ⟨cl,ot,st,fi,tm,sq,fo,sp⟩);obtain⟨w1,f4⟩:=je (w.alloc (.cells K.toArray 37));have H1:Hid (Bw w w1/\Blk w1 I 37 K.toArray/\I=w.heap.size/\w1.heap.size=I+1):=jz (by rw[f4,e7];exact⟨(ji _ w).alloc (ja _) _,Blk.new _ _ _,rfl,by simp⟩);have h7:Hid (∀ W,Bw w1 W->W.rangeAt I 0 K):=jz (λW hW=>by
  have:=(H1.out.2.1.keep hW).range
  rwa [jt] at this)
 have r6:Hid ((prog.info? 37).map (·.size)=some K.length):=jz (by rw[hK];kernel_rfl);have h9:=jz (λW=>pW ⟨cl,ot,st,fi,tm,sq,fo,sp⟩ W);rw[show oS ⟨cl,ot,st,fi,tm,sq,fo,sp⟩=true by unfold oS;simp;omega,<- hK] at h9;rw[<- hK];have HT:=jz hT;have HK:=jz hK;have HC:=jz hc;have D:=jz (And.intro h1 (And.intro h2 (And.intro h3 h4)));obtain⟨r,hr⟩:∃ r:Nat,sk % 1000=r:=⟨(sk % 1000).toNat,by omega⟩;have s8:sk.tmod 1000=r:=by rw[Int.tmod_eq_emod_of_nonneg h6.1];exact hr
 obtain⟨s,hs⟩:∃ s:Int,1+(r:Int)=s:=⟨_,rfl⟩;have HS:Hid (1<=s/\s<=1000):=jz (by omega);have r0:wrap64 s=s:=by unfold wrap64;omega
 clear hK hT hc h1 h2 h3 h4;go_enter func4,ntmps4
 go_upto_region 1 with fail
 rw[<- f4,<- e7];clear f4 e7;go_wp2_with fail
 refine(nB w1 (HT.below H1.out.1)).mono ?_;rintro e w2 ⟨rfl,m4⟩;have d2:=jz m4;clear m4;go_wp2_with (refine ld 37 (.tmp 3) rfl rfl (by rfl) (h7 _ d2) underlying37 rfl r6 ?_)
 refine(h9 w2).mono ?_;rintro e w3 ⟨rfl,a7⟩;have b2:=jz (aB d2 a7);clear a7;go_wp2_with fail
 clear hr s8 hs r0 h6;refine(m0 w3).mono ?_;rintro e w4 ⟨rfl,R⟩;go_wp2_with fail
 refine(tQ 8 w4 (by decide) (by decide)).mono ?_;rintro e w5 ⟨m,rfl,f0,m5,e6⟩;have b3:Hid (Bw w1 w5):=jz (aB (aB b2 R) m5);have f5:Hid (Apart m I):=jz (LO f0 (B:=w4.heap.size) e6 (by have:=H1.out.2.2.2;have:=b2.size;have:=R.size;omega));have k0:Hid (St w w5 m (gQ 8)):=jz ⟨f0,λk hk=>jm (aB H1.out.1 (aB b2 R)).size (e6 k hk),aB H1.out.1 b3⟩;clear f0 m5 e6 R;go_wp2_with fail
 have p6:1<=s/\s<=1073741824:=by have:=HS.out;omega
 have s1:=jz (TR (k:=0) (N:=8) kyK s p6 k0 rfl (by decide) (by decide));clear p6;refine s1.mono ?_;rintro e w6 ⟨gv,rfl,q6,e4,s5⟩;have v0:=P8 gv 0;have d4:Hid (VE w w6 gv m.g 0 8 kyK s ⟨gQ 8,0,none⟩ (λb=>b=I)):=jz ⟨m,_,_,rfl,q6,λb hb=>by
  have h1:=H1.out.2.2.2
  have h2:=b3.size
  have h3:=e4.size
  subst hb
  exact⟨⟨f5,λhm=>by rw[List.mem_singleton] at hm;omega⟩,by omega⟩⟩
 have f9:Hid (Blk w6 I 37 K.toArray):=jz (H1.out.2.1.keep (aB b3 e4));obtain⟨g9,m8⟩:=je m.g;rw[<- m8] at d4 ⊢;clear q6 e4 s5 k0 f5 b3 m8 d2 b2 h7;obtain⟨S1,S2,C,hb,l1,v1,n1,m9,v2,n2,r4,hE,m6,q5⟩:=yS s 0 (s+1+J);have a4:kI 0 (s+1+J)=s+1+J:=by
  have:=HS.out;unfold kI;rw[jQ (by omega),jP (by omega)];omega
 have O:=jz (And.intro hb (And.intro n1 (And.intro m9 (And.intro r4 (And.intro hE (And.intro m6 (And.intro q5 (And.intro (n2.trans a4) v2))))))));have k2:Hid (kI 0 (s+1+J)=s+1+J):=jz a4;clear hb l1 v1 n1 m9 v2 n2 r4 hE m6 q5 a4;have t9:=jZ;go_wp2_with fail
 refine(PP (by decide) d4).mono ?_;rw[O.out.1];rintro e w7 ⟨rfl,q7,r1⟩;have k4:=jz q7;have Z:Hid (Blk w7 I 37 K.toArray):=jz ((r1.block I rfl).trans f9);have d0:bV none = .nilIface:=rfl;simp only[d0];clear q7 r1 d4 f9 d0;have c0:w7.cell? ⟨I,0,none⟩=some (.int .i64 cl):=(Z.cell 0).trans (by rw[HK.out];rfl);have c1:w7.cell? ⟨I,1,none⟩=some (.int .i64 ot):=(Z.cell 1).trans (by rw[HK.out];rfl);have c6:w7.cell? ⟨I,6,none⟩=some (.bool fo):=(Z.cell 6).trans (by rw[HK.out];rfl);have c7:w7.cell? ⟨I,7,none⟩=some (.int .u16 sp):=(Z.cell 7).trans (by rw[HK.out];rfl);have f1:=Z.frozen 1;have f6:=Z.frozen 6;have f7:=Z.frozen 7;go_upto_region 10 with fail
 obtain⟨w8,c9⟩:=je (((w7.setCell ⟨I,6,none⟩ (.bool false)).setCell ⟨I,7,none⟩ (.int .u16 0)).setCell ⟨I,1,none⟩ (.int .i64 cl));obtain⟨K2,c5⟩:=je (kdC ⟨cl,cl,st,fi,tm,sq,false,0⟩);have n4:Off I w7 w8:=by rw[c9];exact(((Off.refl I w7).set _ _).set _ _).set _ _
 have k5:=jz (k4.off n4 rfl (by have:=H1.out.2.2.1;omega));have g0:Hid (Blk w8 I 37 K2.toArray):=jz (by
  have h:=((Z.set_ 6 (.bool false)).set_ 7 (.int .u16 0)).set_ 1 (.int .i64 cl)
  rw[<- c9,HK.out] at h
  rw[c5]
  exact h)
 have b7:=jz c5;have a5:Hid ((prog.info? 37).map (·.size)=some K2.length):=jz (by rw[c5];kernel_rfl);rw[<- c9];clear c9 n4 c5 c0 c1 c6 c7 f1 f6 f7 k4 Z;obtain⟨nn,a4⟩:∃ x,s+1+J=x:=⟨_,rfl⟩;have t0:wrap64 (s+1)=s+1:=by have:=HS.out;unfold wrap64;omega
 have t3:wrap64 (s+1+J)=nn:=by have:=HS.out;unfold wrap64;omega
 have t4:wrap64 J=J:=by unfold wrap64;omega
 have a6:Hid (1<=nn/\nn<=100000/\s<nn):=jz (by have:=HS.out;omega);rw[a4] at O k2;clear a4 h5;go_wp2_with fail
 clear t0 t3 t4;refine(F6 nn (by have:=a6.out;unfold aI;omega) k5).mono ?_;rw[O.out.2.1,k2.out];rintro e w9 ⟨rfl,f3,r2⟩;rw[O.out.2.2.1] at f3;have k6:=jz f3;have g1:Hid (Blk w9 I 37 K2.toArray):=jz ((r2.block I rfl).trans g0);have r7:Hid (∀ W:Wd,W.heap[I]? = w9.heap[I]?->W.rangeAt I 0 K2):=jz (λW hW=>by
  have:=Blk.range (w:=W) (hW.trans g1)
  rwa [jt] at this)
 clear f3 r2 k5 g0;go_wp2_with (refine ld 37 (.tmp 3) rfl rfl (by rfl) (r7 _ rfl) underlying37 rfl a5 ?_)
 rw[b7.out];refine(wI cl cl st fi tm sq false 0 HC HC w9).mono ?_;rintro e wp ⟨A1,c1,A2,c2,rfl,_,_,e5⟩;obtain⟨T,hT⟩:=je (tkC (tkK (kdN cl) (clN cl) st fi) (.slice A1 1 c1));obtain⟨U,hU⟩:=je (auC (auK (kdN cl) tm sq) (.slice A2 1 c2));rw[<- hT,<- hU];have a2:Hid (((prog.info? 53).map (·.size)=some T.toArray.size/\tkZ.size=T.toArray.size/\T.toArray.all (·.oneCell')=true)/\((prog.info? 55).map (·.size)=some U.toArray.size/\auZ.size=U.toArray.size/\U.toArray.all (·.oneCell')=true)):=jz (by
  have hu:U.length=5:=by rw[hU];rfl
  have ht:=lI (t:=tkK (kdN cl) (clN cl) st fi) (v:=.slice A1 1 c1) rfl
  rw[<- hT] at ht
  exact⟨⟨ht.1,ht.2.1,ht.2.2.1⟩,by rw[js,hu];exact auI,(by rw[js,hu]:5=U.toArray.size),all_oneCell_toArray (by rw[hU];exact nP rfl)⟩)
 have k1:Hid (T[2]? = some (.int .i64 st)/\T[3]? = some (.int .i64 fi)):=jz (by rw[hT];exact⟨rfl,rfl⟩);have k7:=jz (k6.keep e5);have g2:Hid (Blk wp I 37 K2.toArray):=jz (g1.keep e5);rw[<- b7.out];clear e5 hT hU;go_upto_region 12 with (first
  | (refine al 53 tkZ rfl rfl iE ?_)
  | (refine al 55 auZ rfl rfl lZ ?_)
  | (show wpList _ _ _ [_,_] _ _;refine R2 ?_))
 unfold Stp;refine aN 53 (.tmp 10) (.tmp 52) rfl rfl (by rfl) (by rfl) ((Blk.new wp 53 tkZ).alloc (.cells auZ 55)) a2.out.1.1 a2.out.1.2.1 a2.out.1.2.2 ?_;intro wq m3 a7 n0 t5;have m2:Blk wq (wp.heap.size+1) 55 auZ:=(n0 _ (by omega)).trans (Blk.newAt _ _ _ _ (by simp));refine aN 55 (.tmp 11) (.tmp 53) rfl rfl (by rfl) (by rfl) m2 a2.out.2.1 a2.out.2.2.1 a2.out.2.2.2 ?_;intro wr s4 R n3 t7;have a9:Bw wp wr:=by
  have h1:Bw wp ((wp.alloc (.cells tkZ 53)).alloc (.cells auZ 55)):=((ji _ wp).alloc (ja _) _).alloc (by simp) _;have h3:=h1.trans a7;exact h3.trans ⟨R.os,R.tape,R.output,R.size,λk hk=>R.block k (by omega)⟩
 have m1:=jz (k7.keep a9);have g3:Hid (Blk wr I 37 K2.toArray):=jz (g2.keep a9);obtain⟨gt,e8⟩:=je wp.heap.size;have k3:Hid (Blk wr gt 53 T.toArray):=jz (by rw[e8];exact(n3 _ (by omega)).trans m3);rw[<- e8];simp only[p5];clear a9 m3 a7 n0 t5 m2 s4 R n3 t7 e8 k7 g2 k6 a2;go_upto_region 12 with fail
 obtain⟨L,hL⟩:=je ((decide (s<(tm:Int)-nn) || decide (s<nn-(tm:Int))));have HL:=jz hL;clear hL;go_cut [12] from 54 to 113 (λc wx=>c = .bool L/\wx=wr)
 case first=>
  have c4:wr.cell? ⟨I,4,none⟩=some (.int .i64 tm):=(g3.cell 4).trans (by rw[b7.out];rfl);have hn:=a6.out;have hb:=D.out;have hs:=HS.out;have e1:wrap64 ((tm:Int)-nn)=(tm:Int)-nn:=by unfold wrap64;omega
  have e2:wrap64 (nn-(tm:Int))=nn-(tm:Int):=by unfold wrap64;omega
  clear hn hb hs;rcases jb (decide (s<(tm:Int)-nn)) with t1|t1
  ·have a0:Hid (true=L):=jz (by rw[HL.out,t1];rfl);go_wp2_with fail
   go_meet
   exact⟨congrArg Value.bool a0,rfl⟩
  ·have a0:Hid (decide (s<nn-(tm:Int))=L):=jz (by rw[HL.out,t1];simp);go_wp2_with fail
   go_meet
   exact⟨congrArg Value.bool a0,rfl⟩
 case rest=>
 obtain⟨rfl,rfl⟩:=hcut;go_upto_region 13 with fail
 obtain⟨N,hN⟩:=je ((decide (nn<(st:Int)-s) || (decide ((fi:Int)+s<nn) || L)));have HNO:=jz hN;clear hN;go_cut [84] from 54 to 113 (λc wx=>c = .bool N/\wx=wc)
 case first=>
  have c2:wc.cell? ⟨gt,2,none⟩=some (.int .i64 st):=(k3.cell 2).trans (by rw[jf];exact k1.out.1);have c3:wc.cell? ⟨gt,3,none⟩=some (.int .i64 fi):=(k3.cell 3).trans (by rw[jf];exact k1.out.2);have hn:=a6.out;have hb:=D.out;have hs:=HS.out;have e1:wrap64 ((st:Int)-s)=(st:Int)-s:=by unfold wrap64;omega
  have e2:wrap64 ((fi:Int)+s)=(fi:Int)+s:=by unfold wrap64;omega
  clear hn hb hs;rcases jb (decide (nn<(st:Int)-s)) with t1|t1
  ·have a0:Hid (true=N):=jz (by rw[HNO.out,t1];rfl);go_wp2_with fail
   go_meet
   exact⟨congrArg Value.bool a0,rfl⟩
  ·rcases jb (decide ((fi:Int)+s<nn)) with t2|t2
   ·have a0:Hid (true=N):=jz (by rw[HNO.out,t1,t2];rfl);go_wp2_with fail
    go_meet
    exact⟨congrArg Value.bool a0,rfl⟩
   ·have a0:Hid (L=N):=jz (by rw[HNO.out,t1,t2];simp);go_wp2_with fail
    go_meet
    exact⟨congrArg Value.bool a0,rfl⟩
 case rest=>
 obtain⟨rfl,rfl⟩:=hcut;obtain⟨B,hB⟩:=je (kdB (kdN cl) (clN cl) st fi (kdN cl) tm sq);have b9:=jz (λW=>yT cl cl st fi tm sq HC HC D.out.1 D.out.2.1 D.out.2.2.1 D.out.2.2.2 W);rw[<- b7.out,<- hB] at b9;obtain⟨t,p8,p9,q0,ho⟩:=D8 (n:=kdN cl) (c:=clN cl) (m:=kdN cl) (sq:=sq) D.out.1 D.out.2.1 D.out.2.2.1 D.out.2.2.2;rw[<- hB] at ho;have a3:Hid (Byn B/\B.length<=5000):=jz (by rw[hB];exact⟨I6 D.out.1 D.out.2.1 D.out.2.2.1 D.out.2.2.2,I7 D.out.1 D.out.2.1 D.out.2.2.1 D.out.2.2.2⟩);have hz:=D9 (t:=t) (sq:=sq) (now:=nn) (s:=s) p8 p9 q0 rfl HS (by have:=a6.out;omega) D.out.1 D.out.2.1 D.out.2.2.1;have e3:N=false ↔ fY t (auK (kdN cl) tm sq) nn s=0:=by
  rw[hz,HNO.out,HL.out];simp
 have r5:Hid (N=false->nn<=(tm:Int)+s):=jz (λh=>by
  have:=(hz.1 (e3.1 h)).2.2.2
  omega)
 have h8:Hid (∀ W,Bw wc W->W.rangeAt I 0 K2):=jz (λW hW=>by
  have:=(g3.keep hW).range
  rwa [jt] at this)
 have h0:=jz e3;have HO:=jz ho;obtain⟨nb,f2⟩:=je B.length;rw[<- f2] at b9;have g8:=jz f2;have a1:Hid (S2.now=nn):=jz O.out.2.2.2.2.2.2.2.1;clear hB p8 p9 q0 ho hz e3 f2;go_upto_if 84 with fail
 cases N with
 | true=>
  have n6:fY t (auK (kdN cl) tm sq) nn s≠0:=λh=>by have:=h0.out.2 h;cases this
  have hv:=TB (key:=kyK) O.out.2.2.2.1 HO (by rw[a1.out];exact n6);rw[a1.out] at hv;have d1:=LN t (auK (kdN cl) tm sq) nn s;obtain⟨pz,n7⟩:=je (fY t (auK (kdN cl) tm sq) nn s);rw[<- n7] at hv d1;have e0:=jz hv;clear hv n6 n7;go_wp2_with (refine ld 37 (.tmp 3) rfl rfl (by rfl) (h8 _ (ji _ _)) underlying37 rfl a5 ?_)
  refine(b9 wc).mono ?_;rintro e wd ⟨v,rfl,V,a8⟩;obtain⟨A,c,rfl,p7,_⟩:=aM V;have d5:=jz (m1.keep a8);have s0:Hid (Sn wd 1 (.slice A nb c) (aG B).length (u8s (aG B))):=jz (by rw[aL,<- eI,<- g8.out];exact p7);clear V a8 p7;go_wp2_with fail
  refine(lJ (aG B) A nb c oQ HT s0 (fE a3.out.1) (by rw[aL];have:=a3.out.2;omega) (by decide) d5).mono ?_;rw[e0.out];rintro e we ⟨rfl,b0,_⟩;have d7:=jz b0;clear b0;go_wp2_with fail
  refine(F7 (by decide) d7).mono ?_;rw[show jB S2=[] from O.out.2.2.2.2.2.2.2.2];rintro e wj ⟨AL,cL,rfl,_,b1,_⟩;have d3:=jz b1.bel;clear b1;go_wp2_with fail
  go_ret;exact⟨congrArg (λb=>Ending.returned (Value.bool b)) (bne_iff_ne.2 d1),d3⟩
 | false=>
  obtain⟨S3,q1,q2,q3,_,q4⟩:=I5 (key:=kyK) (bs:=aG B) (skew:=s) O.out.2.2.2.1 O.out.2.2.2.2.1 O.out.2.2.2.2.2.1 (by rw[O.out.2.2.2.2.2.2.1,a1.out,oU (by omega) (by have:=HS.out;omega)];have:=a6.out;omega) (by rw[a1.out];exact h0.out.1 rfl) HO (nQ HS D.out.2.2.1).2 (by rw[a1.out,(nQ HS.out D.out.2.2.1).1];exact r5 rfl);have HQ:=jz (And.intro q1 (And.intro q2 (And.intro q3 q4)));clear q1 q2 q3 q4;go_wp2_with (refine ld 37 (.tmp 3) rfl rfl (by rfl) (h8 _ (ji _ _)) underlying37 rfl a5 ?_)
  refine(b9 wc).mono ?_;rintro e wd ⟨v,rfl,V,a8⟩;obtain⟨A,c,rfl,_,_⟩:=aM V;have d5:=jz (m1.xw a8);have f8:Hid (∀ W,XT (XW (λb=>b=I) wc wd) wd W->Sn W 1 (.slice A nb c) (aG B).length (u8s (aG B))):=jz (λW hW=>by
   have h:=Sn.own (hW.own V (λb e=>.inr (V.lt b e)))
   rw[aL,<- eI,<- g8.out]
   exact h)
  clear V a8;go_wp2_with fail
  refine(lJ (aG B) A nb c oQ HT (f8 _ XT.refl) (fE a3.out.1) (by rw[aL];have:=a3.out.2;omega) (by decide) d5).mono ?_;rw[HQ.out.1];rintro e we ⟨rfl,b0,r3⟩;have d7:=jz b0;have s3:=jz r3;clear b0 r3;go_wp2_with fail
  refine(lJ (aG B) A nb c oQ HT (f8 _ s3) (fE a3.out.1) (by rw[aL];have:=a3.out.2;omega) (by decide) d7).mono ?_;rw[HQ.out.2.2.2];rintro e wf ⟨rfl,q8,_⟩;have e0:=jz q8;clear q8;go_wp2_with fail
  refine(F7 (by decide) e0).mono ?_;rw[show(jB S3).length=1 by rw[HQ.out.2.2.1];rfl];rintro e wj ⟨AL,cL,rfl,_,b1,_⟩;have d3:=jz b1.bel;clear b1;go_wp2_with fail
  go_ret;exact⟨rfl,d3⟩
theorem EC(k:KdD)(K:KdOk k)(D I:Int)(R:0<=D/\D<=65535)(U:0<=I/\I<=65535)(w:Wd)(J:TabK w):Wc 4 #[.agg (kdC k).toArray,.int .u16 D,.int .u16 I] w (Rt w (.bool true)):=by
 cases hr:oS k with
 | false=>exact EB k D I hr w J
 | true=>
  obtain⟨cl,ot,st,fi,tm,sq,fo,sp⟩:=k;have h:((0<=st/\st<=fi)/\fi<=1099511627776)/\0<=tm/\tm<=1099511627776:=by
   unfold oS at hr;simp at hr;omega
  have O:=K.sq;simp only at O;have:=AN cl ot st.toNat fi.toNat tm.toNat sq.toNat fo sp D I K.cl (by omega) (by omega) (by omega) (by omega) R U w J;rw[Int.toNat_of_nonneg h.1.1.1,Int.toNat_of_nonneg (by omega:0<=fi),Int.toNat_of_nonneg h.2.1,Int.toNat_of_nonneg O.1] at this;exact this
end Go.Proofs.YtjjlaipkkdncfaaGreatDoor
