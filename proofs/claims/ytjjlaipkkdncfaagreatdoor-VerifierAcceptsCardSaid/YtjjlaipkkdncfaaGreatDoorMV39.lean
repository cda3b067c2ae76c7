import Derived.Test.YtjjlaipkkdncfaaGreatDoorMV37
set_option linter.unusedVariables false
set_option linter.unusedSimpArgs false
set_option maxRecDepth 100000
set_option maxHeartbeats 40000000
namespace Go.Proofs.YtjjlaipkkdncfaaGreatDoor
open Go.Proofs.Tryz
open Go.RowKit
attribute [local irreducible] wpQuiet wpAnyH
theorem I2{b:Wl}(hb:Bys b)(I:b.length<=1000000):(Bys (dK b).1/\(dK b).1.length<=1000000)/\(Bys (dK b).2.1/\(dK b).2.1.length<=1000000):=by
 have D:Bys ([]:Wl)/\([]:Wl).length<=1000000:=⟨λx R=>(by cases R),j0 _⟩;have h1:=iQ (qV hb I 3) 2;have J:=iQ ((qV hb I 3).str 2) 2;have K:=(qV hb I 3).len;have O:=((qV hb I 3).str 2).len;unfold dK;split
 ·exact⟨D,D⟩
 split
 ·exact⟨D,D⟩
 split
 ·exact⟨D,D⟩
 split
 ·exact⟨D,D⟩
 split
 ·exact⟨⟨h1.1,jm h1.2 K⟩,⟨J.1,jm J.2 O⟩⟩
 ·exact⟨D,D⟩
theorem PU{key:Nat->Nat}{s:Wl}(hb:Bys s)(K:s.length<=1000000)(h:(tkO key s).2=0):TkOk (tkO key s).1:=by
 have J:=jA hb;unfold tkO at h ⊢;split at h
 ·cases h
 rename_i b hs;have I:=pN J hs;rw[dO] at I;split at h
 ·rename_i D;rw[jP D];exact UR (fE I.1) (by rw[aL];omega) D
 ·cases h
theorem VK{key:Nat->Nat}{s:Wl}(hb:Bys s)(K:s.length<=1000000)(h:(auO key s).2=0):AuOk (auO key s).1:=by
 have J:=jA hb;unfold auO at h ⊢;split at h
 ·cases h
 rename_i b hs;have I:=pN J hs;rw[dO] at I;split at h
 ·rename_i D;rw[jP D];exact US (fE I.1) (by rw[aL];omega) D
 ·cases h
def TA(B:Nat)(r:(TkD×AuD)×Int)(tk au:Wv)(c:Int)(W:Wd):Prop:=c=r.2/\∃ v1 v2,tk=tkC r.1.1 v1/\au=auC r.1.2 v2/\W.ownsRow B 9 1 v1 r.1.1.client.parts.length (fG r.1.1.client.parts)/\W.ownsRow B 9 1 v2 r.1.2.client.parts.length (fG r.1.2.client.parts)
theorem TA.zero(B:Nat)(c:Int)(W:Wd):TA B ((tk0,au0),c) tkZ.toList auZ.toList c W:=⟨rfl,.slice none 0 0,.slice none 0 0,rfl,rfl,World.ownsRow_nil _ _ _ _,World.ownsRow_nil _ _ _ _⟩
theorem TA.off{B g:Nat}{r:(TkD×AuD)×Int}{O J:Wv}{c:Int}{W W':Wd}(h:TA B r O J c W)(K:Off g W W')(hg:g<B):TA B r O J c W':=by
 obtain⟨h1,v1,v2,R,U,D,I⟩:=h;exact⟨h1,v1,v2,R,U,aS D (λb hb=>K.block b (D.lt b hb).2 (by have:=(D.lt b hb).1;omega)),aS I (λb hb=>K.block b (I.lt b hb).2 (by have:=(I.lt b hb).1;omega))⟩
theorem TA.keep{B:Nat}{r:(TkD×AuD)×Int}{I D:Wv}{c:Int}{W W':Wd}(h:TA B r I D c W)(hb:Bw W W'):TA B r I D c W':=by
 obtain⟨h1,v1,v2,J,K,O,R⟩:=h;exact⟨h1,v1,v2,J,K,aE O hb,aE R hb⟩
theorem TA.base{B D:Nat}{r:(TkD×AuD)×Int}{J I:Wv}{c:Int}{W:Wd}(h:TA B r J I c W)(hb:D<=B):TA D r J I c W:=by
 obtain⟨h1,v1,v2,K,O,R,U⟩:=h;exact⟨h1,v1,v2,K,O,aT R hb,aT U hb⟩
theorem TA.ok{B:Nat}{r:(TkD×AuD)×Int}{I D:Wv}{c:Int}{W:Wd}(h:TA B r I D c W):I.length=20/\D.length=5/\(∀ u∈I,u.oneCell'=true)/\(∀ u∈D,u.oneCell'=true):=by
 obtain⟨h1,v1,v2,rfl,rfl,J,K⟩:=h;exact⟨eO _ _,rfl,pU (eP J),nP (eP K)⟩
def RqQ(w:Wd)(r:(TkD×AuD)×Int)(e:Ending)(w':Wd):Prop:=∃ tk au c,e = .returned (.tuple #[.agg tk.toArray,.agg au.toArray,.int .i64 c])/\TA w.heap.size r tk au c w'/\Bw w w'
theorem wG{w w':Wd}{c:Int}(h:Bw w w'):RqQ w ((tk0,au0),c) (.returned (.tuple #[.agg tkZ,.agg auZ,.int .i64 c])) w':=by
 have D:=TA.zero w.heap.size c w';exact⟨tkZ.toList,auZ.toList,c,rfl,D,h⟩
theorem F9(key:Nat->Nat)(b:Wl)(A:Option Addr)(cap:Nat)(w:Wd)(f5:aQ key)(hk:TabK w)(hs:Sn w 1 (.slice A b.length cap) b.length (u8s b))(hb:Bys b)(hl:b.length<=1000000)(hq:(dK b).2.2=true):
  Wc 50 #[.agg (arr 16 (c8 key)).toArray,.slice A b.length cap] w (RqQ w (rqO key b)):=by
 have HQ:Hid (rqO key b=if (tkO key (dK b).1).2≠0 then ((tk0,au0),(tkO key (dK b).1).2)
  else if (auO (tkO key (dK b).1).1.key (dK b).2.1).2≠0 then ((tk0,au0),(auO (tkO key (dK b).1).1.key (dK b).2.1).2)
  else (((tkO key (dK b).1).1,(auO (tkO key (dK b).1).1.key (dK b).2.1).1),0)):=jz (by unfold rqO;rw[jQ (by rw[hq];decide)])
 obtain⟨Z,hZ⟩:=je (rqO key b);rw[<- hZ] at HQ ⊢;clear hZ;have HP:=jz (λW (h:Bw w W)=>vC b A cap W (hs.below h) hb hl);have R:=jz (I2 hb hl);have d2:=jz (fun(W:Wd) (v:Value) (h:Bw w W) (x2:Sn W 1 v (dK b).1.length (u8s (dK b).1))=>LD key (dK b).1 v W f5 (hk.below h) x2 R.out.1.1 R.out.1.2);have t1:=jz hk;have a3:=jz (PU (key:=key) R.out.1.1 R.out.1.2);obtain⟨q,r6⟩:=je (dK b);rw[<- r6] at HQ HP R d2 a3 hq;obtain⟨q1,q2,y3⟩:=q;simp only at HQ R d2 a3 hq;subst hq;clear hs hb hl hk r6 f5;obtain⟨PQ,k1⟩:=je (RqQ w Z);have g3:=jz k1;rw[<- k1];obtain⟨n,hn⟩:=je b.length;rw[<- hn] at HP ⊢;have b1:Hid ((prog.info? 41).map (·.size)=some (arr 16 (c8 key)).length):=jz (by rw[aA];kernel_rfl);obtain⟨K,hK⟩:=je ((arr 16 (c8 key)).toArray);have n4:=jz hK;rw[<- hK];clear k1 hn hK;go_enter func50,ntmps50
 go_upto_region 1 with (first
  | (refine al 53 tkZ rfl rfl iE ?_)
  | (refine al 55 auZ rfl rfl lZ ?_))
 obtain⟨g,hg⟩:=je w.heap.size;obtain⟨w2,a7⟩:=je (((w.alloc (.cells K 41)).alloc (.cells tkZ 53)).alloc (.cells auZ 55));have g1:Hid (Bw w w2):=jz (by rw[a7];exact(((ji _ w).alloc (ja _) _).alloc (by simp) _).alloc (by simp;omega) _);have n0:Hid (AB w2 g 41 16 (c8 key)):=jz (by rw[a7,hg,n4.out];exact((AB.new w _ 16 _).keep (aV _ _)).keep (aV _ _));have p9:Hid (Blk w2 (g+1) 53 tkZ):=jz (by rw[a7,hg];exact(Blk.newAt _ _ _ _ (by simp)).alloc _);have f6:Hid (Blk w2 (g+1+1) 55 auZ):=jz (by rw[a7,hg];exact Blk.newAt _ _ _ _ (by simp));have HG:Hid (w.heap.size<=g):=jz (by omega);rw[<- a7];simp only[World.size_alloc,<- hg];clear a7 hg n4;go_wp2_with fail
 refine(HP w2 g1).mono ?_;rintro e w3 ⟨A1,c1,A2,c2,rfl,e4,e5,b9,v9,r4⟩;simp only at e4 e5 ⊢;have q0:=jz (p9.keep b9);have f7:=jz (f6.keep b9);have n3:=jz (n0.keep b9);have m5:=jz (aB g1 b9);obtain⟨n1,k5⟩:=je q1.length;obtain⟨n2,k6⟩:=je q2.length;rw[<- k5] at e4 ⊢;rw[<- k6] at e5 ⊢;have p7:=jz e4;have p8:=jz e5;have s5:Hid (∀ b o,A2=some ⟨b,o,none⟩->g+1+1<b):=jz (λb o e=>by have:=r4 b o e;have:=f6.lt;omega);have t2:=jz k5;have t3:=jz k6;clear b9 k5 k6 e4 e5 v9 r4 HP p9 f6 n0 g1;go_upto_region 3 with fail
 obtain⟨w4,e6⟩:=je (w3.alloc (.cells #[.slice A1 n1 c1,.slice A2 n2 c2] 156));obtain⟨g8,k4⟩:=je w3.heap.size;have V:Bw w3 w4:=by rw[e6];exact aV _ _
 have h0:Hid (Blk w4 g8 156 #[.slice A1 n1 c1,.slice A2 n2 c2]):=jz (by rw[e6,k4];exact Blk.new _ _ _);have q3:=jz (q0.keep V);have m3:=jz (f7.keep V);have c7:=jz (aB m5 V);have f0:=jz (p7.below V);have f1:=jz (p8.below V);have b2:Hid (w4.rangeAt g 0 (arr 16 (c8 key))):=jz ((n3.keep V).range);have s8:Hid (g+1≠g8/\g+1+1≠g8):=jz (by have:=f7.lt;exact⟨by omega,by omega⟩);rw[<- e6,<- k4];clear e6 k4 V q0 f7 n3 m5 p7 p8;have r0:=h0.cell 0;simp only[jf,jg] at r0;have h5:=jz (d2 w4 (.slice A1 n1 c1) c7 (by rw[<- t2.out];exact f0));obtain⟨tr,s0⟩:=je (tkO key q1);rw[<- s0] at h5 HQ a3;obtain⟨t,c⟩:=tr;simp only at HQ a3;clear s0 d2 f0;go_upto_region 5 with fail
 go_wp2_with (refine ld 41 (.tmp 2) rfl rfl (by rfl) b2 underlying41 rfl b1 ?_)
 refine h5.mono ?_;rintro e w5 ⟨a4,V1,rfl,I⟩;have h4:=jz (q3.keep a4);have m4:=jz (m3.keep a4);have n7:=jz (h0.keep a4);have m6:=jz (aB c7 a4);have f2:=jz (f1.below a4);have h7:=jz (aT I c7.size);have O:=jz (lI (t:=t) (eP I));obtain⟨C,hC⟩:=je (tkC t V1);simp only;rw[<- hC] at O ⊢;have a9:=jz hC;clear a4 I hC h5 q3 m3 h0 c7 f1 b2 b1 r0;go_upto_region 6 with (refine aN 53 (.tmp 4) (.tmp 27) rfl rfl (by rfl) (by rfl) h4 O.out.1 O.out.2.1 O.out.2.2.1 ?_;intro w6 q7 c3 c4 x3)
 have d0:Hid (Blk w6 (g+1) 53 C.toArray):=jz q7;have f8:Hid (Blk w6 (g+1+1) 55 auZ):=jz ((c4 _ (by omega)).trans m4);have p6:Hid (Blk w6 g8 156 #[.slice A1 n1 c1,.slice A2 n2 c2]):=jz ((c4 _ (Ne.symm s8.out.1)).trans n7);have a8:Hid (Bw w w6):=jz (m6.trans (c3.mono (by have:=HG.out;omega)));have h8:=jz (aS h7 (λb hb=>c4 b (λe=>cQ h7 h4 (by decide) (by rw[hb,e]))));have n6:Hid (Off (g+1) w5 w6):=jz ⟨c3.os,c3.tape,c3.output,by omega,λb _ hb=>c4 b hb⟩;clear q7 c3 c4 x3 h4 m4 n7 m6 h7;by_cases hc:c=0
 case neg=>
  rw[jP hc] at HQ;have v8:¬c=0:=hc;clear hc;go_wp2_with fail
  refine(qZ c w6).mono ?_;rintro e w7 ⟨rfl,J⟩;have d1:=jz (d0.keep J);have a2:=jz (f8.keep J);have c9:=jz (aB a8 J);have d3:Hid (C.toArray.size=tkZ.size):=jz O.out.2.1.symm;clear J;go_wp2_with (first
   | (refine aN 53 (.tmp 4) (.tmp 34) rfl rfl (by rfl) (by rfl) d1 sC d3 fW ?_;intro w8 v3 d7 a6 s1;have c6:Hid (Blk w8 (g+1+1) 55 auZ):=jz ((a6 (g+1+1) (by omega)).trans a2))
   | (refine aN 55 (.tmp 5) (.tmp 35) rfl rfl (by rfl) (by rfl) c6 sD rfl fX ?_;intro w9 U a5 w1 y0))
  have b3:Blk w9 (g+1) 53 tkZ:=(w1 (g+1) (by omega)).trans v3;have k3:Bw w w9:=c9.trans ((d7.mono (by have:=HG.out;omega)).trans (a5.mono (by have:=HG.out;omega)));refine bodyPost_ret (gX (P:=prog) rfl _ rfl b3.range underlying53 rfl (by rw[jk];exact sC) rfl U.range underlying55 rfl (by rw[jk];exact sD)) rfl ?_;rw[g3.out,HQ.out];exact wG k3
 case pos=>
  subst hc;rw[jQ (λh=>h rfl)] at HQ;have r7:=a3.out rfl;have f3:Hid (Sn w6 1 (.slice A2 n2 c2) n2 (u8s q2)):=jz (by
   obtain⟨A',c',e,h1,h2,h3⟩:=f2.out
   injection e with e1 _ e3
   subst e1 e3
   refine⟨A2,c2,rfl,h1,h2,λhp=>?_⟩
   obtain⟨b,o,e,hx⟩:=h3 hp
   exact⟨b,o,e,λj u hj=>n6.cell (hx j u hj) (λe2=>by have:=s5.out b o e;have e3:b=g+1:=e2;omega)⟩)
  have r5:w6.rangeAt (g+1) 4 (arr 16 (c8 t.key)):=λj u hj=>by
   have x5:j<16:=by
    have:=(List.getElem?_eq_some_iff.1 hj).1
    rwa [aA] at this
   have h:=d0.cell (4+j);rw[h,a9.out];unfold tkC;rw[jf,jx (by simp)];rw[show 4+j - [Value.string (bI t.client.realm),V1,.int .i64 (t.start:Nat),.int .i64 (t.fin:Nat)].length=j from by simp];exact hj
  have b2:=jz r5;have b1:Hid ((prog.info? 41).map (·.size)=some (arr 16 (c8 t.key)).length):=jz (by rw[aA];kernel_rfl);have f9:=jz (LE t.key q2 (.slice A2 n2 c2) w6 r7.key (t1.below a8) (by rw[<- t3.out];exact f3) R.out.2.1 R.out.2.2);have r1:=p6.cell 1;simp only[jf,jh,jg] at r1;obtain⟨ar,r3⟩:=je (auO t.key q2);rw[<- r3] at f9 HQ;obtain⟨a,c'⟩:=ar;simp only at HQ;clear r3 r7 r5 f3 f2 a3 O;go_upto_region 8 with fail
  go_wp2_with (refine ld 41 (.tmp 38) rfl rfl (by rfl) b2 underlying41 rfl b1 ?_)
  refine f9.mono ?_;rintro e w7 ⟨J,V2,rfl,I⟩;have d1:=jz (d0.keep J);have a2:=jz (f8.keep J);have c9:=jz (aB a8 J);have h9:=jz (aE h8 J);have h6:=jz (aT I a8.size);have O:=jz (lI (t:=t) (eP h8));have b0:=jz (wE (t:=a) (eP I));obtain⟨D,hD⟩:=je (auC a V2);simp only;rw[<- hD] at b0 ⊢;rw[<- a9.out] at O;have g2:=jz hD;clear J I hD f9 d0 f8 a8 h8 b2 b1 p6 r1;go_upto_region 9 with (refine aN 55 (.tmp 5) (.tmp 43) rfl rfl (by rfl) (by rfl) a2 b0.out.1 b0.out.2.1 b0.out.2.2.1 ?_;intro w8 q8 d7 a6 s1)
  have c6:Hid (Blk w8 (g+1+1) 55 D.toArray):=jz q8;have q4:Hid (Blk w8 (g+1) 53 C.toArray):=jz ((a6 _ (by omega)).trans d1);have m8:Hid (Bw w w8):=jz (c9.trans (d7.mono (by have:=HG.out;omega)));have q6:=jz (aS h9 (λb hb=>a6 b (λe=>cQ h9 a2 (by decide) (by rw[hb,e]))));have q5:=jz (aS h6 (λb hb=>a6 b (λe=>cQ h6 a2 (by decide) (by rw[hb,e]))));clear q8 d7 a6 s1 d1 a2 c9 h9 h6;by_cases hc:c'=0
  case neg=>
   rw[jP hc] at HQ;have v8:¬c'=0:=hc;clear hc;go_wp2_with fail
   refine(qZ c' w8).mono ?_;rintro e w9 ⟨rfl,a5⟩;have t4:=jz (q4.keep a5);have s3:=jz (c6.keep a5);have s4:=jz (aB m8 a5);have d3:Hid (C.toArray.size=tkZ.size/\D.toArray.size=auZ.size):=jz ⟨O.out.2.1.symm,b0.out.2.1.symm⟩;clear a5;go_wp2_with (first
    | (refine aN 53 (.tmp 4) (.tmp 50) rfl rfl (by rfl) (by rfl) t4 sC d3.out.1 fW ?_;intro wa v4 v6 x0 y1;have HAa:Hid (Blk wa (g+1+1) 55 D.toArray):=jz ((x0 (g+1+1) (by omega)).trans s3))
    | (refine aN 55 (.tmp 5) (.tmp 51) rfl rfl (by rfl) (by rfl) HAa sD d3.out.2 fX ?_;intro wb t5 v7 x1 y2))
   have v5:Blk wb (g+1) 53 tkZ:=(x1 (g+1) (by omega)).trans v4;have k3:Bw w wb:=s4.trans ((v6.mono (by have:=HG.out;omega)).trans (v7.mono (by have:=HG.out;omega)));refine bodyPost_ret (gX (P:=prog) rfl _ rfl v5.range underlying53 rfl (by rw[jk];exact sC) rfl t5.range underlying55 rfl (by rw[jk];exact sD)) rfl ?_;rw[g3.out,HQ.out];exact wG k3
  case pos=>
   subst hc;rw[jQ (λh=>h rfl)] at HQ;go_upto_region 11 with fail
   have t9:∀ u∈C,u.oneCell'=true:=by rw[a9.out];exact pU (eP q6)
   have v0:∀ u∈D,u.oneCell'=true:=by rw[g2.out];exact nP (eP q5)
   have d4:C.length=20:=by rw[a9.out];exact eO _ _
   have d5:D.length=5:=by rw[g2.out];rfl
   obtain⟨wD,m2⟩:=je w8.drew;have e0:Bw w8 wD:=by rw[m2];exact(ji _ _).drew
   have b7:=q4.keep e0;have k0:=c6.keep e0;have c5:∀(W:Wd) (vs:Wv) (g0 t0:Nat) (cs:Wv),Blk W g0 t0 cs.toArray->vs=cs->Blk (W.setCells g0 0 vs) g0 t0 cs.toArray:=λW vs g0 t0 cs h e=>by
    subst e;have:=nO vs [] vs [] (w:=W) (g:=g0) (t:=t0) rfl (by simpa using h);simpa using this
   have b3:=c5 wD C _ _ C b7 rfl;have U:Blk (wD.setCells (g+1) 0 C) (g+1+1) 55 D.toArray:=(Off.putsR (g+1) C 0 (Off.refl _ wD)).blk k0 (by omega);have a0:=c5 (wD.setCells (g+1) 0 C) D _ _ D U rfl;have a1:Blk ((wD.setCells (g+1) 0 C).setCells (g+1+1) 0 D) (g+1) 53 C.toArray:=(Off.putsR (g+1+1) D 0 (Off.refl _ _)).blk b3 (by omega);refine kZ (n:=5) (λW=>Blk W (g+1) 53 C.toArray/\Blk W (g+1+1) 55 D.toArray) (by rw[<- m2];exact⟨b7,k0⟩) (h:=λhH=>?_);rw[<- m2] at hH ⊢;refine qL 0 (cs:=C) (λW hW=>by have h:=hW.1.range;rwa [jt] at h) d4 ?_;refine qL 1 (cs:=D) (λW hW=>by have h:=hW.2.range;rwa [jt] at h) d5 ?_;refine kR 2 none (n:=20) (cs:=C) (lF b7 (by rw[js,d4];exact ja _)) d4 t9 ⟨b3,U⟩ (h:=?_);simp only[jq];refine kR 3 none (n:=5) (cs:=D) (lF U (by rw[js,d5];exact ja _)) d5 v0 ⟨a1,a0⟩ (h:=?_);simp only[jq];have r2:Blk ((wD.setCells (g+1) 0 C).setCells (g+1+1) 0 D) (g+1) 53 C.toArray/\Blk ((wD.setCells (g+1) 0 C).setCells (g+1+1) 0 D) (g+1+1) 55 D.toArray:=⟨a1,a0⟩;refine qT 4 (.int .i64 0) ?_;refine kE (h:=?_);have k7:Off (g+1) wD (wD.setCells (g+1) 0 C):=Off.putsR (g+1) C 0 (Off.refl _ wD);have m1:Off (g+1+1) (wD.setCells (g+1) 0 C) ((wD.setCells (g+1) 0 C).setCells (g+1+1) 0 D):=Off.putsR (g+1+1) D 0 (Off.refl _ _);obtain⟨wF,e7⟩:=je ((wD.setCells (g+1) 0 C).setCells (g+1+1) 0 D);have x4:=HG.out;have t7:Bw w wF:=by
    rw[e7];have h1:=aB m8 e0;have h2:=h1.trans (k7.below (by omega) h1.size);exact h2.trans (m1.below (by omega) h2.size)
   have k2:∀ {v n xs},w8.ownsRow w.heap.size 9 1 v n xs->wF.ownsRow w.heap.size 9 1 v n xs:=λh=>by
    have h1:=aE h e0;have h2:=aS h1 (λb hb=>k7.block b (h1.lt b hb).2 (λe=>cQ h1 b7 (by decide) (by rw[hb,e])));rw[e7];exact aS h2 (λb hb=>m1.block b (h2.lt b hb).2 (λe=>cQ h2 U (by decide) (by rw[hb,e])))
   have f4:=jz a1;have e8:=jz a0;rw[<- e7] at f4 e8 ⊢;have m9:Hid (RqQ w ((t,a),0) (.returned (.tuple #[.agg C.toArray,.agg D.toArray,.int .i64 0])) wF):=jz ⟨C,D,0,rfl,⟨rfl,V1,V2,a9,g2,k2 q6,k2 q5⟩,t7⟩;clear hH r2 b3 U a1 a0 b7 k0 k7 m1 c5 k2 e7;go_wp2_with fail
   refine bodyPost_ret (gX (P:=prog) rfl _ rfl (cs:=C) (by have h:=f4.range;rwa [jt] at h) underlying53 rfl (by rw[d4];exact tkI) rfl (cs2:=D) (by have h:=e8.range;rwa [jt] at h) underlying55 rfl (by rw[d5];exact auI)) rfl ?_;rw[g3.out,HQ.out];exact m9.out
theorem LF(key:Nat->Nat)(b:Wl)(A:Option Addr)(cap:Nat)(w:Wd)(D:aQ key)(K:TabK w)(hs:Sn w 1 (.slice A b.length cap) b.length (u8s b))(hb:Bys b)(J:b.length<=1000000):
  Wc 50 #[.agg (arr 16 (c8 key)).toArray,.slice A b.length cap] w (RqQ w (rqO key b)):=by
 cases hq:(dK b).2.2 with
 | true=>exact F9 key b A cap w D K hs hb J hq
 | false=>
  refine(KD key b A cap w hs hb J hq).mono ?_;rintro e w' ⟨rfl,I⟩;unfold rqO;rw[jP hq];exact wG I
section
variable {w0 w w' : Wd} {m : DiskM} {gv g9 k N : Nat} {key : Nat -> Nat} {skew : Int} {s : VS} {X : Nat -> Prop} {cv : Value} {F : List Nat} {C : CacheD}
theorem SU(h:VV w0 w m gv k N key skew s cv F)(O:(aR s).co=some C):Wc 29 #[.pointer (some ⟨gv,0,none⟩)] w λe w'=>e = .returned (.int .i64 C.til)/\∃ cv' F',VV w0 w' m gv k N key skew (aR s) cv' F'/\VT gv w m F w' m F':=by
 have D:=jz (vZ h);have HC:=jz O;rw[O,show(some C:Option CacheD).isSome=true from rfl] at D;clear h O;go_enter func29,ntmps29
 go_wp2_with fail
 refine D.mono ?_;rintro e w1 ⟨rfl,a0,F1,h1,R⟩;obtain⟨_,_,_,c19⟩:=h1.cells;have J:=h1.co;rw[HC.out] at J;rcases J with ⟨_,_,hc⟩|⟨gc,gl,gi,bi,C',rfl,_,hc,I,_⟩
 ·cases hc
 injection hc with hc
 subst hc;have K:=jz (pL I);have V:=jz h1;have Z:=jz R;clear h1 R D I;go_wp2_with fail
 refine K.mono ?_;rintro e w2 ⟨rfl,U⟩;rw[U];clear U w2;go_wp2_with fail
 go_ret;exact⟨rfl,_,_,V,Z⟩
theorem SV(h:VE w0 w gv g9 k N key skew s X)(I:(aR s).co=some C):Wc 29 #[.pointer (some ⟨gv,0,none⟩)] w λe w'=>e = .returned (.int .i64 C.til)/\VE w0 w' gv g9 k N key skew (aR s) X/\XT X w w':=by
 obtain⟨m,cv,F,hg,J,K⟩:=h;refine(SU J I).mono ?_;rintro e w' ⟨rfl,cv',F',h1,D⟩;exact⟨rfl,VE.of K hg h1 D⟩
end
theorem SW(w:Wd):Wc 28 #[.pointer none] w λe w'=>e = .returned (.int .i64 0)/\w'=w:=by
 go_enter func28,ntmps28
 go_wp2_with fail
 go_ret;exact⟨rfl,rfl⟩
theorem GA(A:Option Addr)(n c:Nat)(w:Wd):Wc 18 #[.pointer none,.slice A n c] w λe w'=>e = .returned (.int .i64 7)/\w'=w:=by
 go_enter func18,ntmps18
 go_wp2_with fail
 go_step3
 go_wp2_with fail
 try rw[Exit.noGoto_ret]
 go_ret;exact⟨rfl,rfl⟩
theorem sE(K:Wv)(p:Option Addr)(skew:Int)(h:skew=0\/skew=5/\p=none)(w:Wd):Wc 12 #[.agg K.toArray,.int .i64 skew,.pointer p] w (Rt w (.pointer none)):=by
 rcases h with rfl|⟨rfl,rfl⟩
 all_goals
  go_enter func12,ntmps12
  go_wp2_with fail
  go_ret;exact⟨rfl,(by repeat (first|exact ji _ _|assumption|refine dG ?_ _|refine Below.setCell ?_ (by first|exact ja _|assumption|omega|(simp <;> omega)) _|refine Below.alloc ?_ (by first|exact ja _|assumption|omega|(simp <;> omega)) _))⟩
end Go.Proofs.YtjjlaipkkdncfaaGreatDoor
