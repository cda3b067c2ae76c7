import Derived.Test.YtiaigidbcljblaaGreatDoorMS31
set_option linter.unusedVariables false
set_option linter.unusedSimpArgs false
set_option maxRecDepth 100000
set_option maxHeartbeats 40000000
namespace Go.Proofs.YtiaigidbcljblaaGreatDoor
open Go.Proofs.Tryz
open Go.RowKit
attribute [local irreducible] wpQuiet wpAnyH
theorem LP{b:Wl}(hb:Bys b)(D:b.length<=1000000):(Bys (dD b).1/\(dD b).1.length<=1000000)/\(Bys (dD b).2.1/\(dD b).2.1.length<=1000000):=by
 have j:Bys ([]:Wl)/\([]:Wl).length<=1000000:=⟨λx O=>(by cases O),j0 _⟩;have h1:=jZ (sA hb D 3) 2;have I:=jZ ((sA hb D 3).str 2) 2;have J:=(sA hb D 3).len;have K:=((sA hb D 3).str 2).len;unfold dD;split
 ·exact⟨j,j⟩
 split
 ·exact⟨j,j⟩
 split
 ·exact⟨j,j⟩
 split
 ·exact⟨j,j⟩
 split
 ·exact⟨⟨h1.1,jm h1.2 J⟩,⟨I.1,jm I.2 K⟩⟩
 ·exact⟨j,j⟩
theorem SR{key:Nat->Nat}{s:Wl}(hb:Bys s)(I:s.length<=1000000)(h:(tkO key s).2=0):TkOk (tkO key s).1:=by
 have D:=mB hb;unfold tkO at h ⊢;split at h
 ·cases h
 rename_i b hs;have x:=rI D hs;rw[dR] at x;split at h
 ·rename_i j;rw[jP j];exact YI (l9 x.1) (by rw[aV];omega) j
 ·cases h
theorem Y1{key:Nat->Nat}{s:Wl}(hb:Bys s)(I:s.length<=1000000)(h:(auO key s).2=0):AuOk (auO key s).1:=by
 have D:=mB hb;unfold auO at h ⊢;split at h
 ·cases h
 rename_i b hs;have x:=rI D hs;rw[dR] at x;split at h
 ·rename_i j;rw[jP j];exact YJ (l9 x.1) (by rw[aV];omega) j
 ·cases h
def TA(B:Nat)(r:(TkD×AuD)×Int)(tk au:Wv)(c:Int)(W:Wd):Prop:=c=r.2/\∃ v1 v2,tk=tkC r.1.1 v1/\au=auC r.1.2 v2/\W.ownsRow B 9 1 v1 r.1.1.client.parts.length (fF r.1.1.client.parts)/\W.ownsRow B 9 1 v2 r.1.2.client.parts.length (fF r.1.2.client.parts)
theorem TA.zero(B:Nat)(c:Int)(W:Wd):TA B ((tk0,au0),c) tkZ.toList auZ.toList c W:=⟨rfl,.slice none 0 0,.slice none 0 0,rfl,rfl,World.ownsRow_nil _ _ _ _,World.ownsRow_nil _ _ _ _⟩
theorem TA.off{B g:Nat}{r:(TkD×AuD)×Int}{J D:Wv}{c:Int}{W W':Wd}(h:TA B r J D c W)(I:Off g W W')(hg:g<B):TA B r J D c W':=by
 obtain⟨h1,v1,v2,K,O,j,x⟩:=h;exact⟨h1,v1,v2,K,O,aQ j (λb hb=>I.block b (j.lt b hb).2 (by have:=(j.lt b hb).1;omega)),aQ x (λb hb=>I.block b (x.lt b hb).2 (by have:=(x.lt b hb).1;omega))⟩
theorem TA.keep{B:Nat}{r:(TkD×AuD)×Int}{x j:Wv}{c:Int}{W W':Wd}(h:TA B r x j c W)(hb:Bw W W'):TA B r x j c W':=by
 obtain⟨h1,v1,v2,D,I,J,K⟩:=h;exact⟨h1,v1,v2,D,I,aK J hb,aK K hb⟩
theorem TA.base{B j:Nat}{r:(TkD×AuD)×Int}{D x:Wv}{c:Int}{W:Wd}(h:TA B r D x c W)(hb:j<=B):TA j r D x c W:=by
 obtain⟨h1,v1,v2,I,J,K,O⟩:=h;exact⟨h1,v1,v2,I,J,bI K hb,bI O hb⟩
theorem TA.ok{B:Nat}{r:(TkD×AuD)×Int}{x j:Wv}{c:Int}{W:Wd}(h:TA B r x j c W):x.length=20/\j.length=5/\(∀ u∈x,u.oneCell'=true)/\(∀ u∈j,u.oneCell'=true):=by
 obtain⟨h1,v1,v2,rfl,rfl,D,I⟩:=h;exact⟨iH _ _,rfl,uS (eU D),CU (eU I)⟩
def RqQ(w:Wd)(r:(TkD×AuD)×Int)(e:Ending)(w':Wd):Prop:=∃ tk au c,e = .returned (.tuple #[.agg tk.toArray,.agg au.toArray,.int .i64 c])/\TA w.heap.size r tk au c w'/\Bw w w'
theorem yE{w w':Wd}{c:Int}(h:Bw w w'):RqQ w ((tk0,au0),c) (.returned (.tuple #[.agg tkZ,.agg auZ,.int .i64 c])) w':=by
 have j:=TA.zero w.heap.size c w';exact⟨tkZ.toList,auZ.toList,c,rfl,j,h⟩
theorem JJ(key:Nat->Nat)(b:Wl)(A:Option Addr)(cap:Nat)(w:Wd)(h5:bG key)(hk:TabK w)(hs:Sn w 1 (.slice A b.length cap) b.length (u8s b))(hb:Bys b)(hl:b.length<=1000000)(hq:(dD b).2.2=true):
  Wc 71 #[.agg (arr 16 (c8 key)).toArray,.slice A b.length cap] w (RqQ w (rqO key b)):=by
 have V:Hid (rqO key b=if (tkO key (dD b).1).2≠0 then ((tk0,au0),(tkO key (dD b).1).2)
  else if (auO (tkO key (dD b).1).1.key (dD b).2.1).2≠0 then ((tk0,au0),(auO (tkO key (dD b).1).1.key (dD b).2.1).2)
  else (((tkO key (dD b).1).1,(auO (tkO key (dD b).1).1.key (dD b).2.1).1),0)):=jz (by unfold rqO;rw[jQ (by rw[hq];decide)])
 obtain⟨Z,hZ⟩:=je (rqO key b);rw[<- hZ] at V ⊢;clear hZ;have HP:=jz (λW (h:Bw w W)=>wW b A cap W (hs.below h) hb hl);have O:=jz (LP hb hl);have e0:=jz (fun(W:Wd) (v:Value) (h:Bw w W) (A5:Sn W 1 v (dD b).1.length (u8s (dD b).1))=>OH key (dD b).1 v W h5 (hk.below h) A5 O.out.1.1 O.out.1.2);have x4:=jz hk;have a3:=jz (SR (key:=key) O.out.1.1 O.out.1.2);obtain⟨q,v7⟩:=je (dD b);rw[<- v7] at V HP O e0 a3 hq;obtain⟨q1,q2,B4⟩:=q;simp only at V O e0 a3 hq;subst hq;clear hs hb hl hk v7 h5;obtain⟨PQ,m8⟩:=je (RqQ w Z);have k2:=jz m8;rw[<- m8];obtain⟨n,hn⟩:=je b.length;rw[<- hn] at HP ⊢;have b1:Hid ((prog.info? 35).map (·.size)=some (arr 16 (c8 key)).length):=jz (by rw[aB];kernel_rfl);obtain⟨K,hK⟩:=je ((arr 16 (c8 key)).toArray);have s0:=jz hK;rw[<- hK];clear m8 hn hK;go_enter func71,ntmps71
 go_upto_region 1 with (first
  | (refine al 123 tkZ rfl rfl eT ?_)
  | (refine al 125 auZ rfl rfl fC ?_))
 obtain⟨g,hg⟩:=je w.heap.size;obtain⟨w2,a7⟩:=je (((w.alloc (.cells K 35)).alloc (.cells tkZ 123)).alloc (.cells auZ 125));have k0:Hid (Bw w w2):=jz (by rw[a7];exact(((ji _ w).alloc (ja _) _).alloc (by simp) _).alloc (by simp;omega) _);have r6:Hid (AB w2 g 35 16 (c8 key)):=jz (by rw[a7,hg,s0.out];exact((AB.new w _ 16 _).keep (aH _ _)).keep (aH _ _));have t2:Hid (Blk w2 (g+1) 123 tkZ):=jz (by rw[a7,hg];exact(Blk.newAt _ _ _ _ (by simp)).alloc _);have h6:Hid (Blk w2 (g+1+1) 125 auZ):=jz (by rw[a7,hg];exact Blk.newAt _ _ _ _ (by simp));have HG:Hid (w.heap.size<=g):=jz (by omega);rw[<- a7];simp only[World.size_alloc,<- hg];clear a7 hg s0;go_wp2_with fail
 refine(HP w2 k0).mono ?_;rintro e w3 ⟨A1,c1,A2,c2,rfl,f5,f6,c5,z9,v5⟩;simp only at f5 f6 ⊢;have t3:=jz (t2.keep c5);have h7:=jz (h6.keep c5);have r7:=jz (r6.keep c5);have q7:=jz (aA k0 c5);obtain⟨n1,n4⟩:=je q1.length;obtain⟨n2,n6⟩:=je q2.length;rw[<- n4] at f5 ⊢;rw[<- n6] at f6 ⊢;have s5:=jz f5;have t1:=jz f6;have x2:Hid (∀ b o,A2=some ⟨b,o,none⟩->g+1+1<b):=jz (λb o e=>by have:=v5 b o e;have:=h6.lt;omega);have x5:=jz n4;have y0:=jz n6;clear c5 n4 n6 f5 f6 z9 v5 HP t2 h6 r6 k0;go_upto_region 3 with fail
 obtain⟨w4,f7⟩:=je (w3.alloc (.cells #[.slice A1 n1 c1,.slice A2 n2 c2] 214));obtain⟨g8,n3⟩:=je w3.heap.size;have U:Bw w3 w4:=by rw[f7];exact aH _ _
 have k3:Hid (Blk w4 g8 214 #[.slice A1 n1 c1,.slice A2 n2 c2]):=jz (by rw[f7,n3];exact Blk.new _ _ _);have t4:=jz (t3.keep U);have q5:=jz (h7.keep U);have d1:=jz (aA q7 U);have g1:=jz (s5.below U);have g2:=jz (t1.below U);have b7:Hid (w4.rangeAt g 0 (arr 16 (c8 key))):=jz ((r7.keep U).range);have x3:Hid (g+1≠g8/\g+1+1≠g8):=jz (by have:=h7.lt;exact⟨by omega,by omega⟩);rw[<- f7,<- n3];clear f7 n3 U t3 h7 r7 q7 s5 t1;have r0:=k3.cell 0;simp only[jf,jg] at r0;have m1:=jz (e0 w4 (.slice A1 n1 c1) d1 (by rw[<- x5.out];exact g1));obtain⟨tr,v9⟩:=je (tkO key q1);rw[<- v9] at m1 V a3;obtain⟨t,c⟩:=tr;simp only at V a3;clear v9 e0 g1;go_upto_region 5 with fail
 go_wp2_with (refine ld 35 (.tmp 2) rfl rfl (by rfl) b7 underlying35 rfl b1 ?_)
 refine m1.mono ?_;rintro e w5 ⟨a4,V1,rfl,x⟩;have k4:=jz (t4.keep a4);have q6:=jz (q5.keep a4);have s3:=jz (k3.keep a4);have r2:=jz (aA d1 a4);have g3:=jz (g2.below a4);have m3:=jz (bI x d1.size);have J:=jz (rK (t:=t) (eU x));obtain⟨C,hC⟩:=je (tkC t V1);simp only;rw[<- hC] at J ⊢;have a9:=jz hC;clear a4 x hC m1 t4 q5 k3 d1 g2 b7 b1 r0;go_upto_region 6 with (refine aP 123 (.tmp 4) (.tmp 27) rfl rfl (by rfl) (by rfl) k4 J.out.1 J.out.2.1 J.out.2.2.1 ?_;intro w6 t9 c6 c7 A6)
 have d5:Hid (Blk w6 (g+1) 123 C.toArray):=jz t9;have h8:Hid (Blk w6 (g+1+1) 125 auZ):=jz ((c7 _ (by omega)).trans q6);have s4:Hid (Blk w6 g8 214 #[.slice A1 n1 c1,.slice A2 n2 c2]):=jz ((c7 _ (Ne.symm x3.out.1)).trans s3);have a8:Hid (Bw w w6):=jz (r2.trans (c6.mono (by have:=HG.out;omega)));have m4:=jz (aQ m3 (λb hb=>c7 b (λe=>cJ m3 k4 (by decide) (by rw[hb,e]))));have s1:Hid (Off (g+1) w5 w6):=jz ⟨c6.os,c6.tape,c6.output,by omega,λb _ hb=>c7 b hb⟩;clear t9 c6 c7 A6 k4 q6 s3 r2 m3;by_cases hc:c=0
 case neg=>
  rw[jP hc] at V;have z5:¬c=0:=hc;clear hc;go_wp2_with fail
  refine(sF c w6).mono ?_;rintro e w7 ⟨rfl,I⟩;have d7:=jz (d5.keep I);have a2:=jz (h8.keep I);have d2:=jz (aA a8 I);have e8:Hid (C.toArray.size=tkZ.size):=jz J.out.2.1.symm;clear I;go_wp2_with (first
   | (refine aP 123 (.tmp 4) (.tmp 34) rfl rfl (by rfl) (by rfl) d7 tJ e8 eY ?_;intro w8 y6 f2 a6 w1;have d0:Hid (Blk w8 (g+1+1) 125 auZ):=jz ((a6 (g+1+1) (by omega)).trans a2))
   | (refine aP 125 (.tmp 5) (.tmp 35) rfl rfl (by rfl) (by rfl) d0 tK rfl eZ ?_;intro w9 R a5 A0 B1))
  have c3:Blk w9 (g+1) 123 tkZ:=(A0 (g+1) (by omega)).trans y6;have n0:Bw w w9:=d2.trans ((f2.mono (by have:=HG.out;omega)).trans (a5.mono (by have:=HG.out;omega)));refine bodyPost_ret (iT (P:=prog) rfl _ rfl c3.range underlying123 rfl (by rw[jk];exact tJ) rfl R.range underlying125 rfl (by rw[jk];exact tK)) rfl ?_;rw[k2.out,V.out];exact yE n0
 case pos=>
  subst hc;rw[jQ (λh=>h rfl)] at V;have v8:=a3.out rfl;have h0:Hid (Sn w6 1 (.slice A2 n2 c2) n2 (u8s q2)):=jz (by
   obtain⟨A',c',e,h1,h2,h3⟩:=g3.out
   injection e with e1 _ e3
   subst e1 e3
   refine⟨A2,c2,rfl,h1,h2,λhp=>?_⟩
   obtain⟨b,o,e,hx⟩:=h3 hp
   exact⟨b,o,e,λj u hj=>s1.cell (hx j u hj) (λe2=>by have:=x2.out b o e;have e3:b=g+1:=e2;omega)⟩)
  have v6:w6.rangeAt (g+1) 4 (arr 16 (c8 t.key)):=λj u hj=>by
   have A8:j<16:=by
    have:=(List.getElem?_eq_some_iff.1 hj).1
    rwa [aB] at this
   have h:=d5.cell (4+j);rw[h,a9.out];unfold tkC;rw[jf,jx (by simp)];rw[show 4+j - [Value.string (cV t.client.realm),V1,.int .i64 (t.start:Nat),.int .i64 (t.fin:Nat)].length=j from by simp];exact hj
  have b7:=jz v6;have b1:Hid ((prog.info? 35).map (·.size)=some (arr 16 (c8 t.key)).length):=jz (by rw[aB];kernel_rfl);have h9:=jz (OI t.key q2 (.slice A2 n2 c2) w6 v8.key (x4.below a8) (by rw[<- y0.out];exact h0) O.out.2.1 O.out.2.2);have r1:=s4.cell 1;simp only[jf,jh,jg] at r1;obtain⟨ar,v4⟩:=je (auO t.key q2);rw[<- v4] at h9 V;obtain⟨a,c'⟩:=ar;simp only at V;clear v4 v8 v6 h0 g3 a3 J;go_upto_region 8 with fail
  go_wp2_with (refine ld 35 (.tmp 38) rfl rfl (by rfl) b7 underlying35 rfl b1 ?_)
  refine h9.mono ?_;rintro e w7 ⟨I,V2,rfl,x⟩;have d7:=jz (d5.keep I);have a2:=jz (h8.keep I);have d2:=jz (aA a8 I);have m5:=jz (aK m4 I);have m2:=jz (bI x a8.size);have J:=jz (rK (t:=t) (eU m4));have b0:=jz (yC (t:=a) (eU x));obtain⟨D,hD⟩:=je (auC a V2);simp only;rw[<- hD] at b0 ⊢;rw[<- a9.out] at J;have k1:=jz hD;clear I x hD h9 d5 h8 a8 m4 b7 b1 s4 r1;go_upto_region 9 with (refine aP 125 (.tmp 5) (.tmp 43) rfl rfl (by rfl) (by rfl) a2 b0.out.1 b0.out.2.1 b0.out.2.2.1 ?_;intro w8 v0 f2 a6 w1)
  have d0:Hid (Blk w8 (g+1+1) 125 D.toArray):=jz v0;have t5:Hid (Blk w8 (g+1) 123 C.toArray):=jz ((a6 _ (by omega)).trans d7);have r3:Hid (Bw w w8):=jz (d2.trans (f2.mono (by have:=HG.out;omega)));have t7:=jz (aQ m5 (λb hb=>a6 b (λe=>cJ m5 a2 (by decide) (by rw[hb,e]))));have t6:=jz (aQ m2 (λb hb=>a6 b (λe=>cJ m2 a2 (by decide) (by rw[hb,e]))));clear v0 f2 a6 w1 d7 a2 d2 m5 m2;by_cases hc:c'=0
  case neg=>
   rw[jP hc] at V;have z5:¬c'=0:=hc;clear hc;go_wp2_with fail
   refine(sF c' w8).mono ?_;rintro e w9 ⟨rfl,a5⟩;have y1:=jz (t5.keep a5);have x0:=jz (d0.keep a5);have x1:=jz (aA r3 a5);have e8:Hid (C.toArray.size=tkZ.size/\D.toArray.size=auZ.size):=jz ⟨J.out.2.1.symm,b0.out.2.1.symm⟩;clear a5;go_wp2_with (first
    | (refine aP 123 (.tmp 4) (.tmp 50) rfl rfl (by rfl) (by rfl) y1 tJ e8.out.1 eY ?_;intro wa z0 z2 A3 B2;have HAa:Hid (Blk wa (g+1+1) 125 D.toArray):=jz ((A3 (g+1+1) (by omega)).trans x0))
    | (refine aP 125 (.tmp 5) (.tmp 51) rfl rfl (by rfl) (by rfl) HAa tK e8.out.2 eZ ?_;intro wb y2 z4 A4 B3))
   have z1:Blk wb (g+1) 123 tkZ:=(A4 (g+1) (by omega)).trans z0;have n0:Bw w wb:=x1.trans ((z2.mono (by have:=HG.out;omega)).trans (z4.mono (by have:=HG.out;omega)));refine bodyPost_ret (iT (P:=prog) rfl _ rfl z1.range underlying123 rfl (by rw[jk];exact tJ) rfl y2.range underlying125 rfl (by rw[jk];exact tK)) rfl ?_;rw[k2.out,V.out];exact yE n0
  case pos=>
   subst hc;rw[jQ (λh=>h rfl)] at V;go_upto_region 11 with fail
   have y4:∀ u∈C,u.oneCell'=true:=by rw[a9.out];exact uS (eU t7)
   have y5:∀ u∈D,u.oneCell'=true:=by rw[k1.out];exact CU (eU t6)
   have f0:C.length=20:=by rw[a9.out];exact iH _ _
   have f1:D.length=5:=by rw[k1.out];rfl
   obtain⟨wD,q4⟩:=je w8.drew;have f3:Bw w8 wD:=by rw[q4];exact(ji _ _).drew
   have c4:=t5.keep f3;have m6:=d0.keep f3;have c9:∀(W:Wd) (vs:Wv) (g0 t0:Nat) (cs:Wv),Blk W g0 t0 cs.toArray->vs=cs->Blk (W.setCells g0 0 vs) g0 t0 cs.toArray:=λW vs g0 t0 cs h e=>by
    subst e;have:=o8 vs [] vs [] (w:=W) (g:=g0) (t:=t0) rfl (by simpa using h);simpa using this
   have c3:=c9 wD C _ _ C c4 rfl;have R:Blk (wD.setCells (g+1) 0 C) (g+1+1) 125 D.toArray:=(Off.putsR (g+1) C 0 (Off.refl _ wD)).blk m6 (by omega);have a0:=c9 (wD.setCells (g+1) 0 C) D _ _ D R rfl;have a1:Blk ((wD.setCells (g+1) 0 C).setCells (g+1+1) 0 D) (g+1) 123 C.toArray:=(Off.putsR (g+1+1) D 0 (Off.refl _ _)).blk c3 (by omega);refine kZ (n:=5) (λW=>Blk W (g+1) 123 C.toArray/\Blk W (g+1+1) 125 D.toArray) (by rw[<- q4];exact⟨c4,m6⟩) (h:=λhH=>?_);rw[<- q4] at hH ⊢;refine qL 0 (cs:=C) (λW hW=>by have h:=hW.1.range;rwa [jt] at h) f0 ?_;refine qL 1 (cs:=D) (λW hW=>by have h:=hW.2.range;rwa [jt] at h) f1 ?_;refine kR 2 none (n:=20) (cs:=C) (iD c4 (by rw[js,f0];exact ja _)) f0 y4 ⟨c3,R⟩ (h:=?_);simp only[jq];refine kR 3 none (n:=5) (cs:=D) (iD R (by rw[js,f1];exact ja _)) f1 y5 ⟨a1,a0⟩ (h:=?_);simp only[jq];have v3:Blk ((wD.setCells (g+1) 0 C).setCells (g+1+1) 0 D) (g+1) 123 C.toArray/\Blk ((wD.setCells (g+1) 0 C).setCells (g+1+1) 0 D) (g+1+1) 125 D.toArray:=⟨a1,a0⟩;refine qT 4 (.int .i64 0) ?_;refine kE (h:=?_);have q0:Off (g+1) wD (wD.setCells (g+1) 0 C):=Off.putsR (g+1) C 0 (Off.refl _ wD);have q3:Off (g+1+1) (wD.setCells (g+1) 0 C) ((wD.setCells (g+1) 0 C).setCells (g+1+1) 0 D):=Off.putsR (g+1+1) D 0 (Off.refl _ _);obtain⟨wF,f8⟩:=je ((wD.setCells (g+1) 0 C).setCells (g+1+1) 0 D);have A7:=HG.out;have y3:Bw w wF:=by
    rw[f8];have h1:=aA r3 f3;have h2:=h1.trans (q0.below (by omega) h1.size);exact h2.trans (q3.below (by omega) h2.size)
   have m9:∀ {v n xs},w8.ownsRow w.heap.size 9 1 v n xs->wF.ownsRow w.heap.size 9 1 v n xs:=λh=>by
    have h1:=aK h f3;have h2:=aQ h1 (λb hb=>q0.block b (h1.lt b hb).2 (λe=>cJ h1 c4 (by decide) (by rw[hb,e])));rw[f8];exact aQ h2 (λb hb=>q3.block b (h2.lt b hb).2 (λe=>cJ h2 R (by decide) (by rw[hb,e])))
   have h4:=jz a1;have f9:=jz a0;rw[<- f8] at h4 f9 ⊢;have r5:Hid (RqQ w ((t,a),0) (.returned (.tuple #[.agg C.toArray,.agg D.toArray,.int .i64 0])) wF):=jz ⟨C,D,0,rfl,⟨rfl,V1,V2,a9,k1,m9 t7,m9 t6⟩,y3⟩;clear hH v3 c3 R a1 a0 c4 m6 q0 q3 c9 m9 f8;go_wp2_with fail
   refine bodyPost_ret (iT (P:=prog) rfl _ rfl (cs:=C) (by have h:=h4.range;rwa [jt] at h) underlying123 rfl (by rw[f0];exact tkI) rfl (cs2:=D) (by have h:=f9.range;rwa [jt] at h) underlying125 rfl (by rw[f1];exact auI)) rfl ?_;rw[k2.out,V.out];exact r5.out
theorem AY(key:Nat->Nat)(b:Wl)(A:Option Addr)(cap:Nat)(w:Wd)(j:bG key)(I:TabK w)(hs:Sn w 1 (.slice A b.length cap) b.length (u8s b))(hb:Bys b)(D:b.length<=1000000):
  Wc 71 #[.agg (arr 16 (c8 key)).toArray,.slice A b.length cap] w (RqQ w (rqO key b)):=by
 cases hq:(dD b).2.2 with
 | true=>exact JJ key b A cap w j I hs hb D hq
 | false=>
  refine(sG key b A cap w hs hb D hq).mono ?_;rintro e w' ⟨rfl,x⟩;unfold rqO;rw[jP hq];exact yE x
end Go.Proofs.YtiaigidbcljblaaGreatDoor
