import Derived.Test.YtjjlaipkkdncfaaGreatDoorMV27
set_option linter.unusedVariables false
set_option linter.unusedSimpArgs false
set_option maxRecDepth 100000
set_option maxHeartbeats 40000000
namespace Go.Proofs.YtjjlaipkkdncfaaGreatDoor
open Go.Proofs.Tryz
open Go.RowKit
attribute [local irreducible] wpQuiet wpAnyH
theorem DI(d:DiskD)(h:Nat)(L:LogD):∀ k es,(fAt d h L k).1=some es->es.length<=d.sec.length
 | 0,es,he=>by cases he
 | k+1,es,he=>by
  have ih:=DI d h L k;have h1:=nL ((d.sec.drop (bD h k)).take h) (none,[]);rw[jv,List.length_drop] at h1;have D:(eN d (bD h k) h).2.length<=d.sec.length:=by unfold eN;simp at h1;omega
  unfold fAt jY at he;cases hg:(eN d (bD h k) h).1 with
  | none=>rw[hg] at he;exact ih es he
  | some g=>
   rw[hg] at he;simp only at he;split at he
   ·exact ih es he
   ·injection he with he;rw[<- he];exact D
theorem rZ(d:DiskD):(∃ x,(cO d).1=some x/\(cO d).2.2=none)\/(∃ L D,(cO d).1=none/\(cO d).2.2=some (L,D)/\D.length<=d.sec.length):=by
 unfold cO;split
 ·exact .inl ⟨_,rfl,rfl⟩
 ·split
  ·exact .inl ⟨_,rfl,rfl⟩
  ·unfold i6;split
   ·rename_i D I;exact .inr ⟨_,D,rfl,rfl,by have:=DI _ _ _ _ D I;rw[eU] at this;exact this⟩
   ·split
    ·exact .inl ⟨_,rfl,rfl⟩
    ·split
     ·exact .inl ⟨_,rfl,rfl⟩
     ·exact .inr ⟨_,[],rfl,rfl,j0 _⟩
def z6(w w':Wd)(m':DiskM)(n:Nat)(r:Ans×DiskD×Option (LogD×List b8))(pc:Value)(now til:Int):Prop:=match r.2.2 with
 | none=>pc = .pointer none
 | some (L,es)=>∃ gc gl gi bi,pc = .pointer (some ⟨gc,0,none⟩)/\CK w' m' r.2.1 gc gl gi bi (n/2) es.length ⟨L,bM (gW es) now,til⟩/\w.heap.size<=gc/\w.heap.size<=gl/\w.heap.size<=gi/\w.heap.size<=bi/\∀ q∈es,EntOk q
theorem DJ(gl gi:Nat)(t:Int):prog.built 113 [(0,.pointer (some ⟨gl,0,none⟩)),(1,.pointer (some ⟨gi,0,none⟩)),(2,.int .i64 t)]=some (cacheC gl gi t):=by unfold cacheC;kernel_rfl
theorem UT(skew now:Int)(w:Wd)(m:DiskM)(d:DiskD)(hk:DK w m d)(hr:d.room+10<=100000)(hl:d.sec.length<=1000)(hs:aI skew)(hn:aI now):
  Wc 31 #[.pointer (some ⟨m.g,0,none⟩),.int .i64 skew,.int .i64 now] w λe w'=>∃ pc m',e = .returned (.tuple #[pc,bV (cO d).1])/\DK w' m' (cO d).2.1/\DT w m w' m'/\z6 w w' m' d.sec.length (cO d) pc now (e9 now skew):=by
 have Z:=jz (N7 w m d hk hr);have HK:=jz hk;have e7:=jz hs;have e5:=jz hn;clear hk hs hn;obtain⟨g9,c9⟩:=je m.g;rw[<- c9] at Z ⊢;clear c9;rcases rZ d with ⟨x,h1,h2⟩|⟨L,es,h1,h2,h3⟩
 ·rw[h1] at Z ⊢;have H2:=jz h2;obtain⟨ty,u,hv⟩:=cH x;rw[hv] at Z ⊢;have f8:=dR ty u;clear hv h1 h2;go_enter func31,ntmps31
  go_wp2_with fail
  refine Z.mono ?_;rintro e V ⟨pl,ve,m1,rfl,a3,K,U⟩;have e4:=jz a3;have a9:=jz K;clear a3 K U Z;go_wp2_with fail
  go_ret2
  exact⟨_,m1,rfl,e4,a9,by unfold z6;rw[H2.out];rfl⟩
 ·rw[h1] at Z ⊢;have H2:=jz h2;have f5:bV none = .nilIface:=rfl;rw[f5] at Z ⊢;clear h1 h2;go_enter func31,ntmps31
  go_wp2_with fail
  refine Z.mono ?_;rintro e V ⟨pl,ve,m1,rfl,a3,K,U⟩;unfold rW at U;rw[H2.out] at U;obtain⟨gl,rfl,b1,d2,a6,b2,f4⟩:=U;have R:=jz b1;have a9:=jz K;have e6:=jz b2;have c4:=jz (UP ve es V (Sn.own a6) b2 (by omega));have e2:Hid (w.heap.size<=gl/\gl<V.heap.size):=jz ⟨d2,b1.blk.lt⟩;have HH:Hid (w.heap.size<=V.heap.size):=jz K.fo.size;clear a3 K b1 b2 a6 f4 d2 Z;go_wp2_with fail
  refine c4.mono ?_;rintro e O ⟨gi,bi,rfl,a5,d1,J,d3,a1⟩;have f0:=jz a5;have b3:=jz a1;have e3:Hid (V.heap.size<=gi/\V.heap.size<=bi/\gi≠bi/\gi<O.heap.size/\bi<O.heap.size):=jz ⟨d1,J,d3,a5.lt.1,a5.lt.2⟩;have a7:=jz (λW v (hv:Sl W v [.int .i64 skew])=>zO now skew v W e5 e7 hv);clear a5 a1 d1 J d3 c4;obtain⟨til,I⟩:=je (e9 now skew);have f6:Hid (aI til):=jz (by rw[I];exact uW now skew);rw[<- I] at a7;have e8:=jz I;clear I;have e1:=jz (DJ gl gi til);have d7:Sl (O.alloc (.cells #[.int .i64 skew] 2)) (.slice (some ⟨O.heap.size,0,none⟩) 1 1) [.int .i64 skew]:=
   ⟨some ⟨O.heap.size,0,none⟩,1,rfl,by simp,λ_=>⟨O.heap.size,0,rfl,(Blk.new O 2 #[.int .i64 skew]).range⟩⟩
  have c5:=jz d7;clear d7;go_wp2_with fail
  refine(a7 _ _ c5).mono ?_;rintro e w3 ⟨rfl,c6⟩;have b7:Hid (Bw O w3):=jz (aB (aV _ _) c6);obtain⟨w4,a4⟩:=je (w3.alloc (.cells (cacheC gl gi til) 113));obtain⟨gc,a2⟩:=je w3.heap.size;have a8:Hid (Blk w4 gc 113 (cacheC gl gi til)):=jz (by rw[a4,a2];exact Blk.new _ _ _);have b9:Hid (Bw O w4):=jz (aB b7 (by rw[a4];exact aV _ _));have c3:Hid (O.heap.size<=gc):=jz (by rw[a2];exact b7.size);have f1:=jz (f0.keep b9);have c2:=jz (IL w4 gi bi es.length (gW es) now f1 (by omega));obtain⟨_,c1,_⟩:=bT a8.out;clear c6 a7 c5;go_upto_region 5 with (refine bld 113 _ rfl rfl rfl e1 ?_)
  rw[<- a4,<- a2];clear a4 a2;go_wp2_with fail
  refine c2.mono ?_;rintro e w5 ⟨kd,rfl,e0,d5⟩;have f2:=jz e0;have a0:=jz d5;clear e0 d5 c2 c1;go_wp2_with fail
  go_ret2
  have f3:gc<w4.heap.size:=a8.lt;have c7:=a8.out;rw[e8.out] at c7;have a1:=aB b3 b9.out;have b0:Bw V w4:=a1;have hi:=e3.out;have hg:=e2.out;have J:V.heap.size<=bi:=hi.2.1;have D:=R.keep b0;have d0:V.heap.size<=gc:=jm b3.size c3.out;have f7:=c3.out;have d4:DK w5 m1 (cO d).2.1:=D.dk.offO a0 (Apart.fresh R.dk J);refine⟨_,m1,rfl,d4,a9.trans (DT.of_below (b0.trans (a0.below J (jm b0.size (ja _))))),?_⟩;unfold z6;rw[H2.out];refine⟨gc,gl,gi,bi,rfl,⟨⟨d4,(a0.block gl D.blk.lt (by omega)).trans D.blk,D.ap,D.ok⟩,(a0.block gc f3 (by omega)).trans c7,f2,Apart.fresh R.dk d0,Apart.fresh R.dk hi.1,Apart.fresh R.dk J,⟨by omega,by omega,by omega,by omega,hi.2.2.1⟩,uW _ _⟩,by have:=HH.out;omega,hg.1,by have:=HH.out;omega,by have:=HH.out;omega,e6⟩
end Go.Proofs.YtjjlaipkkdncfaaGreatDoor
