import Derived.Test.YtiaigidbcljblaaGreatDoorMB25
set_option linter.unusedVariables false
set_option linter.unusedSimpArgs false
set_option maxRecDepth 100000
set_option maxHeartbeats 40000000
namespace Go.Proofs.YtiaigidbcljblaaGreatDoor
open Go.Proofs.Tryz
open Go.RowKit
attribute [local irreducible] wpQuiet wpAnyH
theorem D7(d:DiskD)(h:Nat)(L:LogD):∀ k es,(fAt d h L k).1=some es->es.length<=d.sec.length
 | 0,es,he=>by cases he
 | k+1,es,he=>by
  have ih:=D7 d h L k;have h1:=oG ((d.sec.drop (bA h k)).take h) (none,[]);rw[jv,List.length_drop] at h1;have j:(eP d (bA h k) h).2.length<=d.sec.length:=by unfold eP;simp at h1;omega
  unfold fAt lD at he;cases hg:(eP d (bA h k) h).1 with
  | none=>rw[hg] at he;exact ih es he
  | some g=>
   rw[hg] at he;simp only at he;split at he
   ·exact ih es he
   ·injection he with he;rw[<- he];exact j
theorem sL(d:DiskD):(∃ x,(cC d).1=some x/\(cC d).2.2=none)\/(∃ L j,(cC d).1=none/\(cC d).2.2=some (L,j)/\j.length<=d.sec.length):=by
 unfold cC;split
 ·exact .inl ⟨_,rfl,rfl⟩
 ·split
  ·exact .inl ⟨_,rfl,rfl⟩
  ·unfold iY;split
   ·rename_i j D;exact .inr ⟨_,j,rfl,rfl,by have:=D7 _ _ _ _ j D;rw[eV] at this;exact this⟩
   ·split
    ·exact .inl ⟨_,rfl,rfl⟩
    ·split
     ·exact .inl ⟨_,rfl,rfl⟩
     ·exact .inr ⟨_,[],rfl,rfl,j0 _⟩
def BB(w w':Wd)(m':DiskM)(n:Nat)(r:Ans×DiskD×Option (LogD×List cH))(pc:Value)(now til:Int):Prop:=match r.2.2 with
 | none=>pc = .pointer none
 | some (L,es)=>∃ gc gl gi bi,pc = .pointer (some ⟨gc,0,none⟩)/\CK w' m' r.2.1 gc gl gi bi (n/2) es.length ⟨L,bS (fZ es) now,til⟩/\w.heap.size<=gc/\w.heap.size<=gl/\w.heap.size<=gi/\w.heap.size<=bi/\∀ q∈es,EntOk q
theorem D8(gl gi:Nat)(t:Int):prog.built 229 [(0,.pointer (some ⟨gl,0,none⟩)),(1,.pointer (some ⟨gi,0,none⟩)),(2,.int .i64 t)]=some (cacheC gl gi t):=by unfold cacheC;kernel_rfl
theorem XC(skew now:Int)(w:Wd)(m:DiskM)(d:DiskD)(hk:DK w m d)(hr:d.room+10<=100000)(hl:d.sec.length<=1000)(hs:aD skew)(hn:aD now):
  Wc 103 #[.pointer (some ⟨m.g,0,none⟩),.int .i64 skew,.int .i64 now] w λe w'=>∃ pc m',e = .returned (.tuple #[pc,bK (cC d).1])/\DK w' m' (cC d).2.1/\DT w m w' m'/\BB w w' m' d.sec.length (cC d) pc now (iM now skew):=by
 have U:=jz (PY w m d hk hr);have HK:=jz hk;have f7:=jz hs;have f5:=jz hn;clear hk hs hn;obtain⟨g9,d0⟩:=je m.g;rw[<- d0] at U ⊢;clear d0;rcases sL d with ⟨x,h1,h2⟩|⟨L,es,h1,h2,h3⟩
 ·rw[h1] at U ⊢;have H2:=jz h2;obtain⟨ty,u,hv⟩:=bU x;rw[hv] at U ⊢;have h5:=cV ty u;clear hv h1 h2;go_enter func103,ntmps103
  go_wp2_with fail
  refine U.mono ?_;rintro e R ⟨pl,ve,m1,rfl,a1,J,O⟩;have f4:=jz a1;have a7:=jz J;clear a1 J O U;go_wp2_with fail
  go_ret2
  exact⟨_,m1,rfl,f4,a7,by unfold BB;rw[H2.out];rfl⟩
 ·rw[h1] at U ⊢;have H2:=jz h2;have g8:bK none = .nilIface:=rfl;rw[g8] at U ⊢;clear h1 h2;go_enter func103,ntmps103
  go_wp2_with fail
  refine U.mono ?_;rintro e R ⟨pl,ve,m1,rfl,a1,J,O⟩;unfold sJ at O;rw[H2.out] at O;obtain⟨gl,rfl,a9,d5,a4,b0,g3⟩:=O;have K:=jz a9;have a7:=jz J;have f6:=jz b0;have c5:=jz (W8 ve es R (Sn.own a4) b0 (by omega));have f2:Hid (w.heap.size<=gl/\gl<R.heap.size):=jz ⟨d5,a9.blk.lt⟩;have HH:Hid (w.heap.size<=R.heap.size):=jz J.fo.size;clear a1 J a9 b0 a4 g3 d5 U;go_wp2_with fail
  refine c5.mono ?_;rintro e w2 ⟨gi,bi,rfl,a3,d2,I,d7,Z⟩;have f9:=jz a3;have b1:=jz Z;have f3:Hid (R.heap.size<=gi/\R.heap.size<=bi/\gi≠bi/\gi<w2.heap.size/\bi<w2.heap.size):=jz ⟨d2,I,d7,a3.lt.1,a3.lt.2⟩;have a5:=jz (λW v (hv:Sl W v [.int .i64 skew])=>AR now skew v W f5 f7 hv);clear a3 Z d2 I d7 c5;obtain⟨til,D⟩:=je (iM now skew);have h0:Hid (aD til):=jz (by rw[D];exact vR now skew);rw[<- D] at a5;have f8:=jz D;clear D;have f1:=jz (D8 gl gi til);have e8:Sl (w2.alloc (.cells #[.int .i64 skew] 2)) (.slice (some ⟨w2.heap.size,0,none⟩) 1 1) [.int .i64 skew]:=
   ⟨some ⟨w2.heap.size,0,none⟩,1,rfl,by simp,λ_=>⟨w2.heap.size,0,rfl,(Blk.new w2 2 #[.int .i64 skew]).range⟩⟩
  have c6:=jz e8;clear e8;go_wp2_with fail
  refine(a5 _ _ c6).mono ?_;rintro e w3 ⟨rfl,c7⟩;have b7:Hid (Bw w2 w3):=jz (aA (aG _ _) c7);obtain⟨w4,a2⟩:=je (w3.alloc (.cells (cacheC gl gi til) 229));obtain⟨gc,a0⟩:=je w3.heap.size;have a6:Hid (Blk w4 gc 229 (cacheC gl gi til)):=jz (by rw[a2,a0];exact Blk.new _ _ _);have c2:Hid (Bw w2 w4):=jz (aA b7 (by rw[a2];exact aG _ _));have c4:Hid (w2.heap.size<=gc):=jz (by rw[a0];exact b7.size);have g0:=jz (f9.keep c2);have c3:=jz (JY w4 gi bi es.length (fZ es) now g0 (by omega));obtain⟨_,c1,_⟩:=bT a6.out;clear c7 a5 c6;go_upto_region 5 with (refine bld 229 _ rfl rfl rfl f1 ?_)
  rw[<- a2,<- a0];clear a2 a0;go_wp2_with fail
  refine c3.mono ?_;rintro e w5 ⟨kd,rfl,f0,e1⟩;have g1:=jz f0;have V:=jz e1;clear f0 e1 c3 c1;go_wp2_with fail
  go_ret2
  have g2:gc<w4.heap.size:=a6.lt;have c9:=a6.out;rw[f8.out] at c9;have Z:=aA b1 c2.out;have a8:Bw R w4:=Z;have hi:=f3.out;have hg:=f2.out;have I:R.heap.size<=bi:=hi.2.1;have j:=K.keep a8;have d1:R.heap.size<=gc:=jm b1.size c4.out;have h4:=c4.out;have e0:DK w5 m1 (cC d).2.1:=j.dk.offO V (Apart.fresh K.dk I);refine⟨_,m1,rfl,e0,a7.trans (DT.of_below (a8.trans (V.below I (jm a8.size (ja _))))),?_⟩;unfold BB;rw[H2.out];refine⟨gc,gl,gi,bi,rfl,⟨⟨e0,(V.block gl j.blk.lt (by omega)).trans j.blk,j.ap,j.ok⟩,(V.block gc g2 (by omega)).trans c9,g1,Apart.fresh K.dk d1,Apart.fresh K.dk hi.1,Apart.fresh K.dk I,⟨by omega,by omega,by omega,by omega,hi.2.2.1⟩,vR _ _⟩,by have:=HH.out;omega,hg.1,by have:=HH.out;omega,by have:=HH.out;omega,f6⟩
end Go.Proofs.YtiaigidbcljblaaGreatDoor
