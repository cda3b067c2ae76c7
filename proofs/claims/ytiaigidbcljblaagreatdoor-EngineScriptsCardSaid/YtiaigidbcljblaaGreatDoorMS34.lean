import Derived.Test.YtiaigidbcljblaaGreatDoorMS31
import Derived.Test.YtiaigidbcljblaaGreatDoorMS30
set_option linter.unusedVariables false
set_option linter.unusedSimpArgs false
set_option maxRecDepth 100000
set_option maxHeartbeats 40000000
namespace Go.Proofs.YtiaigidbcljblaaGreatDoor
open Go.Proofs.Tryz
section
open Go.RowKit
attribute [local irreducible] wpQuiet wpAnyH
def dZ:Wa:=(u8s z32L).toArray
theorem fM:∀ w,(zeroValue 26).run prog w = .ok (.agg dZ) w:=λw=>by unfold dZ;kernel_rfl
theorem iV:prog.built 26 []=some dZ:=by unfold dZ;kernel_rfl
theorem dX:(prog.info? 26).map (·.size)=some dZ.size:=by unfold dZ;kernel_rfl
theorem oK:dZ.all (·.oneCell')=true:=by unfold dZ;exact all_oneCell_toArray (bS _)
def MP(w0 w:Wd)(gv g9 k N:Nat)(key:Nat->Nat)(skew:Int)(X:Nat->Prop)(r:(Int×Wl)×VS)(e:Ending)(w':Wd):Prop:=
 e = .returned (.tuple #[.int .i64 r.1.1,.agg (u8s r.1.2).toArray])/\VE w0 w' gv g9 k N key skew r.2 X/\XT X w w'
def XW(X:Nat->Prop)(w w2:Wd)(b:Nat):Prop:=X b\/(w.heap.size<=b/\b<w2.heap.size)
section
variable {w0 w w2 w3 w9 : Wd} {gv g9 k N gd : Nat} {key : Nat -> Nat} {skew : Int} {s : VS} {X : Nat -> Prop}
theorem VE.xw(h:VE w0 w gv g9 k N key skew s X)(j:Bw w w2):VE w0 w2 gv g9 k N key skew s (XW X w w2):=h.add j (λb hb=>hb)
theorem nD(D:∀ b,X b->b<w.heap.size)(K:w0.heap.size<=w.heap.size)(x:Bw w w2)(O:VE w0 w3 gv g9 k N key skew s (XW X w w2))(J:XT (XW X w w2) w2 w3)(I:Off gd w3 w9)(j:w.heap.size<=gd/\gd<w2.heap.size):VE w0 w9 gv g9 k N key skew s X/\XT X w w9:=
 ⟨(O.off I (.inr j) (jm K j.1)).less (λb hb=>.inl hb),⟨jm x.size (jm J.size I.size),λb hb=>(I.block b (jp (D b hb) (jm x.size J.size)) (by have:=D b hb;omega)).trans ((J.block b (.inl hb)).trans (x.block b (D b hb)))⟩⟩
end
section
variable {w0 w : Wd} {gv g9 gm k N : Nat} {key : Nat -> Nat} {skew : Int} {s : VS} {X : Nat -> Prop} {A B : Option Addr} {ca cb dl cl : Nat} {kd n : Int}
theorem Y2(hn:aE n)(h:VE w0 w gv g9 k N key skew s X)(hm:Blk w gm 106 (fA key g9 gv))(hX:X gm):
  Wc 41 #[.pointer (some ⟨gm,0,none⟩),.agg #[.int .i64 kd,.int .i64 n,.slice A dl ca,.slice B cl cb]] w (MP w0 w gv g9 k N key skew X ((0,z32L),tH s n)):=by
 have H:=jz h;have HM:=jz hm;have HN:=jz hn;have a1:=jz h.lt;have a0:=jz h.lo;clear h hm hn;go_enter func41,ntmps41
 go_upto_region 1 with (refine al 26 dZ rfl rfl fM ?_)
 obtain⟨gb,x⟩:=je w.heap.size;obtain⟨w2,j⟩:=je ((w.alloc (.cells #[.int .i64 kd,.int .i64 n,.slice A dl ca,.slice B cl cb] 71)).alloc (.cells dZ 26));have I:Hid (Bw w w2):=jz (by rw[j];exact aA (aH _ _) (aH _ _));have HO:Hid (Blk w2 gb 71 #[.int .i64 kd,.int .i64 n,.slice A dl ca,.slice B cl cb]):=jz (by rw[j,x];exact(Blk.new _ _ _).alloc _);have HD:Hid (Blk w2 (gb+1) 26 dZ):=jz (by rw[j,x];exact Blk.newAt _ _ _ _ (by simp));have K:Hid (w.heap.size<=gb+1/\gb+1<w2.heap.size):=jz ⟨by omega,by rw[j,x];simp⟩;rw[<- j];simp only[World.size_alloc,<- x];clear j x;have O:=jz (H.out.xw I);obtain⟨_,c17,_⟩:=dV (HM.keep I);have o1:=HO.cell 1;simp only[jf,jh,jg] at o1;have HT:=jz (YV n HN O.drew)
 go_still_tail 6,(by kernel_rfl)
 change wpList _ _ _ _ _ w2.drew;obtain⟨wD,J⟩:=je w2.drew;rw[<- J] at HT ⊢;have a4:Hid (XT (XW X w w2) w2 wD):=jz (by rw[J];exact XT.of_below O.lt (ji _ _).drew);clear J c17 o1;go_wp2_with fail
 refine HT.mono ?_;rintro e w3 ⟨rfl,U,V⟩;have a3:=jz U;have R:=jz (a4.trans V);have Z:Hid (Blk w3 (gb+1) 26 dZ):=jz ((R.block (gb+1) (.inr K)).trans HD);clear U V HT;go_wp2_with (first
  | (refine eQ 26 _ rfl rfl rfl iV ?_)
  | (refine aP 26 (.tmp 5) (.tmp 13) rfl rfl (by rfl) (by rfl) Z dX rfl oK ?_;intro w9 a5 D a6 a7))
 have a2:Hid (Off (gb+1) w3 w9):=jz ⟨D.os,D.tape,D.output,D.size,λg _ hg=>a6 g hg⟩;have hr:=a5.range;exact bodyPost_ret (d9 rfl _ rfl hr underlying26 rfl (by rw[jk];exact dX)) rfl ⟨rfl,nD a1 a0 I a3 R a2 K⟩
-- methods
theorem Y3(hk:k<=60)(h:VE w0 w gv g9 k N key skew s X)(hm:Blk w gm 106 (fA key g9 gv))(hX:X gm):
  Wc 42 #[.pointer (some ⟨gm,0,none⟩),.agg #[.int .i64 kd,.int .i64 n,.slice A dl ca,.slice B cl cb]] w (MP w0 w gv g9 (k+1) N key skew X ((cR (iU skew s).1,z32L),(iU skew s).2)):=by
 have H:=jz h;have HM:=jz hm;obtain⟨x,hx⟩:=je ((iU skew s).1);obtain⟨s2,R⟩:=je ((iU skew s).2);obtain⟨v,hv⟩:=je (bM x);have HC:=jz (λW=>nU x W);rw[<- hv] at HC;rw[<- hx,<- R];have b0:=jz hx;have a6:=jz R;have a7:=jz hv;clear hx R hv;have a4:=jz h.lt;have a3:=jz h.lo;clear h hm;go_enter func42,ntmps42
 go_upto_region 1 with (refine al 26 dZ rfl rfl fM ?_)
 obtain⟨gb,D⟩:=je w.heap.size;obtain⟨w2,j⟩:=je ((w.alloc (.cells #[.int .i64 kd,.int .i64 n,.slice A dl ca,.slice B cl cb] 71)).alloc (.cells dZ 26));have K:Hid (Bw w w2):=jz (by rw[j];exact aA (aH _ _) (aH _ _));have HO:Hid (Blk w2 gb 71 #[.int .i64 kd,.int .i64 n,.slice A dl ca,.slice B cl cb]):=jz (by rw[j,D];exact(Blk.new _ _ _).alloc _);have HD:Hid (Blk w2 (gb+1) 26 dZ):=jz (by rw[j,D];exact Blk.newAt _ _ _ _ (by simp));have U:Hid (w.heap.size<=gb+1/\gb+1<w2.heap.size):=jz ⟨by omega,by rw[j,D];simp⟩;rw[<- j];simp only[World.size_alloc,<- D];clear j D;have a8:=jz (H.out.xw K);obtain⟨c16,c17,_⟩:=dV (HM.keep K);have o1:=HO.cell 1;have o3:=HO.cell 3;simp only[jf,jh,jg] at o1 o3;have HT:=jz (YX hk a8);rw[<- b0.out,<- a7.out,<- a6.out] at HT;clear o1 o3;go_wp2_with (first
  | (go_at_call 69;refine HT.mono ?_;rintro e c3 ⟨rfl,a0,a1⟩;have J:=jz a0;have Z:=jz a1;clear a0 a1)
  | (go_at_call 34;refine(HC _).mono ?_;rintro e w3 ⟨rfl,O⟩;have a9:=jz (J.out.keep O);have V:=jz (Z.out.trans (XT.of_below J.out.lt O));have a2:Hid (Blk w3 (gb+1) 26 dZ):=jz ((V.block (gb+1) (.inr U)).trans HD);clear O)
  | (refine eQ 26 _ rfl rfl rfl iV ?_)
  | (refine aP 26 (.tmp 5) (.tmp 12) rfl rfl (by rfl) (by rfl) a2 dX rfl oK ?_;intro w9 b1 I b7 c2))
 have a5:Hid (Off (gb+1) w3 w9):=jz ⟨I.os,I.tape,I.output,I.size,λg _ hg=>b7 g hg⟩;have hr:=b1.range;exact bodyPost_ret (d9 rfl _ rfl hr underlying26 rfl (by rw[jk];exact dX)) rfl ⟨rfl,nD a4 a3 K a9 V a5 U⟩
theorem OM(hk:k<=60)(h:VE w0 w gv g9 k N key skew s X)(hm:Blk w gm 106 (fA key g9 gv))(hX:X gm):
  Wc 44 #[.pointer (some ⟨gm,0,none⟩),.agg #[.int .i64 kd,.int .i64 n,.slice A dl ca,.slice B cl cb]] w (MP w0 w gv g9 (k+1) N key skew X ((cR (mD s).1,z32L),(mD s).2)):=by
 have H:=jz h;have HM:=jz hm;obtain⟨x,hx⟩:=je ((mD s).1);obtain⟨s2,R⟩:=je ((mD s).2);obtain⟨v,hv⟩:=je (bM x);have HC:=jz (λW=>nU x W);rw[<- hv] at HC;rw[<- hx,<- R];have b0:=jz hx;have a6:=jz R;have a7:=jz hv;clear hx R hv;have a4:=jz h.lt;have a3:=jz h.lo;clear h hm;go_enter func44,ntmps44
 go_upto_region 1 with (refine al 26 dZ rfl rfl fM ?_)
 obtain⟨gb,D⟩:=je w.heap.size;obtain⟨w2,j⟩:=je ((w.alloc (.cells #[.int .i64 kd,.int .i64 n,.slice A dl ca,.slice B cl cb] 71)).alloc (.cells dZ 26));have K:Hid (Bw w w2):=jz (by rw[j];exact aA (aH _ _) (aH _ _));have HO:Hid (Blk w2 gb 71 #[.int .i64 kd,.int .i64 n,.slice A dl ca,.slice B cl cb]):=jz (by rw[j,D];exact(Blk.new _ _ _).alloc _);have HD:Hid (Blk w2 (gb+1) 26 dZ):=jz (by rw[j,D];exact Blk.newAt _ _ _ _ (by simp));have U:Hid (w.heap.size<=gb+1/\gb+1<w2.heap.size):=jz ⟨by omega,by rw[j,D];simp⟩;rw[<- j];simp only[World.size_alloc,<- D];clear j D;have a8:=jz (H.out.xw K);obtain⟨c16,c17,_⟩:=dV (HM.keep K);have o1:=HO.cell 1;have o3:=HO.cell 3;simp only[jf,jh,jg] at o1 o3;have HT:=jz (OF hk a8);rw[<- b0.out,<- a7.out,<- a6.out] at HT;clear o1 o3;go_wp2_with (first
  | (go_at_call 73;refine HT.mono ?_;rintro e c3 ⟨rfl,a0,a1⟩;have J:=jz a0;have Z:=jz a1;clear a0 a1)
  | (go_at_call 34;refine(HC _).mono ?_;rintro e w3 ⟨rfl,O⟩;have a9:=jz (J.out.keep O);have V:=jz (Z.out.trans (XT.of_below J.out.lt O));have a2:Hid (Blk w3 (gb+1) 26 dZ):=jz ((V.block (gb+1) (.inr U)).trans HD);clear O)
  | (refine eQ 26 _ rfl rfl rfl iV ?_)
  | (refine aP 26 (.tmp 5) (.tmp 12) rfl rfl (by rfl) (by rfl) a2 dX rfl oK ?_;intro w9 b1 I b7 c2))
 have a5:Hid (Off (gb+1) w3 w9):=jz ⟨I.os,I.tape,I.output,I.size,λg _ hg=>b7 g hg⟩;have hr:=b1.range;exact bodyPost_ret (d9 rfl _ rfl hr underlying26 rfl (by rw[jk];exact dX)) rfl ⟨rfl,nD a4 a3 K a9 V a5 U⟩
theorem Y4(hn:n<=1000000000)(hk:k<=60)(h:VE w0 w gv g9 k N key skew s X)(hm:Blk w gm 106 (fA key g9 gv))(hX:X gm):
  Wc 45 #[.pointer (some ⟨gm,0,none⟩),.agg #[.int .i64 kd,.int .i64 n,.slice A dl ca,.slice B cl cb]] w (MP w0 w gv g9 (k+1) N key skew X ((0,z32L),⟨planF s.d n,s.now,s.co⟩)):=by
 have H:=jz h;have HM:=jz hm;have a1:=jz h.lt;have a0:=jz h.lo;clear h hm;go_enter func45,ntmps45
 go_upto_region 1 with (refine al 26 dZ rfl rfl fM ?_)
 obtain⟨gb,x⟩:=je w.heap.size;obtain⟨w2,j⟩:=je ((w.alloc (.cells #[.int .i64 kd,.int .i64 n,.slice A dl ca,.slice B cl cb] 71)).alloc (.cells dZ 26));have I:Hid (Bw w w2):=jz (by rw[j];exact aA (aH _ _) (aH _ _));have HO:Hid (Blk w2 gb 71 #[.int .i64 kd,.int .i64 n,.slice A dl ca,.slice B cl cb]):=jz (by rw[j,x];exact(Blk.new _ _ _).alloc _);have HD:Hid (Blk w2 (gb+1) 26 dZ):=jz (by rw[j,x];exact Blk.newAt _ _ _ _ (by simp));have K:Hid (w.heap.size<=gb+1/\gb+1<w2.heap.size):=jz ⟨by omega,by rw[j,x];simp⟩;rw[<- j];simp only[World.size_alloc,<- x];clear j x;have O:=jz (H.out.xw I);obtain⟨c16,c17,_⟩:=dV (HM.keep I);have o1:=HO.cell 1;have o3:=HO.cell 3;simp only[jf,jh,jg] at o1 o3;have HT:=jz (YY n hn hk O.drew)
 go_still_tail 6,(by kernel_rfl)
 change wpList _ _ _ _ _ w2.drew;obtain⟨wD,J⟩:=je w2.drew;rw[<- J] at HT ⊢;have a4:Hid (XT (XW X w w2) w2 wD):=jz (by rw[J];exact XT.of_below O.lt (ji _ _).drew);clear J c16 c17 o1 o3;go_wp2_with fail
 refine HT.mono ?_;rintro e w3 ⟨rfl,U,V⟩;have a3:=jz U;have R:=jz (a4.trans V);have Z:Hid (Blk w3 (gb+1) 26 dZ):=jz ((R.block (gb+1) (.inr K)).trans HD);clear U V HT;go_wp2_with (first
  | (refine eQ 26 _ rfl rfl rfl iV ?_)
  | (refine aP 26 (.tmp 5) (.tmp 13) rfl rfl (by rfl) (by rfl) Z dX rfl oK ?_;intro w9 a5 D a6 a7))
 have a2:Hid (Off (gb+1) w3 w9):=jz ⟨D.os,D.tape,D.output,D.size,λg _ hg=>a6 g hg⟩;have hr:=a5.range;exact bodyPost_ret (d9 rfl _ rfl hr underlying26 rfl (by rw[jk];exact dX)) rfl ⟨rfl,nD a1 a0 I a3 R a2 K⟩
theorem WF(cs:Wl)(b0:cs.length=cl)(hs:Sn w 1 (.slice B cl cb) cl (lV cs))(hc:cl<=100000)(hn:n<=1000000000)(hk:k<=60)(h:VE w0 w gv g9 k N key skew s X)(hm:Blk w gm 106 (fA key g9 gv))(hX:X gm):
  Wc 46 #[.pointer (some ⟨gm,0,none⟩),.agg #[.int .i64 kd,.int .i64 n,.slice A dl ca,.slice B cl cb]] w (MP w0 w gv g9 (k+1) N key skew X ((0,z32L),⟨if n=0 then iX s.d cs else planC s.d n cs,s.now,s.co⟩)):=by
 have H:=jz h;have HM:=jz hm;have HS:=jz hs;have J:=jz b0;clear hs b0;have a9:=jz h.lt;have a8:=jz h.lo;clear h hm;go_enter func46,ntmps46
 go_upto_region 1 with (refine al 26 dZ rfl rfl fM ?_)
 obtain⟨gb,O⟩:=je w.heap.size;obtain⟨w2,I⟩:=je ((w.alloc (.cells #[.int .i64 kd,.int .i64 n,.slice A dl ca,.slice B cl cb] 71)).alloc (.cells dZ 26));have D:Hid (Bw w w2):=jz (by rw[I];exact aA (aH _ _) (aH _ _));have HO:Hid (Blk w2 gb 71 #[.int .i64 kd,.int .i64 n,.slice A dl ca,.slice B cl cb]):=jz (by rw[I,O];exact(Blk.new _ _ _).alloc _);have HD:Hid (Blk w2 (gb+1) 26 dZ):=jz (by rw[I,O];exact Blk.newAt _ _ _ _ (by simp));have Z:Hid (w.heap.size<=gb+1/\gb+1<w2.heap.size):=jz ⟨by omega,by rw[I,O];simp⟩;rw[<- I];simp only[World.size_alloc,<- O];clear I O;have a0:=jz (H.out.xw D);obtain⟨c16,c17,_⟩:=dV (HM.keep D);have o1:=HO.cell 1;have o3:=HO.cell 3;simp only[jf,jh,jg] at o1 o3;by_cases hn0:n=0
 ·subst hn0;have a3:Hid ((if (0:Int)=0 then iX s.d cs else planC s.d 0 cs)=iX s.d cs):=jz (jP rfl);have R:Sn w2.drew 1 (.slice B cs.length cb) cs.length (lV cs):=by rw[J.out];exact(HS.below D).below (ji _ _).drew
  have HT:=jz (WC cs B cb R (by rw[J.out];exact hc) hk a0.drew);rw[J.out] at HT;rw[a3.out];clear R;go_upto_region 2 with fail
  go_still_tail 6,(by kernel_rfl)
  change wpList _ _ _ _ _ w2.drew;obtain⟨wD,x⟩:=je w2.drew;rw[<- x] at HT ⊢;have a5:Hid (XT (XW X w w2) w2 wD):=jz (by rw[x];exact XT.of_below a0.lt (ji _ _).drew);clear x c16 c17 o1 o3;go_wp2_with fail
  refine HT.mono ?_;rintro e w3 ⟨rfl,U,V⟩;have a4:=jz U;have K:=jz (a5.trans V);have a1:Hid (Blk w3 (gb+1) 26 dZ):=jz ((K.block (gb+1) (.inr Z)).trans HD);clear U V HT;go_wp2_with (first
   | (refine eQ 26 _ rfl rfl rfl iV ?_)
   | (refine aP 26 (.tmp 5) (.tmp 25) rfl rfl (by rfl) (by rfl) a1 dX rfl oK ?_;intro w9 a6 j a7 b1))
  have a2:Hid (Off (gb+1) w3 w9):=jz ⟨j.os,j.tape,j.output,j.size,λg _ hg=>a7 g hg⟩;have hr:=a6.range;exact bodyPost_ret (d9 rfl _ rfl hr underlying26 rfl (by rw[jk];exact dX)) rfl ⟨rfl,nD a9 a8 D a4 K a2 Z⟩
 ·have t0:(n == 0)=false:=by simpa using hn0
  have a3:Hid ((if n=0 then iX s.d cs else planC s.d n cs)=planC s.d n cs):=jz (jQ hn0);have R:Sn w2.drew 1 (.slice B cl cb) cs.length (lV cs):=by rw[J.out];exact(HS.below D).below (ji _ _).drew
  have HT:=jz (OG n (.slice B cl cb) cs R (by rw[J.out];exact hc) hn hk a0.drew);rw[a3.out];clear R;go_upto_region 3 with fail
  go_still_tail 8,(by kernel_rfl)
  change wpList _ _ _ _ _ w2.drew;obtain⟨wD,x⟩:=je w2.drew;rw[<- x] at HT ⊢;have a5:Hid (XT (XW X w w2) w2 wD):=jz (by rw[x];exact XT.of_below a0.lt (ji _ _).drew);clear x c16 c17 o1 o3;go_wp2_with fail
  refine HT.mono ?_;rintro e w3 ⟨rfl,U,V⟩;have a4:=jz U;have K:=jz (a5.trans V);have a1:Hid (Blk w3 (gb+1) 26 dZ):=jz ((K.block (gb+1) (.inr Z)).trans HD);clear U V HT;go_wp2_with (first
   | (refine eQ 26 _ rfl rfl rfl iV ?_)
   | (refine aP 26 (.tmp 5) (.tmp 25) rfl rfl (by rfl) (by rfl) a1 dX rfl oK ?_;intro w9 a6 j a7 b1))
  have a2:Hid (Off (gb+1) w3 w9):=jz ⟨j.os,j.tape,j.output,j.size,λg _ hg=>a7 g hg⟩;have hr:=a6.range;exact bodyPost_ret (d9 rfl _ rfl hr underlying26 rfl (by rw[jk];exact dX)) rfl ⟨rfl,nD a9 a8 D a4 K a2 Z⟩
end
end
section
open Go.RowKit
attribute [local irreducible] wpQuiet wpAnyH
theorem WG(n:Nat)(h:n<=1099511627776)(W:Wd):(convert 2 141 (.int .i64 (n:Int))).run prog W = .ok (.int .u64 (n:Int)) W:=by
 have h1:=run_convert_int (P:=prog) (w:=W) 2 141 .i64 (n:Int) (by kernel_rfl) (by kernel_rfl);have e:prog.intKind 141 = .u64:=by kernel_rfl
 rw[e] at h1;rw[h1,show IntKind.u64.wrap (n:Int)=(n:Int) from by
  unfold IntKind.wrap
  simp[IntKind.signed,IntKind.bits]
  omega]
theorem LQ(n:Nat)(h:n<4294967296)(W:Wd):(convert 51 141 (.int .u32 (n:Int))).run prog W = .ok (.int .u64 (n:Int)) W:=by
 have h1:=run_convert_int (P:=prog) (w:=W) 51 141 .u32 (n:Int) (by kernel_rfl) (by kernel_rfl);have e:prog.intKind 141 = .u64:=by kernel_rfl
 rw[e] at h1;rw[h1,show IntKind.u64.wrap (n:Int)=(n:Int) from by
  unfold IntKind.wrap
  simp[IntKind.signed,IntKind.bits]
  omega]
theorem JK(n:Nm)(A:Option Addr)(cap T M Q:Nat)(w:Wd)(hn:NmOk n)(hs:Sn w 1 (.slice A n.parts.length cap) n.parts.length (fF n.parts))(hT:T<=1099511627776)(hM:M<=999999):
  Wc 165 #[.agg #[.string (cV n.realm),.slice A n.parts.length cap,.int .i64 (T:Nat),.int .u32 (M:Nat),.int .u32 (Q:Nat)]] w (Rt w (.bool true)):=by
 have R:=jz (fun(W:Wd) (h:Bw w W)=>x6 n A cap W hn (hs.below h));obtain⟨S,hS⟩:=je (cV n.realm);obtain⟨m,hm⟩:=je n.parts.length;rw[<- hS] at R ⊢;rw[<- hm] at R ⊢;have t1:(0:Int)<=T:=by omega
 have t2:(T:Int)<=1099511627776:=by omega
 have t3:(M:Int)<=999999:=by omega
 clear hn hs hS hm hT hM;obtain⟨g,hg⟩:=je w.heap.size;obtain⟨U,x⟩:=je (w.alloc (.cells #[.string S,.slice A m cap,.int .i64 (T:Nat),.int .u32 (M:Nat),.int .u32 (Q:Nat)] 125));have D:Hid (Bw w U):=jz (by rw[x];exact aH _ _);have I:Hid (Blk U g 125 #[.string S,.slice A m cap,.int .i64 (T:Nat),.int .u32 (M:Nat),.int .u32 (Q:Nat)]):=jz (by rw[x,hg];exact Blk.new _ _ _);have O:Hid (U.rangeAt g 0 [.string S,.slice A m cap]):=jz (λj u Z=>by
  have a0:j<2:=(List.getElem?_eq_some_iff.1 Z).1
  have h:=I.cell j
  rw[Nat.zero_add,h]
  have hc:j=0\/j=1:=by omega
  rcases hc with rfl|rfl <;> exact Z)
 have HI:Hid ((prog.info? 121).map (·.size)=some [Value.string S,.slice A m cap].length):=jz n9;go_enter func165,ntmps165
 go_upto_region 1 with fail
 rw[<- x,<- hg];clear x hg;go_wp2_with (refine ld 121 (.tmp 3) rfl rfl (by rfl) O underlying121 rfl HI ?_)
 refine(R U D).mono ?_;rintro e w2 ⟨rfl,J⟩;have V:=jz (aA D J);have K:=jz (I.keep J);clear J I D O R;have c2:=K.cell 2;have c3:=K.cell 3;simp only[jf,jh,jg] at c2 c3;go_wp2_with fail
 go_ret;exact⟨rfl,V⟩
theorem FZ(K k x base n:Nat)(v:Value)(xs:Wv)(w:Wd)(a4:1<=k)(U:k<=8)(hx:x<256 ^ k)(hB:Blk w K 68 #[v])(ho:w.ownsRow base 5 1 v n xs)(hb:base<=w.heap.size)(a3:base<=K)(hn:n<=100000):
  Wc 168 #[.int .i64 k,.int .u64 x,.pointer (some ⟨K,0,none⟩)] w λe w'=>e = .returned (.tuple #[])/\∃ v',Blk w' K 68 #[v']/\w'.ownsRow base 5 1 v' (n+k) (xs++u8s (beB k x))/\Below base w w'/\∀ g t cs,Blk w g t cs->t≠5->g≠K->Blk w' g t cs:=by
 have a1:=jz (lG k x w a4 U hx);have HB:=jz hB;have HO:=jz ho;have V:=jz (And.intro hb (And.intro a3 (And.intro hn U)));clear a4 U hx hB ho hb a3 hn;go_enter func168,ntmps168
 go_wp2_with fail
 refine a1.mono ?_;rintro e w1 ⟨z,rfl,a5,J⟩;obtain⟨ZA,zc,rfl,a6,_⟩:=bO a5;have a7:=jz a6;have Z:=jz (HB.keep J);have j:=jz (aK HO J);have I:=jz J;clear a5 a6 J a1;obtain⟨VA,vc,rfl,_,_⟩:=bO j.out;have c0:=Z.cell 0;simp only[jf,jg] at c0;go_wp2_with (refine app tQ (.tmp 13) (.tmp 14) rfl rfl (by rfl) j (by rfl) a7 (bS _) (by have:=V.out;unfold maxLen;omega) (by have:=V.out;omega) (jm V.out.1 I.size) ?_;intro v2 w2 O R a8;obtain⟨A2,c2,rfl,_,_⟩:=bO O;have a2:=jz O;have a0:=jz R;have D:=jz (k5 R j Z (by decide));clear O R a8 c0;have n8:=D.cell 0;have m8:=D.frozen 0;simp only[jf,jg] at n8)
 refine bodyPost_end (results_none rfl _ _ _) rfl ⟨rfl,_,D.set_ 0 _,?_,?_,?_⟩
 ·exact ownsRow_setCell_other a2 (a:=⟨K,0,none⟩) (λe=>cJ a2 D (by decide) e.symm) _
 ·exact((I.mono V.out.1).grown a0 (jm V.out.1 I.size) (λb hb=>(j.lt b hb).1)).setCell V.out.2.1 _ (p:=⟨K,0,none⟩)
 ·intro g t cs h ht a9;exact(k5 a0 j (h.keep I) ht).far a9 _
theorem WH(x y z:Int):prog.built 285 [(0,.int .u64 x),(1,.int .u64 y),(2,.int .u64 z)]=some #[.int .u64 x,.int .u64 y,.int .u64 z]:=by kernel_rfl
def fdN(T M Q k:Nat):Nat:=if k=0 then T else if k=1 then M else Q
def fdL(l:List Nat)(T M Q:Nat):Nat->List Nat
 | 0=>l
 | k+1=>fdL l T M Q k++CF (szN k) (fdN T M Q k)
theorem yF(l:List Nat)(T M Q:Nat):∀ k,(fdL l T M Q k).length<=l.length+8*k
 | 0=>ja _
 | k+1=>by
  have:=yF l T M Q k;unfold fdL;rw[jj,oC];have j:szN k<=8:=by unfold szN;split <;> omega
  omega
theorem WI(k x:Nat):u8s (beB k x)=n8 (CF k x):=rB (jD k x)
theorem Y5(a b:List Nat):n8 (a++b)=n8 a++n8 b:=by unfold n8;rw[List.map_append]
structure AbX(w wr:Wd)(g8 gB k T M Q:Nat)(l:List Nat):Prop where
 f:Blk wr g8 285 #[.int .u64 (T:Nat),.int .u64 (M:Nat),.int .u64 (Q:Nat)]
 bel:Bw w wr
 ro:∃ v,Blk wr gB 68 #[v]/\wr.ownsRow w.heap.size 5 1 v (fdL l T M Q k).length (n8 (fdL l T M Q k))
theorem JL(n:Nm)(A:Option Addr)(cap T M Q:Nat)(w:Wd)(hn:NmOk n)(hs:Sn w 1 (.slice A n.parts.length cap) n.parts.length (fF n.parts))(hT:T<=1099511627776)(hM:M<=999999)(hQ:Q<4294967296):
  Wc 112 #[.agg #[.string (cV n.realm),.slice A n.parts.length cap,.int .i64 (T:Nat),.int .u32 (M:Nat),.int .u32 (Q:Nat)]] w λe w'=>∃ y,e = .returned (.tuple #[y,.bool true])/\w'.ownsRow w.heap.size 5 1 y (fdL (2 :: nmN n) T M Q 3).length (n8 (fdL (2 :: nmN n) T M Q 3))/\Bw w w':=by
 have HV:=jz (fun(W:Wd) (h:Bw w W)=>JK n A cap T M Q W hn (hs.below h) hT hM);have D:=jz (fun(W:Wd) (h:Bw w W)=>JI n A cap W hn (hs.below h));have Z:=jz (CB hn);have a0:=jz (And.intro hT (And.intro hM hQ));obtain⟨l0,m2⟩:=je (nmN n);rw[<- m2] at D Z ⊢;obtain⟨S,hS⟩:=je (cV n.realm);obtain⟨m,hm⟩:=je n.parts.length;rw[<- hS] at HV D ⊢;rw[<- hm] at HV D ⊢;clear hn hs hS hm m2;obtain⟨g1,f0⟩:=je w.heap.size;obtain⟨C,hC⟩:∃ C:Wv,C=[.string S,.slice A m cap,.int .i64 (T:Nat),.int .u32 (M:Nat),.int .u32 (Q:Nat)]:=⟨_,rfl⟩;obtain⟨w1,a7⟩:=je (w.alloc (.cells #[.string S,.slice A m cap,.int .i64 (T:Nat),.int .u32 (M:Nat),.int .u32 (Q:Nat)] 125));have b0:Hid (Bw w w1):=jz (by rw[a7];exact aH _ _);have c7:Hid (Blk w1 g1 125 #[.string S,.slice A m cap,.int .i64 (T:Nat),.int .u32 (M:Nat),.int .u32 (Q:Nat)]):=jz (by rw[a7,f0];exact Blk.new _ _ _);have g3:Hid (w1.rangeAt g1 0 [.string S,.slice A m cap,.int .i64 (T:Nat),.int .u32 (M:Nat),.int .u32 (Q:Nat)]):=jz c7.range;have f8:Hid ((prog.info? 125).map (·.size)=some [Value.string S,.slice A m cap,.int .i64 (T:Nat),.int .u32 (M:Nat),.int .u32 (Q:Nat)].length):=jz auI;clear hC C hT hM hQ;go_enter func112,ntmps112
 go_upto_region 1 with fail
 rw[<- a7,<- f0];clear a7 f0;go_wp2_with (refine ld 125 (.tmp 1) rfl rfl (by rfl) g3 underlying125 rfl f8 ?_)
 refine(HV w1 b0).mono ?_;rintro e w2 ⟨rfl,d7⟩;have b1:=jz (aA b0 d7);have c9:=jz (c7.keep d7);have h0:Hid (w2.rangeAt g1 0 [.string S,.slice A m cap]):=jz (λj u hj=>by
  have q0:j<2:=(List.getElem?_eq_some_iff.1 hj).1
  have h:=c9.cell j
  rw[Nat.zero_add,h]
  have hc:j=0\/j=1:=by omega
  rcases hc with rfl|rfl <;> exact hj)
 have HI:Hid ((prog.info? 121).map (·.size)=some [Value.string S,.slice A m cap].length):=jz n9;clear d7 c7 b0 g3 f8 HV;go_wp2_with (refine ld 121 (.tmp 15) rfl rfl (by rfl) h0 underlying121 rfl HI ?_)
 refine(D w2 b1).mono ?_;rintro e w3 ⟨y,rfl,x,e0⟩;obtain⟨YA,yc,rfl,_,_⟩:=bO x;have d5:=jz x;have f5:=jz (aA b1 e0);have f9:=jz (c9.keep e0);obtain⟨ly,f2⟩:=je l0.length;have d0:=jz f2;rw[<- f2] at d5 Z ⊢;clear x e0 f2 h0 HI D c9 b1;go_wp2_with fail
 obtain⟨w4,O⟩:=je ((w3.alloc (.cells #[.int .u8 2] 5)).alloc (.cells #[.slice (some ⟨w3.heap.size,0,none⟩) 1 1,.slice YA ly yc] 68));have a2:Bw w3 w4:=by rw[O];exact aA (aH _ _) (aH _ _)
 have hP:Parts w4 (.slice (some ⟨w3.heap.size+1,0,none⟩) 2 2) [(.slice (some ⟨w3.heap.size,0,none⟩) 1 1,[2]),(.slice YA ly yc,cY l0)]:=by
  refine⟨?_,λp hp=>?_⟩
  ·have h:=Sn.newAt (w3.alloc (.cells #[.int .u8 2] 5)) #[.slice (some ⟨w3.heap.size,0,none⟩) 1 1,.slice YA ly yc] 68 1 2 (w3.heap.size+1) rfl (by simp);rw[<- O] at h;exact h
  ·simp only[jl,j8,or_false] at hp;rcases hp with rfl|rfl
   ·have h:=(Sn.new w3 #[.int .u8 2] 5 1 1 rfl).alloc (.cells #[.slice (some ⟨w3.heap.size,0,none⟩) 1 1,.slice YA ly yc] 68);rw[<- O] at h;exact h
   ·have h:=(Sn.own d5).below a2;simp only[aV,<- d0.out];rw[<- fK];exact h
 have d2:Hid (eB [(Value.slice (some ⟨w3.heap.size,0,none⟩) 1 1,[2]),(.slice YA ly yc,cY l0)]=(2 :: l0).length):=jz (by
  unfold eB
  simp only[List.map_cons,List.map_nil,List.sum_cons,List.sum_nil,aV,List.length_cons,List.length_nil]
  omega)
 have f7:Hid (u8s (cat [(Value.slice (some ⟨w3.heap.size,0,none⟩) 1 1,[2]),(.slice YA ly yc,cY l0)])=n8 (2 :: l0)):=jz (by
  show u8s ([2]++(cY l0++[]))=_
  rw[List.append_nil,fN,<- fK]
  rfl)
 have HJ:=jz (lX _ _ w4 hP (by simp) (by rw[d2.out,List.length_cons];have:=Z.out;have:=d0.out;omega));rw[d2.out,f7.out] at HJ;have b7:=jz (aA f5 a2);have g0:=jz (f9.keep a2);rw[<- O];clear O hP a2 d2 f7 d5 f9 f5;refine HJ.mono ?_;rintro e w5 ⟨y,rfl,x,e1⟩;obtain⟨XA,xc,rfl,_,_⟩:=bO x;have a1:=jz (bI x b7.size);have c5:=jz (aA b7 e1);have g2:=jz (g0.keep e1);obtain⟨R,a6⟩:∃ l,l=2 :: l0:=⟨_,rfl⟩;rw[<- a6] at a1 ⊢;have m6:=jz a6;have m8:Hid (R.length<=1001):=jz (by rw[a6,List.length_cons];have:=Z.out;have:=d0.out;omega);obtain⟨nx,f3⟩:=je R.length;rw[<- f3] at a1 ⊢;have n0:=jz f3;clear x e1 HJ a6 f3 g0 b7;go_upto_region 5 with fail
 obtain⟨w6,a8⟩:=je (w5.alloc (.cells #[.slice XA nx xc] 68));obtain⟨gB,a5⟩:=je w5.heap.size;have a3:Bw w5 w6:=by rw[a8];exact aH _ _
 have d1:Hid (Blk w6 gB 68 #[.slice XA nx xc]):=jz (by rw[a8,a5];exact Blk.new _ _ _);have h7:=jz (aK a1 a3);have f6:=jz (aA c5 a3);have V:=jz (g2.keep a3);have m5:Hid (w.heap.size<=gB):=jz (by rw[a5];exact c5.size);rw[<- a8,<- a5];clear a8 a5 a3 a1 c5 g2;have c2:=V.cell 2;have c3:=V.cell 3;have c4:=V.cell 4;simp only[jf,jh,jg] at c2 c3 c4;have k1:=WG T a0.out.1;have k2:=LQ M (by have:=a0.out;omega);have k3:=LQ Q a0.out.2.2;have m4:=jz (WH (T:Nat) (M:Nat) (Q:Nat));go_upto_region 7 with fail
 clear k1 k2 k3 c2 c3 c4 m4;obtain⟨w7,a9⟩:=je (w6.alloc (.cells #[.int .u64 (T:Nat),.int .u64 (M:Nat),.int .u64 (Q:Nat)] 285));obtain⟨g8,f1⟩:=je w6.heap.size;have a4:Bw w6 w7:=by rw[a9];exact aH _ _
 have h5:Hid (AbX w w7 g8 gB 0 T M Q R):=jz ⟨by rw[a9,f1];exact Blk.new _ _ _,aA f6 a4,_,d1.keep a4,by
  show w7.ownsRow _ _ 1 (.slice XA nx xc) R.length (n8 R)
  rw[<- n0.out]
  exact aK h7 a4⟩
 have m9:Hid (g8≠gB):=jz (by have:=d1.lt;omega);rw[<- a9,<- f1];clear a9 f1 a4 d1 h7 f6 V;go_wp2_with fail
 refine(AU w7).mono ?_;rintro e w8 ⟨rfl,K⟩;have h6:Hid (AbX w w8 g8 gB 0 T M Q R):=jz (by
  obtain⟨h1,h2,v,h3,h4⟩:=h5.out
  exact⟨h1.keep K,aA h2 K,v,h3.keep K,aK h4 K⟩)
 clear K h5;unfold sz3;go_wp2_with fail
 go_loopw [36] (λi wr=>∃ k:Nat,k<=3/\i = .int .i64 k/\Hid (AbX w wr g8 gB k T M Q R)) (λi _=>3-(intOf i).toNat)
 case atStart=>exact⟨0,by omega,rfl,h6⟩
 case round=>
  clear h6;obtain⟨k,hk,rfl,HX⟩:=hrel;rcases jo k 3 with n2|n3
  ·have n6:(k:Int)<3:=by omega
   have n4:(0:Int)<=k:=by omega
   have k4:=λW=>XJ k n2 W
   obtain⟨v,J,I⟩:=HX.ro;have U:=jz (FZ gB (szN k) (fdN T M Q k) w.heap.size _ v _ wr (by unfold szN;split <;> omega) (by unfold szN;split <;> omega) (by
    have:=a0.out
    have hc:k=0\/k=1\/k=2:=by omega
    rcases hc with rfl|rfl|rfl
    ·show T<256 ^ 8;omega
    ·show M<256 ^ 4;omega
    ·show Q<256 ^ 4;omega) J I HX.bel.size m5 (by have:=yF R T M Q k;have:=m8.out;omega))
   have cF:wr.cell? ⟨g8,k,none⟩=some (.int .u64 ((fdN T M Q k:Nat):Int)):=by
    rw[HX.f.cell k];have hc:k=0\/k=1\/k=2:=by omega
    rcases hc with rfl|rfl|rfl <;> rfl
   obtain⟨z,hz⟩:=je (szN k);obtain⟨fv,e8⟩:=je (fdN T M Q k);have m3:Hid (fdL R T M Q (k+1)=fdL R T M Q k++CF z fv):=jz (by rw[hz,e8];rfl);rw[<- hz] at k4 U;rw[<- e8] at U cF;have HF:=jz HX.f;have c6:=jz HX.bel;clear hz e8 J I HX;go_wp2_with fail
   refine U.mono ?_;rintro e w9 ⟨rfl,v',h9,h8,k0,m1⟩;have n1:Hid (AbX w w9 g8 gB (k+1) T M Q R):=jz ⟨m1 _ _ _ HF (by decide) m9,c6.trans k0,v',h9,by
    rw[m3.out,jj,oC,Y5,<- WI]
    exact h8⟩
   clear h9 h8 k0 m1 U cF k4;go_wp2_with fail
   exact⟨⟨k+1,by omega,by go_num,n1⟩,by simp[intOf];omega⟩
  ·obtain rfl:k=3:=by omega
   obtain⟨v,J,I⟩:=HX.ro;have cB:=J.cell 0;simp only[jf,jg] at cB;have HO:=jz I;have c6:=jz HX.bel;clear J I HX;go_wp2_with fail
   first|go_ret2|skip
   have h:=HO.out;rw[m6.out] at h;exact⟨v,rfl,h,c6⟩
theorem WJ(a:AuD):fdL (2 :: nmN a.client) a.time a.micro a.seq 3=auN a:=rfl
theorem tN(a:AuD)(v:Value)(w:Wd)(ha:AuOk a)(hs:Sn w 1 v a.client.parts.length (fF a.client.parts))(hk:TabK w):
  Wc 72 #[.agg (auC a v).toArray] w (Rt w (.tuple #[.agg (n8 (auG a)).toArray,.bool true])):=by
 obtain⟨A,cap,rfl,_⟩:=id hs;have a2:=jz (fun(W:Wd) (h:Bw w W)=>JL a.client A cap a.time a.micro a.seq W ha.nm (hs.below h) ha.time ha.micro ha.seq);rw[WJ] at a2;have a3:=jz (And.intro (VW ha) (VX ha));have e1:=jz hk;obtain⟨C,hC⟩:=je ((auC a (.slice A a.client.parts.length cap)).toArray);have I:Hid (∀(W:Wd),Bw w W->Wc 112 #[.agg C] W λe w'=>∃ y,e = .returned (.tuple #[y,.bool true])/\w'.ownsRow W.heap.size 5 1 y (auN a).length (n8 (auN a))/\Bw W w'):=jz (by rw[hC];exact a2);obtain⟨x,b0⟩:=je (auN a);have HG:Hid (auG a=nG x):=jz (by rw[b0];rfl);rw[<- b0] at I a3;rw[HG.out];have c3:Hid ((prog.info? 125).map (·.size)=some C.toList.length):=jz (by rw[hC];exact auI);rw[<- hC];clear ha hs hk b0 a2 hC;obtain⟨g1,U⟩:=je w.heap.size;obtain⟨w1,R⟩:=je (w.alloc (.cells C 125));have b7:Hid (Bw w w1):=jz (by rw[R];exact aH _ _);have c7:Hid (w1.rangeAt g1 0 C.toList):=jz (by rw[R,U];exact(Blk.new w _ C).range);go_enter func72,ntmps72
 go_upto_region 1 with (refine al 26 dZ rfl rfl fM ?_)
 obtain⟨w2,V⟩:=je (w1.alloc (.cells dZ 26));obtain⟨g2,a9⟩:=je (g1+1);have a6:Bw w1 w2:=by rw[V];exact aH _ _
 have c4:Hid (Blk w2 g2 26 dZ):=jz (by rw[V,a9];exact Blk.newAt _ _ _ _ (by rw[R,U];simp));have c9:Hid (w2.rangeAt g1 0 C.toList):=jz (λj u hj=>j9 a6 (c7 j u hj));have a0:=jz (aA b7 a6);have e0:Hid (w.heap.size<=g2):=jz (by omega);rw[<- R,<- V,<- U];rw[<- a9];clear R V U a9 a6 b7 c7;go_wp2_with (refine ld 125 (.tmp 1) rfl rfl (by rfl) c9 underlying125 rfl c3 ?_)
 refine(I w2 a0).mono ?_;rintro e w3 ⟨y,rfl,d0,a7⟩;obtain⟨YA,yc,rfl,d1,_⟩:=bO d0;have a4:=jz d1;have c5:=jz (c4.keep a7);have a1:=jz (aA a0 a7);obtain⟨ly,b1⟩:=je x.length;have e8:=jz b1;rw[<- b1] at a4 ⊢;clear d0 d1 a7 b1 I c4 a0 c9 c3;go_wp2_with fail
 obtain⟨w4,Z⟩:=je (w3.alloc (.cells #[.slice YA ly yc] 68));have K:Bw w3 w4:=by rw[Z];exact aH _ _
 have hP:PN w4 (.slice (some ⟨w3.heap.size,0,none⟩) 1 1) [(.slice YA ly yc,x)]:=by
  refine G4 _ 1 rfl ?_ (λp hp=>?_) (λp hp=>?_)
  ·have h:=(Blk.new w3 68 #[.slice YA ly yc]).range;rw[<- Z] at h;exact h
  ·simp only[jl,j8,or_false] at hp;subst hp;show Sn w4 1 (.slice YA ly yc) x.length (n8 x);rw[<- e8.out];exact a4.below K
  ·simp only[jl,j8,or_false] at hp;subst hp;exact a3.out.2
 have O:cQ [(Value.slice YA ly yc,x)]=x:=by
  unfold cQ;simp
 have a5:=jz (KK _ _ w4 hP (by simp) (by rw[O];have:=a3.out.1;omega) ((e1.below a1).below K));rw[O] at a5;have c6:=jz (c5.keep K);have c2:=jz (aA a1 K);rw[<- Z];clear Z hP O K c5 a1 a4;refine a5.mono ?_;rintro e w5 ⟨rfl,a8⟩;have d5:=jz (c6.keep a8);have d2:=jz (aA c2 a8);have J:Hid ((prog.info? 26).map (·.size)=some (n8 (nG x)).toArray.size/\dZ.size=(n8 (nG x)).toArray.size/\(n8 (nG x)).toArray.all (·.oneCell')=true):=jz (by
  have hl:(n8 (nG x)).length=32:=by rw[aS];exact dF _
  have h3:(n8 (nG x)).toArray.size=32:=by rw[js,hl]
  refine⟨by rw[js,hl];kernel_rfl,by rw[h3];rfl,all_oneCell_toArray (dU _)⟩)
 obtain⟨D,hD⟩:=je ((n8 (nG x)).toArray);rw[<- hD] at J ⊢;have d7:=jz hD;clear hD a8 a5 c6 c2;go_wp2_with (refine aP 26 (.tmp 2) (.tmp 16) rfl rfl (by rfl) (by rfl) d5 J.out.1 J.out.2.1 J.out.2.2 ?_;intro w9 f0 f1 f2 f3)
 refine bodyPost_ret (aC (P:=prog) rfl _ rfl f0.range underlying26 rfl (by rw[jk];exact J.out.1)) rfl ?_;refine⟨?_,d2.trans (f1.mono e0)⟩;rw[<- d7.out];rfl
def JM(gv:Nat)(bv:Value):Wa:=(m7 gv bv tkZ.toList auZ.toList).toArray
theorem F0(gv:Nat)(A:Option Addr)(n cap:Nat):prog.built 209 [(0,.pointer (some ⟨gv,0,none⟩)),(1,.slice A n cap)]=some (JM gv (.slice A n cap)):=by unfold JM tkZ auZ;kernel_rfl
section
variable {w0 w w' : Wd} {gv g9 k N : Nat} {key : Nat -> Nat} {skew : Int} {s : VS} {X : Nat -> Prop}
theorem VE.krange(h:VE w0 w gv g9 k N key skew s X):w.rangeAt gv 0 (arr 16 (c8 key)):=by
 obtain⟨m,cv,F,hg,j,x⟩:=h;exact j.krange
theorem VE.gvlt(h:VE w0 w gv g9 k N key skew s X):gv<w.heap.size:=by
 obtain⟨m,cv,F,hg,j,x⟩:=h;exact j.blk.lt
theorem yG(h:VE w0 w gv g9 k N key skew s X):Wc 77 #[.pointer (some ⟨gv,0,none⟩)] w λe w'=>e = .returned (.tuple #[])/\VE w0 w' gv g9 k N key skew (aN s) X/\XT X w w':=by
 obtain⟨m,cv,F,hg,x,D⟩:=h;refine(x9 x).mono ?_;rintro e w' ⟨rfl,cv',F',h1,j,_⟩;exact⟨rfl,VE.of D hg h1 j⟩
def uE(tk au:Wv)(c:Int)(_:Wd):Prop:=tk=tkZ.toList/\au=auZ.toList/\c=1
theorem ST(b:Wl)(A:Option Addr)(n cap:Nat)(hs:Sn w 1 (.slice A n cap) b.length (u8s b))(hb:Bys b)(Z:b.length<=1000000)(hq:(dD b).2.2=false){ga:Nat}{tk0 au0:Wv}(R:Blk w ga 209 (m7 gv (.slice A n cap) tk0 au0).toArray)(I:tk0.length=20)(j:au0.length=5)(V:w.rangeAt gv 0 (arr 16 (c8 key)))(D:gv≠ga):
  Wc 104 #[.pointer (some ⟨ga,0,none⟩)] w λe w'=>e = .returned (.int .i64 1)/\Off ga w w':=by
 have hn:n=b.length:=by
  obtain⟨A',c',e,_⟩:=id hs;injection e
 subst hn;refine(SJ (P:=uE) R I j V D (λW U=>?_) (λO K c W h=>?_) (λO K c W W' h _=>h)).mono ?_
 ·refine(sG key b A cap W (hs.below U) hb Z hq).mono ?_;rintro e W' ⟨rfl,x⟩;exact⟨tkZ.toList,auZ.toList,1,rfl,⟨rfl,rfl,rfl⟩,x⟩
 ·obtain⟨rfl,rfl,rfl⟩:=h;exact⟨by rw[jk];exact bK,rfl,λu J=>Array.all_eq_true_iff_forall_mem.1 eY u (by simpa using J),λu J=>Array.all_eq_true_iff_forall_mem.1 eZ u (by simpa using J)⟩
 ·rintro e w' ⟨O,K,c,rfl,⟨_,_,rfl⟩,_,ho⟩;exact⟨rfl,ho⟩
theorem CY(b:Wl)(A:Option Addr)(n cap:Nat)(hs:Sn w 1 (.slice A n cap) b.length (u8s b))(hb:Bys b)(hl:b.length<=1000000)(hq:(dD b).2.2=false)(h:VE w0 w gv g9 k N key skew s X):
  Wc 70 #[.pointer (some ⟨gv,0,none⟩),.slice A n cap] w λe w'=>e = .returned (.int .i64 1)/\VE w0 w' gv g9 k N key skew (aN s) X/\XT X w w':=by
 have c2:∀(fn:Fn) (first cap:Wa) (w:Wd),(Instr.makeFunc fn first cap).run prog w = .ok (.func fn first cap) w:=λ_ _ _ _=>rfl
 have H:=jz h;have K:=jz h.lt;have a4:=jz h.lo;have a3:=jz (F0 gv A n cap);have a6:=jz (fun(W:Wd) (hs:Sn W 1 (.slice A n cap) b.length (u8s b)) (ga:Nat) (hB:Blk W ga 209 (JM gv (.slice A n cap))) (hk:W.rangeAt gv 0 (arr 16 (c8 key))) (b7:gv≠ga)=>ST b A n cap hs hb hl hq hB (by rw[jk];exact bK) rfl hk b7);have HS:=jz hs;clear h hs hb hl hq;go_enter func70,ntmps70
 go_wp2_with fail
 go_step3
 go_upto_region 5 with (refine eQ 209 _ rfl rfl rfl a3 ?_)
 go_step3
 obtain⟨ga,O⟩:=je w.heap.size;obtain⟨w2,D⟩:=je (w.alloc (.cells (JM gv (.slice A n cap)) 209));have a2:Hid (Bw w w2):=jz (by rw[D];exact aH _ _);have V:Hid (Blk w2 ga 209 (JM gv (.slice A n cap))):=jz (by rw[D,O];exact Blk.new _ _ _);have x:Hid (w.heap.size<=ga):=jz (by omega);rw[<- D,<- O];clear D O;go_wp2_with fail
 obtain⟨gf,R⟩:=je w2.heap.size;obtain⟨w3,I⟩:=je (w2.alloc (.cells #[.func (.func 104) #[.pointer (some ⟨ga,0,none⟩)] #[],.func (.func 105) #[.pointer (some ⟨ga,0,none⟩)] #[],.func (.func 106) #[.pointer (some ⟨ga,0,none⟩)] #[],.func (.func 107) #[.pointer (some ⟨ga,0,none⟩)] #[]] 210));have J:Hid (Bw w2 w3):=jz (by rw[I];exact aH _ _);have b1:w3.cell? ⟨gf,0,none⟩=some (.func (.func 104) #[.pointer (some ⟨ga,0,none⟩)] #[]):=by rw[I,R];exact(Blk.new w2 _ _).cell 0
 rw[<- I,<- R];clear I R;have j:=jz (aA a2 J);have a0:=jz (H.out.xw j);have a5:=jz (a6 w3 (HS.below j) ga (V.keep J) a0.krange (by have:=H.out.gvlt;have:=x.out;omega));refine wp_loop_rounds 1 ?_;rw[rounds_succ];go_wp2_with fail
 refine a5.mono ?_;rintro e w4 ⟨rfl,ho⟩;have a7:=jz (a0.off ho (.inr ⟨x,jp V.lt J.size⟩) (jm a4 x));have a9:Hid (XT X w w4):=jz ⟨jm j.size ho.size,λb hb=>(ho.block b (jp (K b hb) j.size) (by have:=K.out b hb;have:=x.out;omega)).trans (j.block b (K b hb))⟩;have Z:=jz (yG a7);clear ho b1;go_wp2_with fail
 refine Z.mono ?_;rintro e w5 ⟨rfl,a1,U⟩;have a8:Hid (VE w0 w5 gv g9 k N key skew (aN s) X):=jz (a1.less (λb hb=>.inl hb));have b0:Hid (XT X w w5):=jz (a9.trans ⟨U.size,λb hb=>U.block b (.inl hb)⟩);clear a1 U Z;go_wp2_with fail
 rw[Exit.noGoto_ret];go_ret;exact⟨rfl,a8,b0⟩
def VRP(w3:Wd)(P:Wv->Wv->Int->Wd->Prop)(v7 v8 v9:Value)(wx:Wd):Prop:=∃ g7 g8 tk au c,v7 = .pointer (some ⟨g7,0,none⟩)/\v8 = .pointer (some ⟨g8,0,none⟩)/\v9 = .int .i64 c/\P tk au c wx/\Blk wx g7 123 tk.toArray/\Blk wx g8 125 au.toArray/\Bw w3 wx
theorem i7{w:Wd}{g x t D:Nat}{cs I:Wa}(h:Blk w g t cs)(k:Blk w x D I)(j:t≠D):g≠x:=λe=>by
 subst e;unfold Blk at h k;rw[h] at k;injection k with k
 injection k with _ k _
 exact j k
theorem bA{w3 W:Wd}{g:Nat}(h:Bw w3 W)(hg:w3.heap.size<=g)(vs:Wv):Bw w3 (W.setCells g 0 vs):=h.trans ((dS g vs 0 (Off.refl g W)).below hg h.size)
theorem Blk.offSet{W:Wd}{g j t:Nat}{cs:Wa}(x:g≠j)(vs:Wv)(h:Blk W j t cs):Blk (W.setCells g 0 vs) j t cs:=(dS g vs 0 (Off.refl g W)).blk h (Ne.symm x)
theorem o9{W:Wd}{g t:Nat}{old:Wa}(new:Wv)(h:Blk W g t old)(j:old.size=new.length):Blk (W.setCells g 0 new) g t new.toArray:=by
 have:=o8 new [] old.toList [] (w:=W) (g:=g) (t:=t) (by rw[jk];exact j) (by simpa using h);simpa using this
theorem pA{w3 W:Wd}{P:Wv->Wv->Int->Wd->Prop}{g7 D:Nat}{x j:Wv}{c:Int}(O:Blk W g7 123 tkZ)(K:Blk W D 125 auZ)(J:g7≠D)(hb:Bw w3 W)(R:P x j c W)(Z:x.length=20)(q2:j.length=5)(U:w3.heap.size<=g7)(V:w3.heap.size<=D)
  (I:∀ W W',P x j c W->P x j c W'):VRP w3 P (.pointer (some ⟨g7,0,none⟩)) (.pointer (some ⟨D,0,none⟩)) (.int .i64 c) ((W.setCells g7 0 x).setCells D 0 j):=
 ⟨g7,D,x,j,c,rfl,rfl,rfl,I _ _ R,Blk.offSet (Ne.symm J) j (o9 x O (by rw[bK,Z])),o9 j (Blk.offSet J x K) (by rw[q2];rfl),bA (bA hb U x) V j⟩
theorem WK(D j:Wv)(c:Int)(W:Wd)(h:uE D j c W):D.length=20/\j.length=5/\(∀ u∈D,u.oneCell'=true)/\(∀ u∈j,u.oneCell'=true):=by
 obtain⟨rfl,rfl,rfl⟩:=h;exact⟨by rw[jk];exact bK,rfl,λu x=>Array.all_eq_true_iff_forall_mem.1 eY u (by simpa using x),λu x=>Array.all_eq_true_iff_forall_mem.1 eZ u (by simpa using x)⟩
theorem CZ{gm:Nat}{B:Option Addr}{cb cl dl ca:Nat}{kd nn:Int}(b:Wl)(A:Option Addr)(d0:Sn w0 1 (.slice A dl ca) b.length (u8s b))(hb:Bys b)(hl:b.length<=1000000)(hq:(dD b).2.2=false)(h:VE w0 w gv g9 k N key skew s X)(hm:Blk w gm 106 (fA key g9 gv))(hX:X gm):
  Wc 43 #[.pointer (some ⟨gm,0,none⟩),.agg #[.int .i64 kd,.int .i64 nn,.slice A dl ca,.slice B cl cb]] w (MP w0 w gv g9 k N key skew X ((1,z32L),aN s)):=by
 have hs:=d0.below h.bel;have g2:=jz d0;have H:=jz h;have HM:=jz hm;have HS:=jz hs;have b0:=jz (And.intro hb (And.intro hl hq));have f7:=jz h.lt;have f6:=jz h.lo;have e0:dl=b.length:=by
  obtain⟨A',c',e,_⟩:=id hs;injection e
 have d2:=jz e0;clear h hm hs d0 hb hl hq e0;go_enter func43,ntmps43
 go_upto_region 1 with (refine al 26 dZ rfl rfl fM ?_)
 obtain⟨gb,b7⟩:=je w.heap.size;obtain⟨w2,a9⟩:=je ((w.alloc (.cells #[.int .i64 kd,.int .i64 nn,.slice A dl ca,.slice B cl cb] 71)).alloc (.cells dZ 26));have c2:Hid (Bw w w2):=jz (by rw[a9];exact aA (aH _ _) (aH _ _));have HO:Hid (Blk w2 gb 71 #[.int .i64 kd,.int .i64 nn,.slice A dl ca,.slice B cl cb]):=jz (by rw[a9,b7];exact(Blk.new _ _ _).alloc _);have HD:Hid (Blk w2 (gb+1) 26 dZ):=jz (by rw[a9,b7];exact Blk.newAt _ _ _ _ (by simp));have d5:Hid (w.heap.size<=gb+1/\gb+1<w2.heap.size):=jz ⟨by omega,by rw[a9,b7];simp⟩;have f3:Hid (w.heap.size<=gb/\gb<w2.heap.size):=jz ⟨by omega,by rw[a9,b7];simp;omega⟩;rw[<- a9];simp only[World.size_alloc,<- b7];clear a9 b7;have d7:=jz (H.out.xw c2);obtain⟨_,c17,_⟩:=dV (HM.keep c2);have o2:=HO.cell 2;simp only[jf,jh,jg] at o2;have HT:=jz (CY b A dl ca ((HS.below c2).below (ji _ _).drew) b0.out.1 b0.out.2.1 b0.out.2.2 d7.drew)
 go_still_tail 6,(by kernel_rfl)
 change wpList _ _ _ _ _ w2.drew;obtain⟨wD,d1⟩:=je w2.drew;rw[<- d1] at HT ⊢;have h4:Hid (XT (XW X w w2) w2 wD):=jz (by rw[d1];exact XT.of_below d7.lt (ji _ _).drew);clear d1 c17 o2;go_wp2_with fail
 refine HT.mono ?_;rintro e w3 ⟨rfl,e8,f0⟩;have c9:=jz e8;have c6:=jz (h4.trans f0);have f1:Hid (Blk w3 (gb+1) 26 dZ):=jz ((c6.block (gb+1) (.inr d5)).trans HD);have g0:Hid (Blk w3 gb 71 #[.int .i64 kd,.int .i64 nn,.slice A dl ca,.slice B cl cb]):=jz ((c6.block gb (.inr f3)).trans HO);have f8:Hid (Blk w3 gm 106 (fA key g9 gv)):=jz ((c6.block gm (.inl hX)).trans (HM.keep c2));clear e8 f0 HT;obtain⟨_,_,e1⟩:=dV f8.out;have o2:=g0.cell 2;simp only[jf,jh,jg] at o2;have g3:=jz (g2.below c9.bel);have c3:=jz WK;have b1:Hid (∀ tk au c (W W':Wd),uE tk au c W->Bw W W'->uE tk au c W'):=jz (λ_ _ _ _ _ h _=>h);have f5:=jz e1;have f9:=jz o2;have c4:Hid (∀ W,Bw w3 W->Wc 71 #[.agg (arr 16 (c8 key)).toArray,.slice A dl ca] W λe W'=>∃ tk au c,e = .returned (.tuple #[.agg tk.toArray,.agg au.toArray,.int .i64 c])/\uE tk au c W'/\Bw W W'):=jz (λW hW=>by
  have h1:Sn W 1 (.slice A b.length ca) b.length (u8s b):=by
   have h2:=g3.below hW
   rw[d2.out] at h2
   exact h2
  rw[d2.out]
  refine(sG key b A ca W h1 b0.out.1 b0.out.2.1 b0.out.2.2).mono ?_
  rintro e W' ⟨rfl,h8⟩
  exact⟨tkZ.toList,auZ.toList,1,rfl,⟨rfl,rfl,rfl⟩,h8⟩)
 clear e1 o2;go_upto_region 2 with fail
 go_cut [7,8,9] from 19 to 29 (λv7 v8 v9 wx=>VRP w3 uE v7 v8 v9 wx)
 case first=>
  -- region 2
  refine kZ (n:=16) (λW=>Bw w3 W) ((ji _ _).drew) (h:=λhH=>?_);refine qM 0 (.pointer (some ⟨gm,0,none⟩)) ?_;refine qT 1 (.pointer (some ⟨gm,0,none⟩)) ?_;refine qT 2 (.pointer (some ⟨gm,0,none⟩)) ?_;refine qL 3 (cs:=arr 16 (c8 key)) (λW hX j u hj=>j9 hX (f5 j u hj)) (aB _ _) ?_;refine qT 4 (.pointer (some ⟨gb,2,none⟩)) ?_;refine qC 5 (v:=.slice A dl ca) (λW hX=>j9 hX f9) ?_;refine jW [6,11,12] (rF 6 (some 26) ((c4 _ hH).mono ?_) (rA 11 (some 7) tkZ eT (aA hH (aH _ _)) ?_ (rA 12 (some 8) auZ fC (aA hH (aH _ _)) ?_ jN)))
  ·rintro e w4 ⟨tk,au,c,rfl,hp,hb⟩;obtain⟨q1,q2,q3,q4⟩:=c3.out _ _ _ _ hp;have R:=aA hH hb;refine⟨_,rfl,R,λ_=>?_⟩;simp only[jq];refine qM 7 (.tuple #[.agg tk.toArray,.agg au.toArray,.int .i64 c]) ?_;refine qT 8 (.agg tk.toArray) ?_;refine qT 9 (.agg au.toArray) ?_;refine qT 10 (.int .i64 c) ?_;refine jW [11,12] (rA 11 (some 7) tkZ eT (aA R (aH _ _)) ?_ (rA 12 (some 8) auZ fC (aA R (aH _ _)) ?_ jN))
   ·simp only[jq];obtain⟨g7,J⟩:=je w4.heap.size;obtain⟨w5,V⟩:=je (w4.alloc (.cells tkZ 123));have hT_5:Blk w5 g7 123 tkZ:=by rw[V,J];exact Blk.new _ _ _
    have a4:Bw w4 w5:=by rw[V];exact aH _ _
    have O:=aA R a4;have D:w3.heap.size<=g7:=by rw[J];exact R.size
    rw[<- V,<- J];have a8:=b1.out _ _ _ _ _ hp a4;clear V J;refine jW [12] (rA 12 (some 8) auZ fC (aA O (aH _ _)) ?_ jN);simp only[jq];obtain⟨g8,K⟩:=je w5.heap.size;obtain⟨w6,Z⟩:=je (w5.alloc (.cells auZ 125));have hA_6:Blk w6 g8 125 auZ:=by rw[Z,K];exact Blk.new _ _ _
    have a2:Bw w5 w6:=by rw[Z];exact aH _ _
    have U:=aA O a2;have I:w3.heap.size<=g8:=by rw[K];exact O.size
    rw[<- Z,<- K];have hT_6:=hT_5.keep a2;have c5:=b1.out _ _ _ _ _ a8 a2;clear Z K;have x:g7≠g8:=i7 hT_6 hA_6 (by decide);have a1:=bA U D tk;refine kR 13 none (n:=20) (cs:=tk) (aW (cs:=tkZ.toList) hT_6 (by rw[jk,bK];omega)) q1 q3 a1 (h:=?_);simp only[jq];have a3:=Blk.offSet x tk hA_6;have a5:=bA a1 I au;refine kR 14 none (n:=5) (cs:=au) (aW (cs:=auZ.toList) a3 (by rw[jk];exact ja _)) q2 q4 a5 (h:=?_);simp only[jq];refine qT 15 (.int .i64 c) ?_;refine kE (h:=?_);have a0:=pA (P:=uE) hT_6 hA_6 x U c5 q1 q2 D I (λ_ _ h=>h);go_wp2_with fail
    go_meet
    exact a0
   ·simp only[jq];obtain⟨g8,K⟩:=je w4.heap.size;obtain⟨w5,V⟩:=je (w4.alloc (.cells auZ 125));have hA_5:Blk w5 g8 125 auZ:=by rw[V,K];exact Blk.new _ _ _
    have a4:Bw w4 w5:=by rw[V];exact aH _ _
    have O:=aA R a4;have I:w3.heap.size<=g8:=by rw[K];exact R.size
    rw[<- V,<- K];have a8:=b1.out _ _ _ _ _ hp a4;clear V K;refine jW [11] (rA 11 (some 7) tkZ eT (aA O (aH _ _)) ?_ jN);simp only[jq];obtain⟨g7,J⟩:=je w5.heap.size;obtain⟨w6,Z⟩:=je (w5.alloc (.cells tkZ 123));have hT_6:Blk w6 g7 123 tkZ:=by rw[Z,J];exact Blk.new _ _ _
    have a2:Bw w5 w6:=by rw[Z];exact aH _ _
    have U:=aA O a2;have D:w3.heap.size<=g7:=by rw[J];exact O.size
    rw[<- Z,<- J];have hA_6:=hA_5.keep a2;have c5:=b1.out _ _ _ _ _ a8 a2;clear Z J;have x:g7≠g8:=i7 hT_6 hA_6 (by decide);have a1:=bA U D tk;refine kR 13 none (n:=20) (cs:=tk) (aW (cs:=tkZ.toList) hT_6 (by rw[jk,bK];omega)) q1 q3 a1 (h:=?_);simp only[jq];have a3:=Blk.offSet x tk hA_6;have a5:=bA a1 I au;refine kR 14 none (n:=5) (cs:=au) (aW (cs:=auZ.toList) a3 (by rw[jk];exact ja _)) q2 q4 a5 (h:=?_);simp only[jq];refine qT 15 (.int .i64 c) ?_;refine kE (h:=?_);have a0:=pA (P:=uE) hT_6 hA_6 x U c5 q1 q2 D I (λ_ _ h=>h);go_wp2_with fail
    go_meet
    exact a0
  ·simp only[jq];obtain⟨g7,J⟩:=je w3.drew.heap.size;obtain⟨w4,a6⟩:=je (w3.drew.alloc (.cells tkZ 123));have hT_4:Blk w4 g7 123 tkZ:=by rw[a6,J];exact Blk.new _ _ _
   have a7:Below w3.drew.heap.size w3.drew w4:=by rw[a6];exact aH _ _
   have R:=aA hH a7;have D:w3.heap.size<=g7:=by rw[J];exact hH.size
   rw[<- a6,<- J];clear a6 J;refine jW [6,12] (rF 6 (some 26) ((c4 _ R).mono ?_) (rA 12 (some 8) auZ fC (aA R (aH _ _)) ?_ jN))
   ·rintro e w5 ⟨tk,au,c,rfl,hp,hb⟩;obtain⟨q1,q2,q3,q4⟩:=c3.out _ _ _ _ hp;have O:=aA R hb;refine⟨_,rfl,O,λ_=>?_⟩;simp only[jq];have hT_5:=hT_4.keep hb;refine qM 7 (.tuple #[.agg tk.toArray,.agg au.toArray,.int .i64 c]) ?_;refine qT 8 (.agg tk.toArray) ?_;refine qT 9 (.agg au.toArray) ?_;refine qT 10 (.int .i64 c) ?_;refine jW [12] (rA 12 (some 8) auZ fC (aA O (aH _ _)) ?_ jN);simp only[jq];obtain⟨g8,K⟩:=je w5.heap.size;obtain⟨w6,Z⟩:=je (w5.alloc (.cells auZ 125));have hA_6:Blk w6 g8 125 auZ:=by rw[Z,K];exact Blk.new _ _ _
    have a2:Bw w5 w6:=by rw[Z];exact aH _ _
    have U:=aA O a2;have I:w3.heap.size<=g8:=by rw[K];exact O.size
    rw[<- Z,<- K];have hT_6:=hT_5.keep a2;have a8:=b1.out _ _ _ _ _ hp a2;clear Z K;have x:g7≠g8:=i7 hT_6 hA_6 (by decide);have a1:=bA U D tk;refine kR 13 none (n:=20) (cs:=tk) (aW (cs:=tkZ.toList) hT_6 (by rw[jk,bK];omega)) q1 q3 a1 (h:=?_);simp only[jq];have a3:=Blk.offSet x tk hA_6;have a5:=bA a1 I au;refine kR 14 none (n:=5) (cs:=au) (aW (cs:=auZ.toList) a3 (by rw[jk];exact ja _)) q2 q4 a5 (h:=?_);simp only[jq];refine qT 15 (.int .i64 c) ?_;refine kE (h:=?_);have a0:=pA (P:=uE) hT_6 hA_6 x U a8 q1 q2 D I (λ_ _ h=>h);go_wp2_with fail
    go_meet
    exact a0
   ·simp only[jq];obtain⟨g8,K⟩:=je w4.heap.size;obtain⟨w5,V⟩:=je (w4.alloc (.cells auZ 125));have hA_5:Blk w5 g8 125 auZ:=by rw[V,K];exact Blk.new _ _ _
    have a4:Bw w4 w5:=by rw[V];exact aH _ _
    have O:=aA R a4;have I:w3.heap.size<=g8:=by rw[K];exact R.size
    rw[<- V,<- K];have hT_5:=hT_4.keep a4;clear V K;refine jW [6] (rF 6 (some 26) ((c4 _ O).mono ?_) jN);rintro e w6 ⟨tk,au,c,rfl,hp,hb⟩;obtain⟨q1,q2,q3,q4⟩:=c3.out _ _ _ _ hp;have U:=aA O hb;refine⟨_,rfl,U,λ_=>?_⟩;simp only[jq];have hT_6:=hT_5.keep hb;have hA_6:=hA_5.keep hb;refine qM 7 (.tuple #[.agg tk.toArray,.agg au.toArray,.int .i64 c]) ?_;refine qT 8 (.agg tk.toArray) ?_;refine qT 9 (.agg au.toArray) ?_;refine qT 10 (.int .i64 c) ?_;have x:g7≠g8:=i7 hT_6 hA_6 (by decide);have a1:=bA U D tk;refine kR 13 none (n:=20) (cs:=tk) (aW (cs:=tkZ.toList) hT_6 (by rw[jk,bK];omega)) q1 q3 a1 (h:=?_);simp only[jq];have a3:=Blk.offSet x tk hA_6;have a5:=bA a1 I au;refine kR 14 none (n:=5) (cs:=au) (aW (cs:=auZ.toList) a3 (by rw[jk];exact ja _)) q2 q4 a5 (h:=?_);simp only[jq];refine qT 15 (.int .i64 c) ?_;refine kE (h:=?_);have a0:=pA (P:=uE) hT_6 hA_6 x U hp q1 q2 D I (λ_ _ h=>h);go_wp2_with fail
    go_meet
    exact a0
  ·simp only[jq];obtain⟨g8,K⟩:=je w3.drew.heap.size;obtain⟨w4,a6⟩:=je (w3.drew.alloc (.cells auZ 125));have hA_4:Blk w4 g8 125 auZ:=by rw[a6,K];exact Blk.new _ _ _
   have a7:Below w3.drew.heap.size w3.drew w4:=by rw[a6];exact aH _ _
   have R:=aA hH a7;have I:w3.heap.size<=g8:=by rw[K];exact hH.size
   rw[<- a6,<- K];clear a6 K;refine jW [6,11] (rF 6 (some 26) ((c4 _ R).mono ?_) (rA 11 (some 7) tkZ eT (aA R (aH _ _)) ?_ jN))
   ·rintro e w5 ⟨tk,au,c,rfl,hp,hb⟩;obtain⟨q1,q2,q3,q4⟩:=c3.out _ _ _ _ hp;have O:=aA R hb;refine⟨_,rfl,O,λ_=>?_⟩;simp only[jq];have hA_5:=hA_4.keep hb;refine qM 7 (.tuple #[.agg tk.toArray,.agg au.toArray,.int .i64 c]) ?_;refine qT 8 (.agg tk.toArray) ?_;refine qT 9 (.agg au.toArray) ?_;refine qT 10 (.int .i64 c) ?_;refine jW [11] (rA 11 (some 7) tkZ eT (aA O (aH _ _)) ?_ jN);simp only[jq];obtain⟨g7,J⟩:=je w5.heap.size;obtain⟨w6,Z⟩:=je (w5.alloc (.cells tkZ 123));have hT_6:Blk w6 g7 123 tkZ:=by rw[Z,J];exact Blk.new _ _ _
    have a2:Bw w5 w6:=by rw[Z];exact aH _ _
    have U:=aA O a2;have D:w3.heap.size<=g7:=by rw[J];exact O.size
    rw[<- Z,<- J];have hA_6:=hA_5.keep a2;have a8:=b1.out _ _ _ _ _ hp a2;clear Z J;have x:g7≠g8:=i7 hT_6 hA_6 (by decide);have a1:=bA U D tk;refine kR 13 none (n:=20) (cs:=tk) (aW (cs:=tkZ.toList) hT_6 (by rw[jk,bK];omega)) q1 q3 a1 (h:=?_);simp only[jq];have a3:=Blk.offSet x tk hA_6;have a5:=bA a1 I au;refine kR 14 none (n:=5) (cs:=au) (aW (cs:=auZ.toList) a3 (by rw[jk];exact ja _)) q2 q4 a5 (h:=?_);simp only[jq];refine qT 15 (.int .i64 c) ?_;refine kE (h:=?_);have a0:=pA (P:=uE) hT_6 hA_6 x U a8 q1 q2 D I (λ_ _ h=>h);go_wp2_with fail
    go_meet
    exact a0
   ·simp only[jq];obtain⟨g7,J⟩:=je w4.heap.size;obtain⟨w5,V⟩:=je (w4.alloc (.cells tkZ 123));have hT_5:Blk w5 g7 123 tkZ:=by rw[V,J];exact Blk.new _ _ _
    have a4:Bw w4 w5:=by rw[V];exact aH _ _
    have O:=aA R a4;have D:w3.heap.size<=g7:=by rw[J];exact R.size
    rw[<- V,<- J];have hA_5:=hA_4.keep a4;clear V J;refine jW [6] (rF 6 (some 26) ((c4 _ O).mono ?_) jN);rintro e w6 ⟨tk,au,c,rfl,hp,hb⟩;obtain⟨q1,q2,q3,q4⟩:=c3.out _ _ _ _ hp;have U:=aA O hb;refine⟨_,rfl,U,λ_=>?_⟩;simp only[jq];have hA_6:=hA_5.keep hb;have hT_6:=hT_5.keep hb;refine qM 7 (.tuple #[.agg tk.toArray,.agg au.toArray,.int .i64 c]) ?_;refine qT 8 (.agg tk.toArray) ?_;refine qT 9 (.agg au.toArray) ?_;refine qT 10 (.int .i64 c) ?_;have x:g7≠g8:=i7 hT_6 hA_6 (by decide);have a1:=bA U D tk;refine kR 13 none (n:=20) (cs:=tk) (aW (cs:=tkZ.toList) hT_6 (by rw[jk,bK];omega)) q1 q3 a1 (h:=?_);simp only[jq];have a3:=Blk.offSet x tk hA_6;have a5:=bA a1 I au;refine kR 14 none (n:=5) (cs:=au) (aW (cs:=auZ.toList) a3 (by rw[jk];exact ja _)) q2 q4 a5 (h:=?_);simp only[jq];refine qT 15 (.int .i64 c) ?_;refine kE (h:=?_);have a0:=pA (P:=uE) hT_6 hA_6 x U hp q1 q2 D I (λ_ _ h=>h);go_wp2_with fail
    go_meet
    exact a0
  -- end of region 2
 case rest=>
  rename Wd=>w4
  obtain⟨g7,g8,tk,au,c,rfl,rfl,rfl,⟨_,_,rfl⟩,h5,h6,a7⟩:=hcut;have h0:=jz (c9.keep a7);have h3:=jz (c6.trans (XT.of_below c9.lt a7));have f2:=jz (f1.keep a7);clear h5 h6 a7;go_wp2_with (first
   | (refine eQ 26 _ rfl rfl rfl iV ?_)
   | (refine aP 26 (.tmp 5) (.tmp 33) rfl rfl (by rfl) (by rfl) f2 dX rfl oK ?_;intro w9 h7 c7 h9 k0))
  have g1:Hid (Off (gb+1) w4 w9):=jz ⟨c7.os,c7.tape,c7.output,c7.size,λg _ hg=>h9 g hg⟩;have hr:=h7.range;exact bodyPost_ret (d9 rfl _ rfl hr underlying26 rfl (by rw[jk];exact dX)) rfl ⟨rfl,nD f7 f6 c2 h0 h3 g1 d5⟩
end
end
section
open Go.RowKit
attribute [local irreducible] wpQuiet wpAnyH
theorem ON(a b:Int)(w:Wd)(ha:aE a)(hb:aE b):
  Wc 272 #[.int .i64 a,.int .i64 b] w λe w'=>e = .returned (.int .i64 (p9 a b))/\w'=w:=by
 have I:Hid (∀ x y:Int,(x=a\/x=b)->(y=a\/y=b)->Wc 314 #[.int .i64 x,.int .i64 y] w λe w'=>e = .returned (.int .i64 (uC x y))/\w=w'):=jz (λx y J hy=>AS x y w (by rcases J with rfl|rfl <;> assumption) (by rcases hy with rfl|rfl <;> assumption));have D:Hid (p9 a b=uC (max a b) (min a b)):=jz rfl;clear ha hb;have j:Hid ((max a b=a\/max a b=b)/\(min a b=a\/min a b=b)):=jz ⟨by omega,by omega⟩;go_enter func272,ntmps272
 go_wp2_with fail
 refine(I _ _ j.out.1 j.out.2).mono ?_;rintro e K ⟨rfl,rfl⟩;go_wp2_with fail
 go_ret;exact⟨by rw[D.out];rfl,rfl⟩
theorem JN(a b s:Int)(w:Wd)(ha:aE a)(hb:aE b)(hs:aE s):
  Wc 266 #[.int .i64 a,.int .i64 b,.int .i64 s] w (Rt w (.tuple #[.int .i64 (uC a s),.int .i64 (iR b s)])):=by
 have D:=jz (AS a s w ha hs);have x:Hid (∀ W v,Sl W v [.int .i64 s]->Wc 151 #[.int .i64 b,v] W (Rt W (.int .i64 (iR b s)))):=jz (λW v h=>B8 b s v W hb hs h);clear ha hb hs;go_enter func266,ntmps266
 go_wp2_with fail
 refine D.mono ?_;rintro e J ⟨rfl,rfl⟩;clear D;go_wp2_with fail
 refine(x _ _ (Sn.new w #[.int .i64 s] 2 1 1 rfl).sl).mono ?_;rintro e w2 ⟨rfl,j⟩;have I:=jz (aA (aH w _) j);clear j x;go_wp2_with fail
 first|go_ret2|skip
 exact⟨rfl,I⟩
def F2(a b:Nm):Bool:=decide (a.realm=b.realm) && decide (a.parts=b.parts)
def qB(t:TkD)(a:AuD)(now skew:Int):Int:=
 if now<uC t.start skew then 3
 else if iR t.fin skew<now then 4
 else if F2 t.client a.client=false then 5
 else if skew<p9 a.time now then 6
 else 0
theorem JO(a:AuD)(v:Value)(skew:Int)(w:Wd)(hs:aE skew)(ht:a.time<=1099511627776)(hv:v.oneCell'=true):
  Wc 155 #[.agg (auC a v).toArray,.int .i64 skew] w (Rt w (.int .i64 (iR a.time skew))):=by
 have I:Hid (∀ W v,Sl W v [.int .i64 skew]->Wc 151 #[.int .i64 (a.time:Nat),v] W (Rt W (.int .i64 (iR a.time skew)))):=jz (λW v h=>B8 a.time skew v W (by unfold aE;omega) hs h);unfold auC;obtain⟨S,hS⟩:=je (cV a.client.realm);obtain⟨T,R⟩:=je a.time;obtain⟨M,V⟩:=je a.micro;obtain⟨Q,Z⟩:=je a.seq;rw[<- R] at I;rw[<- hS,<- R,<- V,<- Z];clear hS R V Z hs ht;obtain⟨g,hg⟩:=je w.heap.size;obtain⟨D,j⟩:=je (w.alloc (.cells #[.string S,v,.int .i64 (T:Nat),.int .u32 (M:Nat),.int .u32 (Q:Nat)] 125));have J:Hid (Bw w D):=jz (by rw[j];exact aH _ _);have O:Hid (Blk D g 125 #[.string S,v,.int .i64 (T:Nat),.int .u32 (M:Nat),.int .u32 (Q:Nat)]):=jz (by rw[j,hg];exact Blk.new _ _ _);have U:=O.cell 2;simp only[jf,jh,jg] at U;go_enter func155,ntmps155
 go_upto_region 1 with fail
 rw[<- j,<- hg];clear j hg;go_wp2_with fail
 refine(I _ _ (Sn.new D #[.int .i64 skew] 2 1 1 rfl).sl).mono ?_;rintro e w2 ⟨rfl,x⟩;have K:=jz (aA J (aA (aH D _) x));clear x I U;go_wp2_with fail
 go_ret;exact⟨rfl,K⟩
theorem F4{a b:Bs}(h:cV a=cV b):a=b:=by
 unfold cV at h;injection h with h
 injection h
theorem AZ(l:List Bs)(j:Nat)(h:j<l.length):(fF l)[j]? = some (.string ((l.map cV).getD j ByteArray.empty)):=by
 unfold fF;simp[h]
theorem C0{a b:List Bs}(h:a.map cV=b.map cV):a=b:=by
 induction a generalizing b with
 | nil=>cases b with
  | nil=>rfl
  | cons y b=>cases h
 | cons x a ih=>cases b with
  | nil=>cases h
  | cons y b=>
   rw[List.map_cons,List.map_cons,List.cons.injEq] at h;rw[F4 h.1,ih h.2]
theorem SU(l1 l2:List Bs)(I J:Option Addr)(c1 x:Nat)(w:Wd)(h1:Sn w 1 (.slice I l1.length c1) l1.length (fF l1))(Z:Sn w 1 (.slice J l2.length x) l2.length (fF l2))(a0:l1.length<=100)(a1:l2.length<=100):
  Wc 315 #[.slice I l1.length c1,.slice J l2.length x] w (Rt w (.bool (decide (l1=l2)))):=by
 rcases Nat.eq_zero_or_pos l1.length with V|hp
 ·have e1:l1=[]:=List.eq_nil_of_length_eq_zero V;subst e1;refine(Tryz.slices_Equal_string_empty I J c1 l2.length x w (by omega)).mono ?_;rintro e w' ⟨rfl,rfl⟩;refine⟨?_,ji _ _⟩;have e:decide (l2.length=0)=decide (([]:List Bs)=l2):=by
   cases l2 with
   | nil=>rfl
   | cons y l=>simp
  rw[e]
 by_cases hn:l1.length=l2.length
 ·obtain⟨A,c,e,_,_,hx⟩:=h1;injection e with e1 _ _
  subst e1;obtain⟨U,o1,rfl,K⟩:=hx hp;obtain⟨A',c',e',_,_,R⟩:=Z;injection e' with e1' _ _
  subst e1';obtain⟨b2,o2,rfl,O⟩:=R (by omega);refine(Tryz.slices_Equal_string U o1 l1.length c1 b2 o2 l2.length x (l1.map cV) (l2.map cV) w (by rw[List.length_map];exact ja _) (by rw[List.length_map];exact ja _) (by omega) (by omega) (λj D=>K j _ (AZ l1 j (by rw[List.length_map] at D;exact D))) (λj D=>O j _ (AZ l2 j (by rw[List.length_map] at D;exact D)))).mono ?_;rintro e w' ⟨rfl,q,rfl⟩;refine⟨?_,cA (ji _ _) q⟩;rw[List.take_of_length_le (by rw[List.length_map];exact ja _),List.take_of_length_le (by rw[List.length_map];exact ja _)];have e:decide (l1.map cV=l2.map cV)=decide (l1=l2):=decide_eq_decide.2 ⟨C0,λh=>by rw[h]⟩;rw[e]
 ·refine(Tryz.slices_Equal_string_lens I J l1.length c1 l2.length x w hn).mono ?_;rintro e w' ⟨rfl,rfl⟩;refine⟨?_,ji _ _⟩;rw[decide_eq_false (λh=>hn (by rw[h]))]
theorem OO(j x:Nm)(A1 A2:Option Addr)(c1 c2:Nat)(w:Wd)(h1:Sn w 1 (.slice A1 j.parts.length c1) j.parts.length (fF j.parts))(h2:Sn w 1 (.slice A2 x.parts.length c2) x.parts.length (fF x.parts))(R:j.parts.length<=100)(U:x.parts.length<=100):
  Wc 270 #[.agg #[.string (cV j.realm),.slice A1 j.parts.length c1],.agg #[.string (cV x.realm),.slice A2 x.parts.length c2]] w (Rt w (.bool (F2 j x))):=by
 have HE:=jz (fun(W:Wd) (hb:Bw w W)=>SU j.parts x.parts A1 A2 c1 c2 W (h1.below hb) (h2.below hb) R U);have I:Hid (F2 j x=(decide (j.realm=x.realm) && decide (j.parts=x.parts))):=jz rfl;have D:Hid (((cV j.realm).toList == (cV x.realm).toList)=decide (j.realm=x.realm)):=jz (by
  rw[TP]
  exact decide_eq_decide.2 ⟨F4,λh=>by rw[h]⟩)
 obtain⟨S1,J⟩:=je (cV j.realm);obtain⟨S2,K⟩:=je (cV x.realm);obtain⟨m1,V⟩:=je j.parts.length;obtain⟨m2,Z⟩:=je x.parts.length;rw[<- J,<- K] at D ⊢;rw[<- V,<- Z] at HE ⊢;clear J K V Z h1 h2 R U;obtain⟨q,hq⟩:=je (F2 j x);rw[<- hq] at I ⊢;clear hq;cases hr:decide (j.realm=x.realm) with
 | true=>
  have a0:(S1.toList == S2.toList)=true:=by rw[D.out,hr]
  rw[hr] at I;clear hr;go_enter func270,ntmps270
  go_wp2_with fail
  refine(HE _ (aA (aH _ _) (aH _ _))).mono ?_;rintro e w3 ⟨rfl,O⟩;have a1:=jz (aA (aA (aH _ _) (aH _ _)) O);clear O HE a0;go_wp2_with fail
  go_ret;exact⟨by rw[I.out];rfl,a1⟩
 | false=>
  have a0:(S1.toList == S2.toList)=false:=by rw[D.out,hr]
  rw[hr] at I;clear hr;go_enter func270,ntmps270
  go_wp2_with fail
  go_ret;exact⟨by rw[I.out];rfl,aA (aH _ _) (aH _ _)⟩
structure ChX(g4 g5 g6 g7 g9 g10:Nat)(t:TkD)(a:AuD)(v1 v2:Value)(now skew:Int)(W:Wd):Prop where
 bt:Blk W g4 123 (tkC t v1).toArray
 ba:Blk W g5 125 (auC a v2).toArray
 n:Blk W g6 2 #[.int .i64 now]
 s:Blk W g7 2 #[.int .i64 skew]
 f:Blk W g9 2 #[.int .i64 (uC t.start skew)]
 u:Blk W g10 2 #[.int .i64 (iR t.fin skew)]
 p:Sn W 1 v1 t.client.parts.length (fF t.client.parts)
 q:Sn W 1 v2 a.client.parts.length (fF a.client.parts)
theorem ChX.keep{g4 g5 g6 g7 g9 g10:Nat}{t:TkD}{a:AuD}{v1 v2:Value}{now skew:Int}{W W':Wd}(h:ChX g4 g5 g6 g7 g9 g10 t a v1 v2 now skew W)(hb:Bw W W'):ChX g4 g5 g6 g7 g9 g10 t a v1 v2 now skew W':=
 ⟨h.bt.keep hb,h.ba.keep hb,h.n.keep hb,h.s.keep hb,h.f.keep hb,h.u.keep hb,h.p.below hb,h.q.below hb⟩
section
variable {g4 g5 g6 g7 g9 g10 : Nat} {t : TkD} {a : AuD} {v1 v2 : Value} {now skew : Int} {w : Wd}
theorem SV(h:ChX g4 g5 g6 g7 g9 g10 t a v1 v2 now skew w):Wc 267 #[.pointer (some ⟨g6,0,none⟩),.pointer (some ⟨g9,0,none⟩)] w (Rt w (.bool (decide (now<uC t.start skew)))):=by
 have c1:=h.n.cell 0;have j:=h.f.cell 0;simp only[jf,jg] at c1 j;clear h;go_enter func267,ntmps267
 go_wp2_with fail
 go_ret;exact⟨rfl,ji _ _⟩
theorem SW(h:ChX g4 g5 g6 g7 g9 g10 t a v1 v2 now skew w):Wc 268 #[.pointer (some ⟨g6,0,none⟩),.pointer (some ⟨g10,0,none⟩)] w (Rt w (.bool (decide (iR t.fin skew<now)))):=by
 have c1:=h.n.cell 0;have j:=h.u.cell 0;simp only[jf,jg] at c1 j;clear h;go_enter func268,ntmps268
 go_wp2_with fail
 go_ret;exact⟨rfl,ji _ _⟩
theorem WM{W:Wd}{g:Nat}{t:TkD}{v:Value}(h:Blk W g 123 (tkC t v).toArray):W.rangeAt g 0 [.string (cV t.client.realm),v]:=λj u x=>by
 have I:j<2:=(List.getElem?_eq_some_iff.1 x).1;have h:=h.cell j;rw[Nat.zero_add,h];have D:j=0\/j=1:=by omega
 rcases D with rfl|rfl <;> exact x
theorem WN{W:Wd}{g:Nat}{a:AuD}{v:Value}(h:Blk W g 125 (auC a v).toArray):W.rangeAt g 0 [.string (cV a.client.realm),v]:=λj u x=>by
 have I:j<2:=(List.getElem?_eq_some_iff.1 x).1;have h:=h.cell j;rw[Nat.zero_add,h];have D:j=0\/j=1:=by omega
 rcases D with rfl|rfl <;> exact x
theorem SY(h:ChX g4 g5 g6 g7 g9 g10 t a v1 v2 now skew w)(ht:TkOk t)(ha:AuOk a):Wc 269 #[.pointer (some ⟨g4,0,none⟩),.pointer (some ⟨g5,0,none⟩)] w (Rt w (.bool (!F2 t.client a.client))):=by
 have K:=jz (WM h.bt);have O:=jz (WN h.ba);have Z:Hid (∀(x y:Value),(prog.info? 121).map (·.size)=some [x,y].length):=jz (λ_ _=>n9);obtain⟨A1,c1,rfl,_⟩:=id h.p;obtain⟨A2,c2,rfl,_⟩:=id h.q;have V:=jz (OO t.client a.client A1 A2 c1 c2 w h.p h.q (by have:=ht.nm.few;omega) (by have:=ha.nm.few;omega));obtain⟨S1,j⟩:=je (cV t.client.realm);obtain⟨S2,D⟩:=je (cV a.client.realm);obtain⟨m1,I⟩:=je t.client.parts.length;obtain⟨m2,J⟩:=je a.client.parts.length;obtain⟨b,hb⟩:=je (F2 t.client a.client);rw[<- hb] at V ⊢;rw[<- j,<- I,<- D,<- J] at V;rw[<- j,<- I] at K;rw[<- D,<- J] at O;clear h ht ha j D I J hb;go_enter func269,ntmps269
 go_wp2_with (first
  | (refine ld 121 (.tmp 3) rfl rfl (by rfl) K underlying121 rfl (Z _ _) ?_)
  | (refine ld 121 (.tmp 5) rfl rfl (by rfl) O underlying121 rfl (Z _ _) ?_))
 refine V.mono ?_;rintro e w3 ⟨rfl,R⟩;have U:=jz R;clear R;go_wp2_with fail
 go_ret;exact⟨rfl,U⟩
theorem SZ(h:ChX g4 g5 g6 g7 g9 g10 t a v1 v2 now skew w)(O:aE now)(ha:AuOk a):Wc 271 #[.pointer (some ⟨g5,0,none⟩),.pointer (some ⟨g6,0,none⟩),.pointer (some ⟨g7,0,none⟩)] w (Rt w (.bool (decide (skew<p9 a.time now)))):=by
 have x:Hid (∀ W,Bw w W->(W.cell? ⟨g5,2,none⟩=some (.int .i64 (a.time:Nat))/\W.cell? ⟨g6,0,none⟩=some (.int .i64 now))/\W.cell? ⟨g7,0,none⟩=some (.int .i64 skew)):=jz (λW j=>by
  have h1:=(h.ba.keep j).cell 2
  have U:=(h.n.keep j).cell 0
  have V:=(h.s.keep j).cell 0
  exact⟨⟨h1,U⟩,V⟩)
 have D:=jz (λW=>ON (a.time:Nat) now W (by have:=ha.time;unfold aE;omega) O);obtain⟨T,K⟩:∃ T:Int,T=(a.time:Nat):=⟨_,rfl⟩;rw[<- K] at x D ⊢;obtain⟨r,R⟩:=je (p9 T now);rw[<- R] at D ⊢;clear h O ha K R;go_enter func271,ntmps271
 go_upto_region 1 with fail
 refine kZ (n:=7) (λW=>Bw w W) ((ji _ _).drew) (h:=λJ=>?_);refine qT 0 (.pointer (some ⟨g5,2,none⟩)) ?_;refine qC 1 (v:=.int .i64 T) (λW j=>(x W j).1.1) ?_;refine qC 2 (v:=.int .i64 now) (λW j=>(x W j).1.2) ?_;refine qC 4 (v:=.int .i64 skew) (λW j=>(x W j).2) ?_;refine kF 3 (some 7) ((D _).mono ?_);rintro e w3 ⟨rfl,rfl⟩;refine⟨_,rfl,J,λI=>?_⟩;simp only[jq];refine qT 5 (.bool (decide (skew<r))) ?_;refine qT 6 (.bool (decide (skew<r))) ?_;refine kE (h:=?_);clear I;go_wp2_with fail
 go_ret;exact⟨rfl,J⟩
def chkC(g4 g5 g6 g7 g9 g10:Nat):Wa:=#[.int .i64 3,.func (.func 267) #[] #[.pointer (some ⟨g6,0,none⟩),.pointer (some ⟨g9,0,none⟩)],.int .i64 4,.func (.func 268) #[] #[.pointer (some ⟨g6,0,none⟩),.pointer (some ⟨g10,0,none⟩)],.int .i64 5,.func (.func 269) #[] #[.pointer (some ⟨g4,0,none⟩),.pointer (some ⟨g5,0,none⟩)],.int .i64 6,.func (.func 271) #[] #[.pointer (some ⟨g5,0,none⟩),.pointer (some ⟨g6,0,none⟩),.pointer (some ⟨g7,0,none⟩)]]
theorem JP(ht:TkOk t)(ha:AuOk a)(hn:aE now)(hs:aE skew)(h1:Sn w 1 v1 t.client.parts.length (fF t.client.parts))(h2:Sn w 1 v2 a.client.parts.length (fF a.client.parts)):
  Wc 208 #[.agg (tkC t v1).toArray,.agg (auC a v2).toArray,.int .i64 now,.int .i64 skew] w λe w'=>∃ gs g4 g5 g6 g7 g9 g10,e = .returned (.slice (some ⟨gs,0,none⟩) 4 4)/\Blk w' gs 340 (chkC g4 g5 g6 g7 g9 g10)/\ChX g4 g5 g6 g7 g9 g10 t a v1 v2 now skew w'/\Bw w w':=by
 have b7:∀(fn:Fn) (first cap:Wa) (w:Wd),(Instr.makeFunc fn first cap).run prog w = .ok (.func fn first cap) w:=λ_ _ _ _=>rfl
 have HW:=jz (λW=>JN (t.start:Nat) (t.fin:Nat) skew W (by have:=ht.se;have:=ht.mx;unfold aE;omega) (by have:=ht.mx;unfold aE;omega) hs);obtain⟨O,j⟩:=je ((((w.alloc (.cells (tkC t v1).toArray 123)).alloc (.cells (auC a v2).toArray 125)).alloc (.cells #[.int .i64 now] 2)).alloc (.cells #[.int .i64 skew] 2));obtain⟨g,hg⟩:=je w.heap.size;have b0:Hid (Bw w O):=jz (by rw[j];exact aA (aA (aH _ _) (aH _ _)) (aA (aH _ _) (aH _ _)));have J:Hid (Blk O g 123 (tkC t v1).toArray):=jz (by rw[j,hg];exact(((Blk.new _ _ _).alloc _).alloc _).alloc _);have a0:Hid (Blk O (g+1) 125 (auC a v2).toArray):=jz (by rw[j,hg];exact((Blk.newAt _ _ _ _ (by simp)).alloc _).alloc _);have a4:Hid (Blk O (g+1+1) 2 #[.int .i64 now]):=jz (by rw[j,hg];exact(Blk.newAt _ _ _ _ (by simp)).alloc _);have U:Hid (Blk O (g+1+1+1) 2 #[.int .i64 skew]):=jz (by rw[j,hg];exact Blk.newAt _ _ _ _ (by simp));have a5:=jz (And.intro h1 h2);have c2:O.cell? ⟨g,2,none⟩=some (.int .i64 (t.start:Nat)):=J.cell 2;have c3:O.cell? ⟨g,3,none⟩=some (.int .i64 (t.fin:Nat)):=J.cell 3;have s0:=U.cell 0;simp only[jf,jg] at s0;have a3:Hid (∃ x y,x=uC t.start skew/\y=iR t.fin skew):=jz ⟨_,_,rfl,rfl⟩;obtain⟨x,y,hx,hy⟩:=a3.out;have a7:=jz (And.intro hx hy);rw[<- hx,<- hy] at HW;obtain⟨T1,a8⟩:∃ T:Int,T=(t.start:Nat):=⟨_,rfl⟩;obtain⟨T2,a9⟩:∃ T:Int,T=(t.fin:Nat):=⟨_,rfl⟩;rw[<- a8] at c2 HW;rw[<- a9] at c3 HW;obtain⟨C,hC⟩:=je ((tkC t v1).toArray);obtain⟨D,hD⟩:=je ((auC a v2).toArray);have a1:=jz (And.intro hC hD);rw[<- hC] at j ⊢;rw[<- hD] at j ⊢;clear ht ha hn hs h1 h2 hx hy a3 a8 a9 hC hD;go_enter func208,ntmps208
 go_upto_region 1 with fail
 rw[<- j];simp only[<- hg];clear j hg;go_wp2_with fail
 refine(HW O).mono ?_;rintro e w2 ⟨rfl,V⟩;clear c2 c3 s0 HW;go_upto_region 2 with fail
 obtain⟨g9,K⟩:=je w2.heap.size;obtain⟨w3,I⟩:=je ((w2.alloc (.cells #[.int .i64 x] 2)).alloc (.cells #[.int .i64 y] 2));have Z:Bw w2 w3:=by rw[I];exact aA (aH _ _) (aH _ _)
 have a2:Hid (Blk w3 g9 2 #[.int .i64 x]):=jz (by rw[I,K];exact(Blk.new _ _ _).alloc _);have a6:Hid (Blk w3 (g9+1) 2 #[.int .i64 y]):=jz (by rw[I,K];exact Blk.newAt _ _ _ _ (by simp));have R:=jz (aA b0 (aA V Z));have b1:Hid (ChX g (g+1) (g+1+1) (g+1+1+1) g9 (g9+1) t a v1 v2 now skew w3):=jz (by
  have hb:=aA V Z
  refine⟨?_,?_,a4.keep hb,U.keep hb,?_,?_,a5.out.1.below R,a5.out.2.below R⟩
  ·rw[<- a1.out.1]
   exact(by rw[a1.out.1];exact J.keep hb)
  ·exact a0.keep hb
  ·rw[<- a7.out.1];exact a2.out
  ·rw[<- a7.out.2];exact a6)
 rw[<- I];simp only[<- K];clear I K V Z a2 a6 J a0 a4 U;go_wp2_with fail
 go_ret;refine⟨w3.heap.size,_,_,_,_,_,_,rfl,?_,b1.keep (aH _ _),aA R (aH _ _)⟩;exact Blk.new _ _ _
end
end
section
open Go.RowKit
attribute [local irreducible] wpQuiet wpAnyH
def OP:Wa:=#[.int .i64 0,.nilFunc]
theorem uT:∀ w,(zeroValue 340).run prog w = .ok (.agg OP) w:=λw=>by unfold OP;kernel_rfl
theorem S0:(prog.info? 340).map (·.size)=some 2:=by kernel_rfl
section
variable {t : TkD} {a : AuD} {v1 v2 : Value} {now skew : Int} {w : Wd}
theorem JQ(ht:TkOk t)(ha:AuOk a)(hn:aE now)(hs:aE skew)(h1:Sn w 1 v1 t.client.parts.length (fF t.client.parts))(h2:Sn w 1 v2 a.client.parts.length (fF a.client.parts))(c9:v1.oneCell'=true)(d0:v2.oneCell'=true):
  Wc 153 #[.agg (tkC t v1).toArray,.agg (auC a v2).toArray,.int .i64 now,.int .i64 skew] w (Rt w (.int .i64 (qB t a now skew))):=by
 have V:Hid (qB t a now skew=if now<uC t.start skew then 3 else if iR t.fin skew<now then 4 else if F2 t.client a.client=false then 5 else if skew<p9 a.time now then 6 else 0):=jz rfl;have HC:=jz (fun(W:Wd) (hb:Bw w W)=>JP (w:=W) ht ha hn hs (h1.below hb) (h2.below hb));have a5:=jz (And.intro ht (And.intro ha hn));obtain⟨Z,hZ⟩:=je (qB t a now skew);rw[<- hZ] at V ⊢;obtain⟨w1,a0⟩:=je ((w.alloc (.cells (tkC t v1).toArray 123)).alloc (.cells (auC a v2).toArray 125));obtain⟨g,hg⟩:=je w.heap.size;have a6:Hid (Bw w w1):=jz (by rw[a0];exact aA (aH _ _) (aH _ _));have a2:Hid (w1.rangeAt g 0 (tkC t v1)):=jz (by rw[a0,hg];have h:=((Blk.new w 123 (tkC t v1).toArray).alloc (.cells (auC a v2).toArray 125)).range;rwa [jt] at h);have a3:Hid (w1.rangeAt (g+1) 0 (auC a v2)):=jz (by rw[a0,hg];have h:=(Blk.newAt (w.alloc (.cells (tkC t v1).toArray 123)) 125 (auC a v2).toArray (w.heap.size+1) (by simp)).range;rwa [jt] at h);have HI:Hid ((prog.info? 123).map (·.size)=some (tkC t v1).length/\(prog.info? 125).map (·.size)=some (auC a v2).length):=jz ⟨(rK c9).2.2.2,(yC d0).2.2.2⟩;obtain⟨C,hC⟩:=je (tkC t v1);obtain⟨D,hD⟩:=je (auC a v2);rw[<- hC] at a0 a2 HI HC ⊢;rw[<- hD] at a0 a3 HI HC ⊢;clear ht ha hn hs h1 h2 c9 d0 hZ hC hD;go_enter func153,ntmps153
 go_upto_region 1 with fail
 rw[<- a0];simp only[<- hg];clear a0 hg;go_wp2_with (first
  | (refine ld 123 (.tmp 4) rfl rfl (by rfl) a2 underlying123 rfl HI.out.1 ?_)
  | (refine ld 125 (.tmp 5) rfl rfl (by rfl) a3 underlying125 rfl HI.out.2 ?_))
 refine(HC w1 a6).mono ?_;rintro e w2 ⟨gs,g4,g5,g6,g7,g9,g10,rfl,c7,hx,c6⟩;have b1:=jz c7;have c5:=jz hx;have c2:=jz (aA a6 c6);have a4:Hid (∀ x y:Value,(prog.info? 340).map (·.size)=some [x,y].length):=jz (λ_ _=>S0);clear c7 hx c6 HC HI a2 a3 a6;go_wp2_with fail
 refine wp_loop_rounds 5 ?_;rw[rounds_succ];have a2:Hid (w2.rangeAt gs 0 [.int .i64 3,.func (.func 267) #[] #[.pointer (some ⟨g6,0,none⟩),.pointer (some ⟨g9,0,none⟩)]]):=jz (λj u hj=>by
  have b7:j<2:=(List.getElem?_eq_some_iff.1 hj).1
  have h:=b1.cell (0+j)
  rw[h]
  have hc:j=0\/j=1:=by omega
  rcases hc with rfl|rfl <;> exact hj)
 go_upto_region 3 with fail
 go_upto_region 4 with (first
  | (refine ld 340 (.tmp 19) rfl rfl (by rfl) a2 underlying340 rfl (a4 _ _) ?_)
  | (refine al 340 OP rfl rfl uT ?_)
  | (refine bZ 340 (.tmp 10) (.tmp 20) rfl rfl (by rfl) (by rfl) (cells:=#[.int .i64 3,.func (.func 267) #[] #[.pointer (some ⟨g6,0,none⟩),.pointer (some ⟨g9,0,none⟩)]]) S0 rfl (by rw[List.all_toArray];rfl) ?_;intro f5 O J a1))
 try simp only[jq]
 obtain⟨f0,R⟩:=je w2.heap.size;rw[<- R] at O;have HX1a:=jz (c5.keep J);have HS1a:=jz (b1.keep J);have HG1a:Hid (Blk f5 f0 340 #[.int .i64 3,.func (.func 267) #[] #[.pointer (some ⟨g6,0,none⟩),.pointer (some ⟨g9,0,none⟩)]]):=jz O;have HB1a:=jz (aA c2 J);have a7:=jz (SV HX1a);obtain⟨b,hb⟩:=je ((decide (now<uC t.start skew)));rw[<- hb] at a7;simp only[<- R];have K:=jz hb;clear O a1 R J hb c5 b1 c2 a2;have U:=HG1a.cell 1;simp only[jf,jh,jg] at U;go_wp2_with fail
 refine a7.mono ?_;clear U;rintro e d1 ⟨rfl,I⟩;have HX1b:=jz (HX1a.keep I);have HS1b:=jz (HS1a.keep I);have HG1b:=jz (HG1a.keep I);have HB1b:=jz (aA HB1a I);clear I a7 HX1a HS1a HG1a HB1a;have d7:=V;cases b
 case true=>
  have hb:=K.out;have HZ:Hid (Z=3):=jz (by rw[V.out,jP (of_decide_eq_true hb.symm)]);have c0:=HG1b.cell 0;simp only[jf,jg] at c0;clear hb;go_wp2_with fail
  go_ret;exact⟨by rw[HZ.out];rfl,HB1b⟩
 have hb:=K.out;replace V:=jz (V.trans (jQ (of_decide_eq_false hb.symm)));clear hb K HG1b d7;go_wp2_with fail
 rw[rounds_succ];have a3:Hid (d1.rangeAt gs 2 [.int .i64 4,.func (.func 268) #[] #[.pointer (some ⟨g6,0,none⟩),.pointer (some ⟨g10,0,none⟩)]]):=jz (λj u hj=>by
  have b7:j<2:=(List.getElem?_eq_some_iff.1 hj).1
  have h:=HS1b.cell (2+j)
  rw[h]
  have hc:j=0\/j=1:=by omega
  rcases hc with rfl|rfl <;> exact hj)
 go_upto_region 3 with fail
 go_upto_region 4 with (first
  | (refine ld 340 (.tmp 19) rfl rfl (by rfl) a3 underlying340 rfl (a4 _ _) ?_)
  | (refine al 340 OP rfl rfl uT ?_)
  | (refine bZ 340 (.tmp 10) (.tmp 20) rfl rfl (by rfl) (by rfl) (cells:=#[.int .i64 4,.func (.func 268) #[] #[.pointer (some ⟨g6,0,none⟩),.pointer (some ⟨g10,0,none⟩)]]) S0 rfl (by rw[List.all_toArray];rfl) ?_;intro f6 O J a1))
 try simp only[jq]
 obtain⟨f1,R⟩:=je d1.heap.size;rw[<- R] at O;have HX2a:=jz (HX1b.keep J);have HS2a:=jz (HS1b.keep J);have HG2a:Hid (Blk f6 f1 340 #[.int .i64 4,.func (.func 268) #[] #[.pointer (some ⟨g6,0,none⟩),.pointer (some ⟨g10,0,none⟩)]]):=jz O;have HB2a:=jz (aA HB1b J);have a8:=jz (SW HX2a);obtain⟨b,hb⟩:=je ((decide (iR t.fin skew<now)));rw[<- hb] at a8;simp only[<- R];have K:=jz hb;clear O a1 R J hb HX1b HS1b HB1b a3;have U:=HG2a.cell 1;simp only[jf,jh,jg] at U;go_wp2_with fail
 refine a8.mono ?_;clear U;rintro e d2 ⟨rfl,I⟩;have HX2b:=jz (HX2a.keep I);have HS2b:=jz (HS2a.keep I);have HG2b:=jz (HG2a.keep I);have HB2b:=jz (aA HB2a I);clear I a8 HX2a HS2a HG2a HB2a;have e0:=V;cases b
 case true=>
  have hb:=K.out;have HZ:Hid (Z=4):=jz (by rw[V.out,jP (of_decide_eq_true hb.symm)]);have c0:=HG2b.cell 0;simp only[jf,jg] at c0;clear hb;go_wp2_with fail
  go_ret;exact⟨by rw[HZ.out];rfl,HB2b⟩
 have hb:=K.out;replace V:=jz (V.trans (jQ (of_decide_eq_false hb.symm)));clear hb K HG2b e0;go_wp2_with fail
 rw[rounds_succ];have c3:Hid (d2.rangeAt gs 4 [.int .i64 5,.func (.func 269) #[] #[.pointer (some ⟨g4,0,none⟩),.pointer (some ⟨g5,0,none⟩)]]):=jz (λj u hj=>by
  have b7:j<2:=(List.getElem?_eq_some_iff.1 hj).1
  have h:=HS2b.cell (4+j)
  rw[h]
  have hc:j=0\/j=1:=by omega
  rcases hc with rfl|rfl <;> exact hj)
 go_upto_region 3 with fail
 go_upto_region 4 with (first
  | (refine ld 340 (.tmp 19) rfl rfl (by rfl) c3 underlying340 rfl (a4 _ _) ?_)
  | (refine al 340 OP rfl rfl uT ?_)
  | (refine bZ 340 (.tmp 10) (.tmp 20) rfl rfl (by rfl) (by rfl) (cells:=#[.int .i64 5,.func (.func 269) #[] #[.pointer (some ⟨g4,0,none⟩),.pointer (some ⟨g5,0,none⟩)]]) S0 rfl (by rw[List.all_toArray];rfl) ?_;intro f7 O J a1))
 try simp only[jq]
 obtain⟨f2,R⟩:=je d2.heap.size;rw[<- R] at O;have HX3a:=jz (HX2b.keep J);have HS3a:=jz (HS2b.keep J);have HG3a:Hid (Blk f7 f2 340 #[.int .i64 5,.func (.func 269) #[] #[.pointer (some ⟨g4,0,none⟩),.pointer (some ⟨g5,0,none⟩)]]):=jz O;have HB3a:=jz (aA HB2b J);have a9:=jz (SY HX3a a5.out.1 a5.out.2.1);obtain⟨b,hb⟩:=je ((!F2 t.client a.client));rw[<- hb] at a9;simp only[<- R];have K:=jz hb;clear O a1 R J hb HX2b HS2b HB2b c3;have U:=HG3a.cell 1;simp only[jf,jh,jg] at U;go_wp2_with fail
 refine a9.mono ?_;clear U;rintro e d5 ⟨rfl,I⟩;have HX3b:=jz (HX3a.keep I);have HS3b:=jz (HS3a.keep I);have HG3b:=jz (HG3a.keep I);have HB3b:=jz (aA HB3a I);clear I a9 HX3a HS3a HG3a HB3a;have e1:=V;cases b
 case true=>
  have hb:=K.out;have HZ:Hid (Z=5):=jz (by rw[V.out,jP (by simpa using hb.symm)]);have c0:=HG3b.cell 0;simp only[jf,jg] at c0;clear hb;go_wp2_with fail
  go_ret;exact⟨by rw[HZ.out];rfl,HB3b⟩
 have hb:=K.out;replace V:=jz (V.trans (jQ (by simpa using hb.symm)));clear hb K HG3b e1;go_wp2_with fail
 rw[rounds_succ];have c4:Hid (d5.rangeAt gs 6 [.int .i64 6,.func (.func 271) #[] #[.pointer (some ⟨g5,0,none⟩),.pointer (some ⟨g6,0,none⟩),.pointer (some ⟨g7,0,none⟩)]]):=jz (λj u hj=>by
  have b7:j<2:=(List.getElem?_eq_some_iff.1 hj).1
  have h:=HS3b.cell (6+j)
  rw[h]
  have hc:j=0\/j=1:=by omega
  rcases hc with rfl|rfl <;> exact hj)
 go_upto_region 3 with fail
 go_upto_region 4 with (first
  | (refine ld 340 (.tmp 19) rfl rfl (by rfl) c4 underlying340 rfl (a4 _ _) ?_)
  | (refine al 340 OP rfl rfl uT ?_)
  | (refine bZ 340 (.tmp 10) (.tmp 20) rfl rfl (by rfl) (by rfl) (cells:=#[.int .i64 6,.func (.func 271) #[] #[.pointer (some ⟨g5,0,none⟩),.pointer (some ⟨g6,0,none⟩),.pointer (some ⟨g7,0,none⟩)]]) S0 rfl (by rw[List.all_toArray];rfl) ?_;intro f8 O J a1))
 try simp only[jq]
 obtain⟨f3,R⟩:=je d5.heap.size;rw[<- R] at O;have HX4a:=jz (HX3b.keep J);have HS4a:=jz (HS3b.keep J);have HG4a:Hid (Blk f8 f3 340 #[.int .i64 6,.func (.func 271) #[] #[.pointer (some ⟨g5,0,none⟩),.pointer (some ⟨g6,0,none⟩),.pointer (some ⟨g7,0,none⟩)]]):=jz O;have HB4a:=jz (aA HB3b J);have b0:=jz (SZ HX4a a5.out.2.2 a5.out.2.1);obtain⟨b,hb⟩:=je ((decide (skew<p9 a.time now)));rw[<- hb] at b0;simp only[<- R];have K:=jz hb;clear O a1 R J hb HX3b HS3b HB3b c4;have U:=HG4a.cell 1;simp only[jf,jh,jg] at U;go_wp2_with fail
 refine b0.mono ?_;clear U;rintro e f9 ⟨rfl,I⟩;have HX4b:=jz (HX4a.keep I);have HS4b:=jz (HS4a.keep I);have HG4b:=jz (HG4a.keep I);have HB4b:=jz (aA HB4a I);clear I b0 HX4a HS4a HG4a HB4a;have e8:=V;cases b
 case true=>
  have hb:=K.out;have HZ:Hid (Z=6):=jz (by rw[V.out,jP (of_decide_eq_true hb.symm)]);have c0:=HG4b.cell 0;simp only[jf,jg] at c0;clear hb;go_wp2_with fail
  go_ret;exact⟨by rw[HZ.out];rfl,HB4b⟩
 have hb:=K.out;replace V:=jz (V.trans (jQ (of_decide_eq_false hb.symm)));clear hb K HG4b e8;go_wp2_with fail
 rw[rounds_succ];go_wp2_with fail
 go_ret;exact⟨by rw[V.out];rfl,HB4b⟩
end
end
end Go.Proofs.YtiaigidbcljblaaGreatDoor
