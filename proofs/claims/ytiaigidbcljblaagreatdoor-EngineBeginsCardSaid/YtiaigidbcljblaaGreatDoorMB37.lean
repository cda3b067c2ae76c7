import Derived.Test.YtiaigidbcljblaaGreatDoorMB35
set_option linter.unusedVariables false
set_option linter.unusedSimpArgs false
set_option maxRecDepth 100000
set_option maxHeartbeats 40000000
namespace Go.Proofs.YtiaigidbcljblaaGreatDoor
open Go.Proofs.Tryz
open Go.RowKit
attribute [local irreducible] wpQuiet wpAnyH
def fY(c at':Int):Wa:=#[.slice none 0 0,.int .u8 0,.int .u8 0,.int .u8 0,.int .u8 0,.int .u8 0,.int .u8 0,.int .u8 0,.int .u8 0,.int .u8 0,.int .u8 0,.int .u8 0,.int .u8 0,.int .u8 0,.int .u8 0,.int .u8 0,.int .u8 0,.int .i64 0,.slice none 0 0,.slice none 0 0,.bool false,.int .i64 0,.slice none 0 0,.int .i64 0,.bool false,.bool false,.int .i64 0,.int .u32 0,.int .u32 0,.slice none 0 0,.bool false,.slice none 0 0,.int .i64 0,.int .i64 c,.int .i64 at']
theorem E2(c:Int):prog.built 60 [(2,.int .i64 c)]=some (fY c 0):=by unfold fY;kernel_rfl
theorem E3(c a:Int):prog.built 60 [(2,.int .i64 c),(3,.int .i64 a)]=some (fY c a):=by unfold fY;kernel_rfl
theorem oY{P:Program}{w:Wd}{fn:Func}{p:Tmp}{ty:TypeId}(h:fn.results=#[.cell p ty])(tmps:Wa){b off:Nat}{cs:Wv}{d:TypeDesc}(x:tmps.getD p undef = .pointer (some ⟨b,off,none⟩))(j:w.rangeAt b off cs)
  (D:P.underlying ty=some d) (hd:d.isRow=true) (hi:(P.info? ty).map (·.size)=some cs.length):(results fn tmps).run P w = .ok (.agg cs.toArray) w:=by
 have h1:tmps[p]?.getD undef = .pointer (some ⟨b,off,none⟩):=by simpa using x
 simp[results,h,h1,asAddr,Sem.run_bind,Result.andThen,run_loadVar_mid w b off ty cs d j D hd hi]
theorem IK(c a:Int)(W:Wd):(Instr.field 60 (.agg (fY c a)) 2).run prog W = .ok (.int .i64 c) W:=by unfold fY;kernel_rfl
theorem E4(c a:Int):(fY c a).all (·.oneCell')=true:=by unfold fY;rw[List.all_toArray];rfl
theorem E5(c:ConfD)(v:Value)(w:Wd)(hv:v.oneCell'=true)(hc:gJ c=false):
  Wc 12 #[.agg (aQ c).toArray,v] w (Rt w (.agg (fY 15 0))):=by
 obtain⟨w1,j⟩:=je ((w.alloc (.cells (aQ c).toArray 37)).alloc (.cells (fY 0 0) 60));obtain⟨gc,x⟩:=je w.heap.size;have HG:Hid (w.heap.size<=gc+1):=jz (by omega);have a9:Hid (Bw w w1):=jz (by rw[j];exact((ji _ w).alloc (ja _) _).alloc (by simp) _);have V:Hid (Blk w1 gc 37 (aQ c).toArray):=jz (by rw[j,x];exact(Blk.new _ _ _).alloc _);have a1:Hid (Blk w1 (gc+1) 60 (fY 0 0)):=jz (by rw[j,x];exact Blk.newAt _ _ _ _ (by simp));have D:Hid (w1.rangeAt gc 0 (aQ c)):=jz (by have:=V.range;rwa [jt] at this);have U:=sU c w1;rw[hc] at U;have a0:=jz U;clear U;have Z:Hid ((prog.info? 37).map (·.size)=some (aQ c).length):=jz (by rw[d4];kernel_rfl);have I:Hid ((prog.info? 60).map (·.size)=some (fY 15 0).size):=jz (by kernel_rfl);have a2:=jz (E2 15);have a3:=jz (E4 15 0);have a4:Hid (∀ w,(zeroValue 60).run prog w = .ok (.agg (fY 0 0)) w):=jz (λw=>by unfold fY;kernel_rfl);have J:Hid ((fY 0 0).size=(fY 15 0).size):=jz rfl;obtain⟨K,hK⟩:=je (aQ c);obtain⟨R0,a6⟩:=je (fY 0 0);obtain⟨R,hR⟩:=je (fY 15 0);rw[<- hK] at j a0 D Z ⊢;rw[<- a6] at j a1 a4 J;rw[<- hR] at I a2 a3 J ⊢;clear hK hc a6 hR V;go_enter func12,ntmps12
 go_upto_region 1 with (refine al 60 _ rfl rfl a4 ?_)
 rw[<- j];simp only[World.size_alloc,<- x];clear j x;go_upto_region 2 with (first
  | (refine ld 37 (.tmp 2) rfl rfl (by rfl) D underlying37 rfl Z ?_)
  | (go_at_call 13;refine a0.mono ?_;rintro e w2 ⟨rfl,O⟩;have c2:=jz (a1.keep O);have b0:=jz (aA a9 O);clear O))
 go_wp2_with (first
  | (refine eC 60 _ rfl rfl rfl a2 ?_)
  | (refine aO 60 (.tmp 4) (.tmp 14) rfl rfl rfl rfl c2 I J a3 ?_;intro w9 a5 a7 _ a8;have b1:=jz a5;have b7:=jz a7;have c3:=jz a8;clear a5 a7 a8))
 exact bodyPost_ret (oY rfl _ rfl b1.range underlying60 rfl (by rw[jk];exact I)) rfl ⟨by simp,b0.trans (b7.mono HG)⟩
theorem RX{l:List OpD}{k:Nat}(h:kP l=some k):∃ D:k<l.length,aE l[k]=false/\∀ j (x:j<k),aE (l[j]'(Nat.lt_trans x D))=true:=by
 unfold kP at h;rw[List.findIdx?_eq_some_iff_getElem] at h;obtain⟨D,hb,I⟩:=h;exact⟨D,by simpa using hb,λj x=>by simpa using I j x⟩
theorem NK(c:ConfD)(l:List OpR)(A:Option Addr)(cap:Nat)(w:Wd)(hs:Sn w 4 (.slice A l.length cap) l.length (l.flatMap opC))(d2:∀ x∈l,OpI w x)
  (hd:∀ x∈l,x.o.data.length<=9223372036854775807/\x.o.cuts.length<=9223372036854775807) (hm:l.length<=9223372036854775807) (hc:gJ c=true) {k:Nat} (hb:kP (bF l)=some k):
  Wc 12 #[.agg (aQ c).toArray,.slice A l.length cap] w (Rt w (.agg (fY 16 (k:Int)))):=by
 obtain⟨e0,d7,e1⟩:=RX hb;rw[cY] at e0;have f7:=jz d7;have f8:=jz e1;have HS:=jz hs;have f6:=jz d2;have HD:=jz hd;obtain⟨w1,J⟩:=je ((w.alloc (.cells (aQ c).toArray 37)).alloc (.cells (fY 0 0) 60));obtain⟨gc,Z⟩:=je w.heap.size;have HG:Hid (w.heap.size<=gc+1):=jz (by omega);have c2:Hid (Bw w w1):=jz (by rw[J];exact((ji _ w).alloc (ja _) _).alloc (by simp) _);have c3:Hid (Blk w1 gc 37 (aQ c).toArray):=jz (by rw[J,Z];exact(Blk.new _ _ _).alloc _);have a6:Hid (Blk w1 (gc+1) 60 (fY 0 0)):=jz (by rw[J,Z];exact Blk.newAt _ _ _ _ (by simp));have D:Hid (w1.rangeAt gc 0 (aQ c)):=jz (by have:=c3.range;rwa [jt] at this);have b0:=sU c w1;rw[hc] at b0;have a5:=jz b0;clear b0;have a4:Hid ((prog.info? 37).map (·.size)=some (aQ c).length):=jz (by rw[d4];kernel_rfl);have a7:Hid ((prog.info? 60).map (·.size)=some (fY 16 k).size):=jz (by unfold fY;kernel_rfl);have c4:=jz (E3 16 k);have c5:=jz (E4 16 k);have c6:Hid (∀ w,(zeroValue 60).run prog w = .ok (.agg (fY 0 0)) w):=jz (λw=>by unfold fY;kernel_rfl);have a8:Hid ((fY 0 0).size=(fY 16 k).size):=jz rfl;obtain⟨n,a1⟩:=je l.length;have HN:=jz a1;rw[<- a1] at e0;rw[<- a1];obtain⟨K,hK⟩:=je (aQ c);obtain⟨R0,c9⟩:=je (fY 0 0);obtain⟨R,hR⟩:=je (fY 16 k);rw[<- hK] at J a5 D a4 ⊢;rw[<- c9] at J a6 c6 a8;rw[<- hR] at a7 c4 c5 a8 ⊢;clear hK hc c9 hR c3 hs d2 hd a1 hb d7 e1;go_enter func12,ntmps12
 go_upto_region 1 with (refine al 60 _ rfl rfl c6 ?_)
 rw[<- J];simp only[World.size_alloc,<- Z];clear J Z;go_upto_region 3 with (first
  | (refine ld 37 (.tmp 2) rfl rfl (by rfl) D underlying37 rfl a4 ?_)
  | (go_at_call 13;refine a5.mono ?_;rintro e w2 ⟨rfl,a9⟩;have f9:=jz (a6.keep a9);have a3:=jz (aA c2 a9);clear a9))
 clear a5 D a4 a6 c2;go_wp2_with fail
 go_loopw [5] (λi wr=>∃ j:Nat,j<=k/\i = .int .i64 j/\Hid (Bw w2 wr)) (λi _=>n-(intOf i).toNat)
 case atStart=>exact⟨0,j0 _,rfl,jz (ji _ _)⟩
 case round=>
  obtain⟨j,hj,rfl,HB⟩:=hrel;have a0:j<l.length:=by have:=HN.out;omega
  obtain⟨b,off,eA,V⟩:=J3 (HS.below (aA a3 HB)) j a0;subst eA;have O:=List.getElem_mem a0;obtain⟨x,hx⟩:=je (l[j]);rw[<- hx] at V O;have d5:=(f6.out x O).below (aA a3 HB);have b7:=HD.out x O;have d1:(bF l)[j]'(by rw[cY];exact a0)=x.o:=by rw[hx];exact rY l j a0 _
  have D:=jz V;have b1:aE x.o=decide (j<k):=by
   rw[<- d1];rcases jo j k with h|h
   ·rw[f8.out j h,decide_eq_true h]
   ·obtain rfl:j=k:=by omega
    rw[f7.out];simp
  clear V O hx d1;obtain⟨⟨kk,nn,dd,cc⟩,xA,f1,xB,f2⟩:=x;have I:=BH kk nn dd cc xA xB f1 f2 wr d5.2 b7.2 b7.1;have g3:(0:Int)<=j:=by omega
  have g8:(j:Int)<n:=by omega
  simp only at b1;rw[b1] at I;have I:=jz I;have a2:Hid (wr.rangeAt b (off+j*4) [.int .i64 kk,.int .i64 nn,.slice xA dd.length f1,.slice xB cc.length f2]):=D;clear d5 b7 b1 D;rcases jo j k with e8|g2
  ·rw[decide_eq_true e8] at I;go_wp2_with (first
    | (refine ld 71 (.tmp 23) rfl rfl (by rfl) a2 underlying71 rfl (by kernel_rfl) ?_)
    | (go_at_call 24;refine I.mono ?_;rintro e w3 ⟨rfl,U⟩))
   exact⟨⟨j+1,e8,by go_num,jz (aA HB U)⟩,by simp[intOf];omega⟩
  ·obtain rfl:j=k:=by omega
   rw[decide_eq_false (by omega)] at I;go_wp2_with (first
    | (refine ld 71 (.tmp 23) rfl rfl (by rfl) a2 underlying71 rfl (by kernel_rfl) ?_)
    | (go_at_call 24;refine I.mono ?_;rintro e w3 ⟨rfl,U⟩;have g0:=jz (f9.keep (aA HB U));have f3:=jz (aA a3 (aA HB U));clear U)
    | (refine eC 60 _ rfl rfl rfl c4 ?_)
    | (refine aO 60 (.tmp 4) (.tmp 28) rfl rfl rfl rfl g0 a7 a8 c5 ?_;intro w9 c7 d0 _ f0;have f4:=jz c7;have f5:=jz d0;have g1:=jz f0;clear c7 d0 f0))
   exact bodyPost_ret (oY rfl _ rfl f4.range underlying60 rfl (by rw[jk];exact a7)) rfl ⟨by simp,f3.trans (f5.mono HG)⟩
theorem NL{V:eD}{c:ConfD}{l:List OpD}{x:Int×Option Int}(h:(dC V c l).1=some x):x.1=15\/x.1=16:=by
 unfold dC at h;split at h
 ·injection h with h
  exact .inl (by rw[<- h])
 ·cases hb:kP l with
  | some i=>
   rw[hb] at h;injection h with h
   exact .inr (by rw[<- h])
  | none=>
   rw[hb] at h;cases h
theorem IL{V:eD}(c:ConfD)(l:List OpR)(A:Option Addr)(cap:Nat)(w:Wd)(hs:Sn w 4 (.slice A l.length cap) l.length (l.flatMap opC))(D:∀ x∈l,OpI w x)
  (hd:∀ x∈l,x.o.data.length<=9223372036854775807/\x.o.cuts.length<=9223372036854775807) (I:l.length<=9223372036854775807) {x:Int×Option Int} (h:(dC V c (bF l)).1=some x):
  Wc 12 #[.agg (aQ c).toArray,.slice A l.length cap] w λe w'=>∃ a,e = .returned (.agg (fY x.1 a))/\Bw w w':=by
 unfold dC at h;split at h
 ·rename_i j;injection h with h
  rw[<- h];exact(E5 c _ w rfl j).mono λe w' h=>⟨0,h⟩
 ·rename_i j;cases hb:kP (bF l) with
  | some i=>
   rw[hb] at h;injection h with h
   rw[<- h];exact(NK c l A cap w hs D hd I (by simpa using j) hb).mono λe w' h=>⟨_,h⟩
  | none=>
   rw[hb] at h;cases h
end Go.Proofs.YtiaigidbcljblaaGreatDoor
