import Derived.Test.YtiaigidbcljblaaGreatDoorMS15
import Derived.Test.YtiaigidbcljblaaGreatDoorMS18
import Derived.Test.YtiaigidbcljblaaGreatDoorMS17
import Derived.StillTailTactics
import Derived.StringKeys
import Derived.Maps.OwnOps
import Derived.Deep.Cut
set_option linter.unusedVariables false
set_option linter.unusedSimpArgs false
set_option maxRecDepth 100000
set_option maxHeartbeats 40000000
namespace Go.Proofs.YtiaigidbcljblaaGreatDoor
open Go.Proofs.Tryz
section
open Go.RowKit
section
variable {P : Program} {w : Wd}
end
end
section
open Go.RowKit
attribute [local irreducible] wpQuiet wpAnyH
attribute [local go_sem] Oper.semAt_some
def iS(key nn f:Nat->Nat)(n:Nat):Nat->Nat:=λj=>if j<n then f j ^^^ jO key (lC nn (j/16)) (j % 16) else f j
structure OffB(b:Nat)(w w':Wd):Prop where
 os:w'.os=w.os
 tape:w'.tape=w.tape
 output:w'.output=w.output
 size:w.heap.size<=w'.heap.size
 block:∀ j,j<w.heap.size->j≠b->w'.heap[j]? = w.heap[j]?
structure MS(w:Wd)(gb N L cap k:Nat)(G:Nat->Nat)(T:bL)(U:Wd):Prop where
 b:AB U gb 5 L (c8 G)
 h:Blk U (N+2) 68 #[.slice (some ⟨gb,16*k,none⟩) (L-16*k) (cap-16*k)]
 s:Blk U (N+3) 3 #[.int .i64 0]
 gbN:gb<N
 oth:∀ j,j<N->j≠gb->U.heap[j]? = w.heap[j]?
 os:U.os=w.os
 tape:U.tape=w.tape
 output:U.output=w.output
 tin:T gb/\T (N+2)/\T (N+3)
 tsub:∀ j,T j->j=gb\/j=N+2\/j=N+3\/N+7<=j
 tlt:∀ j,T j->j<U.heap.size
 size:N+7<=U.heap.size
structure MR(w:Wd)(gb N L:Nat)(G:Nat->Nat)(T:bL)(U:Wd):Prop where
 b:AB U gb 5 L (c8 G)
 gbN:gb<N
 oth:∀ j,j<N->j≠gb->U.heap[j]? = w.heap[j]?
 os:U.os=w.os
 tape:U.tape=w.tape
 output:U.output=w.output
 tin:T gb
 size:N+7<=U.heap.size
section
variable {w A B : Wd} {gb N L cap k M : Nat} {G : Nat -> Nat} {T : bL}
theorem MS.stab(h:MS w gb N L cap k G T A)(J:N+4<=M)(x:Lies (λk=>T k\/(k<M/\¬ZBc (N+4) k)) A B):MS w gb N L cap k G T B:=
 ⟨(x.block _ h.b.lt (.inl h.tin.1)).trans h.b,(x.block _ h.h.lt (.inl h.tin.2.1)).trans h.h,(x.block _ h.s.lt (.inl h.tin.2.2)).trans h.s,h.gbN,
  λj D I=>(x.block j (by have:=h.size;omega) (.inr ⟨by omega,λe=>by unfold ZBc at e;omega⟩)).trans (h.oth j D I),x.os.trans h.os,x.tape.trans h.tape,x.output.trans h.output,h.tin,h.tsub,
  λj D=>jp (h.tlt j D) x.size,jm h.size x.size⟩
theorem MR.stab(h:MR w gb N L G T A)(J:N+4<=M)(x:Lies (λk=>T k\/(k<M/\¬ZBc (N+4) k)) A B):MR w gb N L G T B:=
 ⟨(x.block _ h.b.lt (.inl h.tin)).trans h.b,h.gbN,
  λj D I=>(x.block j (by have:=h.size;omega) (.inr ⟨by omega,λe=>by unfold ZBc at e;omega⟩)).trans (h.oth j D I),x.os.trans h.os,x.tape.trans h.tape,x.output.trans h.output,h.tin,jm h.size x.size⟩
end
structure MkX(gb gn N k i R cap y:Nat)(W:Wd):Prop where
 h:W.cell? ⟨N+2,0,none⟩=some (.slice (some ⟨gb,16*k,none⟩) R (cap-16*k))
 s:W.cell? ⟨N+3,0,none⟩=some (.int .i64 0)
 y:W.cell? ⟨gn,i,none⟩=some (.int .u8 (y:Nat))
theorem RA(key nn f:Nat->Nat){k i:Nat}(hi:i<16):cO (iS key nn f (16*k+i)) (16*k+i) (f (16*k+i) ^^^ jO key (lC nn k) i)=iS key nn f (16*k+(i+1)):=by
 funext q
 have h1:(16*k+i)/16=k:=by omega
 have j:(16*k+i) % 16=i:=by omega
 unfold cO iS;by_cases e:q=16*k+i
 ·rw[jP e,jP (by omega),e,h1,j]
 ·rw[jQ e];by_cases e2:q<16*k+i
  ·rw[jP e2,jP (by omega)]
  ·rw[jQ e2,jQ (by omega)]
theorem RB{I m x:Nat}{j:List Nat}(h:j++[x] <+: List.range' I m):x=I+j.length/\j.length<m:=by
 obtain⟨r,D⟩:=h;have J:=congrArg List.length D;simp at J;have h1:=congrArg (λl=>l[j.length]?) D;simp at h1;rw[List.getElem?_range' (by omega)] at h1;simp at h1;omega
theorem RC(key nn f:Nat->Nat)(gb L cap:Nat)(w:Wd)(b7:bG key)(g2:bG nn)(hf:bG f)(hb:AB w gb 5 L (c8 f))(hL:0<L)(q4:L<=cap)(hc:cap<=1048576):
  Wc 318 #[.agg (arr 16 (c8 key)).toArray,.agg (arr 8 (c8 nn)).toArray,.int .i64 0,.slice (some ⟨gb,0,none⟩) L cap] w λe w'=>e = .returned (.tuple #[])/\AB w' gb 5 L (c8 (iS key nn f L))/\OffB gb w w':=by
 have r1:¬(L:Int)=0:=by omega
 have h8:=jz hf;have h7:Hid (∀ k,bG (jO key (lC nn k))):=jz (λk=>KZ b7 (B0 g2 k 8));refine nQ func318 rfl ?_;simp only[ntmps318,js,List.length_cons,List.length_nil,Nat.reduceAdd,Nat.reduceSub,Array.replicate_succ,Array.replicate_zero,List.push_toArray,List.append_toArray,List.nil_append,List.cons_append];refine wpIn_wide.2 ?_;have d0:Hid ((prog.info? 35).map (·.size)=some (arr 16 (c8 key)).length):=jz (by rw[aB];kernel_rfl);have m3:Hid ((prog.info? 308).map (·.size)=some (arr 8 (c8 nn)).length):=jz (by rw[aB];kernel_rfl);go_upto_region 3 with fail
 obtain⟨N,hN⟩:=je w.heap.size;obtain⟨w1,a1⟩:=je ((((w.alloc (.cells (arr 16 (c8 key)).toArray 35)).alloc (.cells (arr 8 (c8 nn)).toArray 308)).alloc (.cells #[.slice (some ⟨gb,0,none⟩) L cap] 68)).alloc (.cells #[.int .i64 0] 3));have f7:Bw w w1:=by rw[a1];exact aA (aA (aA (aH _ _) (aH _ _)) (aH _ _)) (aH _ _)
 have c7:w1.heap.size=N+4:=by rw[a1,hN];simp
 have k0:AB w1 N 35 16 (c8 key):=by rw[a1,hN];exact(((Blk.new _ _ _).alloc _).alloc _).alloc _
 have k1:AB w1 (N+1) 308 8 (c8 nn):=by rw[a1,hN];exact((Blk.newAt _ _ _ _ (by simp)).alloc _).alloc _
 have k2:Blk w1 (N+2) 68 #[.slice (some ⟨gb,0,none⟩) L cap]:=by rw[a1,hN];exact(Blk.newAt _ _ _ _ (by simp)).alloc _
 have k3:Blk w1 (N+3) 3 #[.int .i64 0]:=by rw[a1,hN];exact Blk.newAt _ _ _ _ (by simp)
 have d5:=jz k0.range;have d7:=jz k1.range;have n0:gb<N:=by rw[hN];exact hb.lt
 have c3:=jz (IH key nn 0 w1);rw[c7] at c3;have k4:=jz hb;rw[<- a1];simp only[Nat.add_assoc,Nat.reduceAdd,<- hN];have HN:=jz hN;have h6:=jz f7;have q7:=jz c7;have m1:=jz k2;have m2:=jz k3;clear a1 k0 k1 k2 k3 hb f7 c7 hN;go_wp2_with (first
  | (refine ld 35 (.tmp 4) rfl rfl (by rfl) d5 underlying35 rfl d0 ?_)
  | (refine ld 308 (.tmp 5) rfl rfl (by rfl) d7 underlying308 rfl m3 ?_)
  | (go_at_call 332;refine c3.mono ?_;rintro e W ⟨rfl,hW⟩))
 have m9:N+7<=W.heap.size:=by
  have h1:=hW.i.lt;omega
 have a7:Hid (Bw w W):=jz (aA h6 hW.be);have e8:=jz (VI key nn 0 L (N+4) W b7 g2 (by omega) hW.k hW.n hW.i);have c6:Bw w1 W:=hW.be
 have m5:Hid (MS w gb N L cap 0 (iS key nn f 0) (λj=>j=gb\/j=N+2\/j=N+3) W):=jz {
  b:=(k4.keep a7).ext (λj _=>by unfold c8 iS;simp)
  h:=by have:=m1.keep c6;simpa using this
  s:=m2.keep c6
  gbN:=n0
  oth:=λj hj _=>a7.block j (by rw[<- HN.out];exact hj)
  os:=a7.os
  tape:=a7.tape
  output:=a7.output
  tin:=⟨.inl rfl,.inr (.inl rfl),.inr (.inr rfl)⟩
  tsub:=λj hj=>by rcases hj with h|h|h <;> simp[h]
  tlt:=λj hj=>by rcases hj with h|h|h <;> omega
  size:=m9 }
 clear hW c6 c3 d5 d7;refine(wpIn_wide (n:=9)).1 ?_;refine gW (w0:=W) (all:=List.range' 0 L) (encs:=K2 key nn) (Z:=ZBc (N+4)) (X:=XBc (N+4)) rfl (λh=>by cases h) (gf:=340) (lb:=#[.pointer (some ⟨N+4,0,none⟩),.pointer (some ⟨N+4+1,0,none⟩),.pointer (some ⟨N+4+1+1,0,none⟩)]) rfl trivial (enters_of func340 (by kernel_rfl) rfl)
  (SeqZ.any e8) (ji _ _) (λ_=>rfl) (λk h=>by unfold ZBc at h;omega)
  (λI T U=>16*I.length<L/\MS w gb N L cap I.length (iS key nn f (16*I.length)) T U)
  (λc I T U=>c = .ret/\MR w gb N L (iS key nn f L) T U)
  (λI x a' T U=>∃ gn,16*I.length<L/\MS w gb N L cap I.length (iS key nn f (16*I.length)) T U/\AB U gn 35 16 (c8 (jO key (lC nn x)))/\N+7<=gn/\T gn/\a'={ tmps:=#[.agg (arr 16 (c8 key)).toArray,.agg (arr 8 (c8 nn)).toArray,.int .i64 0,.slice (some ⟨gb,0,none⟩) L cap,.pointer (some ⟨N,0,none⟩),.pointer (some ⟨N+1,0,none⟩),undef,.pointer (some ⟨N+2,0,none⟩),.pointer (some ⟨N+3,0,none⟩),.pointer (some ⟨gn,0,none⟩),undef,undef,.slice (some ⟨gb,0,none⟩) L cap,.int .i64 L,.bool false,.int .i64 0,.int .i64 0,.agg (arr 16 (c8 key)).toArray,.agg (arr 8 (c8 nn)).toArray,.int .i64 0,.int .i64 0,.int .u64 0,ZW (N+4),.agg (arr 16 (c8 (jO key (lC nn x)))).toArray,undef,undef,undef,undef,undef,undef,undef,undef,undef,undef,undef,undef,undef,undef,undef,undef,undef,undef,undef,undef,undef,undef,undef,undef,undef,undef,undef],defers:=[] })
  (λj=>j=gb\/j=N+2\/j=N+3)
  (λst T A' B h a4=>⟨h.1,h.2.stab (M:=W.heap.size) (by omega) a4⟩)
  (λc st T A' B h a4=>⟨h.1,h.2.stab (M:=W.heap.size) (by omega) a4⟩)
  (λI x a' _ T A' B h a4=>by
   obtain⟨gn,h0,h1,V,h3,h4,h5⟩:=h
   exact⟨gn,h0,h1.stab (M:=W.heap.size) (by omega) a4,(a4.block _ V.lt (.inl h4)).trans V,h3,h4,h5⟩)
  (λst T A' h k hk=>h.2.tlt k hk)
  (λk hk hx=>by
   rcases hk with h|h|h <;> rcases hx with h'|h'|h' <;> omega)
  ⟨by simpa using hL,m5⟩
  ?assign ?body ?done ?stop (λ_ T U h=>by
   have:=h.1
   simp at this
   omega)
 case assign=>
  rintro ln I x T U n2 K q0 ⟨h0,hI⟩;have HI:=jz hI;have c4:=jz h0;clear hI K h0;have HBZ:Hid ((prog.info? 35).map (·.size)=some (arr 16 (c8 (jO key (lC nn x)))).toArray.size/\z8x16.size=(arr 16 (c8 (jO key (lC nn x)))).toArray.size):=jz ⟨by rw[js,aB];kernel_rfl,by rw[show(arr 16 (c8 (jO key (lC nn x)))).toArray.size=16 by simp[arr]];rfl⟩;simp only[K2,List.zip_toArray,List.zip_cons_cons,List.zip_nil_left,List.zip_nil_right,List.foldl_toArray,List.foldl_toArray',List.foldl_cons,List.foldl_nil,List.setIfInBounds_toArray,List.set_cons_succ,List.set_cons_zero];gi_wp2_with (first
   | (refine iAl 35 _ rfl (bP _) rfl fE ?_)
   | (refine pR (cells:=(arr 16 (c8 (jO key (lC nn x)))).toArray) (old:=z8x16) 35 (.tmp 9) (.tmp 23) rfl (bP _) rfl (by rfl) (by rfl) (by exact HBZ.out.1) (by exact HBZ.out.2) (by exact bY (λ_=>rfl)) ?_;intro U2 f6))
  have f8:Bw U U2:=by rw[f6];exact aH _ _
  have f2:AB U2 U.heap.size 35 16 (c8 (jO key (lC nn x))):=by rw[f6];exact Blk.new _ _ _
  have V:=HI.stab (M:=N+4) (ja _) (Lies.of_below f8);have g1:=f2.lt;have n6:=HI.size;refine⟨λk=>T k\/k=U.heap.size,(Turn.of_below f8).grow (λk hk=>hk.imp id (λh=>by omega)),U.heap.size,c4,⟨V.b,V.h,V.s,V.gbN,V.oth,V.os,V.tape,V.output,⟨.inl V.tin.1,.inl V.tin.2.1,.inl V.tin.2.2⟩,λj hj=>hj.elim (V.tsub j) (λh=>by omega),λj hj=>hj.elim (V.tlt j) (λh=>by omega),V.size⟩,f2,n6,.inr rfl,rfl⟩
 case done=>
  rintro D T U hD ⟨h0,_⟩ n4 c5;simp at h0;omega
 case stop=>
  rintro D c I T U hD K ⟨rfl,h⟩ n4 c5;have hrun:=run_takeDeferred (P:=prog) c5;have r5:D≠gb:=by omega
  have a8:AB (U.putObj D (.deferred none)) gb 5 L (c8 (iS key nn f L)):=(World.putObj_heap_other (by omega)).trans h.b;have c2:OffB gb w (U.putObj D (.deferred none)):=⟨h.os,h.tape,h.output,by have h1:=h.size;have V:=HN.out;simp;omega,λj hj hn=>by
   have V:=HN.out
   exact(World.putObj_heap_other (by omega)).trans (h.oth j (by omega) hn)⟩
  have e0:=jz hrun;have a5:=jz a8;have d1:=jz c2;clear h c5 hrun K a8 c2;gi_wp2_with fail
  refine⟨by simp,.inl ⟨_,_,rfl,e0,?_⟩⟩;exact⟨.tuple #[],by simp[results,Tryz.results318,go_sem],rfl,a5,d1⟩
 case body=>
  rintro ln I x a' T U n2 K q0 ⟨gn,h0,hI,hA,n1,q1,rfl⟩;obtain⟨hx,_⟩:=RB K;rw[Nat.zero_add] at hx;subst hx;have a9:Hid ((I++[I.length]).length=I.length+1):=jz (by simp);obtain⟨P,hP⟩:=je (I++[I.length]);rw[<- hP] at a9 ⊢;obtain⟨k,hk⟩:=je I.length;rw[<- hk] at h0 hI hA a9 ⊢;clear hP K hk;obtain⟨R,hR⟩:=je (L-16*k);obtain⟨n,hn⟩:∃ n:Nat,n=min 16 R:=⟨_,rfl⟩;have n3:0<n/\n<=16/\n<=R:=by omega
  have q5:(min (16:Int) (R:Int))=(n:Int):=by omega
  have HI:=jz hI;have HA:=jz hA;have s0:=hI.s.cell 0;have h1:=hI.h.cell 0;simp only[jf,jg] at s0 h1;rw[<- hR] at h1;have r3:n<=cap-16*k:=by omega
  have a3:=jz hR;have m4:=jz hn;have c4:=jz h0;have r0:=jz q1;have h9:=jz n1;clear hI hA hR hn;gi_wp2_with fail
  gi_loopw [30] (λj wr=>∃ i:Nat,i<=n/\j = .int .i64 i/\Hid (Turn T U T wr)/\Hid (MS w gb N L cap k (iS key nn f (16*k+i)) T wr)/\Hid (AB wr gn 35 16 (c8 (jO key (lC nn k))))) (λj _=>n-(intOf j).toNat)
  case atStart=>exact⟨0,j0 _,rfl,jz (Turn.refl _ _),jz (by simpa using HI.out),HA⟩
  case round=>
   obtain⟨i,hi,rfl,HT,O,HB⟩:=hrel;rcases jo i n with g1|r6
   ·have r7:(0:Int)<=i:=by omega
    have s1:(i:Int)<n:=by omega
    have s3:(i:Int)<R:=by omega
    have s4:(i:Int)<16:=by omega
    gi_wp2_with fail
    have hq:16*k+i<L:=by have:=a3.out;omega
    obtain⟨x,hx⟩:=je (f (16*k+i));obtain⟨y,hy⟩:=je (jO key (lC nn k) i);have q3:=u8_xor_nat x y (by rw[hx];exact h8 _) (by rw[hy];exact h7 _ _);have HU:=jz (RA key nn f (k:=k) (i:=i) (by omega));obtain⟨wS,b1⟩:=je wr.drew;have b0:Bw wr wS:=by rw[b1];exact(ji _ _).drew
    have a6:Hid (MS w gb N L cap k (iS key nn f (16*k+i)) T wS):=jz (O.stab (M:=N+4) (ja _) (Lies.of_below b0));have c9:Hid (AB wS gn 35 16 (c8 (jO key (lC nn k)))):=jz (HB.keep b0);have m6:Hid (Turn T U T wS):=jz (HT.below b0);have s0:=a6.s.cell 0;have h1:=a6.h.cell 0;simp only[jf,jg] at s0 h1;rw[<- a3.out] at h1;have c0:wS.cell? ⟨gb,16*k+i,none⟩=some (.int .u8 (x:Nat)):=by
     rw[a6.b.cell (i:=16*k+i) hq];show some (Value.int .u8 ((iS key nn f (16*k+i) (16*k+i):Nat):Int))=_;unfold iS;rw[jQ (Nat.lt_irrefl _),<- hx]
    have a0:wS.cell? ⟨gn,i,none⟩=some (.int .u8 (y:Nat)):=by
     rw[c9.cell (i:=i) (by omega),hy];rfl
    have f0:=a6.b.frozen (16*k+i);have f9:gn≠gb:=by have:=h9.out;omega
    have f3:MkX gb gn N k i R cap y wS:=⟨h1,s0,a0⟩;obtain⟨wz,J⟩:=je (wS.setCell ⟨gb,16*k+i,none⟩ (.int .u8 (x ^^^ y:Nat)));have f5:MkX gb gn N k i R cap y wz:=by
     rw[J];exact⟨(World.cell?_setCell_other _ _ _ _ (by intro e;injection e;omega)).trans h1,(World.cell?_setCell_other _ _ _ _ (by intro e;injection e;omega)).trans s0,(World.cell?_setCell_other _ _ _ _ (by intro e;injection e with e1 _ _;exact f9 e1.symm)).trans a0⟩
    have a2:Hid (MS w gb N L cap k (iS key nn f (16*k+(i+1))) T wz/\AB wz gn 35 16 (c8 (jO key (lC nn k)))/\Turn T U T wz):=jz (by
     have h:=a6.out
     have hb:=h.b.set (16*k+i) (.int .u8 (x ^^^ y:Nat))
     rw[gY,<- J,hx,hy,HU.out] at hb
     refine⟨⟨hb,by rw[J];exact h.h.far (by simp;omega) _,by rw[J];exact h.s.far (by simp;omega) _,h.gbN,λj hj hn=>by
      rw[J]
      exact(Below.heap_setCell wS ⟨gb,16*k+i,none⟩ _ j hn).trans (h.oth j hj hn),by rw[J];exact h.os,by rw[J];exact h.tape,by rw[J];exact h.output,h.tin,h.tsub,λj hj=>by rw[J];simpa using h.tlt j hj,by rw[J];simpa using h.size⟩,
      by rw[J];exact c9.far (by exact f9) _,by rw[J];exact m6.setCell h.tin.1 _ _⟩)
    have q2:IntKind.i64.wrap (i:Int)=i:=IntWalk.i64_in _ (by omega);clear hx hy b0 s0 h1 a0 O HT HB
    -- region 9
    refine kZr (n:=12) (MkX gb gn N k i R cap y) (by rw[<- b1];exact f3) (by rintro⟨_,_,h⟩;exact h) (h:=λhH=>?_);rw[<- b1] at hH ⊢;clear b1;refine qC 0 (v:=.slice (some ⟨gb,16*k,none⟩) R (cap-16*k)) (λW hX=>hX.h) ?_;refine qM 1 (.int .i64 i) ?_;refine qT 2 (.pointer (some ⟨gb,16*k+i,none⟩)) ?_;refine qC 4 (v:=.int .i64 0) (λW hX=>hX.s) ?_;refine qM 5 (.int .i64 i) ?_;refine qT 6 (.int .i64 i) ?_;refine qT 7 (.pointer (some ⟨gn,i,none⟩)) ?_;refine qC 8 (v:=.int .u8 (y:Nat)) (λW hX=>hX.y) ?_;refine kS 3 (some 36) (.int .u8 (x:Nat)) wS (hS:=hH) (h:=?_);simp only[jq];refine qT 9 (.int .u8 (x ^^^ y:Nat)) ?_;refine qT 10 (.pointer (some ⟨gb,16*k+i,none⟩)) ?_;refine kW 11 none wz (hrun:=by rw[J];unfold execOp;go_simp) (hS:=f5) (h:=?_);simp only[jq];refine kE (h:=?_)
    -- end of region 9
    clear J f3 f5 hH c0 f0 q2 q3;gi_wp2_with fail
    exact⟨⟨i+1,g1,by go_num,jz a2.out.2.2,jz a2.out.1,jz a2.out.2.1⟩,by simp[intOf];omega⟩
   ·obtain rfl:i=n:=by omega
    have s0:=O.s.cell 0;have h1:=O.h.cell 0;simp only[jf,jg] at s0 h1;rw[<- a3.out] at h1;have fh:=O.h.frozen 0;have fs:=O.s.frozen 0;have s5:i<=R:=n3.2.2;have r2:R<=cap-16*k:=by have:=a3.out;omega
    have f1:Hid (∀ v,Turn T U T ((wr.setCell ⟨N+2,0,none⟩ v).setCell ⟨N+3,0,none⟩ (.int .i64 0))):=jz (λv=>(HT.setCell O.tin.2.1 0 v).setCell O.tin.2.2 0 _);have a5:Hid (∀ v,AB ((wr.setCell ⟨N+2,0,none⟩ v).setCell ⟨N+3,0,none⟩ (.int .i64 0)) gb 5 L (c8 (iS key nn f (16*k+i)))):=jz (λv=>(O.b.far (p:=⟨N+2,0,none⟩) (by show gb≠N+2;have:=O.gbN;omega) v).far (p:=⟨N+3,0,none⟩) (by show gb≠N+3;have:=O.gbN;omega) _);have d2:Hid (∀ v j,j<N->j≠gb->((wr.setCell ⟨N+2,0,none⟩ v).setCell ⟨N+3,0,none⟩ (.int .i64 0)).heap[j]? = w.heap[j]?):=jz (λv j hj hn=>(Below.heap_setCell _ ⟨N+3,0,none⟩ _ j (by show j≠N+3;omega)).trans ((Below.heap_setCell _ ⟨N+2,0,none⟩ _ j (by show j≠N+2;omega)).trans (O.oth j hj hn)));by_cases tR:R=i
    ·have hz:R-i=0:=by omega
     have m8:16*k+i=L:=by have:=a3.out;have:=c4.out;omega
     rw[m8] at a5;have a2:Hid (∀ v,O6 (λI T U=>16*I.length<L/\MS w gb N L cap I.length (iS key nn f (16*I.length)) T U) (λc I T U=>c = .ret/\MR w gb N L (iS key nn f L) T U) P T U Exit.ret { tmps:=#[],defers:=[] } ((wr.setCell ⟨N+2,0,none⟩ v).setCell ⟨N+3,0,none⟩ (.int .i64 0))):=jz (λv=>
      ⟨T,f1 v,rfl,a5 v,O.gbN,d2 v,O.os,O.tape,O.output,O.tin.1,by simpa using O.size⟩)
     clear tR;gi_wp2_with fail
     all_goals exact a2 _
    ·have hz:¬R-i=0:=by omega
     have t1:¬((R-i:Nat):Int)=0:=by omega
     have g0:i=16:=by have:=m4.out;omega
     have t0:¬cap-16*k=i:=by omega
     have q6:¬i=cap-16*k:=by omega
     have a2:Hid (O6 (λI T U=>16*I.length<L/\MS w gb N L cap I.length (iS key nn f (16*I.length)) T U) (λc I T U=>c = .ret/\MR w gb N L (iS key nn f L) T U) P T U Exit.normal { tmps:=#[],defers:=[] } ((wr.setCell ⟨N+2,0,none⟩ (.slice (some ⟨gb,16*k+i,none⟩) (R-i) (cap-16*k-i))).setCell ⟨N+3,0,none⟩ (.int .i64 0))):=jz (by
      have h:=O.out
      have e1:16*k+i=16*(k+1):=by omega
      have e2:R-i=L-16*(k+1):=by have:=a3.out;omega
      have e3:cap-16*k-i=cap-16*(k+1):=by omega
      have a8:=a5.out (.slice (some ⟨gb,16*k+i,none⟩) (R-i) (cap-16*k-i))
      have g3:=d2.out (.slice (some ⟨gb,16*k+i,none⟩) (R-i) (cap-16*k-i))
      have g8:=f1.out (.slice (some ⟨gb,16*k+i,none⟩) (R-i) (cap-16*k-i))
      rw[e1,e2,e3] at a8 g3 g8 ⊢
      refine⟨T,g8,by rw[a9.out];have:=a3.out;omega,?_⟩
      rw[a9.out]
      exact⟨a8,by have:=Blk.far (Blk.set_ h.h 0 (.slice (some ⟨gb,16*(k+1),none⟩) (L-16*(k+1)) (cap-16*(k+1)))) (p:=⟨N+3,0,none⟩) (by show N+2≠N+3;omega) (.int .i64 0);simpa using this,
       by have:=Blk.set_ (Blk.far h.s (p:=⟨N+2,0,none⟩) (by show N+3≠N+2;omega) (.slice (some ⟨gb,16*(k+1),none⟩) (L-16*(k+1)) (cap-16*(k+1)))) 0 (.int .i64 0);simpa using this,
       h.gbN,g3,h.os,h.tape,h.output,h.tin,h.tsub,λj hj=>by simpa using h.tlt j hj,by simpa using h.size⟩)
     clear g0;gi_wp2_with fail
     exact a2.out
end
section
open Go.RowKit
attribute [local irreducible] wpQuiet wpAnyH
theorem IM(n:Nat)(J:n<=1048576)(w:Wd):(Instr.makeSlice 68 (.int .i64 n) (.int .i64 n)).run prog w = .ok (.slice (some ⟨w.heap.size,0,none⟩) n n) (w.alloc (.cells (arr n (c8 λ_=>0)).toArray 5)):=by
 have I:(prog.info? 5).map (λi=>(i.zero,i.size,i.bytes))=some (some (.int .u8 0),1,1):=by kernel_rfl
 obtain⟨i,h1,j,x,D⟩:=info_parts I;have:=run_makeSlice (P:=prog) (w:=w) 68 5 i _ underlying68 h1 j .i64 .i64 n n (by omega) (Int.le_refl _) (by rw[x];simp;omega) (by rw[D];omega) (by omega);rw[this,x,Int.toNat_natCast];have e:madeCells (Value.int .u8 0).cells (n*1)=(arr n (c8 λ_=>0)).toArray:=by
  have:(madeCells (Value.int .u8 0).cells (n*1)).toList=arr n (c8 λ_=>0):=by
   unfold arr c8;refine List.ext_getElem (by simp[madeCells]) (λi h1 j=>?_);simp[madeCells,Value.cells,Nat.mod_one]
  rw[<- this,Array.toArray_toList]
 rw[e]
theorem OffB.of_below{b:Nat}{w w':Wd}(h:Bw w w'):OffB b w w':=⟨h.os,h.tape,h.output,h.size,λj x _=>h.block j x⟩
theorem RE(key nn:Nat->Nat)(A:Option Addr)(cap:Nat)(w:Wd):Wc 318 #[.agg (arr 16 (c8 key)).toArray,.agg (arr 8 (c8 nn)).toArray,.int .i64 0,.slice A 0 cap] w (Rt w (.tuple #[])):=by
 obtain⟨K,j⟩:=je ((arr 16 (c8 key)).toArray);obtain⟨M,x⟩:=je ((arr 8 (c8 nn)).toArray);rw[<- j,<- x];clear j x;go_enter func318,ntmps318
 go_wp2_with fail
 refine bodyPost_ret (results_none rfl _ _ _) rfl ?_;exact⟨rfl,aA (aA (aH _ _) (aH _ _)) (aH _ _)⟩
theorem RF(key nn f:Nat->Nat)(gb L:Nat)(w:Wd)(j:bG key)(x:bG nn)(I:bG f)(hb:AB w gb 5 L (c8 f))(D:L<=1048576):
  Wc 318 #[.agg (arr 16 (c8 key)).toArray,.agg (arr 8 (c8 nn)).toArray,.int .i64 0,.slice (some ⟨gb,0,none⟩) L L] w λe w'=>e = .returned (.tuple #[])/\AB w' gb 5 L (c8 (iS key nn f L))/\OffB gb w w':=by
 rcases Nat.eq_zero_or_pos L with rfl|h
 ·exact(RE key nn _ 0 w).mono λe w' h=>⟨h.1,hb.keep h.2,OffB.of_below h.2⟩
 ·exact RC key nn f gb L L w j x I hb h (ja _) D
theorem NF{W:Wd}{g u:Nat}{key nn:Nat->Nat}(h:Blk W g 433 (tW key nn u).toArray):W.rangeAt g 0 (arr 16 (c8 key))/\W.rangeAt g 16 (arr 8 (c8 nn))/\W.cell? ⟨g,24,none⟩=some (.int .i64 (u:Nat)):=by
 have D:=h.range;rw[jt] at D;unfold tW at D;refine⟨λj v x=>?_,λj v x=>?_,?_⟩
 ·have I:j<16:=by have:=(List.getElem?_eq_some_iff.1 x).1;rwa [aB] at this
  exact D j v (by rw[jy (by rw[jj,aB];omega),jy (by rw[aB];exact I)];exact x)
 ·have I:j<8:=by have:=(List.getElem?_eq_some_iff.1 x).1;rwa [aB] at this
  have:=D (16+j) v (by rw[jy (by rw[jj,aB,aB];omega),jx (by rw[aB];omega),aB,Nat.add_sub_cancel_left];exact x)
  rwa [Nat.zero_add] at this
 ·have:=D 24 (.int .i64 (u:Nat)) (by rw[jx (by rw[jj,aB,aB];omega),jj,aB,aB];rfl)
  rwa [Nat.zero_add] at this
theorem RG(key nn:Nat->Nat)(bs:List Nat)(A:Option Addr)(cap gc:Nat)(w:Wd)(b1:bG key)(c7:bG nn)(c5:bG (nth bs))(hB:Blk w gc 433 (tW key nn 0).toArray)(hs:Sn w 1 (.slice A bs.length cap) bs.length (n8 bs))(hl:bs.length<=1048576):
  Wc 284 #[.pointer (some ⟨gc,0,none⟩),.slice A bs.length cap] w λe w'=>∃ gb,e = .returned (.slice (some ⟨gb,0,none⟩) bs.length bs.length)/\AB w' gb 5 bs.length (c8 (iS key nn (nth bs) bs.length))/\w.heap.size<=gb/\OffB gc w w':=by
 have HS:=jz hs;have HB:=jz hB;have Z:=jz (fun(gb:Nat) (W:Wd) (h:AB W gb 5 bs.length (c8 (nth bs)))=>RF key nn (nth bs) gb bs.length W b1 c7 c5 h hl);have V:Hid (∀ W g,AB W g 5 bs.length (c8 λ_=>0)->AB (W.setCells g 0 (n8 bs)) g 5 bs.length (c8 (nth bs))):=jz (λW g h=>(AB.setL bs (off:=0) h).ext (λq hq=>by
  show Value.int .u8 ((if 0<=q/\q<0+bs.length then nth bs (q-0) else 0:Nat):Int)=Value.int .u8 ((nth bs q:Nat):Int)
  rw[jP (by omega),Nat.sub_zero]))
 have a4:=jz (dU bs);obtain⟨L,hL⟩:=je bs.length;rw[<- hL] at HS Z V hl ⊢;have d2:=IM L hl;clear hs hB hL;go_enter func284,ntmps284
 go_upto_region 4 with fail
 obtain⟨gb,a1⟩:=je w.heap.size;obtain⟨w1,R⟩:=je (w.alloc (.cells (arr L (c8 λ_=>0)).toArray 5));have x:Bw w w1:=by rw[R];exact aH _ _
 have a0:AB w1 gb 5 L (c8 λ_=>0):=by rw[R,a1];exact Blk.new _ _ _
 rw[<- R,<- a1];have a7:Hid (w1.there gb 0 L):=jz (a0.there (by omega));have a6:=jz (HS.below x);go_upto_region 5 with (refine cp (.tmp 11) (.tmp 12) rfl (by rfl) (b:=gb) (off:=0) (dn:=L) (dc:=L) (by rfl) (by rfl) underlying68 (by kernel_rfl) a6 (ja _) a7 a4 ?_)
 obtain⟨w2,U⟩:=je (w1.setCells gb 0 (n8 bs));have a8:AB w2 gb 5 L (c8 (nth bs)):=by rw[U];exact V _ _ a0
 have D:=cD gb (n8 bs) 0 w1;rw[<- U] at D;have c6:gc<w.heap.size:=HB.lt;have a2:gc≠gb:=by omega
 have O:Blk w2 gc 433 (tW key nn 0).toArray:=D.blk (HB.keep x) a2;have b0:OffB gc w w2:=⟨D.os.trans x.os,D.tape.trans x.tape,D.output.trans x.output,jm x.size D.size,λj hj _=>(D.block j (jp hj x.size) (by omega)).trans (x.block j hj)⟩;rw[<- U];have b7:=jz a8;have c3:=jz b0;have a3:Hid (w.heap.size<=gb):=jz (by omega);have a5:=jz a2;have J:=jz (fun(W:Wd) (h:Blk W gc 433 (tW key nn 0).toArray)=>NF h);simp only[jq];clear U a8 D c6 a2 b0 x a0 R a1 V a7 a6 HS a4
 -- region 5
 refine kZ (n:=14) (λW=>Blk W gc 433 (tW key nn 0).toArray) ((by exact O)) (h:=λhH=>?_);refine qM 0 (.pointer (some ⟨gc,0,none⟩)) ?_;refine qT 1 (.pointer (some ⟨gc,0,none⟩)) ?_;refine qT 2 (.pointer (some ⟨gc,0,none⟩)) ?_;refine qL 3 (cs:=arr 16 (c8 key)) (λW hX=>(J W hX).1) (aB _ _) ?_;refine qM 4 (.pointer (some ⟨gc,0,none⟩)) ?_;refine qT 5 (.pointer (some ⟨gc,0,none⟩)) ?_;refine qT 6 (.pointer (some ⟨gc,16,none⟩)) ?_;refine qL 7 (cs:=arr 8 (c8 nn)) (λW hX=>(J W hX).2.1) (aB _ _) ?_;refine qM 8 (.pointer (some ⟨gc,0,none⟩)) ?_;refine qT 9 (.pointer (some ⟨gc,0,none⟩)) ?_;refine qT 10 (.pointer (some ⟨gc,24,none⟩)) ?_;refine qC 11 (v:=.int .i64 0) (λW hX=>(J W hX).2.2) ?_;refine qM 12 (.slice (some ⟨gb,0,none⟩) L L) ?_;refine kF 13 (some 27) ((Z gb w2.drew b7).mono ?_);rintro e w3 ⟨rfl,a9,I⟩;have K:Blk w3 gc 433 (tW key nn 0).toArray:=(I.block gc O.lt a5).trans O;refine⟨_,rfl,K,λhH=>?_⟩;simp only[jq];refine kE (h:=?_)
 -- end of region 5
 have c9:=jz K;have c2:=jz a9;have c4:Hid (OffB gc w w3):=jz (by
  have h:=c3.out
  have hg:=a3.out
  exact⟨I.os.trans h.os,I.tape.trans h.tape,I.output.trans h.output,jm h.size I.size,λj hj hn=>(I.block j (jp hj h.size) (by omega)).trans (h.block j hj hn)⟩)
 have d0:=(J.out w3 K).2.2;have d1:=Blk.frozen (show Blk w3 gc 433 (tW key nn 0).toArray from K) 24;have d5:IntKind.i64.wrap (L:Int)=L:=IntWalk.i64_in _ (by omega);clear hH K a9 I O J Z;go_wp2_with fail
 go_ret;have h:=c4.out;exact⟨gb,rfl,c2.far (p:=⟨gc,24,none⟩) (by show gb≠gc;exact λe=>a5.out e.symm) _,a3,h.os,h.tape,h.output,by simpa using h.size,λj hj hn=>(Below.heap_setCell w3 ⟨gc,24,none⟩ _ j hn).trans (h.block j hj hn)⟩
theorem NG(key nn:Nat->Nat)(bs:List Nat)(A:Option Addr)(cap:Nat)(w:Wd)(a0:bG key)(b0:bG nn)(a8:bG (nth bs))(hs:Sn w 1 (.slice A bs.length cap) bs.length (n8 bs))(hl:bs.length<=1048576):
  Wc 221 #[.agg (arr 16 (c8 key)).toArray,.agg (arr 8 (c8 nn)).toArray,.slice A bs.length cap] w λe w'=>∃ gb,e = .returned (.slice (some ⟨gb,0,none⟩) bs.length bs.length)/\AB w' gb 5 bs.length (c8 (iS key nn (nth bs) bs.length))/\w.heap.size<=gb/\Bw w w':=by
 have HS:=jz hs;obtain⟨L,hL⟩:=je bs.length;have R:=jz (fun(gc:Nat) (W:Wd) (hb:Bw w W) (h:Blk W gc 433 (tW key nn 0).toArray)=>RG key nn bs A cap gc W a0 b0 a8 h (HS.below hb) hl);have a4:=jz (λW=>VH key nn W);rw[<- hL] at R ⊢;obtain⟨w1,I⟩:=je ((w.alloc (.cells (arr 16 (c8 key)).toArray 35)).alloc (.cells (arr 8 (c8 nn)).toArray 308));obtain⟨N,hN⟩:=je w.heap.size;have J:Hid (Bw w w1):=jz (by rw[I];exact aA (aH _ _) (aH _ _));have a5:Hid (w1.rangeAt N 0 (arr 16 (c8 key))):=jz (by rw[I,hN];exact AB.range (show AB _ _ 35 16 (c8 key) from(Blk.new _ _ _).alloc _));have a6:Hid (w1.rangeAt (N+1) 0 (arr 8 (c8 nn))):=jz (by rw[I,hN];exact AB.range (show AB _ _ 308 8 (c8 nn) from Blk.newAt _ _ _ _ (by simp)));have O:Hid ((prog.info? 35).map (·.size)=some (arr 16 (c8 key)).length):=jz (by rw[aB];kernel_rfl);have a3:Hid ((prog.info? 308).map (·.size)=some (arr 8 (c8 nn)).length):=jz (by rw[aB];kernel_rfl);clear hs hL;go_enter func221,ntmps221
 go_upto_region 1 with fail
 rw[<- I];simp only[World.size_alloc,<- hN];clear I;go_wp2_with (first
  | (refine ld 35 (.tmp 3) rfl rfl (by rfl) a5 underlying35 rfl O ?_)
  | (refine ld 308 (.tmp 4) rfl rfl (by rfl) a6 underlying308 rfl a3 ?_)
  | (go_at_call 283;refine(a4 _).mono ?_;rintro e w2 ⟨gc,rfl,U,Z,V⟩;have a1:=jz U;have K:=jz (aA J V);have a2:=jz Z;clear U V Z)
  | (go_at_call 284;refine(R gc w2 K a1).mono ?_;rintro e w3 ⟨gb,rfl,a7,a9,D⟩))
 first|go_ret|skip
 have hg:=a2.out;have b1:=J.size;have x:=K.out;exact⟨gb,rfl,a7,jm x.size a9,D.os.trans x.os,D.tape.trans x.tape,D.output.trans x.output,jm x.size D.size,λj hj=>(D.block j (jp hj x.size) (by omega)).trans (x.block j hj)⟩
end
section
open Go.RowKit
def SBy(l:Bs):ByteArray:=⟨l.toArray⟩
theorem bU(l:Bs):(SBy l).size=l.length:=by simp[SBy,ByteArray.size]
theorem o6(l:Bs):(SBy l).data.toList=l:=by simp[SBy]
def SOk(l:Bs):Prop:=l.length<=maxLen
def sv(l:Bs):Value:=.string (SBy l)
def sk(l:Bs):Lit:=.string l
theorem IN:Maps.Keyed prog 9:=Maps.Keyed.of_law (WideMaps.string_law underlying9)
theorem sE{d:Bs}(h:SOk d):keyOf prog 9 (sv d)=some (sk d):=by
 have:=WideMaps.keyOf_string_mk (P:=prog) underlying9 (s:=SBy d) (by rw[bU];exact h);rw[o6] at this;exact this
theorem YF{d d':Bs}(e:sk d=sk d'):d=d':=by
 unfold sk at e;exact Lit.string.inj e
theorem RH(d:Bs):WideAt.IsKeyLit (sk d):=trivial
def RV:Value->Option (DataW Value×List MemPlace):=λv=>some (.held v,[])
def SFits(D:DataW Value)(f:Bs->Option Value):Prop:=∀ k,SOk k->match f k with
 | none=>Maps.has D (sk k)=false
 | some v=>Maps.has D (sk k)=true/\∀ z,D.atKey (sk k) z = .held v
def SM(w:Wd)(b n:Nat)(f:Bs->Option Value):Prop:=∃ D,w.ownsMap prog 9 RV b n D/\SFits D f
def RI(f:Bs->Option Value)(k:Bs)(v:Value):Bs->Option Value:=λx=>if x=k then some v else f x
theorem SM.lt{w:Wd}{b n:Nat}{f:Bs->Option Value}(h:SM w b n f):b<w.heap.size:=by
 obtain⟨D,h,_⟩:=h;exact h.lt
theorem SM.of_block{w w':Wd}{b n:Nat}{f:Bs->Option Value}(h:SM w b n f)(e:w'.heap[b]? = w.heap[b]?):SM w' b n f:=by
 obtain⟨D,⟨j,clock,hb,r⟩,x⟩:=h;exact⟨D,⟨j,clock,e.trans hb,r⟩,x⟩
theorem SM.keep{w w':Wd}{b n:Nat}{f:Bs->Option Value}(h:SM w b n f)(hb:Bw w w'):SM w' b n f:=h.of_block (hb.block b h.lt)
theorem SM.mono{w:Wd}{b n m:Nat}{f:Bs->Option Value}(h:SM w b n f)(x:n<=m):SM w b m f:=by
 obtain⟨D,h,j⟩:=h;exact⟨D,h.mono x,j⟩
theorem SM.made(w:Wd):SM (w.alloc (.map #[] 0)) w.heap.size 0 (λ_=>none):=
 ⟨.map [],World.ownsMap_made _ _ _ _,λ_ _=>rfl⟩
theorem SM.madeAt(w:Wd)(b:Nat)(hb:w.heap.size=b):SM (w.alloc (.map #[] 0)) b 0 (λ_=>none):=by
 subst hb;exact SM.made w
theorem SM.congr{w:Wd}{b n:Nat}{f f':Bs->Option Value}(h:SM w b n f)(e:∀ k,SOk k->f k=f' k):SM w b n f':=by
 obtain⟨D,h,x⟩:=h;exact⟨D,h,λk j=>by rw[<- e k j];exact x k j⟩
theorem SFits.has{D:DataW Value}{f:Bs->Option Value}(h:SFits D f){k:Bs}(j:SOk k):Maps.has D (sk k)=(f k).isSome:=by
 have:=h k j;cases hf:f k with
 | none=>rw[hf] at this;exact this
 | some v=>rw[hf] at this;exact this.1
theorem SFits.at{D:DataW Value}{f:Bs->Option Value}(h:SFits D f){k:Bs}(j:SOk k)(z:Value):D.atKey (sk k) (.held z) = .held ((f k).getD z):=by
 have:=h k j;cases hf:f k with
 | none=>rw[hf] at this;exact Maps.atKey_of_not_has this _
 | some v=>rw[hf] at this;exact this.2 _
section
variable {w : Wd} {b n : Nat} {f : Bs -> Option Value} {tM e : TypeId} (ht : prog.underlying tM = some (.map 9 e))
include ht
theorem SM.look(h:SM w b n f){z:Value}(O:(zeroValue e).run prog w = .ok z w){k:Bs}(J:SOk k):
  (Instr.lookup tM (.map (some b)) (sv k) true).run prog w = .ok (.tuple #[(f k).getD z,.bool (f k).isSome]) w:=by
 obtain⟨D,j,K⟩:=h;obtain⟨v,ps,hrun,I⟩:=j.look_ok IN ht O (zd:=.held z) (zp:=[]) rfl (sE J);rw[K.has J] at hrun;rw[K.at J] at I;have I:=congrArg (λo:Option (DataW Value×List MemPlace)=>match o with|some (.held x,_)=>x|_=>undef) I;dsimp only [RV] at I;subst I;exact hrun
theorem SM.look1(h:SM w b n f){z:Value}(O:(zeroValue e).run prog w = .ok z w){k:Bs}(J:SOk k):
  (Instr.lookup tM (.map (some b)) (sv k) false).run prog w = .ok ((f k).getD z) w:=by
 obtain⟨D,j,K⟩:=h;obtain⟨v,ps,hrun,I⟩:=j.lookup IN ht O (zd:=.held z) (zp:=[]) rfl (sE J);rw[K.at J] at I;have I:=congrArg (λo:Option (DataW Value×List MemPlace)=>match o with|some (.held x,_)=>x|_=>undef) I;dsimp only [RV] at I;subst I;exact hrun
theorem SM.put_run(h:SM w b n f){k:Bs}(R:SOk k)(v:Value)(U:n<maxLen):
  ∃ w',(Instr.mapUpdate tM (.map (some b)) (sv k) v).run prog w = .ok () w'/\SM w' b (n+1) (RI f k v)/\w.mapTurned w' b:=by
 obtain⟨D,j,O⟩:=h;obtain⟨w',hrun,K,J⟩:=j.store IN ht U (sE R) (val:=v) (d:=.held v) (ps:=[]) rfl;refine⟨w',hrun,⟨_,K,λx V=>?_⟩,J⟩;unfold RI;by_cases hxk:x=k
 ·subst hxk;rw[jP rfl];exact⟨Maps.has_put_same j.isMap (RH x) _,λz=>Maps.atKey_put_same j.isMap (RH x) _ z⟩
 ·rw[jQ hxk];have I:sk x≠sk k:=λe=>hxk (YF e)
  have:=O x V;cases hfx:f x with
  | none=>rw[hfx] at this;exact(Maps.has_put_other I _).trans this
  | some t'=>
   rw[hfx] at this;exact⟨(Maps.has_put_other I _).trans this.1,λz=>(Maps.atKey_put_other I _ z).trans (this.2 z)⟩
theorem sPut{ops:Array Oper}{rest:List Oper}{o:Oper}{a:Act}{Q:Exit->Act->Wd->Prop}(m x v:Operand)(D:o.op=Op.mapUpdate tM m x v)(Z:Region.wanted o (yielded ops a.tmps)=true)(R:a.eval m = .map (some b))(h:SM w b n f){k:Bs}(O:SOk k)(hx:a.eval x = .string (SBy k))
  {val:Value} (V:a.eval v=val) (U:n<maxLen)
  (J:∀ w',SM w' b (n+1) (RI f k val)->w.mapTurned w' b->wpList prog ops Q rest (a.put o.dst undef) w'):wpList prog ops Q (o :: rest) a w:=by
 obtain⟨w',hrun,h1,I⟩:=h.put_run ht O val U;unfold sv at hrun;refine wpList_step λK j=>?_
 rw[jP Z];unfold Oper.wp execOp;simp only[D,R,hx,V,Sem.run_bind,hrun,Result.andThen_ok,Sem.run_pure];exact j _ _ (J w' h1 I)
end
end
section
open Go.RowKit
attribute [local irreducible] wpQuiet wpAnyH
def tkZ:Wa:=([Value.string ByteArray.empty,.slice none 0 0,.int .i64 0,.int .i64 0]++arr 16 (c8 λ_=>0)).toArray
def auZ:Wa:=#[.string ByteArray.empty,.slice none 0 0,.int .i64 0,.int .u32 0,.int .u32 0]
theorem eT:∀ w,(zeroValue 123).run prog w = .ok (.agg tkZ) w:=λw=>by unfold tkZ;kernel_rfl
theorem fC:∀ w,(zeroValue 125).run prog w = .ok (.agg auZ) w:=λw=>by unfold auZ;kernel_rfl
theorem lL:prog.built 123 []=some tkZ:=by unfold tkZ;kernel_rfl
theorem lM:prog.built 125 []=some auZ:=by unfold auZ;kernel_rfl
theorem bK:tkZ.size=20:=by unfold tkZ;rw[js];rfl
theorem tkI:(prog.info? 123).map (·.size)=some 20:=by kernel_rfl
theorem auI:(prog.info? 125).map (·.size)=some 5:=by kernel_rfl
theorem eY:tkZ.all (·.oneCell')=true:=by unfold tkZ;exact all_oneCell_toArray (λu j=>by
 rcases List.mem_append.1 j with h|h
 ·simp at h
  rcases h with rfl|rfl|rfl <;> rfl
 ·unfold arr at h
  obtain⟨k,_,rfl⟩:=List.mem_map.1 h
  rfl)
theorem eZ:auZ.all (·.oneCell')=true:=by unfold auZ;rw[List.all_toArray];rfl
theorem iT{P:Program}{w:Wd}{fn:Func}{p q x:Tmp}{ty D:TypeId}(h:fn.results=#[.cell p ty,.cell q D,.tmp x])(tmps:Wa){b off b2 j:Nat}{cs cs2:Wv}{d I:TypeDesc}(Z:tmps.getD p undef = .pointer (some ⟨b,off,none⟩))(V:w.rangeAt b off cs)
  (hu:P.underlying ty=some d) (hd:d.isRow=true) (hi:(P.info? ty).map (·.size)=some cs.length) (hq:tmps.getD q undef = .pointer (some ⟨b2,j,none⟩)) (J:w.rangeAt b2 j cs2)
  (R:P.underlying D=some I) (K:I.isRow=true) (O:(P.info? D).map (·.size)=some cs2.length):(results fn tmps).run P w = .ok (.tuple #[.agg cs.toArray,.agg cs2.toArray,tmps.getD x undef]) w:=by
 have h1:tmps[p]?.getD undef = .pointer (some ⟨b,off,none⟩):=by simpa using Z
 have U:tmps[q]?.getD undef = .pointer (some ⟨b2,j,none⟩):=by simpa using hq
 simp[results,h,h1,U,asAddr,Sem.run_bind,Result.andThen,run_loadVar_mid w b off ty cs d V hu hd hi,run_loadVar_mid w b2 j D cs2 I J R K O]
theorem sF(c:Int)(w:Wd):Wc 108 #[.int .i64 c] w (Rt w (.tuple #[.agg tkZ,.agg auZ,.int .i64 c])):=by
 go_enter func108,ntmps108
 go_upto_region 1 with (first
  | (refine al 123 tkZ rfl rfl eT ?_)
  | (refine al 125 auZ rfl rfl fC ?_))
 obtain⟨g,hg⟩:=je w.heap.size;obtain⟨w2,j⟩:=je ((w.alloc (.cells tkZ 123)).alloc (.cells auZ 125));have J:Hid (Bw w w2):=jz (by rw[j];exact((ji _ w).alloc (ja _) _).alloc (by simp) _);have HT:Hid (Blk w2 g 123 tkZ):=jz (by rw[j,hg];exact(Blk.new _ _ _).alloc _);have HA:Hid (Blk w2 (g+1) 125 auZ):=jz (by rw[j,hg];exact Blk.newAt _ _ _ _ (by simp));have HG:Hid (w.heap.size<=g):=jz (by omega);rw[<- j];simp only[World.size_alloc,<- hg];clear j hg;have x:(prog.info? 123).map (·.size)=some tkZ.size:=by rw[bK];exact tkI
 have D:(prog.info? 125).map (·.size)=some auZ.size:=auI;go_wp2_with (first
  | (refine eQ 123 _ rfl rfl rfl lL ?_)
  | (refine eQ 125 _ rfl rfl rfl lM ?_)
  | (refine aP 123 (.tmp 2) (.tmp 5) rfl rfl (by rfl) (by rfl) HT x rfl eY ?_;intro w3 O U a0 a2;have I:Hid (Blk w3 (g+1) 125 auZ):=jz ((a0 (g+1) (by omega)).trans HA))
  | (refine aP 125 (.tmp 3) (.tmp 6) rfl rfl (by rfl) (by rfl) I D rfl eZ ?_;intro w4 K V a1 a3))
 have R:Blk w4 g 123 tkZ:=(a1 g (by omega)).trans O;have Z:Bw w w4:=J.trans ((U.mono HG).trans (V.mono (by have:=HG.out;omega)));refine bodyPost_ret (iT (P:=prog) rfl _ rfl R.range underlying123 rfl (by rw[jk];exact x) rfl K.range underlying125 rfl (by rw[jk];exact D)) rfl ?_;exact⟨rfl,Z⟩
theorem sG(key:Nat->Nat)(b:Wl)(A:Option Addr)(cap:Nat)(w:Wd)(hs:Sn w 1 (.slice A b.length cap) b.length (u8s b))(hb:Bys b)(hl:b.length<=1000000)(U:(dD b).2.2=false):
  Wc 71 #[.agg (arr 16 (c8 key)).toArray,.slice A b.length cap] w (Rt w (.tuple #[.agg tkZ,.agg auZ,.int .i64 1])):=by
 have HP:=jz (λW (h:Sn W 1 (.slice A b.length cap) b.length (u8s b))=>wW b A cap W h hb hl);have HS:=jz hs;have HQ:=jz U;obtain⟨n,hn⟩:=je b.length;rw[<- hn] at HP HS ⊢;clear hs hb hl U hn;go_enter func71,ntmps71
 go_upto_region 1 with (first
  | (refine al 123 tkZ rfl rfl eT ?_)
  | (refine al 125 auZ rfl rfl fC ?_))
 obtain⟨g,hg⟩:=je w.heap.size;obtain⟨w2,j⟩:=je (((w.alloc (.cells (arr 16 (c8 key)).toArray 35)).alloc (.cells tkZ 123)).alloc (.cells auZ 125));have I:Hid (Bw w w2):=jz (by rw[j];exact(((ji _ w).alloc (ja _) _).alloc (by simp) _).alloc (by simp;omega) _);have HT:Hid (Blk w2 (g+1) 123 tkZ):=jz (by rw[j,hg];exact(Blk.newAt _ _ _ _ (by simp)).alloc _);have HA:Hid (Blk w2 (g+1+1) 125 auZ):=jz (by rw[j,hg];exact Blk.newAt _ _ _ _ (by simp));have HG:Hid (w.heap.size<=g):=jz (by omega);rw[<- j];simp only[World.size_alloc,<- hg];clear j hg;have V:(prog.info? 123).map (·.size)=some tkZ.size:=by rw[bK];exact tkI
 have Z:(prog.info? 125).map (·.size)=some auZ.size:=auI;have HH:Hid (∀ {W1 W2:Wd} {r e},VL W1 r e W2->Bw W1 W2):=jz (λh=>by obtain⟨_,_,_,_,_,_,_,h,_⟩:=h;exact h);go_wp2_with fail
 refine(HP w2 (HS.below I)).mono ?_;rintro e w3 ⟨A1,c1,A2,c2,rfl,_,_,x,_,_⟩;have a5:=jz (HT.keep x);have a0:=jz (HA.keep x);have a3:=jz (aA I x);have U:=HQ.out;obtain⟨n1,O⟩:=je ((dD b).1.length);obtain⟨n2,R⟩:=je ((dD b).2.1.length);rw[U,<- O,<- R];clear x U O R HP HT HA I;go_upto_region 4 with fail
 obtain⟨w4,K⟩:=je (w3.alloc (.cells #[.slice A1 n1 c1,.slice A2 n2 c2] 214));have J:Hid (Bw w3 w4):=jz (by rw[K];exact(ji _ _).alloc (ja _) _);rw[<- K];clear K;go_wp2_with fail
 refine(sF 1 w4).mono ?_;rintro e w5 ⟨rfl,D⟩;have a6:=jz ((a5.keep J).keep D);have a1:=jz ((a0.keep J).keep D);have a4:=jz (aA a3 (aA J D));clear D;go_wp2_with (first
  | (refine aP 123 (.tmp 4) (.tmp 19) rfl rfl (by rfl) (by rfl) a6 V rfl eY ?_;intro w6 a8 b0 c3 c5;have a2:Hid (Blk w6 (g+1+1) 125 auZ):=jz ((c3 (g+1+1) (by omega)).trans a1))
  | (refine aP 125 (.tmp 5) (.tmp 20) rfl rfl (by rfl) (by rfl) a2 Z rfl eZ ?_;intro w7 a7 b1 c4 c6))
 have a9:Blk w7 (g+1) 123 tkZ:=(c4 (g+1) (by omega)).trans a8;have b7:Bw w w7:=a4.trans ((b0.mono (by have:=HG.out;omega)).trans (b1.mono (by have:=HG.out;omega)));refine bodyPost_ret (iT (P:=prog) rfl _ rfl a9.range underlying123 rfl (by rw[jk];exact V) rfl a7.range underlying125 rfl (by rw[jk];exact Z)) rfl ?_;exact⟨rfl,b7⟩
end
section
open Go.RowKit
theorem aT(w:Wd)(o:Obj):Bw w (w.alloc o):=(ji _ w).alloc (ja _) o
def oA(c:Wl):Wv:=c.map (Value.int .i64)
theorem RJ{w:Wd}{A:Option Addr}{cap:Nat}{c:Wl}(h:Sn w 1 (.slice A c.length cap) c.length (oA c))(k:Nat)(D:k<c.length):
  ∃ b off,A=some ⟨b,off,none⟩/\w.cell? ⟨b,off+k,none⟩=some (.int .i64 c[k]):=by
 obtain⟨J,j,hv,_,_,I⟩:=h;injection hv with hA _ _
 subst hA;obtain⟨b,off,rfl,x⟩:=I (by omega);exact⟨b,off,rfl,x k _ (by simp[oA,D])⟩
theorem E0(k:Int)(w:Wd):
  Wc 59 #[.int .i64 k] w λe w'=>e = .returned (.string (SBy (b8 k)))/\w'=w:=by
 by_cases h1:k=1
 ·subst h1;go_enter func59,ntmps59
  go_wp2_with fail
  go_ret;exact⟨rfl,rfl⟩
 by_cases h2:k=2
 ·subst h2;go_enter func59,ntmps59
  go_wp2_with fail
  go_ret;exact⟨rfl,rfl⟩
 by_cases h3:k=3
 ·subst h3;go_enter func59,ntmps59
  go_wp2_with fail
  go_ret;exact⟨rfl,rfl⟩
 by_cases h4:k=4
 ·subst h4;go_enter func59,ntmps59
  go_wp2_with fail
  go_ret;exact⟨rfl,rfl⟩
 by_cases h5:k=5
 ·subst h5;go_enter func59,ntmps59
  go_wp2_with fail
  go_ret;exact⟨rfl,rfl⟩
 by_cases h6:k=6
 ·subst h6;go_enter func59,ntmps59
  go_wp2_with fail
  go_ret;exact⟨rfl,rfl⟩
 have e:b8 k=[]:=by unfold b8;simp[h1,h2,h3,h4,h5,h6]
 rw[e];have j:(k == 1)=false:=beq_eq_false_iff_ne.2 h1;have x:(k == 2)=false:=beq_eq_false_iff_ne.2 h2;have D:(k == 3)=false:=beq_eq_false_iff_ne.2 h3;have I:(k == 4)=false:=beq_eq_false_iff_ne.2 h4;have J:(k == 5)=false:=beq_eq_false_iff_ne.2 h5;have K:(k == 6)=false:=beq_eq_false_iff_ne.2 h6;clear h1 h2 h3 h4 h5 h6 e;go_enter func59,ntmps59
 go_wp2_with fail
 go_ret;exact⟨rfl,rfl⟩
theorem aM(c:Wl)(A:Option Addr)(cap:Nat)(w:Wd)(hs:Sn w 1 (.slice A c.length cap) c.length (oA c))(hm:c.length<=9223372036854775807):
  Wc 67 #[.slice A c.length cap] w λe w'=>e = .returned (.bool (iP c && decide (c.length<=20)))/\w'=w:=by
 have HS:=jz hs;clear hs;go_enter func67,ntmps67
 go_wp2_with fail
 go_loopw [7] (λi wr=>∃ k:Nat,k<=c.length/\i = .int .i64 k/\Hid (iP (c.take k)=true)/\wr=w) (λi _=>c.length-(intOf i).toNat)
 case atStart=>exact⟨0,j0 _,rfl,jz rfl,rfl⟩
 case round=>
  obtain⟨k,hk,rfl,V,Z⟩:=hrel;rw[Z];clear Z;rcases jo k c.length with j|a0
  ·obtain⟨b,off,eA,c0⟩:=RJ HS k j;subst eA;obtain⟨x,O⟩:=je (c[k]);rw[<- O] at c0;have K:=jz O;clear O;have a1:(0:Int)<=k:=by omega
   have a2:(k:Int)<c.length:=by omega
   rcases jb (decide (x<0)) with R|R
   ·have I:Hid (iP c=false):=jz (by
     rw[Bool.eq_false_iff]
     intro h
     have h:=List.all_eq_true.1 h c[k] (List.getElem_mem j)
     rw[<- K.out] at h
     simp only[Bool.and_eq_true,decide_eq_true_eq] at h R
     omega)
    go_wp2_with fail
    go_ret;exact⟨by rw[I.out];rfl,rfl⟩
   ·rcases jb (decide ((64:Int)<x)) with U|U
    ·have I:Hid (iP c=false):=jz (by
      rw[Bool.eq_false_iff]
      intro h
      have h:=List.all_eq_true.1 h c[k] (List.getElem_mem j)
      rw[<- K.out] at h
      simp only[Bool.and_eq_true,decide_eq_true_eq] at h U
      omega)
     go_wp2_with fail
     go_ret;exact⟨by rw[I.out];rfl,rfl⟩
    ·have HN:Hid (iP (c.take (k+1))=true):=jz (by
      have h:=V.out
      unfold iP at h ⊢
      rw[j6 j,List.all_append,h,<- K.out]
      have h1:=of_decide_eq_false R
      have h2:=of_decide_eq_false U
      simp;omega)
     go_wp2_with fail
     exact⟨⟨k+1,by omega,by go_num,HN,by trivial⟩,by simp[intOf];omega⟩
  ·obtain rfl:k=c.length:=by omega
   have D:=V.out;rw[List.take_length] at D;have J:=jz D;clear D;go_wp2_with fail
   go_ret;refine⟨?_,rfl⟩;rw[J.out];simp;omega
theorem iE{α:Type}{l:List α}(h:l.isEmpty=false):((l.length:Int) != 0)=true:=by
 rw[bne_iff_ne];intro e;have:l=[]:=List.length_eq_zero_iff.1 (by omega);rw[this] at h;cases h
theorem iY{α:Type}{l:List α}(h:l.isEmpty=true):((l.length:Int) != 0)=false:=by
 rw[List.isEmpty_iff] at h;subst h;rfl
theorem sH(k n:Int)(d:Bs)(c:Wl)(A B:Option Addr)(ca cb:Nat)(w:Wd)(O:Sn w 1 (.slice B c.length cb) c.length (oA c))(j:c.length<=9223372036854775807)(R:d.length<=9223372036854775807):
  Wc 37 #[.agg #[.int .i64 k,.int .i64 n,.slice A d.length ca,.slice B c.length cb]] w (Rt w (.bool (aD ⟨k,n,d,c⟩))):=by
 have I:=jz O;clear O;by_cases h1:k=1
 ·subst h1;rcases jb d.isEmpty with D|D
  ·have J:=iY D;rcases jb c.isEmpty with c0|c0
   ·have c1:=iY c0;rcases jb (decide ((0:Int)<=n)) with t|t
    ·have x:Hid (decide (n<=1099511627776)=aD ⟨1,n,d,c⟩):=jz (by unfold aD;(simp[D,c0,t]) <;> omega);go_enter func37,ntmps37
     go_wp2_with (go_at_call 67;refine(aM c B cb _ (I.below (aT _ _)) j).mono ?_;rintro e w' ⟨rfl,rfl⟩)
     go_ret;exact⟨congrArg (λb=>Ending.returned (Value.bool b)) x,aT _ _⟩
    ·have x:Hid (false=aD ⟨1,n,d,c⟩):=jz (by unfold aD;(simp[D,c0,t]) <;> omega);go_enter func37,ntmps37
     go_wp2_with (go_at_call 67;refine(aM c B cb _ (I.below (aT _ _)) j).mono ?_;rintro e w' ⟨rfl,rfl⟩)
     go_ret;exact⟨congrArg (λb=>Ending.returned (Value.bool b)) x,aT _ _⟩
   ·have c1:=iE c0;have x:Hid (false=aD ⟨1,n,d,c⟩):=jz (by unfold aD;(simp[D,c0]) <;> omega);go_enter func37,ntmps37
    go_wp2_with (go_at_call 67;refine(aM c B cb _ (I.below (aT _ _)) j).mono ?_;rintro e w' ⟨rfl,rfl⟩)
    go_ret;exact⟨congrArg (λb=>Ending.returned (Value.bool b)) x,aT _ _⟩
  ·have J:=iE D;have x:Hid (false=aD ⟨1,n,d,c⟩):=jz (by unfold aD;(simp[D]) <;> omega);go_enter func37,ntmps37
   go_wp2_with (go_at_call 67;refine(aM c B cb _ (I.below (aT _ _)) j).mono ?_;rintro e w' ⟨rfl,rfl⟩)
   go_ret;exact⟨congrArg (λb=>Ending.returned (Value.bool b)) x,aT _ _⟩
 by_cases h2:k=2
 ·subst h2;rcases jb d.isEmpty with D|D
  ·have J:=iY D;rcases jb c.isEmpty with c0|c0
   ·have c1:=iY c0;have x:Hid ((n == 0)=aD ⟨2,n,d,c⟩):=jz (by unfold aD;(simp[D,c0]) <;> omega);go_enter func37,ntmps37
    go_wp2_with (go_at_call 67;refine(aM c B cb _ (I.below (aT _ _)) j).mono ?_;rintro e w' ⟨rfl,rfl⟩)
    go_ret;exact⟨congrArg (λb=>Ending.returned (Value.bool b)) x,aT _ _⟩
   ·have c1:=iE c0;have x:Hid (false=aD ⟨2,n,d,c⟩):=jz (by unfold aD;(simp[D,c0]) <;> omega);go_enter func37,ntmps37
    go_wp2_with (go_at_call 67;refine(aM c B cb _ (I.below (aT _ _)) j).mono ?_;rintro e w' ⟨rfl,rfl⟩)
    go_ret;exact⟨congrArg (λb=>Ending.returned (Value.bool b)) x,aT _ _⟩
  ·have J:=iE D;have x:Hid (false=aD ⟨2,n,d,c⟩):=jz (by unfold aD;(simp[D]) <;> omega);go_enter func37,ntmps37
   go_wp2_with (go_at_call 67;refine(aM c B cb _ (I.below (aT _ _)) j).mono ?_;rintro e w' ⟨rfl,rfl⟩)
   go_ret;exact⟨congrArg (λb=>Ending.returned (Value.bool b)) x,aT _ _⟩
 by_cases h3:k=3
 ·subst h3;rcases jb c.isEmpty with c0|c0
  ·have c1:=iY c0;rcases jb (n == 0) with t|t
   ·have x:Hid (decide ((d.length:Int)<=131072)=aD ⟨3,n,d,c⟩):=jz (by unfold aD;(simp[c0,t]) <;> omega);go_enter func37,ntmps37
    go_wp2_with (go_at_call 67;refine(aM c B cb _ (I.below (aT _ _)) j).mono ?_;rintro e w' ⟨rfl,rfl⟩)
    go_ret;exact⟨congrArg (λb=>Ending.returned (Value.bool b)) x,aT _ _⟩
   ·have x:Hid (false=aD ⟨3,n,d,c⟩):=jz (by unfold aD;(simp[c0,t]) <;> omega);go_enter func37,ntmps37
    go_wp2_with (go_at_call 67;refine(aM c B cb _ (I.below (aT _ _)) j).mono ?_;rintro e w' ⟨rfl,rfl⟩)
    go_ret;exact⟨congrArg (λb=>Ending.returned (Value.bool b)) x,aT _ _⟩
  ·have c1:=iE c0;have x:Hid (false=aD ⟨3,n,d,c⟩):=jz (by unfold aD;(simp[c0]) <;> omega);go_enter func37,ntmps37
   go_wp2_with (go_at_call 67;refine(aM c B cb _ (I.below (aT _ _)) j).mono ?_;rintro e w' ⟨rfl,rfl⟩)
   go_ret;exact⟨congrArg (λb=>Ending.returned (Value.bool b)) x,aT _ _⟩
 by_cases h4:k=4
 ·subst h4;rcases jb d.isEmpty with D|D
  ·have J:=iY D;rcases jb c.isEmpty with c0|c0
   ·have c1:=iY c0;have x:Hid ((n == 0)=aD ⟨4,n,d,c⟩):=jz (by unfold aD;(simp[D,c0]) <;> omega);go_enter func37,ntmps37
    go_wp2_with (go_at_call 67;refine(aM c B cb _ (I.below (aT _ _)) j).mono ?_;rintro e w' ⟨rfl,rfl⟩)
    go_ret;exact⟨congrArg (λb=>Ending.returned (Value.bool b)) x,aT _ _⟩
   ·have c1:=iE c0;have x:Hid (false=aD ⟨4,n,d,c⟩):=jz (by unfold aD;(simp[D,c0]) <;> omega);go_enter func37,ntmps37
    go_wp2_with (go_at_call 67;refine(aM c B cb _ (I.below (aT _ _)) j).mono ?_;rintro e w' ⟨rfl,rfl⟩)
    go_ret;exact⟨congrArg (λb=>Ending.returned (Value.bool b)) x,aT _ _⟩
  ·have J:=iE D;have x:Hid (false=aD ⟨4,n,d,c⟩):=jz (by unfold aD;(simp[D]) <;> omega);go_enter func37,ntmps37
   go_wp2_with (go_at_call 67;refine(aM c B cb _ (I.below (aT _ _)) j).mono ?_;rintro e w' ⟨rfl,rfl⟩)
   go_ret;exact⟨congrArg (λb=>Ending.returned (Value.bool b)) x,aT _ _⟩
 by_cases h5:k=5
 ·subst h5;rcases jb d.isEmpty with D|D
  ·have J:=iY D;rcases jb c.isEmpty with c0|c0
   ·have c1:=iY c0;rcases jb (decide ((1:Int)<=n)) with t|t
    ·have x:Hid (decide (n<=1048576)=aD ⟨5,n,d,c⟩):=jz (by unfold aD;(simp[D,c0,t]) <;> omega);go_enter func37,ntmps37
     go_wp2_with (go_at_call 67;refine(aM c B cb _ (I.below (aT _ _)) j).mono ?_;rintro e w' ⟨rfl,rfl⟩)
     go_ret;exact⟨congrArg (λb=>Ending.returned (Value.bool b)) x,aT _ _⟩
    ·have x:Hid (false=aD ⟨5,n,d,c⟩):=jz (by unfold aD;(simp[D,c0,t]) <;> omega);go_enter func37,ntmps37
     go_wp2_with (go_at_call 67;refine(aM c B cb _ (I.below (aT _ _)) j).mono ?_;rintro e w' ⟨rfl,rfl⟩)
     go_ret;exact⟨congrArg (λb=>Ending.returned (Value.bool b)) x,aT _ _⟩
   ·have c1:=iE c0;have x:Hid (false=aD ⟨5,n,d,c⟩):=jz (by unfold aD;(simp[D,c0]) <;> omega);go_enter func37,ntmps37
    go_wp2_with (go_at_call 67;refine(aM c B cb _ (I.below (aT _ _)) j).mono ?_;rintro e w' ⟨rfl,rfl⟩)
    go_ret;exact⟨congrArg (λb=>Ending.returned (Value.bool b)) x,aT _ _⟩
  ·have J:=iE D;have x:Hid (false=aD ⟨5,n,d,c⟩):=jz (by unfold aD;(simp[D]) <;> omega);go_enter func37,ntmps37
   go_wp2_with (go_at_call 67;refine(aM c B cb _ (I.below (aT _ _)) j).mono ?_;rintro e w' ⟨rfl,rfl⟩)
   go_ret;exact⟨congrArg (λb=>Ending.returned (Value.bool b)) x,aT _ _⟩
 by_cases h6:k=6
 ·subst h6;rcases jb d.isEmpty with D|D
  ·have J:=iY D;rcases jb (decide ((0:Int)<=n)) with t|t
   ·rcases jb (decide (n<=1048576)) with K|K
    ·have x:Hid ((iP c && decide (c.length<=20))=aD ⟨6,n,d,c⟩):=jz (by unfold aD;(simp[D,t,K]) <;> omega);go_enter func37,ntmps37
     go_wp2_with (go_at_call 67;refine(aM c B cb _ (I.below (aT _ _)) j).mono ?_;rintro e w' ⟨rfl,rfl⟩)
     go_ret;exact⟨congrArg (λb=>Ending.returned (Value.bool b)) x,aT _ _⟩
    ·have x:Hid (false=aD ⟨6,n,d,c⟩):=jz (by unfold aD;(simp[D,t,K]) <;> omega);go_enter func37,ntmps37
     go_wp2_with (go_at_call 67;refine(aM c B cb _ (I.below (aT _ _)) j).mono ?_;rintro e w' ⟨rfl,rfl⟩)
     go_ret;exact⟨congrArg (λb=>Ending.returned (Value.bool b)) x,aT _ _⟩
   ·have x:Hid (false=aD ⟨6,n,d,c⟩):=jz (by unfold aD;(simp[D,t]) <;> omega);go_enter func37,ntmps37
    go_wp2_with (go_at_call 67;refine(aM c B cb _ (I.below (aT _ _)) j).mono ?_;rintro e w' ⟨rfl,rfl⟩)
    go_ret;exact⟨congrArg (λb=>Ending.returned (Value.bool b)) x,aT _ _⟩
  ·have J:=iE D;have x:Hid (false=aD ⟨6,n,d,c⟩):=jz (by unfold aD;(simp[D]) <;> omega);go_enter func37,ntmps37
   go_wp2_with (go_at_call 67;refine(aM c B cb _ (I.below (aT _ _)) j).mono ?_;rintro e w' ⟨rfl,rfl⟩)
   go_ret;exact⟨congrArg (λb=>Ending.returned (Value.bool b)) x,aT _ _⟩
 have U:(k == 1)=false:=beq_eq_false_iff_ne.2 h1;have K:(k == 2)=false:=beq_eq_false_iff_ne.2 h2;have V:(k == 3)=false:=beq_eq_false_iff_ne.2 h3;have Z:(k == 4)=false:=beq_eq_false_iff_ne.2 h4;have t5:(k == 5)=false:=beq_eq_false_iff_ne.2 h5;have t6:(k == 6)=false:=beq_eq_false_iff_ne.2 h6;have u3:(k != 3)=true:=bne_iff_ne.2 h3;have u6:(k != 6)=true:=bne_iff_ne.2 h6;rcases jb d.isEmpty with D|D
 ·have J:=iY D;rcases jb c.isEmpty with c0|c0
  ·have c1:=iY c0;have x:Hid (false=aD ⟨k,n,d,c⟩):=jz (by unfold aD;(simp[h1,h2,h3,h4,h5,h6,D,c0]) <;> omega);go_enter func37,ntmps37
   go_wp2_with (go_at_call 67;refine(aM c B cb _ (I.below (aT _ _)) j).mono ?_;rintro e w' ⟨rfl,rfl⟩)
   go_ret;exact⟨congrArg (λb=>Ending.returned (Value.bool b)) x,aT _ _⟩
  ·have c1:=iE c0;have x:Hid (false=aD ⟨k,n,d,c⟩):=jz (by unfold aD;(simp[h1,h2,h3,h4,h5,h6,D,c0]) <;> omega);go_enter func37,ntmps37
   go_wp2_with (go_at_call 67;refine(aM c B cb _ (I.below (aT _ _)) j).mono ?_;rintro e w' ⟨rfl,rfl⟩)
   go_ret;exact⟨congrArg (λb=>Ending.returned (Value.bool b)) x,aT _ _⟩
 ·have J:=iE D;have x:Hid (false=aD ⟨k,n,d,c⟩):=jz (by unfold aD;(simp[h1,h2,h3,h4,h5,h6,D]) <;> omega);go_enter func37,ntmps37
  go_wp2_with (go_at_call 67;refine(aM c B cb _ (I.below (aT _ _)) j).mono ?_;rintro e w' ⟨rfl,rfl⟩)
  go_ret;exact⟨congrArg (λb=>Ending.returned (Value.bool b)) x,aT _ _⟩
theorem VR{w:Wd}{A:Option Addr}{cap:Nat}{c:Bs}(h:Sn w 1 (.slice A c.length cap) c.length (Lib.byteCells c))(k:Nat)(D:k<c.length):
  ∃ b off,A=some ⟨b,off,none⟩/\w.cell? ⟨b,off+k,none⟩=some (.int .u8 (c[k].toNat:Int)):=by
 obtain⟨J,j,hv,_,_,I⟩:=h;injection hv with hA _ _
 subst hA;obtain⟨b,off,rfl,x⟩:=I (by omega);exact⟨b,off,rfl,x k _ (by simp[Lib.byteCells,D])⟩
end
end Go.Proofs.YtiaigidbcljblaaGreatDoor
