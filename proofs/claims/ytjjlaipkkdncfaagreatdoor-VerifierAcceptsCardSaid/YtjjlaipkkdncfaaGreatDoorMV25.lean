import Derived.Test.YtjjlaipkkdncfaaGreatDoorMV22
import Derived.Test.YtjjlaipkkdncfaaGreatDoorMV21
import Derived.Test.YtjjlaipkkdncfaaGreatDoorMV18
set_option linter.unusedVariables false
set_option linter.unusedSimpArgs false
set_option maxRecDepth 100000
set_option maxHeartbeats 40000000
namespace Go.Proofs.YtjjlaipkkdncfaaGreatDoor
open Go.Proofs.Tryz
section
open Go.RowKit
attribute [local irreducible] wpQuiet wpAnyH
attribute [local go_sem] Oper.semAt_some
def d8(key nn f:Nat->Nat)(n:Nat):Nat->Nat:=λj=>if j<n then f j ^^^ dV key (dQ nn (j/16)) (j % 16) else f j
structure OffB(b:Nat)(w w':Wd):Prop where
 os:w'.os=w.os
 tape:w'.tape=w.tape
 output:w'.output=w.output
 size:w.heap.size<=w'.heap.size
 block:∀ j,j<w.heap.size->j≠b->w'.heap[j]? = w.heap[j]?
structure MS(w:Wd)(gb N L cap k:Nat)(G:Nat->Nat)(T:bW)(U:Wd):Prop where
 b:AB U gb 5 L (c8 G)
 h:Blk U (N+2) 60 #[.slice (some ⟨gb,16*k,none⟩) (L-16*k) (cap-16*k)]
 s:Blk U (N+3) 3 #[.int .i64 0]
 gbN:gb<N
 oth:∀ j,j<N->j≠gb->U.heap[j]? = w.heap[j]?
 os:U.os=w.os
 tape:U.tape=w.tape
 output:U.output=w.output
 tin:T gb/\T (N+2)/\T (N+3)
 tsub:∀ j,T j->j=gb\/j=N+2\/j=N+3\/N+7<=j
 tlt:∀ j,T j->j<U.heap.size
 size:N+7<=U.heap.size
structure MR(w:Wd)(gb N L:Nat)(G:Nat->Nat)(T:bW)(U:Wd):Prop where
 b:AB U gb 5 L (c8 G)
 gbN:gb<N
 oth:∀ j,j<N->j≠gb->U.heap[j]? = w.heap[j]?
 os:U.os=w.os
 tape:U.tape=w.tape
 output:U.output=w.output
 tin:T gb
 size:N+7<=U.heap.size
section
variable {w A B : Wd} {gb N L cap k M : Nat} {G : Nat -> Nat} {T : bW}
theorem MS.stab(h:MS w gb N L cap k G T A)(K:N+4<=M)(D:Lies (λk=>T k\/(k<M/\¬ZBc (N+4) k)) A B):MS w gb N L cap k G T B:=
 ⟨(D.block _ h.b.lt (.inl h.tin.1)).trans h.b,(D.block _ h.h.lt (.inl h.tin.2.1)).trans h.h,(D.block _ h.s.lt (.inl h.tin.2.2)).trans h.s,h.gbN,
  λj I J=>(D.block j (by have:=h.size;omega) (.inr ⟨by omega,λe=>by unfold ZBc at e;omega⟩)).trans (h.oth j I J),D.os.trans h.os,D.tape.trans h.tape,D.output.trans h.output,h.tin,h.tsub,
  λj I=>jp (h.tlt j I) D.size,jm h.size D.size⟩
theorem MR.stab(h:MR w gb N L G T A)(K:N+4<=M)(D:Lies (λk=>T k\/(k<M/\¬ZBc (N+4) k)) A B):MR w gb N L G T B:=
 ⟨(D.block _ h.b.lt (.inl h.tin)).trans h.b,h.gbN,
  λj I J=>(D.block j (by have:=h.size;omega) (.inr ⟨by omega,λe=>by unfold ZBc at e;omega⟩)).trans (h.oth j I J),D.os.trans h.os,D.tape.trans h.tape,D.output.trans h.output,h.tin,jm h.size D.size⟩
end
structure MkX(gb gn N k i R cap y:Nat)(W:Wd):Prop where
 h:W.cell? ⟨N+2,0,none⟩=some (.slice (some ⟨gb,16*k,none⟩) R (cap-16*k))
 s:W.cell? ⟨N+3,0,none⟩=some (.int .i64 0)
 y:W.cell? ⟨gn,i,none⟩=some (.int .u8 (y:Nat))
theorem OB(key nn f:Nat->Nat){k i:Nat}(hi:i<16):aY (d8 key nn f (16*k+i)) (16*k+i) (f (16*k+i) ^^^ dV key (dQ nn k) i)=d8 key nn f (16*k+(i+1)):=by
 funext q
 have h1:(16*k+i)/16=k:=by omega
 have D:(16*k+i) % 16=i:=by omega
 unfold aY d8;by_cases e:q=16*k+i
 ·rw[jP e,jP (by omega),e,h1,D]
 ·rw[jQ e];by_cases e2:q<16*k+i
  ·rw[jP e2,jP (by omega)]
  ·rw[jQ e2,jQ (by omega)]
theorem OC{J m x:Nat}{D:List Nat}(h:D++[x] <+: List.range' J m):x=J+D.length/\D.length<m:=by
 obtain⟨r,I⟩:=h;have K:=congrArg List.length I;simp at K;have h1:=congrArg (λl=>l[D.length]?) I;simp at h1;rw[List.getElem?_range' (by omega)] at h1;simp at h1;omega
theorem OD(key nn f:Nat->Nat)(gb L cap:Nat)(w:Wd)(b2:aQ key)(f2:aQ nn)(hf:aQ f)(hb:AB w gb 5 L (c8 f))(hL:0<L)(m6:L<=cap)(hc:cap<=1048576):
  Wc 235 #[.agg (arr 16 (c8 key)).toArray,.agg (arr 8 (c8 nn)).toArray,.int .i64 0,.slice (some ⟨gb,0,none⟩) L cap] w λe w'=>e = .returned (.tuple #[])/\AB w' gb 5 L (c8 (d8 key nn f L))/\OffB gb w w':=by
 have n2:¬(L:Int)=0:=by omega
 have f7:=jz hf;have f6:Hid (∀ k,aQ (dV key (dQ nn k))):=jz (λk=>pG b2 (lU f2 k 8));refine rQ func235 rfl ?_;simp only[ntmps235,js,List.length_cons,List.length_nil,Nat.reduceAdd,Nat.reduceSub,Array.replicate_succ,Array.replicate_zero,List.push_toArray,List.append_toArray,List.nil_append,List.cons_append];refine wpIn_wide.2 ?_;have c6:Hid ((prog.info? 41).map (·.size)=some (arr 16 (c8 key)).length):=jz (by rw[aA];kernel_rfl);have g2:Hid ((prog.info? 100).map (·.size)=some (arr 8 (c8 nn)).length):=jz (by rw[aA];kernel_rfl);go_upto_region 3 with fail
 obtain⟨N,hN⟩:=je w.heap.size;obtain⟨w1,a1⟩:=je ((((w.alloc (.cells (arr 16 (c8 key)).toArray 41)).alloc (.cells (arr 8 (c8 nn)).toArray 100)).alloc (.cells #[.slice (some ⟨gb,0,none⟩) L cap] 60)).alloc (.cells #[.int .i64 0] 3));have e5:Bw w w1:=by rw[a1];exact aB (aB (aB (aV _ _) (aV _ _)) (aV _ _)) (aV _ _)
 have c4:w1.heap.size=N+4:=by rw[a1,hN];simp
 have k0:AB w1 N 41 16 (c8 key):=by rw[a1,hN];exact(((Blk.new _ _ _).alloc _).alloc _).alloc _
 have k1:AB w1 (N+1) 100 8 (c8 nn):=by rw[a1,hN];exact((Blk.newAt _ _ _ _ (by simp)).alloc _).alloc _
 have k2:Blk w1 (N+2) 60 #[.slice (some ⟨gb,0,none⟩) L cap]:=by rw[a1,hN];exact(Blk.newAt _ _ _ _ (by simp)).alloc _
 have k3:Blk w1 (N+3) 3 #[.int .i64 0]:=by rw[a1,hN];exact Blk.newAt _ _ _ _ (by simp)
 have d0:=jz k0.range;have d1:=jz k1.range;have h9:gb<N:=by rw[hN];exact hb.lt
 have b7:=jz (E9 key nn 0 w1);rw[c4] at b7;have f9:=jz hb;rw[<- a1];simp only[Nat.add_assoc,Nat.reduceAdd,<- hN];have HN:=jz hN;have f5:=jz e5;have n0:=jz c4;have g0:=jz k2;have g1:=jz k3;clear a1 k0 k1 k2 k3 hb e5 c4 hN;go_wp2_with (first
  | (refine ld 41 (.tmp 4) rfl rfl (by rfl) d0 underlying41 rfl c6 ?_)
  | (refine ld 100 (.tmp 5) rfl rfl (by rfl) d1 underlying100 rfl g2 ?_)
  | (go_at_call 248;refine b7.mono ?_;rintro e W ⟨rfl,hW⟩))
 have h8:N+7<=W.heap.size:=by
  have h1:=hW.i.lt;omega
 have a7:Hid (Bw w W):=jz (aB f5 hW.be);have d3:=jz (RO key nn 0 L (N+4) W b2 f2 (by omega) hW.k hW.n hW.i);have c3:Bw w1 W:=hW.be
 have g8:Hid (MS w gb N L cap 0 (d8 key nn f 0) (λj=>j=gb\/j=N+2\/j=N+3) W):=jz {
  b:=(f9.keep a7).ext (λj _=>by unfold c8 d8;simp)
  h:=by have:=g0.keep c3;simpa using this
  s:=g1.keep c3
  gbN:=h9
  oth:=λj hj _=>a7.block j (by rw[<- HN.out];exact hj)
  os:=a7.os
  tape:=a7.tape
  output:=a7.output
  tin:=⟨.inl rfl,.inr (.inl rfl),.inr (.inr rfl)⟩
  tsub:=λj hj=>by rcases hj with h|h|h <;> simp[h]
  tlt:=λj hj=>by rcases hj with h|h|h <;> omega
  size:=h8 }
 clear hW c3 b7 d0 d1;refine(wpIn_wide (n:=9)).1 ?_;refine kY (w0:=W) (all:=List.range' 0 L) (encs:=IC key nn) (Z:=ZBc (N+4)) (X:=XBc (N+4)) rfl (λh=>by cases h) (gf:=253) (lb:=#[.pointer (some ⟨N+4,0,none⟩),.pointer (some ⟨N+4+1,0,none⟩),.pointer (some ⟨N+4+1+1,0,none⟩)]) rfl trivial (enters_of func253 (by kernel_rfl) rfl)
  (SeqZ.any d3) (ji _ _) (λ_=>rfl) (λk h=>by unfold ZBc at h;omega)
  (λI T U=>16*I.length<L/\MS w gb N L cap I.length (d8 key nn f (16*I.length)) T U)
  (λc I T U=>c = .ret/\MR w gb N L (d8 key nn f L) T U)
  (λI x a' T U=>∃ gn,16*I.length<L/\MS w gb N L cap I.length (d8 key nn f (16*I.length)) T U/\AB U gn 41 16 (c8 (dV key (dQ nn x)))/\N+7<=gn/\T gn/\a'={ tmps:=#[.agg (arr 16 (c8 key)).toArray,.agg (arr 8 (c8 nn)).toArray,.int .i64 0,.slice (some ⟨gb,0,none⟩) L cap,.pointer (some ⟨N,0,none⟩),.pointer (some ⟨N+1,0,none⟩),undef,.pointer (some ⟨N+2,0,none⟩),.pointer (some ⟨N+3,0,none⟩),.pointer (some ⟨gn,0,none⟩),undef,undef,.slice (some ⟨gb,0,none⟩) L cap,.int .i64 L,.bool false,.int .i64 0,.int .i64 0,.agg (arr 16 (c8 key)).toArray,.agg (arr 8 (c8 nn)).toArray,.int .i64 0,.int .i64 0,.int .u64 0,WC (N+4),.agg (arr 16 (c8 (dV key (dQ nn x)))).toArray,undef,undef,undef,undef,undef,undef,undef,undef,undef,undef,undef,undef,undef,undef,undef,undef,undef,undef,undef,undef,undef,undef,undef,undef,undef,undef,undef],defers:=[] })
  (λj=>j=gb\/j=N+2\/j=N+3)
  (λst T A' B h a4=>⟨h.1,h.2.stab (M:=W.heap.size) (by omega) a4⟩)
  (λc st T A' B h a4=>⟨h.1,h.2.stab (M:=W.heap.size) (by omega) a4⟩)
  (λI x a' _ T A' B h a4=>by
   obtain⟨gn,h0,h1,V,h3,h4,h5⟩:=h
   exact⟨gn,h0,h1.stab (M:=W.heap.size) (by omega) a4,(a4.block _ V.lt (.inl h4)).trans V,h3,h4,h5⟩)
  (λst T A' h k hk=>h.2.tlt k hk)
  (λk hk hx=>by
   rcases hk with h|h|h <;> rcases hx with h'|h'|h' <;> omega)
  ⟨by simpa using hL,g8⟩
  ?assign ?body ?done ?stop (λ_ T U h=>by
   have:=h.1
   simp at this
   omega)
 case assign=>
  rintro ln I x T U k5 K m2 ⟨h0,hI⟩;have HI:=jz hI;have b9:=jz h0;clear hI K h0;have HBZ:Hid ((prog.info? 41).map (·.size)=some (arr 16 (c8 (dV key (dQ nn x)))).toArray.size/\z8x16.size=(arr 16 (c8 (dV key (dQ nn x)))).toArray.size):=jz ⟨by rw[js,aA];kernel_rfl,by rw[show(arr 16 (c8 (dV key (dQ nn x)))).toArray.size=16 by simp[arr]];rfl⟩;simp only[IC,List.zip_toArray,List.zip_cons_cons,List.zip_nil_left,List.zip_nil_right,List.foldl_toArray,List.foldl_toArray',List.foldl_cons,List.foldl_nil,List.setIfInBounds_toArray,List.set_cons_succ,List.set_cons_zero];gi_wp2_with (first
   | (refine iAl 41 _ rfl (cU _) rfl cK ?_)
   | (refine uC (cells:=(arr 16 (c8 (dV key (dQ nn x)))).toArray) (old:=z8x16) 41 (.tmp 9) (.tmp 23) rfl (cU _) rfl (by rfl) (by rfl) (by exact HBZ.out.1) (by exact HBZ.out.2) (by exact aP (λ_=>rfl)) ?_;intro U2 e4))
  have e6:Bw U U2:=by rw[e4];exact aV _ _
  have d5:AB U2 U.heap.size 41 16 (c8 (dV key (dQ nn x))):=by rw[e4];exact Blk.new _ _ _
  have V:=HI.stab (M:=N+4) (ja _) (Lies.of_below e6);have f1:=d5.lt;have m1:=HI.size;refine⟨λk=>T k\/k=U.heap.size,(Turn.of_below e6).grow (λk hk=>hk.imp id (λh=>by omega)),U.heap.size,b9,⟨V.b,V.h,V.s,V.gbN,V.oth,V.os,V.tape,V.output,⟨.inl V.tin.1,.inl V.tin.2.1,.inl V.tin.2.2⟩,λj hj=>hj.elim (V.tsub j) (λh=>by omega),λj hj=>hj.elim (V.tlt j) (λh=>by omega),V.size⟩,d5,m1,.inr rfl,rfl⟩
 case done=>
  rintro D T U hD ⟨h0,_⟩ k7 c2;simp at h0;omega
 case stop=>
  rintro D c I T U hD K ⟨rfl,h⟩ k7 c2;have hrun:=run_takeDeferred (P:=prog) c2;have n6:D≠gb:=by omega
  have a8:AB (U.putObj D (.deferred none)) gb 5 L (c8 (d8 key nn f L)):=(World.putObj_heap_other (by omega)).trans h.b;have b3:OffB gb w (U.putObj D (.deferred none)):=⟨h.os,h.tape,h.output,by have h1:=h.size;have V:=HN.out;simp;omega,λj hj hn=>by
   have V:=HN.out
   exact(World.putObj_heap_other (by omega)).trans (h.oth j (by omega) hn)⟩
  have d2:=jz hrun;have a5:=jz a8;have c7:=jz b3;clear h c2 hrun K a8 b3;gi_wp2_with fail
  refine⟨by simp,.inl ⟨_,_,rfl,d2,?_⟩⟩;exact⟨.tuple #[],by simp[results,Tryz.results235,go_sem],rfl,a5,c7⟩
 case body=>
  rintro ln I x a' T U k5 K m2 ⟨gn,h0,hI,hA,k4,m3,rfl⟩;obtain⟨hx,_⟩:=OC K;rw[Nat.zero_add] at hx;subst hx;have a9:Hid ((I++[I.length]).length=I.length+1):=jz (by simp);obtain⟨P,hP⟩:=je (I++[I.length]);rw[<- hP] at a9 ⊢;obtain⟨k,hk⟩:=je I.length;rw[<- hk] at h0 hI hA a9 ⊢;clear hP K hk;obtain⟨R,hR⟩:=je (L-16*k);obtain⟨n,hn⟩:∃ n:Nat,n=min 16 R:=⟨_,rfl⟩;have k6:0<n/\n<=16/\n<=R:=by omega
  have m8:(min (16:Int) (R:Int))=(n:Int):=by omega
  have HI:=jz hI;have HA:=jz hA;have s0:=hI.s.cell 0;have h1:=hI.h.cell 0;simp only[jf,jg] at s0 h1;rw[<- hR] at h1;have n4:n<=cap-16*k:=by omega
  have a3:=jz hR;have g3:=jz hn;have b9:=jz h0;have n1:=jz m3;have f8:=jz k4;clear hI hA hR hn;gi_wp2_with fail
  gi_loopw [30] (λj wr=>∃ i:Nat,i<=n/\j = .int .i64 i/\Hid (Turn T U T wr)/\Hid (MS w gb N L cap k (d8 key nn f (16*k+i)) T wr)/\Hid (AB wr gn 41 16 (c8 (dV key (dQ nn k))))) (λj _=>n-(intOf j).toNat)
  case atStart=>exact⟨0,j0 _,rfl,jz (Turn.refl _ _),jz (by simpa using HI.out),HA⟩
  case round=>
   obtain⟨i,hi,rfl,HT,O,HB⟩:=hrel;rcases jo i n with f1|n7
   ·have p6:(0:Int)<=i:=by omega
    have p7:(i:Int)<n:=by omega
    have p8:(i:Int)<R:=by omega
    have p9:(i:Int)<16:=by omega
    gi_wp2_with fail
    have hq:16*k+i<L:=by have:=a3.out;omega
    obtain⟨x,hx⟩:=je (f (16*k+i));obtain⟨y,hy⟩:=je (dV key (dQ nn k) i);have m5:=u8_xor_nat x y (by rw[hx];exact f7 _) (by rw[hy];exact f6 _ _);have HU:=jz (OB key nn f (k:=k) (i:=i) (by omega));obtain⟨wS,b1⟩:=je wr.drew;have b0:Bw wr wS:=by rw[b1];exact(ji _ _).drew
    have a6:Hid (MS w gb N L cap k (d8 key nn f (16*k+i)) T wS):=jz (O.stab (M:=N+4) (ja _) (Lies.of_below b0));have c5:Hid (AB wS gn 41 16 (c8 (dV key (dQ nn k)))):=jz (HB.keep b0);have h6:Hid (Turn T U T wS):=jz (HT.below b0);have s0:=a6.s.cell 0;have h1:=a6.h.cell 0;simp only[jf,jg] at s0 h1;rw[<- a3.out] at h1;have c0:wS.cell? ⟨gb,16*k+i,none⟩=some (.int .u8 (x:Nat)):=by
     rw[a6.b.cell (i:=16*k+i) hq];show some (Value.int .u8 ((d8 key nn f (16*k+i) (16*k+i):Nat):Int))=_;unfold d8;rw[jQ (Nat.lt_irrefl _),<- hx]
    have a0:wS.cell? ⟨gn,i,none⟩=some (.int .u8 (y:Nat)):=by
     rw[c5.cell (i:=i) (by omega),hy];rfl
    have f0:=a6.b.frozen (16*k+i);have e7:gn≠gb:=by have:=f8.out;omega
    have d7:MkX gb gn N k i R cap y wS:=⟨h1,s0,a0⟩;obtain⟨wz,J⟩:=je (wS.setCell ⟨gb,16*k+i,none⟩ (.int .u8 (x ^^^ y:Nat)));have e0:MkX gb gn N k i R cap y wz:=by
     rw[J];exact⟨(World.cell?_setCell_other _ _ _ _ (by intro e;injection e;omega)).trans h1,(World.cell?_setCell_other _ _ _ _ (by intro e;injection e;omega)).trans s0,(World.cell?_setCell_other _ _ _ _ (by intro e;injection e with e1 _ _;exact e7 e1.symm)).trans a0⟩
    have a2:Hid (MS w gb N L cap k (d8 key nn f (16*k+(i+1))) T wz/\AB wz gn 41 16 (c8 (dV key (dQ nn k)))/\Turn T U T wz):=jz (by
     have h:=a6.out
     have hb:=h.b.set (16*k+i) (.int .u8 (x ^^^ y:Nat))
     rw[cY,<- J,hx,hy,HU.out] at hb
     refine⟨⟨hb,by rw[J];exact h.h.far (by simp;omega) _,by rw[J];exact h.s.far (by simp;omega) _,h.gbN,λj hj hn=>by
      rw[J]
      exact(Below.heap_setCell wS ⟨gb,16*k+i,none⟩ _ j hn).trans (h.oth j hj hn),by rw[J];exact h.os,by rw[J];exact h.tape,by rw[J];exact h.output,h.tin,h.tsub,λj hj=>by rw[J];simpa using h.tlt j hj,by rw[J];simpa using h.size⟩,
      by rw[J];exact c5.far (by exact e7) _,by rw[J];exact h6.setCell h.tin.1 _ _⟩)
    have m4:IntKind.i64.wrap (i:Int)=i:=IntWalk.i64_in _ (by omega);clear hx hy b0 s0 h1 a0 O HT HB
    -- region 9
    refine kZr (n:=12) (MkX gb gn N k i R cap y) (by rw[<- b1];exact d7) (by rintro⟨_,_,h⟩;exact h) (h:=λhH=>?_);rw[<- b1] at hH ⊢;clear b1;refine qC 0 (v:=.slice (some ⟨gb,16*k,none⟩) R (cap-16*k)) (λW hX=>hX.h) ?_;refine qM 1 (.int .i64 i) ?_;refine qT 2 (.pointer (some ⟨gb,16*k+i,none⟩)) ?_;refine qC 4 (v:=.int .i64 0) (λW hX=>hX.s) ?_;refine qM 5 (.int .i64 i) ?_;refine qT 6 (.int .i64 i) ?_;refine qT 7 (.pointer (some ⟨gn,i,none⟩)) ?_;refine qC 8 (v:=.int .u8 (y:Nat)) (λW hX=>hX.y) ?_;refine kS 3 (some 36) (.int .u8 (x:Nat)) wS (hS:=hH) (h:=?_);simp only[jq];refine qT 9 (.int .u8 (x ^^^ y:Nat)) ?_;refine qT 10 (.pointer (some ⟨gb,16*k+i,none⟩)) ?_;refine kW 11 none wz (hrun:=by rw[J];unfold execOp;go_simp) (hS:=e0) (h:=?_);simp only[jq];refine kE (h:=?_)
    -- end of region 9
    clear J d7 e0 hH c0 f0 m4 m5;gi_wp2_with fail
    exact⟨⟨i+1,f1,by go_num,jz a2.out.2.2,jz a2.out.1,jz a2.out.2.1⟩,by simp[intOf];omega⟩
   ·obtain rfl:i=n:=by omega
    have s0:=O.s.cell 0;have h1:=O.h.cell 0;simp only[jf,jg] at s0 h1;rw[<- a3.out] at h1;have fh:=O.h.frozen 0;have fs:=O.s.frozen 0;have q0:i<=R:=k6.2.2;have n3:R<=cap-16*k:=by have:=a3.out;omega
    have d4:Hid (∀ v,Turn T U T ((wr.setCell ⟨N+2,0,none⟩ v).setCell ⟨N+3,0,none⟩ (.int .i64 0))):=jz (λv=>(HT.setCell O.tin.2.1 0 v).setCell O.tin.2.2 0 _);have a5:Hid (∀ v,AB ((wr.setCell ⟨N+2,0,none⟩ v).setCell ⟨N+3,0,none⟩ (.int .i64 0)) gb 5 L (c8 (d8 key nn f (16*k+i)))):=jz (λv=>(O.b.far (p:=⟨N+2,0,none⟩) (by show gb≠N+2;have:=O.gbN;omega) v).far (p:=⟨N+3,0,none⟩) (by show gb≠N+3;have:=O.gbN;omega) _);have c9:Hid (∀ v j,j<N->j≠gb->((wr.setCell ⟨N+2,0,none⟩ v).setCell ⟨N+3,0,none⟩ (.int .i64 0)).heap[j]? = w.heap[j]?):=jz (λv j hj hn=>(Below.heap_setCell _ ⟨N+3,0,none⟩ _ j (by show j≠N+3;omega)).trans ((Below.heap_setCell _ ⟨N+2,0,none⟩ _ j (by show j≠N+2;omega)).trans (O.oth j hj hn)));by_cases tR:R=i
    ·have hz:R-i=0:=by omega
     have h7:16*k+i=L:=by have:=a3.out;have:=b9.out;omega
     rw[h7] at a5;have a2:Hid (∀ v,LZ (λI T U=>16*I.length<L/\MS w gb N L cap I.length (d8 key nn f (16*I.length)) T U) (λc I T U=>c = .ret/\MR w gb N L (d8 key nn f L) T U) P T U Exit.ret { tmps:=#[],defers:=[] } ((wr.setCell ⟨N+2,0,none⟩ v).setCell ⟨N+3,0,none⟩ (.int .i64 0))):=jz (λv=>
      ⟨T,d4 v,rfl,a5 v,O.gbN,c9 v,O.os,O.tape,O.output,O.tin.1,by simpa using O.size⟩)
     clear tR;gi_wp2_with fail
     all_goals exact a2 _
    ·have hz:¬R-i=0:=by omega
     have q2:¬((R-i:Nat):Int)=0:=by omega
     have e8:i=16:=by have:=g3.out;omega
     have q1:¬cap-16*k=i:=by omega
     have m9:¬i=cap-16*k:=by omega
     have a2:Hid (LZ (λI T U=>16*I.length<L/\MS w gb N L cap I.length (d8 key nn f (16*I.length)) T U) (λc I T U=>c = .ret/\MR w gb N L (d8 key nn f L) T U) P T U Exit.normal { tmps:=#[],defers:=[] } ((wr.setCell ⟨N+2,0,none⟩ (.slice (some ⟨gb,16*k+i,none⟩) (R-i) (cap-16*k-i))).setCell ⟨N+3,0,none⟩ (.int .i64 0))):=jz (by
      have h:=O.out
      have e1:16*k+i=16*(k+1):=by omega
      have e2:R-i=L-16*(k+1):=by have:=a3.out;omega
      have e3:cap-16*k-i=cap-16*(k+1):=by omega
      have a8:=a5.out (.slice (some ⟨gb,16*k+i,none⟩) (R-i) (cap-16*k-i))
      have f3:=c9.out (.slice (some ⟨gb,16*k+i,none⟩) (R-i) (cap-16*k-i))
      have f4:=d4.out (.slice (some ⟨gb,16*k+i,none⟩) (R-i) (cap-16*k-i))
      rw[e1,e2,e3] at a8 f3 f4 ⊢
      refine⟨T,f4,by rw[a9.out];have:=a3.out;omega,?_⟩
      rw[a9.out]
      exact⟨a8,by have:=Blk.far (Blk.set_ h.h 0 (.slice (some ⟨gb,16*(k+1),none⟩) (L-16*(k+1)) (cap-16*(k+1)))) (p:=⟨N+3,0,none⟩) (by show N+2≠N+3;omega) (.int .i64 0);simpa using this,
       by have:=Blk.set_ (Blk.far h.s (p:=⟨N+2,0,none⟩) (by show N+3≠N+2;omega) (.slice (some ⟨gb,16*(k+1),none⟩) (L-16*(k+1)) (cap-16*(k+1)))) 0 (.int .i64 0);simpa using this,
       h.gbN,f3,h.os,h.tape,h.output,h.tin,h.tsub,λj hj=>by simpa using h.tlt j hj,by simpa using h.size⟩)
     clear e8;gi_wp2_with fail
     exact a2.out
end
section
open Go.RowKit
attribute [local irreducible] wpQuiet wpAnyH
theorem FF(n:Nat)(O:n<=1048576)(w:Wd):(Instr.makeSlice 60 (.int .i64 n) (.int .i64 n)).run prog w = .ok (.slice (some ⟨w.heap.size,0,none⟩) n n) (w.alloc (.cells (arr n (c8 λ_=>0)).toArray 5)):=by
 have K:(prog.info? 5).map (λi=>(i.zero,i.size,i.bytes))=some (some (.int .u8 0),1,1):=by kernel_rfl
 obtain⟨i,h1,D,I,J⟩:=info_parts K;have:=run_makeSlice (P:=prog) (w:=w) 60 5 i _ underlying60 h1 D .i64 .i64 n n (by omega) (Int.le_refl _) (by rw[I];simp;omega) (by rw[J];omega) (by omega);rw[this,I,Int.toNat_natCast];have e:madeCells (Value.int .u8 0).cells (n*1)=(arr n (c8 λ_=>0)).toArray:=by
  have:(madeCells (Value.int .u8 0).cells (n*1)).toList=arr n (c8 λ_=>0):=by
   unfold arr c8;refine List.ext_getElem (by simp[madeCells]) (λi h1 D=>?_);simp[madeCells,Value.cells,Nat.mod_one]
  rw[<- this,Array.toArray_toList]
 rw[e]
theorem OffB.of_below{b:Nat}{w w':Wd}(h:Bw w w'):OffB b w w':=⟨h.os,h.tape,h.output,h.size,λj D _=>h.block j D⟩
theorem OE(key nn:Nat->Nat)(A:Option Addr)(cap:Nat)(w:Wd):Wc 235 #[.agg (arr 16 (c8 key)).toArray,.agg (arr 8 (c8 nn)).toArray,.int .i64 0,.slice A 0 cap] w (Rt w (.tuple #[])):=by
 obtain⟨K,D⟩:=je ((arr 16 (c8 key)).toArray);obtain⟨M,I⟩:=je ((arr 8 (c8 nn)).toArray);rw[<- D,<- I];clear D I;go_enter func235,ntmps235
 go_wp2_with fail
 refine bodyPost_ret (results_none rfl _ _ _) rfl ?_;exact⟨rfl,aB (aB (aV _ _) (aV _ _)) (aV _ _)⟩
theorem OF(key nn f:Nat->Nat)(gb L:Nat)(w:Wd)(D:aQ key)(I:aQ nn)(K:aQ f)(hb:AB w gb 5 L (c8 f))(J:L<=1048576):
  Wc 235 #[.agg (arr 16 (c8 key)).toArray,.agg (arr 8 (c8 nn)).toArray,.int .i64 0,.slice (some ⟨gb,0,none⟩) L L] w λe w'=>e = .returned (.tuple #[])/\AB w' gb 5 L (c8 (d8 key nn f L))/\OffB gb w w':=by
 rcases Nat.eq_zero_or_pos L with rfl|h
 ·exact(OE key nn _ 0 w).mono λe w' h=>⟨h.1,hb.keep h.2,OffB.of_below h.2⟩
 ·exact OD key nn f gb L L w D I K hb h (ja _) J
theorem KE{W:Wd}{g u:Nat}{key nn:Nat->Nat}(h:Blk W g 338 (sL key nn u).toArray):W.rangeAt g 0 (arr 16 (c8 key))/\W.rangeAt g 16 (arr 8 (c8 nn))/\W.cell? ⟨g,24,none⟩=some (.int .i64 (u:Nat)):=by
 have I:=h.range;rw[jt] at I;unfold sL at I;refine⟨λj v D=>?_,λj v D=>?_,?_⟩
 ·have J:j<16:=by have:=(List.getElem?_eq_some_iff.1 D).1;rwa [aA] at this
  exact I j v (by rw[jy (by rw[jj,aA];omega),jy (by rw[aA];exact J)];exact D)
 ·have J:j<8:=by have:=(List.getElem?_eq_some_iff.1 D).1;rwa [aA] at this
  have:=I (16+j) v (by rw[jy (by rw[jj,aA,aA];omega),jx (by rw[aA];omega),aA,Nat.add_sub_cancel_left];exact D)
  rwa [Nat.zero_add] at this
 ·have:=I 24 (.int .i64 (u:Nat)) (by rw[jx (by rw[jj,aA,aA];omega),jj,aA,aA];rfl)
  rwa [Nat.zero_add] at this
theorem OG(key nn:Nat->Nat)(bs:List Nat)(A:Option Addr)(cap gc:Nat)(w:Wd)(b2:aQ key)(c5:aQ nn)(c3:aQ (nth bs))(hB:Blk w gc 338 (sL key nn 0).toArray)(hs:Sn w 1 (.slice A bs.length cap) bs.length (n8 bs))(hl:bs.length<=1048576):
  Wc 214 #[.pointer (some ⟨gc,0,none⟩),.slice A bs.length cap] w λe w'=>∃ gb,e = .returned (.slice (some ⟨gb,0,none⟩) bs.length bs.length)/\AB w' gb 5 bs.length (c8 (d8 key nn (nth bs) bs.length))/\w.heap.size<=gb/\OffB gc w w':=by
 have HS:=jz hs;have HB:=jz hB;have a0:=jz (fun(gb:Nat) (W:Wd) (h:AB W gb 5 bs.length (c8 (nth bs)))=>OF key nn (nth bs) gb bs.length W b2 c5 c3 h hl);have Z:Hid (∀ W g,AB W g 5 bs.length (c8 λ_=>0)->AB (W.setCells g 0 (n8 bs)) g 5 bs.length (c8 (nth bs))):=jz (λW g h=>(AB.setL bs (off:=0) h).ext (λq hq=>by
  show Value.int .u8 ((if 0<=q/\q<0+bs.length then nth bs (q-0) else 0:Nat):Int)=Value.int .u8 ((nth bs q:Nat):Int)
  rw[jP (by omega),Nat.sub_zero]))
 have a5:=jz (bK bs);obtain⟨L,hL⟩:=je bs.length;rw[<- hL] at HS a0 Z hl ⊢;have d0:=FF L hl;clear hs hB hL;go_enter func214,ntmps214
 go_upto_region 4 with fail
 obtain⟨gb,a2⟩:=je w.heap.size;obtain⟨w1,U⟩:=je (w.alloc (.cells (arr L (c8 λ_=>0)).toArray 5));have D:Bw w w1:=by rw[U];exact aV _ _
 have a1:AB w1 gb 5 L (c8 λ_=>0):=by rw[U,a2];exact Blk.new _ _ _
 rw[<- U,<- a2];have a8:Hid (w1.there gb 0 L):=jz (a1.there (by omega));have a7:=jz (HS.below D);go_upto_region 5 with (refine cp (.tmp 11) (.tmp 12) rfl (by rfl) (b:=gb) (off:=0) (dn:=L) (dc:=L) (by rfl) (by rfl) underlying60 (by kernel_rfl) a7 (ja _) a8 a5 ?_)
 obtain⟨w2,V⟩:=je (w1.setCells gb 0 (n8 bs));have a9:AB w2 gb 5 L (c8 (nth bs)):=by rw[V];exact Z _ _ a1
 have I:=eS gb (n8 bs) 0 w1;rw[<- V] at I;have c4:gc<w.heap.size:=HB.lt;have a3:gc≠gb:=by omega
 have R:Blk w2 gc 338 (sL key nn 0).toArray:=I.blk (HB.keep D) a3;have b1:OffB gc w w2:=⟨I.os.trans D.os,I.tape.trans D.tape,I.output.trans D.output,jm D.size I.size,λj hj _=>(I.block j (jp hj D.size) (by omega)).trans (D.block j hj)⟩;rw[<- V];have b3:=jz a9;have b9:=jz b1;have a4:Hid (w.heap.size<=gb):=jz (by omega);have a6:=jz a3;have K:=jz (fun(W:Wd) (h:Blk W gc 338 (sL key nn 0).toArray)=>KE h);simp only[jq];clear V a9 I c4 a3 b1 D a1 U a2 Z a8 a7 HS a5
 -- region 5
 refine kZ (n:=14) (λW=>Blk W gc 338 (sL key nn 0).toArray) ((by exact R)) (h:=λhH=>?_);refine qM 0 (.pointer (some ⟨gc,0,none⟩)) ?_;refine qT 1 (.pointer (some ⟨gc,0,none⟩)) ?_;refine qT 2 (.pointer (some ⟨gc,0,none⟩)) ?_;refine qL 3 (cs:=arr 16 (c8 key)) (λW hX=>(K W hX).1) (aA _ _) ?_;refine qM 4 (.pointer (some ⟨gc,0,none⟩)) ?_;refine qT 5 (.pointer (some ⟨gc,0,none⟩)) ?_;refine qT 6 (.pointer (some ⟨gc,16,none⟩)) ?_;refine qL 7 (cs:=arr 8 (c8 nn)) (λW hX=>(K W hX).2.1) (aA _ _) ?_;refine qM 8 (.pointer (some ⟨gc,0,none⟩)) ?_;refine qT 9 (.pointer (some ⟨gc,0,none⟩)) ?_;refine qT 10 (.pointer (some ⟨gc,24,none⟩)) ?_;refine qC 11 (v:=.int .i64 0) (λW hX=>(K W hX).2.2) ?_;refine qM 12 (.slice (some ⟨gb,0,none⟩) L L) ?_;refine kF 13 (some 27) ((a0 gb w2.drew b3).mono ?_);rintro e w3 ⟨rfl,b0,J⟩;have O:Blk w3 gc 338 (sL key nn 0).toArray:=(J.block gc R.lt a6).trans R;refine⟨_,rfl,O,λhH=>?_⟩;simp only[jq];refine kE (h:=?_)
 -- end of region 5
 have c6:=jz O;have b7:=jz b0;have c2:Hid (OffB gc w w3):=jz (by
  have h:=b9.out
  have hg:=a4.out
  exact⟨J.os.trans h.os,J.tape.trans h.tape,J.output.trans h.output,jm h.size J.size,λj hj hn=>(J.block j (jp hj h.size) (by omega)).trans (h.block j hj hn)⟩)
 have c7:=(K.out w3 O).2.2;have c9:=Blk.frozen (show Blk w3 gc 338 (sL key nn 0).toArray from O) 24;have d1:IntKind.i64.wrap (L:Int)=L:=IntWalk.i64_in _ (by omega);clear hH O b0 J R K a0;go_wp2_with fail
 go_ret;have h:=c2.out;exact⟨gb,rfl,b7.far (p:=⟨gc,24,none⟩) (by show gb≠gc;exact λe=>a6.out e.symm) _,a4,h.os,h.tape,h.output,by simpa using h.size,λj hj hn=>(Below.heap_setCell w3 ⟨gc,24,none⟩ _ j hn).trans (h.block j hj hn)⟩
theorem KF(key nn:Nat->Nat)(bs:List Nat)(A:Option Addr)(cap:Nat)(w:Wd)(a1:aQ key)(b1:aQ nn)(a9:aQ (nth bs))(hs:Sn w 1 (.slice A bs.length cap) bs.length (n8 bs))(hl:bs.length<=1048576):
  Wc 167 #[.agg (arr 16 (c8 key)).toArray,.agg (arr 8 (c8 nn)).toArray,.slice A bs.length cap] w λe w'=>∃ gb,e = .returned (.slice (some ⟨gb,0,none⟩) bs.length bs.length)/\AB w' gb 5 bs.length (c8 (d8 key nn (nth bs) bs.length))/\w.heap.size<=gb/\Bw w w':=by
 have HS:=jz hs;obtain⟨L,hL⟩:=je bs.length;have U:=jz (fun(gc:Nat) (W:Wd) (hb:Bw w W) (h:Blk W gc 338 (sL key nn 0).toArray)=>OG key nn bs A cap gc W a1 b1 a9 h (HS.below hb) hl);have a5:=jz (λW=>RJ key nn W);rw[<- hL] at U ⊢;obtain⟨w1,J⟩:=je ((w.alloc (.cells (arr 16 (c8 key)).toArray 41)).alloc (.cells (arr 8 (c8 nn)).toArray 100));obtain⟨N,hN⟩:=je w.heap.size;have K:Hid (Bw w w1):=jz (by rw[J];exact aB (aV _ _) (aV _ _));have a6:Hid (w1.rangeAt N 0 (arr 16 (c8 key))):=jz (by rw[J,hN];exact AB.range (show AB _ _ 41 16 (c8 key) from(Blk.new _ _ _).alloc _));have a7:Hid (w1.rangeAt (N+1) 0 (arr 8 (c8 nn))):=jz (by rw[J,hN];exact AB.range (show AB _ _ 100 8 (c8 nn) from Blk.newAt _ _ _ _ (by simp)));have R:Hid ((prog.info? 41).map (·.size)=some (arr 16 (c8 key)).length):=jz (by rw[aA];kernel_rfl);have a4:Hid ((prog.info? 100).map (·.size)=some (arr 8 (c8 nn)).length):=jz (by rw[aA];kernel_rfl);clear hs hL;go_enter func167,ntmps167
 go_upto_region 1 with fail
 rw[<- J];simp only[World.size_alloc,<- hN];clear J;go_wp2_with (first
  | (refine ld 41 (.tmp 3) rfl rfl (by rfl) a6 underlying41 rfl R ?_)
  | (refine ld 100 (.tmp 4) rfl rfl (by rfl) a7 underlying100 rfl a4 ?_)
  | (go_at_call 213;refine(a5 _).mono ?_;rintro e w2 ⟨gc,rfl,V,a0,Z⟩;have a2:=jz V;have O:=jz (aB K Z);have a3:=jz a0;clear V Z a0)
  | (go_at_call 214;refine(U gc w2 O a2).mono ?_;rintro e w3 ⟨gb,rfl,a8,b0,I⟩))
 first|go_ret|skip
 have hg:=a3.out;have b2:=K.size;have D:=O.out;exact⟨gb,rfl,a8,jm D.size b0,I.os.trans D.os,I.tape.trans D.tape,I.output.trans D.output,jm D.size I.size,λj hj=>(I.block j (jp hj D.size) (by omega)).trans (D.block j hj)⟩
def zV(b i:Nat):Nat->Nat
 | 0=>oJ 99 i+oJ b i
 | m+1=>zV b i m+oJ b ((i+4+m) % 8)
theorem zW(b i:Nat):oJ b i<2:=Nat.mod_lt _ (by omega)
theorem IJ(b i:Nat):∀ m,zV b i m<=2+m
 | 0=>by have:=zW 99 i;have:=zW b i;show oJ 99 i+oJ b i<=2;omega
 | m+1=>by have:=IJ b i m;have:=zW b ((i+4+m) % 8);show zV b i m+_<=_;omega
theorem zX(b:Nat):∀ i,uX b i<2 ^ i
 | 0=>by show 0<1;omega
 | i+1=>by
  have ih:=zX b i;have D:E8 b i<=1:=by unfold E8;omega
  have:E8 b i*2 ^ i<=1*2 ^ i:=Nat.mul_le_mul D (ja _);rw[Nat.pow_succ];show uX b i+E8 b i*2 ^ i<_;omega
theorem DB(b:Nat)(w:Wd)(hb:b<256):
  Wc 237 #[.int .i64 b] w λe w'=>e = .returned (.int .u8 (oK b:Nat))/\w=w':=by
 go_enter func237,ntmps237
 go_wp2_with fail
 go_loopw [3,4] (λp i wr=>∃ k:Nat,k<=8/\i = .int .i64 (k:Int)/\p = .int .i64 (uX b k:Nat)/\w=wr) (λ_ i _=>8-(intOf i).toNat)
 case atStart=>exact⟨0,j0 _,rfl,rfl,rfl⟩
 case round=>
  obtain⟨k,hk,rfl,rfl,rfl⟩:=hrel;rcases jo k 8 with c5|b9
  ·have c2:(0:Int)<=k:=by omega
   have c3:(k:Int)<8:=by omega
   obtain⟨y0,J⟩:∃ x,x=99/2 ^ k:=⟨_,rfl⟩;have b3:y0<256:=by rw[J];exact Nat.lt_of_le_of_lt (Nat.div_le_self _ _) (by omega)
   have s0:=NV 99 k;rw[<- J] at s0;simp only[Int.cast_ofNat_Int] at s0;have q0:=mY y0 (by omega);obtain⟨U,D⟩:=je (b/2 ^ k);have a3:U<256:=by rw[D];exact Nat.lt_of_le_of_lt (Nat.div_le_self _ _) hb
   have s1:=NV b k;rw[<- D] at s1;have q1:=mY U (by omega);obtain⟨z0,R⟩:=je (y0 % 2);obtain⟨z1,I⟩:=je (U % 2);rw[<- R] at q0;rw[<- I] at q1;have b7:z0<2:=by omega
   have a4:z1<2:=by omega
   have a5:Hid (((z0:Int)+(z1:Int))=((zV b k 0:Nat):Int)):=jz (by
    show _=((oJ 99 k+oJ b k:Nat):Int)
    rw[R,I,J,D]
    rfl)
   clear J D R I;go_wp2_with fail
   clear s0 s1 q0 q1;go_loopw [5,6] (λx i wr=>∃ m:Nat,m<=4/\i = .int .i64 (4+(m:Int))/\x = .int .i64 (zV b k m:Nat)/\w=wr) (λ_ i _=>8-(intOf i).toNat)
   case atStart=>exact⟨0,j0 _,rfl,by rw[a5.out],rfl⟩
   case round=>
    obtain⟨m,hm,rfl,rfl,rfl⟩:=hrel;have Z:=IJ b k m;rcases jo m 4 with c6|b2
    ·obtain⟨V,a8⟩:∃ x,x=4+m:=⟨_,rfl⟩;have a1:4+(m:Int)=(V:Int):=by omega
     rw[a1];have c4:(4:Int)<=V:=by omega
     have a0:(V:Int)<8:=by omega
     have a6:Hid ((V:Int)+1=4+((m+1:Nat):Int)):=jz (by omega);obtain⟨r,hr⟩:=je ((k+4+m) % 8);have b0:((k:Int)+(V:Int)) % 8=(r:Int):=by omega
     have c7:Int.tmod ((k:Int)+(V:Int)) 8=(r:Int):=by rw[Int.tmod_eq_emod_of_nonneg (by omega)];exact b0
     have c9:(r:Int)<8:=by omega
     obtain⟨U,D⟩:=je (b/2 ^ r);have a3:U<256:=by rw[D];exact Nat.lt_of_le_of_lt (Nat.div_le_self _ _) hb
     have s1:=NV b r;rw[<- D] at s1;have q1:=mY U (by omega);obtain⟨z1,I⟩:=je (U % 2);rw[<- I] at q1;have a4:z1<2:=by omega
     obtain⟨X,O⟩:=je (zV b k m);have K:Hid ((X:Int)+(z1:Int)=((zV b k (m+1):Nat):Int)):=jz (by
      show _=((zV b k m+oJ b ((k+4+m) % 8):Nat):Int)
      rw[I,D,hr,O]
      rfl)
     rw[<- O] at Z ⊢;clear a8 a1 hr D I O;go_wp2_with fail
     exact⟨⟨m+1,by omega,by rw[a6.out],by rw[K.out],by first|rfl|trivial⟩,by simp[intOf];omega⟩
    ·have a9:m=4:=by omega
     subst a9;obtain⟨X,O⟩:=je (zV b k 4);obtain⟨t,ht⟩:=je (X % 2);have b1:(X:Int) % 2=(t:Int):=by omega
     have d0:Int.tmod (X:Int) 2=(t:Int):=by rw[Int.tmod_eq_emod_of_nonneg (by omega)];exact b1
     have d1:t<2:=by omega
     obtain⟨z,hz⟩:=je (t*2 ^ k);have s2:=UH t k;rw[<- hz] at s2;have a2:=tB (i:=k) (by omega);have d2:z<=128:=by rw[hz];exact jm (Nat.mul_le_mul (show t<=1 by omega) a2) (by omega)
     have hA:=zX b k;have a7:uX b k<256:=by omega
     obtain⟨p,hp⟩:=je (uX b k);have K:Hid ((p:Int)+(z:Int)=((uX b (k+1):Nat):Int)):=jz (by
      show _=((uX b k+E8 b k*2 ^ k:Nat):Int)
      rw[show E8 b k=t from by rw[ht,O];rfl,<- hz,hp]
      rfl)
     rw[<- O] at Z ⊢;rw[<- hp] at a7 ⊢;clear O ht hz hp hA a2;go_wp2_with fail
     exact⟨⟨k+1,by omega,by go_num,by rw[K.out],by first|rfl|trivial⟩,by simp[intOf];omega⟩
  ·have a0:k=8:=by omega
   subst a0;have hA:=zX b 8;have HR:Hid (oK b=uX b 8 % 256):=jz rfl;obtain⟨r,hr⟩:=je (uX b 8);rw[<- hr] at HR hA ⊢;clear hr;go_wp2_with fail
   go_ret;refine⟨?_,rfl⟩;rw[HR.out,Nat.mod_eq_of_lt (show r<256 by omega)];rfl
def z8x256:Wa:=(arr 256 (c8 λ_=>0)).toArray
theorem nM:∀ w,(zeroValue 285).run prog w = .ok (.agg z8x256) w:=λw=>by unfold z8x256;kernel_rfl
theorem RX(a b:Nat):E7 a b<256:=Nat.mod_lt _ (by omega)
theorem FG:∀ i,pwA i<256
 | 0=>by show 1<256;omega
 | i+1=>RX _ _
structure BX6(w0 W:Wd)(gz gp go:Nat)(f:Nat->Nat):Prop where
 be:Bw w0 W
 lo:w0.heap.size<=go
 z:AB W gz 285 256 (c8 λ_=>0)
 p:AB W gp 285 256 (c8 pwA)
 o:AB W go 285 256 (c8 f)
 zo:gz≠go
 po:gp≠go
theorem BX6.set{w0 W:Wd}{gz gp go:Nat}{f:Nat->Nat}(h:BX6 w0 W gz gp go f)(i v:Nat):BX6 w0 (W.setCell ⟨go,i,none⟩ (.int .u8 (v:Nat))) gz gp go (aY f i v):=
 ⟨h.be.setCell (by exact h.lo) _,h.lo,h.z.far (by exact h.zo) _,h.p.far (by exact h.po) _,by have:=h.o.set i (.int .u8 (v:Nat));rwa [cY] at this,h.zo,h.po⟩
theorem BX6.drew{w0 W:Wd}{gz I D:Nat}{f:Nat->Nat}(h:BX6 w0 W gz I D f):BX6 w0 W.drew gz I D f:=⟨h.be.drew,h.lo,h.z,h.p,h.o,h.zo,h.po⟩
attribute [local irreducible] pwA oK
theorem OH(w:Wd):Wc 219 #[] w (Rt w (.agg (arr 256 (c8 bO)).toArray)):=by
 go_enter func219,ntmps219
 go_upto_region 2 with (refine al 285 _ rfl rfl nM ?_)
 obtain⟨gz,R⟩:=je w.heap.size;obtain⟨w1,a5⟩:=je ((w.alloc (.cells z8x256 285)).alloc (.cells z8x256 285));have b0:Hid (AB w1 (gz+1) 285 256 (c8 λq=>if q<0 then pwA q else 0)/\AB w1 gz 285 256 (c8 λ_=>0)/\Bw w w1):=jz (by
  rw[a5,R]
  refine⟨AB.ext (F:=c8 λ_=>0) (Blk.newAt _ _ _ _ (by simp)) (λq _=>by show _=Value.int .u8 ((if q<0 then pwA q else 0:Nat):Int);rw[jQ (by omega)];rfl),(Blk.new _ _ _).alloc _,((ji _ w).alloc (ja _) _).alloc (by simp) _⟩)
 rw[<- a5];simp only[World.size_alloc,<- R];have a9:=jz R;clear a5 R;go_wp2_with fail
 go_loopw [2,3] (λx i wr=>∃ k:Nat,k<=256/\i = .int .i64 (k:Int)/\x = .int .u8 (pwA k:Nat)/\Hid (AB wr (gz+1) 285 256 (c8 λq=>if q<k then pwA q else 0)/\AB wr gz 285 256 (c8 λ_=>0)/\Bw w wr)) (λ_ i _=>256-(intOf i).toNat)
 case atStart=>exact⟨0,j0 _,rfl,by rw[show pwA 0=1 from by unfold pwA;rfl];rfl,b0⟩
 case round=>
  clear b0;obtain⟨k,hk,rfl,rfl,O⟩:=hrel;rcases jo k 256 with a3|b9
  ·have d3:(0:Int)<=k:=by omega
   have d4:(k:Int)<256:=by omega
   have e4:wr.cell? ⟨gz+1,k,none⟩=some (.int .u8 0):=by
    rw[O.out.1.cell a3];show some (Value.int .u8 ((if k<k then pwA k else 0:Nat):Int))=_;rw[jQ (Nat.lt_irrefl _)];rfl
   have e5:=O.out.1.frozen k;have a4:=O.out.1.set k (.int .u8 (pwA k:Nat));rw[cY,uU pwA k 0] at a4;have HN:Hid (AB (wr.setCell ⟨gz+1,k,none⟩ (.int .u8 (pwA k:Nat))) (gz+1) 285 256 (c8 λq=>if q<k+1 then pwA q else 0)/\AB (wr.setCell ⟨gz+1,k,none⟩ (.int .u8 (pwA k:Nat))) gz 285 256 (c8 λ_=>0)/\Bw w (wr.setCell ⟨gz+1,k,none⟩ (.int .u8 (pwA k:Nat)))):=jz ⟨a4,O.out.2.1.far (by show gz≠gz+1;omega) _,O.out.2.2.setCell (by have:=a9.out;show w.heap.size<=gz+1;omega) _⟩;have HC:=jz (λW=>NW (pwA k) 3 W (FG k) (by omega));have HP:Hid (E7 (pwA k) 3=pwA (k+1)):=jz (by conv=>rhs;unfold pwA);clear a4 O;go_wp2_with fail
   refine(HC _).mono ?_;rintro e w2 ⟨rfl,D⟩;rw[<- D];clear D w2;go_wp2_with fail
   exact⟨⟨k+1,by omega,by go_num,by rw[HP.out],HN⟩,by simp[intOf];omega⟩
  ·have U:k=256:=by omega
   have c2:¬(k:Int)<256:=by omega
   have HP:Hid (AB wr (gz+1) 285 256 (c8 pwA)):=jz (O.out.1.ext (λq hq=>by
    show Value.int .u8 ((if q<k then pwA q else 0:Nat):Int) = .int .u8 (pwA q:Nat)
    rw[jP (by omega)]))
   have HZ:=jz O.out.2;clear O b9 hk U;go_upto_region 9 with (refine al 285 _ rfl rfl nM ?_)
   clear c2;obtain⟨I,a2⟩:=je wr.heap.size;obtain⟨w3,V⟩:=je (wr.alloc (.cells z8x256 285));have K:Hid (BX6 w w3 gz (gz+1) I (λ_=>0)):=jz (by
    have hb:Bw wr w3:=by rw[V];exact(ji _ wr).alloc (ja _) _
    have h1:=HP.lt
    exact⟨aB HZ.out.2 hb,by have:=HZ.out.2.size;omega,HZ.out.1.keep hb,HP.keep hb,by rw[V,a2];exact Blk.new _ _ _,by omega,by omega⟩)
   rw[<- V];simp only[<- a2];clear V a2 HP HZ;have HC:=jz (λW=>DB 0 W (by omega));have b3:=K.o.cell (i:=0) (by omega);have d1:=K.o.frozen 0;rw[show c8 (λ_=>0) 0 = .int .u8 0 from rfl] at b3;have a7:Hid (BX6 w (w3.setCell ⟨I,0,none⟩ (.int .u8 (oK 0:Nat))) gz (gz+1) I (qU 0)):=jz (K.set 0 (oK 0));clear K;go_wp2_with fail
   refine(HC _).mono ?_;rintro e w2 ⟨rfl,D⟩;rw[<- D];clear D w2;go_wp2_with fail
   clear b3 d1;go_loopw [5] (λi wr=>∃ k:Nat,k<=256/\i = .int .i64 (k:Int)/\Hid (BX6 w wr gz (gz+1) I (qU k))) (λi _=>256-(intOf i).toNat)
   case atStart=>exact⟨0,j0 _,rfl,a7⟩
   case round=>
    clear a7;obtain⟨k,hk,rfl,HB⟩:=hrel;rcases jo k 256 with a3|b9
    ·have d3:(0:Int)<=k:=by omega
     have d4:(k:Int)<=255:=by omega
     have e6:(k:Int)<256:=by omega
     go_upto_region 13 with fail
     obtain⟨j,hj⟩:∃ j,j=255-k:=⟨_,rfl⟩;have d5:255-(k:Int)=(j:Int):=by omega
     have e0:IntKind.i64.wrap (j:Int)=(j:Int):=bY _ (by omega) (by omega);have e7:(j:Int)<256:=by omega
     have d7:j<256:=by omega
     obtain⟨wS,Z⟩:=je wr.drew;obtain⟨x,hx⟩:=je (pwA k);obtain⟨y,hy⟩:=je (pwA j);have e8:x<256:=by rw[hx];exact FG k
     have e3:y<256:=by rw[hy];exact FG j
     have f0:(x:Int)<256:=by omega
     have f1:IntKind.i64.wrap (y:Int)=(y:Int):=bY _ (by omega) (by omega);have J:Hid (BX6 w wS gz (gz+1) I (qU k)):=jz (by rw[Z];exact HB.drew);have a0:Hid (∃ f,BX6 w wS gz (gz+1) I f):=jz ⟨_,J⟩;have b7:=J.o.cell (i:=x) (by omega);rw[show c8 (qU k) x = .int .u8 (qU k x:Nat) from rfl] at b7;have d2:=J.o.frozen x;have HX:=jz (And.intro hx hy);have a1:=jz (J.set x (oK y));have a8:Hid (aY (qU k) x (oK y)=qU (k+1)):=jz (by rw[hx,hy,hj];rfl);have HC:=jz (λW=>DB y W e3);clear hj hx hy HB;refine kZ (n:=11) (λW=>∃ f,BX6 w W gz (gz+1) I f) (by rw[<- Z];exact a0) (h:=λhH=>?_);simp only[p0];dsimp only [List.replicate];rw[<- Z] at hH ⊢;clear Z;refine qM 0 (.int .i64 (k:Int)) ?_;refine qT 1 (.pointer (some ⟨gz+1,k,none⟩)) ?_;refine qC 2 (v:=.int .u8 (x:Nat)) (λW hX=>by obtain⟨f,hX⟩:=hX;rw[HX.out.1];exact hX.p.cell (i:=k) a3) ?_;refine qM 3 (.int .i64 (k:Int)) ?_;refine qT 4 (.int .i64 (j:Int)) ?_;refine qT 5 (.pointer (some ⟨gz+1,j,none⟩)) ?_;refine qC 6 (v:=.int .u8 (y:Nat)) (λW hX=>by obtain⟨f,hX⟩:=hX;rw[HX.out.2];exact hX.p.cell (i:=j) d7) ?_;refine qT 7 (.int .i64 (y:Int)) ?_;refine kF 8 (some 29) ((HC wS).mono ?_);rintro e w2 ⟨rfl,D⟩;rw[<- D];clear D w2;refine⟨_,rfl,a0,λhH=>?_⟩;simp only[pe,p5,p2];dsimp only [List.set];refine qT 9 (.pointer (some ⟨I,x,none⟩)) ?_;refine kW 10 none (wS.setCell ⟨I,x,none⟩ (.int .u8 (oK y:Nat))) (hS:=⟨_,a1⟩) (h:=?_);simp only[pe,p5,p2];dsimp only [List.set];refine kE (h:=?_);obtain⟨wz,a6⟩:=je (wS.setCell ⟨I,x,none⟩ (.int .u8 (oK y:Nat)));have d0:Hid (BX6 w wz gz (gz+1) I (qU (k+1))):=jz (by rw[a6,<- a8.out];exact a1);rw[<- a6];clear a6 a1 a0 J b7 d2 hH HC a8 HX d5 e0;go_wp2_with fail
     exact⟨⟨k+1,by omega,by go_num,d0⟩,by simp[intOf];omega⟩
    ·have U:k=256:=by omega
     have c2:¬(k:Int)<=255:=by omega
     have HD:Hid (AB wr I 285 256 (c8 bO)):=jz (HB.o.ext (λq hq=>by
      show Value.int .u8 (qU k q:Nat) = .int .u8 (bO q:Nat)
      rw[U,NT q hq]))
     have c3:=HD.range;have c7:Blk wr gz 285 z8x256:=HB.z;have c6:=jz HB.be;have hI:(prog.info? 285).map (·.size)=some (arr 256 (c8 bO)).length:=by rw[aA];kernel_rfl
     obtain⟨M,hM⟩:=je (arr 256 (c8 bO));rw[<- hM] at c3 hI;have c4:(prog.info? 285).map (·.size)=some M.toArray.size:=by rw[js];exact hI
     have e1:z8x256.size=M.toArray.size:=by rw[hM,aC];exact aC 256 _
     have e2:M.toArray.all (·.oneCell')=true:=by rw[hM];exact aP (λ_=>rfl)
     have HM:=jz hM;clear hM HB HD U;go_wp2_with (first
      | (refine ld 285 _ rfl rfl rfl c3 underlying285 rfl hI ?_)
      | (refine aN 285 (.tmp 0) (.tmp 31) rfl rfl rfl rfl c7 c4 e1 e2 ?_;intro w9 b1 b2 _ _;have c5:=jz b1;have c9:=jz b2;clear b1 b2))
     exact bodyPost_ret (results_cell_row rfl _ _ gz 285 _ (0,0) _ rfl c5 underlying285 rfl c4) rfl ⟨by rw[HM.out],c6.trans (c9.mono (by rw[a9.out];exact ja _))⟩
theorem KG(w:Wd):Wc 181 #[] w (Rt w (.agg (arr 256 (c8 bO)).toArray)):=by
 go_enter func181,ntmps181
 go_upto_region 1 with (refine al 285 _ rfl rfl nM ?_)
 obtain⟨gz,D⟩:=je w.heap.size;obtain⟨w1,J⟩:=je (w.alloc (.cells z8x256 285));have O:Hid (AB w1 gz 285 256 (c8 λ_=>0)/\Bw w w1):=jz (by
  rw[J,D]
  exact⟨Blk.new _ _ _,(ji _ w).alloc (ja _) _⟩)
 rw[<- J];simp only[<- D];have a3:=jz D;clear J D;obtain⟨M,K⟩:=je (arr 256 (c8 bO));have V:(prog.info? 285).map (·.size)=some M.toArray.size:=by rw[K,aC];kernel_rfl
 have a4:z8x256.size=M.toArray.size:=by rw[K,aC];exact aC 256 _
 have a5:M.toArray.all (·.oneCell')=true:=by rw[K];exact aP (λ_=>rfl)
 have HC:=jz (OH w1);rw[<- K] at HC;have HM:=jz K;clear K;go_wp2_with (first
  | (go_at_call 219;refine HC.mono ?_;rintro e w2 ⟨rfl,I⟩;have Z:=jz I;have a1:Blk w2 gz 285 z8x256:=O.out.1.keep I;clear I)
  | (refine aN 285 (.tmp 0) (.tmp 1) rfl rfl rfl rfl a1 V a4 a5 ?_;intro w9 R U _ _;have a0:=jz R;have a2:=jz U;clear R U))
 exact bodyPost_ret (results_cell_row rfl _ _ gz 285 _ (0,0) _ rfl a0 underlying285 rfl V) rfl ⟨by rw[HM.out],(aB O.out.2 Z).trans (a2.mono (by rw[a3.out];exact ja _))⟩
theorem oM(a:Nat)(w:Wd)(ha:a<256):Wc 249 #[.int .u8 a] w λe w'=>e = .returned (.int .u8 (twR a:Nat))/\w=w':=by
 go_enter func249,ntmps249
 obtain⟨x,O⟩:∃ x,x=2*a:=⟨_,rfl⟩;have a0:2*(a:Int)=(x:Int):=by omega
 have Z:x<512:=by omega
 have R:=uY x 283 (by omega) (by omega);simp only[Int.cast_ofNat_Int] at R;obtain⟨z,I⟩:=je (x ^^^ 283);rw[<- I] at R;have a1:z<512:=by rw[I];exact Nat.xor_lt_two_pow (n:=9) (by omega) (by omega)
 have D:=E6 ha;have K:twR a=if 255<x then z else x:=by rw[I,O];rfl
 have J:=jz K;have U:=jz D;clear O I K D;rcases jo 255 x with h|h
 ·have h1:(255:Int)<x:=by omega
  go_wp2_with fail
  go_ret;refine⟨?_,rfl⟩;have V:=U.out;rw[J.out,jP h] at V;rw[J.out,jP h]
  go_num
 ·have h1:¬(255:Int)<x:=by omega
  go_wp2_with fail
  go_ret;refine⟨?_,rfl⟩;rw[J.out,jQ (by omega)]
  go_num
end
section
open Go.RowKit
attribute [local irreducible] wpQuiet wpAnyH
def kAk(key:Nat->Nat)(q:Nat):Nat:=kyF key (q/16) (q % 16)
theorem WF{key:Nat->Nat}(h:aQ key)(q:Nat):kAk key q<256:=fM h _ _
theorem q9(key:Nat->Nat)(i r:Nat)(D:r<4):kAk key (i*4+r)=kcR key i r:=by
 unfold kAk kcR;rw[show(i*4+r)/16=i/4 by omega,show(i*4+r) % 16=4*(i % 4)+r by omega]
theorem UN(n:Nat):twR (pwr n)=pwr (n+1):=(mX _ (uR n)).1.symm
def cfK(key:Nat->Nat)(n:Nat):Nat->Nat:=λq=>if q<n then kAk key q else 0
theorem zY(key:Nat->Nat)(n:Nat):cfK key n n=0:=jQ (Nat.lt_irrefl n)
theorem vN(key:Nat->Nat){n q:Nat}(h:q<n):cfK key n q=kAk key q:=jP h
theorem tF(key:Nat->Nat)(n:Nat):aY (cfK key n) n (kAk key n)=cfK key (n+1):=uU (kAk key) n 0
structure KR0(w0 W:Wd)(g:Nat)(key f:Nat->Nat):Prop where
 be:Bw w0 W
 lo:w0.heap.size<=g
 k:AB W g 41 16 (c8 key)
 b:AB W (g+1) 285 256 (c8 bO)
 z:AB W (g+1+1) 342 176 (c8 λ_=>0)
 m:AB W (g+1+1+1) 359 176 (c8 f)
theorem KR0.set{w0 W:Wd}{g:Nat}{key f:Nat->Nat}(h:KR0 w0 W g key f)(i v:Nat):KR0 w0 (W.setCell ⟨g+1+1+1,i,none⟩ (.int .u8 (v:Nat))) g key (aY f i v):=
 ⟨h.be.setCell (by have:=h.lo;show w0.heap.size<=g+1+1+1;omega) _,h.lo,h.k.far (by show g≠g+1+1+1;omega) _,h.b.far (by show g+1≠g+1+1+1;omega) _,h.z.far (by show g+1+1≠g+1+1+1;omega) _,by have:=h.m.set i (.int .u8 (v:Nat));rwa [cY] at this⟩
theorem KR0.keep{w0 W W':Wd}{g:Nat}{key f:Nat->Nat}(h:KR0 w0 W g key f)(hb:Bw W W'):KR0 w0 W' g key f:=⟨aB h.be hb,h.lo,h.k.keep hb,h.b.keep hb,h.z.keep hb,h.m.keep hb⟩
theorem KR0.drew{w0 W:Wd}{g:Nat}{key f:Nat->Nat}(h:KR0 w0 W g key f):KR0 w0 W.drew g key f:=⟨h.be.drew,h.lo,h.k,h.b,h.z,h.m⟩
theorem KR0.fn{w0 W:Wd}{g:Nat}{key f f':Nat->Nat}(h:KR0 w0 W g key f)(e:f=f'):KR0 w0 W g key f':=e ▸ h
theorem KR0.above{w0 W W':Wd}{g h:Nat}{key f:Nat->Nat}(H:KR0 w0 W g key f)(D:g+1+1+1<h)(hb:Below h W W'):KR0 w0 W' g key f:=
 ⟨H.be.trans (hb.mono (by have:=H.lo;omega)),H.lo,H.k.below hb (by omega),H.b.below hb (by omega),H.z.below hb (by omega),H.m.below hb D⟩
theorem RY:∀ w,(zeroValue 359).run prog w = .ok (.agg z8x176) w:=λw=>by unfold z8x176;kernel_rfl
theorem KH(key:Nat->Nat)(w:Wd)(f5:aQ key):Wc 238 #[.agg (arr 16 (c8 key)).toArray,.agg (arr 256 (c8 bO)).toArray] w (Rt w (.agg (arr 176 (c8 (kAk key))).toArray)):=by
 have HK:=jz f5;clear f5;go_enter func238,ntmps238
 go_upto_region 2 with (first|(refine al 342 _ rfl rfl lD ?_)|(refine al 359 _ rfl rfl RY ?_))
 obtain⟨g,hg⟩:=je w.heap.size;obtain⟨w1,h0⟩:=je ((((w.alloc (.cells (arr 16 (c8 key)).toArray 41)).alloc (.cells (arr 256 (c8 bO)).toArray 285)).alloc (.cells z8x176 342)).alloc (.cells z8x176 359));have h5:Hid (KR0 w w1 g key (cfK key (0*4+0))):=jz (by
  rw[h0,hg]
  exact⟨((((ji _ w).alloc (ja _) _).alloc (by simp) _).alloc (by simp;omega) _).alloc (by simp;omega) _,ja _,(((Blk.new w _ _).alloc _).alloc _).alloc _,((Blk.newAt _ _ _ _ (by simp)).alloc _).alloc _,(Blk.newAt _ _ _ _ (by simp)).alloc _,AB.ext (F:=c8 λ_=>0) (Blk.newAt _ _ _ _ (by simp)) (λq _=>by show _=Value.int .u8 ((if q<0*4+0 then kAk key q else 0:Nat):Int);rw[jQ (by omega)];rfl)⟩)
 have q5:Hid (g=w.heap.size):=jz hg;rw[<- h0];simp only[World.size_alloc,<- hg];clear h0 hg;go_wp2_with fail
 go_loopw [6,7] (λpw i wr=>∃ k:Nat,k<=44/\i = .int .i64 (k:Int)/\pw = .int .u8 (pwr ((k-1)/4):Nat)/\Hid (KR0 w wr g key (cfK key (k*4+0)))) (λ_ i _=>44-(intOf i).toNat)
 case atStart=>exact⟨0,j0 _,rfl,rfl,h5⟩
 case round=>
  clear h5;obtain⟨k,hk,rfl,rfl,R⟩:=hrel;obtain⟨pw,d5⟩:=je (pwr ((k-1)/4));have a8:Hid (pw=pwr ((k-1)/4)/\pw<256):=jz ⟨d5,by rw[d5];exact uR _⟩;rw[<- d5];clear d5;rcases jo k 44 with p8|n6
  ·have q6:(0:Int)<=k:=by omega
   have q7:(k:Int)<44:=by omega
   rcases jo k 4 with b9|b9
   ·have n7:(k:Int)<4:=by omega
    go_wp2_with fail
    go_loopw [8] (λr wr=>∃ j:Nat,j<=4/\r = .int .i64 (j:Int)/\Hid (KR0 w wr g key (cfK key (k*4+j)))) (λr _=>4-(intOf r).toNat)
    case atStart=>exact⟨0,j0 _,rfl,R⟩
    case round=>
     clear R;obtain⟨j,hj,rfl,R⟩:=hrel;rcases jo j 4 with J|e8
     ·have g2:(0:Int)<=j:=by omega
      have g3:(j:Int)<4:=by omega
      obtain⟨m,hm⟩:∃ m,m=4*k+j:=⟨_,rfl⟩;obtain⟨M,hM⟩:∃ M,M=4*k:=⟨_,rfl⟩;have n0:4*(k:Int)=(M:Int):=by omega
      have c5:(M:Int)+(j:Int)=(m:Int):=by omega
      have n2:=bY (M:Int) (by omega) (by omega);have p9:=bY (m:Int) (by omega) (by omega);have q8:(m:Int)<16:=by omega
      have k3:wr.cell? ⟨g,m,none⟩=some (.int .u8 (key m:Nat)):=R.k.cell (i:=m) (by omega);have a6:wr.cell? ⟨g+1+1+1,k*4+j,none⟩=some (.int .u8 0):=by
       rw[R.m.cell (i:=k*4+j) (by omega)];show some (Value.int .u8 (cfK key (k*4+j) (k*4+j):Nat))=_;rw[zY];rfl
      have a7:=R.m.frozen (k*4+j);have k7:key m=kAk key (k*4+j):=by
       rw[q9 key k j J,J6 key k j b9,hm]
      obtain⟨x,hx⟩:=je (key m);have HN:Hid (KR0 w (wr.drew.setCell ⟨g+1+1+1,k*4+j,none⟩ (.int .u8 (x:Nat))) g key (cfK key (k*4+(j+1)))):=jz (by rw[hx,k7];exact(R.drew.set (k*4+j) (kAk key (k*4+j))).fn (tF key (k*4+j)));rw[<- hx] at k3;clear hm k7 hx hM R;go_upto_region 10 with fail
      go_still_tail 9,(by kernel_rfl)
      change wpList _ _ _ _ _ wr.drew;have k2:wr.drew.cell? ⟨g+1+1+1,k*4+j,none⟩=some (.int .u8 0):=a6;have k5:wr.drew.frozen? ⟨g+1+1+1,k*4+j,none⟩=false:=a7;obtain⟨wD,I⟩:=je wr.drew;rw[<- I] at HN k2 k5 ⊢;clear I a6 a7 k3 n0 c5 n2 p9;go_wp2_with fail
      exact⟨⟨j+1,by omega,by go_num,HN⟩,by simp[intOf];omega⟩
     ·obtain rfl:j=4:=by omega
      have HN:Hid (KR0 w wr g key (cfK key ((k+1)*4+0))):=jz (by have h:=R.out;rw[show k*4+4=(k+1)*4+0 by omega] at h;exact h);have a0:pw=pwr ((k+1-1)/4):=by rw[a8.out.1,show(k-1)/4=(k+1-1)/4 by omega]
      have m9:=jz a0;clear R a0;go_wp2_with fail
      exact⟨⟨k+1,by omega,by go_num,by rw[m9.out],HN⟩,by simp[intOf];omega⟩
   ·have n7:¬(k:Int)<4:=by omega
    obtain⟨O,k6⟩:=je (k-1);obtain⟨k4,f0⟩:∃ m,m=k-4:=⟨_,rfl⟩;have n1:(k:Int)-1=(O:Int):=by omega
    have n4:(k:Int)-4=(k4:Int):=by omega
    have b1:(O:Int)<44:=by omega
    have r1:=bY (k4:Int) (by omega) (by omega);have b4:(k4:Int)<44:=by omega
    have a5:Hid (O=k-1/\k4=k-4/\4<=k/\k<44/\pwr ((k+1-1)/4)=if k % 4=0 then twR pw else pw):=jz ⟨k6,f0,b9,p8,by
     rw[a8.out.1]
     by_cases e:k % 4=0
     ·rw[jP e,UN,show(k+1-1)/4=(k-1)/4+1 by omega]
     ·rw[jQ e,show(k+1-1)/4=(k-1)/4 by omega]⟩
    obtain⟨L,hL⟩:=je (arr 4 (c8 (kcR key O)));have c6:wr.rangeAt (g+1+1+1) (O*4) L:=by
     have h:=R.m.part (o:=O*4) (m:=4) (by omega);rw[hL];rw[show arr 4 (c8 (kcR key O))=arr 4 (λr=>c8 (cfK key (k*4+0)) (O*4+r)) from iM (λr hr=>by
      show Value.int .u8 (kcR key O r:Nat)=Value.int .u8 (cfK key (k*4+0) (O*4+r):Nat)
      rw[vN key (by omega),q9 key O r hr])]
     exact h
    have hI:(prog.info? 358).map (·.size)=some L.length:=by rw[hL,aA];kernel_rfl
    have K:(prog.info? 358).map (·.size)=some L.toArray.size:=by rw[js];exact hI
    have a1:z8x4.size=L.toArray.size:=by rw[hL,aC];exact aC 4 _
    have a2:L.toArray.all (·.oneCell')=true:=by rw[hL];exact aP (λ_=>rfl)
    have h4:=jz hL;clear hL k6 f0;go_upto_region 12 with (first
     | (refine ld 358 _ rfl rfl (by rfl) c6 underlying358 rfl hI ?_)
     | (refine al 358 _ rfl rfl lR ?_)
     | (refine bQ (cells:=L.toArray) 358 (.tmp 9) (.tmp 36) rfl rfl (by rfl) (by rfl) K a1 a2 ?_;intro w3 d4 h8 q3))
    obtain⟨h,hh⟩:=je wr.heap.size;rw[<- hh] at d4 ⊢;have D:Hid (KR0 w w3 g key (cfK key (k*4+0))/\AB w3 h 358 4 (c8 (kcR key O))/\g+1+1+1<h):=jz ⟨R.keep h8,by rw[h4.out] at d4;exact d4,by have:=R.m.lt;rw[hh];exact this⟩;clear c6 hI K a1 a2 d4 h8 q3 hh R h4;rcases Nat.eq_zero_or_pos (k % 4) with c4|c4
    ·have c5:(k:Int) % 4=0:=by omega
     have g8:Int.tmod (k:Int) 4=0:=by rw[Int.tmod_eq_emod_of_nonneg (by omega)];omega
     obtain⟨x0,e3⟩:=je (kcR key O 0);obtain⟨x1,e4⟩:=je (kcR key O 1);obtain⟨x2,e5⟩:=je (kcR key O 2);obtain⟨x3,e6⟩:=je (kcR key O 3);have y0:x0<256:=by rw[e3];exact fM HK _ _
     have y1:x1<256:=by rw[e4];exact fM HK _ _
     have y2:x2<256:=by rw[e5];exact fM HK _ _
     have y3:x3<256:=by rw[e6];exact fM HK _ _
     have i0:(x0:Int)<256:=by omega
     have i1:(x1:Int)<256:=by omega
     have i2:(x2:Int)<256:=by omega
     have i3:(x3:Int)<256:=by omega
     have c0:=D.out.2.1.cell (i:=0) (by omega);have c1:=D.out.2.1.cell (i:=1) (by omega);have c2:=D.out.2.1.cell (i:=2) (by omega);have c3:=D.out.2.1.cell (i:=3) (by omega);rw[show c8 (kcR key O) 0 = .int .u8 (x0:Nat) from by rw[e3];rfl] at c0;rw[show c8 (kcR key O) 1 = .int .u8 (x1:Nat) from by rw[e4];rfl] at c1;rw[show c8 (kcR key O) 2 = .int .u8 (x2:Nat) from by rw[e5];rfl] at c2;rw[show c8 (kcR key O) 3 = .int .u8 (x3:Nat) from by rw[e6];rfl] at c3;have d0:=D.out.1.b.cell (i:=x0) y0;have d1:=D.out.1.b.cell (i:=x1) y1;have d2:=D.out.1.b.cell (i:=x2) y2;have d3:=D.out.1.b.cell (i:=x3) y3;obtain⟨s0,d7⟩:=je (bO x0);obtain⟨s1,K⟩:=je (bO x1);obtain⟨s2,a1⟩:=je (bO x2);obtain⟨s3,a2⟩:=je (bO x3);rw[show c8 bO x0 = .int .u8 (s0:Nat) from by rw[d7];rfl] at d0;rw[show c8 bO x1 = .int .u8 (s1:Nat) from by rw[K];rfl] at d1;rw[show c8 bO x2 = .int .u8 (s2:Nat) from by rw[a1];rfl] at d2;rw[show c8 bO x3 = .int .u8 (s3:Nat) from by rw[a2];rfl] at d3;have q1:=u8_xor_nat s1 pw (by rw[K];exact fT _) a8.out.2;obtain⟨z1,e7⟩:=je (s1 ^^^ pw);rw[<- e7] at q1;obtain⟨cc,V⟩:∃ c:Nat->Nat,c=λr=>if r=0 then z1 else if r=1 then s2 else if r=2 then s3 else s0:=⟨_,rfl⟩
     have f6:Hid ((arr 4 (c8 cc)).toArray=#[.int .u8 (z1:Nat),.int .u8 (s2:Nat),.int .u8 (s3:Nat),.int .u8 (s0:Nat)]):=jz (by rw[V];rfl);have f8:Hid (∀ r,r<4->kcR key k r=kcR key k4 r ^^^ cc r):=jz (λr hr=>by
      have Z:=a5.out
      rw[NU key k r b9 c4 hr,<- Z.1,<- Z.2.1,<- e3,<- e4,<- e5,<- e6,<- d7,<- K,<- a1,<- a2,V,e7,show k/4-1=(k-1)/4 by omega,<- a8.out.1])
     have c9:Hid (pwr ((k+1-1)/4)=twR pw):=jz (by rw[a5.out.2.2.2.2,jP c4]);have f7:Hid (aQ cc):=jz (by
      rw[V]
      intro r
      show(if r=0 then z1 else if r=1 then s2 else if r=2 then s3 else s0)<256
      split
      ·rw[e7,K];exact Nat.xor_lt_two_pow (n:=8) (fT _) a8.out.2
      ·split
       ·rw[a1];exact fT _
       ·split
        ·rw[a2];exact fT _
        ·rw[d7];exact fT _)
     clear e3 e4 e5 e6 d7 K a1 a2 e7 V c4 y0 y1 y2 y3;go_upto_region 13 with fail
     go_still_tail 19,(by kernel_rfl)
     change wpList _ _ _ _ _ w3.drew;have a9:Hid (KR0 w w3.drew g key (cfK key (k*4+0))/\AB w3.drew h 358 4 (c8 (kcR key O))/\g+1+1+1<h):=jz ⟨D.out.1.drew,D.out.2.1,D.out.2.2⟩;obtain⟨wD,I⟩:=je w3.drew;rw[<- I] at a9 ⊢;have HT:=jz (λW=>oM pw W a8.out.2);have m4:(arr 4 (c8 (kcR key O))).toArray.size=4:=aC 4 _;clear I D c0 c1 c2 c3 d0 d1 d2 d3 q1;refine aN (cells:=#[.int .u8 (z1:Nat),.int .u8 (s2:Nat),.int .u8 (s3:Nat),.int .u8 (s0:Nat)]) 358 (.tmp 9) (.tmp 58) rfl rfl (by rfl) (by rfl) a9.out.2.1 (by kernel_rfl) m4 (by rw[<- f6.out];exact aP (λ_=>rfl)) ?_;intro w5 g0 h9 _ _;have b0:Hid (KR0 w w5 g key (cfK key (k*4+0))/\AB w5 h 358 4 (c8 cc)/\g+1+1+1<h):=jz ⟨a9.out.1.above a9.out.2.2 h9,by rw[<- f6.out] at g0;exact g0,a9.out.2.2⟩;clear g0 h9 a9 f6 m4 c5 g8 i0 i1 i2 i3;go_wp2_with fail
     refine(HT _).mono ?_;rintro e w2 ⟨rfl,m3⟩;rw[<- m3];clear m3 w2;obtain⟨p2,a0⟩:=je (twR pw);rw[<- a0] at c9 ⊢;clear a0 HT;go_wp2_with fail
     go_loopw [10] (λr wr=>∃ j:Nat,j<=4/\r = .int .i64 (j:Int)/\Hid (KR0 w wr g key (cfK key (k*4+j))/\AB wr h 358 4 (c8 cc)/\g+1+1+1<h)) (λr _=>4-(intOf r).toNat)
     case atStart=>exact⟨0,j0 _,rfl,b0⟩
     case round=>
      clear b0;obtain⟨j,hj,rfl,HQ⟩:=hrel;rcases jo j 4 with J|e8
      ·have g2:(0:Int)<=j:=by omega
       have g3:(j:Int)<4:=by omega
       have Z:=a5.out;obtain⟨x,hx⟩:=je (kcR key k4 j);obtain⟨y,hy⟩:=je (cc j);have b7:wr.cell? ⟨g+1+1+1,k4*4+j,none⟩=some (.int .u8 (x:Nat)):=by
        rw[HQ.out.1.m.cell (i:=k4*4+j) (by omega)];show some (Value.int .u8 (cfK key (k*4+j) (k4*4+j):Nat))=_;rw[vN key (by omega),q9 key k4 j J,hx]
       have g1:wr.cell? ⟨h,j,none⟩=some (.int .u8 (y:Nat)):=by rw[HQ.out.2.1.cell (i:=j) J,hy];rfl
       have q1:=u8_xor_nat x y (by rw[hx];exact fM HK _ _) (by rw[hy];exact f7 j);obtain⟨z,hz⟩:=je (x ^^^ y);rw[<- hz] at q1;have c7:z=kAk key (k*4+j):=by rw[q9 key k j J,f8.out j J,hz,hx,hy]
       have a6:wr.drew.cell? ⟨g+1+1+1,k*4+j,none⟩=some (.int .u8 0):=by
        refine(HQ.out.1.m.cell (i:=k*4+j) (by omega)).trans ?_;show some (Value.int .u8 (cfK key (k*4+j) (k*4+j):Nat))=_;rw[zY];rfl
       have a7:wr.drew.frozen? ⟨g+1+1+1,k*4+j,none⟩=false:=HQ.out.1.m.frozen _;have HN:Hid (KR0 w (wr.drew.setCell ⟨g+1+1+1,k*4+j,none⟩ (.int .u8 (z:Nat))) g key (cfK key (k*4+(j+1)))/\AB (wr.drew.setCell ⟨g+1+1+1,k*4+j,none⟩ (.int .u8 (z:Nat))) h 358 4 (c8 cc)/\g+1+1+1<h):=jz (by
        rw[c7]
        exact⟨(HQ.out.1.drew.set (k*4+j) (kAk key (k*4+j))).fn (tF key (k*4+j)),AB.far (W:=wr.drew) HQ.out.2.1 (by have:=HQ.out.2.2;show h≠g+1+1+1;omega) _,HQ.out.2.2⟩)
       clear hx hy hz c7 Z HQ;go_upto_region 18 with fail
       go_still_tail 13,(by kernel_rfl)
       change wpList _ _ _ _ _ wr.drew;obtain⟨wD,I⟩:=je wr.drew;rw[<- I] at HN a6 a7 ⊢;clear I b7 g1 q1;go_wp2_with fail
       exact⟨⟨j+1,by omega,by go_num,HN⟩,by simp[intOf];omega⟩
      ·obtain rfl:j=4:=by omega
       have HN:Hid (KR0 w wr g key (cfK key ((k+1)*4+0))):=jz (by have h:=HQ.out.1;rw[show k*4+4=(k+1)*4+0 by omega] at h;exact h);clear HQ;go_wp2_with fail
       exact⟨⟨k+1,by have:=a5.out;omega,by go_num,by rw[c9.out],HN⟩,by simp[intOf];omega⟩
    ·have c5:¬(k:Int) % 4=0:=by omega
     have g8:¬Int.tmod (k:Int) 4=0:=by rw[Int.tmod_eq_emod_of_nonneg (by omega)];omega
     obtain⟨cc,V⟩:∃ c:Nat->Nat,c=kcR key O:=⟨_,rfl⟩;have b0:Hid (KR0 w w3 g key (cfK key (k*4+0))/\AB w3 h 358 4 (c8 cc)/\g+1+1+1<h):=jz (by rw[V];exact D);have f8:Hid (∀ r,r<4->kcR key k r=kcR key k4 r ^^^ cc r):=jz (λr hr=>by
      have Z:=a5.out
      rw[UG key k r b9 (by omega),<- Z.1,<- Z.2.1,V])
     have f7:Hid (aQ cc):=jz (by rw[V];exact λr=>fM HK _ _);obtain⟨p2,a0⟩:=je pw;have c9:Hid (pwr ((k+1-1)/4)=p2):=jz (by rw[a5.out.2.2.2.2,jQ (by omega),a0]);rw[<- a0];clear V D a0 c4;go_wp2_with fail
     clear c5 g8;go_loopw [10] (λr wr=>∃ j:Nat,j<=4/\r = .int .i64 (j:Int)/\Hid (KR0 w wr g key (cfK key (k*4+j))/\AB wr h 358 4 (c8 cc)/\g+1+1+1<h)) (λr _=>4-(intOf r).toNat)
     case atStart=>exact⟨0,j0 _,rfl,b0⟩
     case round=>
      clear b0;obtain⟨j,hj,rfl,HQ⟩:=hrel;rcases jo j 4 with J|e8
      ·have g2:(0:Int)<=j:=by omega
       have g3:(j:Int)<4:=by omega
       have Z:=a5.out;obtain⟨x,hx⟩:=je (kcR key k4 j);obtain⟨y,hy⟩:=je (cc j);have b7:wr.cell? ⟨g+1+1+1,k4*4+j,none⟩=some (.int .u8 (x:Nat)):=by
        rw[HQ.out.1.m.cell (i:=k4*4+j) (by omega)];show some (Value.int .u8 (cfK key (k*4+j) (k4*4+j):Nat))=_;rw[vN key (by omega),q9 key k4 j J,hx]
       have g1:wr.cell? ⟨h,j,none⟩=some (.int .u8 (y:Nat)):=by rw[HQ.out.2.1.cell (i:=j) J,hy];rfl
       have q1:=u8_xor_nat x y (by rw[hx];exact fM HK _ _) (by rw[hy];exact f7 j);obtain⟨z,hz⟩:=je (x ^^^ y);rw[<- hz] at q1;have c7:z=kAk key (k*4+j):=by rw[q9 key k j J,f8.out j J,hz,hx,hy]
       have a6:wr.drew.cell? ⟨g+1+1+1,k*4+j,none⟩=some (.int .u8 0):=by
        refine(HQ.out.1.m.cell (i:=k*4+j) (by omega)).trans ?_;show some (Value.int .u8 (cfK key (k*4+j) (k*4+j):Nat))=_;rw[zY];rfl
       have a7:wr.drew.frozen? ⟨g+1+1+1,k*4+j,none⟩=false:=HQ.out.1.m.frozen _;have HN:Hid (KR0 w (wr.drew.setCell ⟨g+1+1+1,k*4+j,none⟩ (.int .u8 (z:Nat))) g key (cfK key (k*4+(j+1)))/\AB (wr.drew.setCell ⟨g+1+1+1,k*4+j,none⟩ (.int .u8 (z:Nat))) h 358 4 (c8 cc)/\g+1+1+1<h):=jz (by
        rw[c7]
        exact⟨(HQ.out.1.drew.set (k*4+j) (kAk key (k*4+j))).fn (tF key (k*4+j)),AB.far (W:=wr.drew) HQ.out.2.1 (by have:=HQ.out.2.2;show h≠g+1+1+1;omega) _,HQ.out.2.2⟩)
       clear hx hy hz c7 Z HQ;go_upto_region 18 with fail
       go_still_tail 13,(by kernel_rfl)
       change wpList _ _ _ _ _ wr.drew;obtain⟨wD,I⟩:=je wr.drew;rw[<- I] at HN a6 a7 ⊢;clear I b7 g1 q1;go_wp2_with fail
       exact⟨⟨j+1,by omega,by go_num,HN⟩,by simp[intOf];omega⟩
      ·obtain rfl:j=4:=by omega
       have HN:Hid (KR0 w wr g key (cfK key ((k+1)*4+0))):=jz (by have h:=HQ.out.1;rw[show k*4+4=(k+1)*4+0 by omega] at h;exact h);clear HQ;go_wp2_with fail
       exact⟨⟨k+1,by have:=a5.out;omega,by go_num,by rw[c9.out],HN⟩,by simp[intOf];omega⟩
  ·have p6:k=44:=by omega
   have p7:¬(k:Int)<44:=by omega
   have f9:Hid (KR0 w wr g key (kAk key)):=jz ⟨R.be,R.lo,R.k,R.b,R.z,R.m.ext (λq hq=>by
    show Value.int .u8 (cfK key (k*4+0) q:Nat) = .int .u8 (kAk key q:Nat)
    rw[vN key (by omega)])⟩
   clear R p6 n6 hk a8;go_upto_region 20 with (refine al 342 _ rfl rfl lD ?_)
   clear p7;obtain⟨o,ho⟩:=je wr.heap.size;obtain⟨w3,e0⟩:=je (wr.alloc (.cells z8x176 342));have h2:Hid (KR0 w w3 g key (kAk key)/\AB w3 o 342 176 (c8 (cfK key 0))/\g+1+1+1<o):=jz (by
    have hb:Bw wr w3:=by rw[e0];exact(ji _ wr).alloc (ja _) _
    have h1:=f9.m.lt
    exact⟨f9.keep hb,AB.ext (F:=c8 λ_=>0) (by rw[e0,ho];exact Blk.new _ _ _) (λq _=>by show _=Value.int .u8 ((if q<0 then kAk key q else 0:Nat):Int);rw[jQ (by omega)];rfl),by omega⟩)
   rw[<- e0];simp only[<- ho];clear e0 ho f9;go_wp2_with fail
   go_loopw [12] (λi wr=>∃ q:Nat,q<=176/\i = .int .i64 (q:Int)/\Hid (KR0 w wr g key (kAk key)/\AB wr o 342 176 (c8 (cfK key q))/\g+1+1+1<o)) (λi _=>176-(intOf i).toNat)
   case atStart=>exact⟨0,j0 _,rfl,h2⟩
   case round=>
    clear h2;obtain⟨q,hq,rfl,HB⟩:=hrel;rcases jo q 176 with m1|q4
    ·have g2:(0:Int)<=q:=by omega
     have g3:(q:Int)<176:=by omega
     obtain⟨U,h7⟩:=je (q/16);obtain⟨a3,m2⟩:=je (q % 16);obtain⟨a4,n3⟩:=je (q/4);obtain⟨r4,q2⟩:=je (q % 4);have f1:(q:Int)/16=(U:Int):=by omega
     have f2:(q:Int) % 16=(a3:Int):=by omega
     have f3:(q:Int)/4=(a4:Int):=by omega
     have f4:(q:Int) % 4=(r4:Int):=by omega
     have t1:Int.tdiv (q:Int) 16=(U:Int):=by rw[Int.tdiv_eq_ediv_of_nonneg (by omega)];exact f1
     have t2:Int.tmod (q:Int) 16=(a3:Int):=by rw[Int.tmod_eq_emod_of_nonneg (by omega)];exact f2
     have t3:Int.tdiv (q:Int) 4=(a4:Int):=by rw[Int.tdiv_eq_ediv_of_nonneg (by omega)];exact f3
     have t4:Int.tmod (q:Int) 4=(r4:Int):=by rw[Int.tmod_eq_emod_of_nonneg (by omega)];exact f4
     have b1:(U:Int)<11:=by omega
     have w1:=bY (U:Int) (by omega) (by omega);have w2:=bY (a3:Int) (by omega) (by omega);have w3:=bY (a4:Int) (by omega) (by omega);have w4:=bY (r4:Int) (by omega) (by omega);have b2:(a3:Int)<16:=by omega
     have b3:(a4:Int)<44:=by omega
     have b4:(r4:Int)<4:=by omega
     have e1:U*16+a3=q:=by omega
     have e2:a4*4+r4=q:=by omega
     obtain⟨x,hx⟩:=je (kAk key q);have b7:wr.cell? ⟨g+1+1+1,a4*4+r4,none⟩=some (.int .u8 (x:Nat)):=by rw[e2,HB.out.1.m.cell (i:=q) m1,hx];rfl
     have a6:wr.drew.cell? ⟨o,U*16+a3,none⟩=some (.int .u8 0):=by
      rw[e1];refine(HB.out.2.1.cell (i:=q) m1).trans ?_;show some (Value.int .u8 (cfK key q q:Nat))=_;rw[zY];rfl
     have a7:wr.drew.frozen? ⟨o,U*16+a3,none⟩=false:=HB.out.2.1.frozen _;have HN:Hid (KR0 w (wr.drew.setCell ⟨o,U*16+a3,none⟩ (.int .u8 (x:Nat))) g key (kAk key)/\AB (wr.drew.setCell ⟨o,U*16+a3,none⟩ (.int .u8 (x:Nat))) o 342 176 (c8 (cfK key (q+1)))/\g+1+1+1<o):=jz (by
      rw[e1,hx]
      refine⟨HB.out.1.drew.above HB.out.2.2 ((ji o wr.drew).setCell (p:=⟨o,q,none⟩) (ja _) _),?_,HB.out.2.2⟩
      have h:=AB.set (W:=wr.drew) HB.out.2.1 q (.int .u8 (kAk key q:Nat))
      rw[cY,tF] at h
      exact h)
     clear hx e1 e2 h7 m2 n3 q2 HB;go_upto_region 23 with fail
     go_still_tail 12,(by kernel_rfl)
     change wpList _ _ _ _ _ wr.drew;obtain⟨wD,I⟩:=je wr.drew;rw[<- I] at HN a6 a7 ⊢;clear I b7 f1 f2 f3 f4 t1 t2 t3 t4 w1 w2 w3 w4;go_wp2_with fail
     exact⟨⟨q+1,by omega,by go_num,HN⟩,by simp[intOf];omega⟩
    ·have q0:q=176:=by omega
     have r0:¬(q:Int)<176:=by omega
     have HD:Hid (AB wr o 342 176 (c8 (kAk key))):=jz (HB.out.2.1.ext (λp hp=>by
      show Value.int .u8 (cfK key q p:Nat) = .int .u8 (kAk key p:Nat)
      rw[vN key (by omega)]))
     have c6:=HD.range;have m6:Blk wr (g+1+1) 342 z8x176:=HB.out.1.z;have h3:=jz (And.intro HB.out.1.be HB.out.1.lo);have hI:(prog.info? 342).map (·.size)=some (arr 176 (c8 (kAk key))).length:=by rw[aA];kernel_rfl
     obtain⟨M,hM⟩:=je (arr 176 (c8 (kAk key)));rw[<- hM] at c6 hI;have K:(prog.info? 342).map (·.size)=some M.toArray.size:=by rw[js];exact hI
     have a1:z8x176.size=M.toArray.size:=by rw[hM,aC];exact aC 176 _
     have a2:M.toArray.all (·.oneCell')=true:=by rw[hM];exact aP (λ_=>rfl)
     have HM:=jz hM;clear hM HB HD q0;go_wp2_with (first
      | (refine ld 342 _ rfl rfl rfl c6 underlying342 rfl hI ?_)
      | (refine aN 342 (.tmp 4) (.tmp 96) rfl rfl rfl rfl m6 K a1 a2 ?_;intro w9 h6 k0 _ _;have m5:=jz h6;have m8:=jz k0;clear h6 k0))
     exact bodyPost_ret (results_cell_row rfl _ _ (g+1+1) 342 _ (0,0) _ rfl m5 underlying342 rfl K) rfl ⟨by rw[HM.out],h3.out.1.trans (m8.mono (by have:=h3.out.2;omega))⟩
end
end Go.Proofs.YtjjlaipkkdncfaaGreatDoor
