import Derived.Test.YtiaigidbcljblaaGreatDoorMB38
import Derived.Test.YtiaigidbcljblaaGreatDoorMB39
import Derived.Test.YtiaigidbcljblaaGreatDoorMB37
set_option linter.unusedVariables false
set_option linter.unusedSimpArgs false
set_option maxRecDepth 100000
set_option maxHeartbeats 40000000
namespace Go.Proofs.YtiaigidbcljblaaGreatDoor
open Go.Proofs.Tryz
open Go.RowKit
attribute [local irreducible] wpQuiet wpAnyH
theorem nV{α:Type}(C:α->Wv)(s:Nat):∀(l:List α),(∀ x∈l,(C x).length=s)->∀ k,k<=l.length->(l.flatMap C).take (k*s)=(l.take k).flatMap C
 | [],_,k,hk=>by simp
 | x :: l,h,0,_=>by simp
 | x :: l,h,k+1,hk=>by
  have j:=h x (by simp);rw[List.flatMap_cons,List.take_succ_cons,List.flatMap_cons,Nat.add_mul,Nat.one_mul,Nat.add_comm,List.take_append,j,List.take_of_length_le (by omega),Nat.add_sub_cancel_left];rw[nV C s l (λy hy=>h y (by simp[hy])) k (by simpa using hk)]
def vF(c:ConfD):eD:=BR c.key c.skew
theorem V6{c:ConfD}(l:List OpR)(A:Option Addr)(cap:Nat)(w:Wd)(K:BQ c)(I:TabK w)(hs:Sn w 4 (.slice A l.length cap) l.length (l.flatMap opC))(D:∀ x∈l,OpI w x)
  (hd:∀ x∈l,x.o.data.length<=9223372036854775807/\x.o.cuts.length<=9223372036854775807) (O:l.length<=40) (j:c.sec<=30):
  Wc 11 #[.agg (aQ c).toArray,.slice A l.length cap] w (RJ w (dC (vF c) c (bF l))):=
 tV c _ w λU hb=>tU A cap l U (zQ c.key c.skew K.1) (λs b=>xJ _ _ _ _) (λW J=>I.below (aA hb J)) (hs.below hb) (λx R=>(D x R).below hb) hd (λ_ _ _=>trivial) O j
theorem Y7{c:ConfD}(l:List OpR)(A:Option Addr)(cap:Nat)(w:Wd)(K:BQ c)(I:TabK w)(hs:Sn w 4 (.slice A l.length cap) l.length (l.flatMap opC))(D:∀ x∈l,OpI w x)
  (hd:∀ x∈l,x.o.data.length<=9223372036854775807/\x.o.cuts.length<=9223372036854775807) (O:l.length<=40) (j:c.sec<=30):
  ∀ x∈(dC (vF c) c (bF l)).2,RowOk x:=
 VO (IR c.key c.skew) c _ l.length (by omega) (IN ((EV A cap l w (zQ c.key c.skew K.1) (λs b=>xJ _ _ _ _) (λW J=>I.below J) hs D hd (λ_ _ _=>trivial) O j).mono λe w' h=>h.2))
theorem zR{V:eD}{c:ConfD}{l:List OpD}(h:(dC V c l).1=none):gJ c=true/\(∀ o∈l,aE o=true)/\(dC V c l).2=dU V c.skew ⟨eT c.sec.toNat,0,none⟩ l:=by
 unfold dC at h ⊢;split at h
 ·cases h
 ·rename_i h1;rw[jQ h1];cases hb:kP l with
  | some i=>
   rw[hb] at h;cases h
  | none=>
   refine⟨by simpa using h1,xK hb,rfl⟩
theorem R5{V:eD}{c:ConfD}{l:List OpD}(D:gJ c=true)(h:∀ o∈l,aE o=true):dC V c l=(none,dU V c.skew ⟨eT c.sec.toNat,0,none⟩ l):=by
 unfold dC;rw[jQ (by rw[D];simp),zP (λj x=>h _ (List.getElem_mem x))]
theorem IT(l:List OpR)(k:Nat):bF (l.take k)=(bF l).take k:=by unfold bF;rw[List.map_take]
theorem NO{V:eD}{c:ConfD}{l:List OpD}(k:Nat)(h:(dC V c l).1=none):dC V c (l.take k)=(none,(dC V c l).2.take k):=by
 obtain⟨h1,j,x⟩:=zR h;rw[R5 h1 (λo D=>j o (j7 D)),x,wV]
theorem R6{V:eD}{c:ConfD}{l:List OpD}(h:(dC V c l).1=none):(dC V c l).2.length=l.length:=by
 rw[(zR h).2.2,mO]
theorem Y8{r:RowD}(h:RowOk r)(w:Wd):(binOp .neq 31 (.agg (bM r).toArray) (.agg (bM r).toArray)).run prog w = .ok (.bool false) w:=by
 have h1:(Op.equalIn Op.maxDepth 31 (.agg (bM r).toArray) (.agg (bM r).toArray)).run prog w = .ok true w:=UQ h w;simp only[binOp,Op.equal,Sem.run_bind,h1,Result.andThen_ok,Sem.run_pure,Bool.not_true]
theorem X2{r:RowD}(p q:Operand)(w:Wd):(eqGuard .neq 31 p q (.agg (bM r).toArray) (.agg (bM r).toArray)).run prog w = .ok () w:=by
 generalize (bM r).toArray=X;unfold eqGuard;simp
theorem VP(l:List OpR):BO l=0\/BO l=1:=by
 unfold BO;split
 ·split
  ·exact .inl rfl
  ·exact .inr rfl
 ·exact .inl rfl
theorem xZ(c:ConfD)(l:List OpR)(A:Option Addr)(cap:Nat)(nn:Int)(w:Wd)(hc:BQ c)(hn:0<=nn/\nn<=255)(ht:Tab w)(hK:TabK w)
  (aw:∀ w1,Bw w w1->Wc 6 #[] w1 (Rt w1 (.bool true)))
  (hs:Sn w 4 (.slice A l.length cap) l.length (l.flatMap opC)) (d1:∀ x∈l,OpI w x)
  (hd:∀ x∈l,x.o.data.length<=9223372036854775807/\x.o.cuts.length<=9223372036854775807) (hm:l.length<=9223372036854775807):
  Wc 4 #[.agg (aQ c).toArray,.slice A l.length cap,.int .u8 nn] w (Rt w (.bool true)):=by
 obtain⟨w1,a0⟩:=je (w.alloc (.cells (aQ c).toArray 37));obtain⟨gc,c6⟩:=je w.heap.size;have a9:Hid (Bw w w1):=jz (by rw[a0];exact aG _ _);have f3:Hid (Blk w1 gc 37 (aQ c).toArray):=jz (by rw[a0,c6];exact Blk.new _ _ _);have I:Hid (∀ W,Bw w1 W->W.rangeAt gc 0 (aQ c)):=jz (λW D=>by have:=(f3.keep D).range;rwa [jt] at this);have a3:Hid ((prog.info? 37).map (·.size)=some (aQ c).length):=jz (by rw[d4];kernel_rfl);have f4:Hid ((aQ c).length=18):=jz (d4 c);have c7:=jz aw;have c9:=jz (fun(W:Wd) (D:Bw w W)=>(NM l A cap W (hs.below D) hd hm).mono (λe w' h=>(⟨h.1,h.2.symm⟩:e = .returned (.int .i64 (BO l))/\W=w')));have a6:=jz (fun(W:Wd)=>E7 c W);obtain⟨n,O⟩:=je l.length;have HN:=jz O;rcases VP l with hf|hf
 ·rw[hf,<- O] at c9;rw[<- O];obtain⟨K,a7⟩:=je (aQ c);rw[<- a7] at a0 ⊢;clear a7 I a3 f4 a6 hs d1 hd hm hK ht O f3 hf hn hc aw HN;go_enter func4,ntmps4
  go_upto_region 1 with fail
  rw[<- a0];simp only[<- c6];clear a0 c6;go_wp2_with (first
   | (go_at_call 6;refine(c7 w2 Z).mono ?_;rintro e w3 ⟨rfl,a1⟩;have a4:=jz (aA Z a1);clear a1)
   | (go_at_call 6;refine(c7 w1 a9).mono ?_;rintro e w2 ⟨rfl,J⟩;have Z:=jz (aA a9 J);clear J)
   | (go_at_call 9;refine(c9 w2 Z).mono ?_;rintro e _ ⟨rfl,rfl⟩))
  go_ret;exact⟨rfl,a4⟩
 have f2:=RY (l:=l) (by rw[hf];decide);rw[hf,<- O] at c9;rcases Int.lt_or_le 30 c.sec with d0|d0
 ·rw[decide_eq_false (show ¬c.sec<=30 by omega)] at a6;rw[<- O];obtain⟨K,a7⟩:=je (aQ c);rw[<- a7] at a0 I a3 a6 ⊢;clear a7 f4 hs d1 hd hm hK ht O f3 hf hn hc aw HN f2 d0;go_enter func4,ntmps4
  go_upto_region 1 with fail
  rw[<- a0];simp only[<- c6];clear a0 c6;go_wp2_with (first
   | (go_at_call 6;refine(c7 w3 a4).mono ?_;rintro e w4 ⟨rfl,f0⟩;have g2:=jz (aA a4 f0);clear f0)
   | (go_at_call 6;refine(c7 w1 a9).mono ?_;rintro e w2 ⟨rfl,J⟩;have Z:=jz (aA a9 J);have U:=jz J;clear J)
   | (go_at_call 9;refine(c9 w2 Z).mono ?_;rintro e _ ⟨rfl,rfl⟩)
   | (refine ld 37 (.tmp 3) rfl rfl (by rfl) (I _ U) underlying37 rfl a3 ?_)
   | (go_at_call 10;refine(a6 w2).mono ?_;rintro e w3 ⟨rfl,a1⟩;have a4:=jz (aA Z a1);clear a1))
  go_ret;exact⟨rfl,g2⟩
 rw[decide_eq_true d0] at a6;have k2:l.length<=cap:=by obtain⟨A',s0,hv,h1,_⟩:=hs;injection hv with _ _ h3;omega
 have d5:=jz (Y7 l A cap w hc hK hs d1 hd f2.1 d0);have c4:=jz (fun(W:Wd) (D:Bw w W)=>V6 l A cap W hc (hK.below D) (hs.below D) (λx hx=>(d1 x hx).below D) hd f2.1 d0);obtain⟨k,hk⟩:=je (nn.toNat % (l.length+1));have h8:k<=l.length:=by have:=Nat.mod_lt nn.toNat (show 0<l.length+1 by omega);omega
 have q5:nn % ((l.length:Int)+1)=(k:Int):=by
  rw[hk,Int.natCast_emod,Int.toNat_of_nonneg hn.1];rfl
 have h2:(l.take k).length=k:=by rw[jv];omega
 have b7:=fun(W:Wd) (D:Bw w W)=>V6 (l.take k) A cap W hc (hK.below D) (by
   have h1:=(hs.below D).take k h8
   rw[nV opC 4 l (λ_ _=>rfl) k h8] at h1
   rw[h2]
   exact h1) (λx hx=>(d1 x (j7 hx)).below D) (λx hx=>hd x (j7 hx)) (by omega) d0
 have m9:=jz (fun(W:Wd) (D:Bw w W) (x:Int×Option Int) (hx:(dC (vF c) c (bF l)).1=some x)=>IL (V:=vF c) c l A cap W (hs.below D) (λx hx=>(d1 x hx).below D) hd hm hx);rw[h2,IT] at b7;have r1:Hid (nn % ((n:Int)+1)=(k:Int)):=jz (by rw[O];exact q5);have c5:Hid (k<=n):=jz (by omega);have m4:Hid (n<=cap):=jz (by omega);have h0:Hid (n<=40):=jz (by have:=f2.1;omega);have m6:=jz hn;have HT:=jz ht;obtain⟨rr,a8⟩:=je (dC (vF c) c (bF l));cases hra:rr.1 with
 | some x=>
  have f8:=NL (show(dC (vF c) c (bF l)).1=some x by rw[<- a8];exact hra);have e0:=jz (fun(W:Wd) (D:Bw w W)=>m9.out W D x (by rw[<- a8];exact hra));rw[<- a8,<- O] at c4;rw[<- O] at e0 ⊢;obtain⟨a,x4⟩:=rr;simp only at hra;obtain⟨cd,v5⟩:=x;simp only at f8 e0;subst hra;obtain⟨tv,uv,s5⟩:=bU (cd,v5);have x1:=cV tv uv;have a2:Hid (∀ W,Bw w W->Wc 11 #[.agg (aQ c).toArray,.slice A n cap] W (Rt W (.tuple #[.slice none 0 0,.iface tv uv]))):=jz (λW D=>by have h:=c4.out W D;rw[<- s5];exact h);obtain⟨K,a7⟩:=je (aQ c);rw[<- a7] at a0 I a3 a6 e0 a2 ⊢;have q1:(cd != 0)=true:=by rcases f8 with rfl|rfl <;> decide
  have v0:=jz q1;clear a7 f4 hs d1 hd hm hK ht O f3 hf hn hc aw HN f2 d0 d5 c4 b7 m9 hk h8 q5 h2 s5 a8 k2 r1 c5 m4 h0 m6 f8 q1
  as_aux_lemma=>
  go_enter func4,ntmps4
  go_upto_region 1 with fail
  rw[<- a0];simp only[<- c6];clear a0 c6;go_upto_region 3 with (first
   | (go_at_call 6;refine(c7 w1 a9).mono ?_;rintro e w2 ⟨rfl,J⟩;have Z:=jz (aA a9 J);have U:=jz J;clear J)
   | (go_at_call 9;refine(c9 w2 Z).mono ?_;rintro e _ ⟨rfl,rfl⟩)
   | (refine ld 37 (.tmp 3) rfl rfl (by rfl) (I _ U) underlying37 rfl a3 ?_)
   | (go_at_call 10;refine(a6 w2).mono ?_;rintro e w3 ⟨rfl,a1⟩;have a4:=jz (aA Z a1);have b0:=jz (aA U a1);clear a1))
  clear c7 c9 a6 Z U;go_upto_region 5 with (first
   | (refine ld 37 (.tmp 3) rfl rfl (by rfl) (I _ b0) underlying37 rfl a3 ?_)
   | (go_at_call 11;refine(a2 w3 a4).mono ?_;rintro e w4 ⟨rfl,f0⟩;have g2:=jz (aA a4 f0);have q7:=jz (aA b0 f0);clear f0))
  clear a2 x1;have x2:=IK cd;have q1:=v0.out;go_wp2_with (first
   | (refine ld 37 (.tmp 3) rfl rfl (by rfl) (I _ q7) underlying37 rfl a3 ?_)
   | (go_at_call 12;refine(e0 w4 g2).mono ?_;rintro e w5 ⟨aa,rfl,v9⟩))
  first|go_ret|skip
  exact⟨rfl,aA g2 v9⟩
 | none=>
  have d2:rr.2.length=n:=by rw[a8,O,<- cY l];exact R6 (by rw[<- a8];exact hra)
  have t7:=NO (V:=vF c) (c:=c) (l:=bF l) k (by rw[<- a8];exact hra);rw[t7,<- a8] at b7;have a5:Hid (∀ x∈rr.2,RowOk x):=jz (by rw[a8];exact d5);rw[<- a8,<- O] at c4;rw[<- O];obtain⟨a,R⟩:=rr;simp only at hra d2 b7 a5;subst hra;have a2:Hid (∀ W,Bw w W->Wc 11 #[.agg (aQ c).toArray,.slice A n cap] W λe w'=>∃ v,e = .returned (.tuple #[v,.nilIface])/\w'.ownsRow W.heap.size 31 36 v n (R.flatMap bM)/\Bw W w'):=jz (λW D=>by
   have h:Wc 11 #[.agg (aQ c).toArray,.slice A n cap] W λe w'=>∃ v,e = .returned (.tuple #[v,.nilIface])/\w'.ownsRow W.heap.size 31 36 v R.length (R.flatMap bM)/\Bw W w':=c4.out W D
   rw[d2] at h
   exact h)
  have q3:(R.take k).length=k:=by rw[jv,d2];have:=c5.out;omega
  have n0:Hid (∀ W,Bw w1 W->Wc 11 #[.agg (aQ c).toArray,.slice A k cap] W λe w'=>∃ v,e = .returned (.tuple #[v,.nilIface])/\w'.ownsRow W.heap.size 31 36 v k ((R.take k).flatMap bM)/\Bw W w'):=jz (λW D=>by
   have h:Wc 11 #[.agg (aQ c).toArray,.slice A k cap] W λe w'=>∃ v,e = .returned (.tuple #[v,.nilIface])/\w'.ownsRow W.heap.size 31 36 v (R.take k).length ((R.take k).flatMap bM)/\Bw W w':=b7 W (aA a9 D)
   rw[q3] at h
   exact h)
  have d7:=jz d2;have f5:=jz q3;obtain⟨K,a7⟩:=je (aQ c);rw[<- a7] at a0 I a3 a6 a2 n0 f4 ⊢;clear a7 hs d1 hd hm hK ht O f3 hf hn hc aw HN f2 d0 d5 c4 b7 m9 hk h8 q5 h2 a8 k2 d2 q3 t7;go_enter func4,ntmps4
  go_upto_region 1 with fail
  rw[<- a0];simp only[<- c6];clear a0 c6;go_upto_region 3 with (first
   | (go_at_call 6;refine(c7 w1 a9).mono ?_;rintro e w2 ⟨rfl,J⟩;have Z:=jz (aA a9 J);have U:=jz J;clear J)
   | (go_at_call 9;refine(c9 w2 Z).mono ?_;rintro e _ ⟨rfl,rfl⟩)
   | (refine ld 37 (.tmp 3) rfl rfl (by rfl) (I _ U) underlying37 rfl a3 ?_)
   | (go_at_call 10;refine(a6 w2).mono ?_;rintro e w3 ⟨rfl,a1⟩;have a4:=jz (aA Z a1);have b0:=jz (aA U a1);clear a1))
  clear c7 c9 a6 Z U;go_upto_region 4 with (first
   | (refine ld 37 (.tmp 3) rfl rfl (by rfl) (I _ b0) underlying37 rfl a3 ?_)
   | (go_at_call 11;refine(a2 w3 a4).mono ?_;rintro e wA ⟨v1,rfl,t4,q0⟩))
  obtain⟨A1,c1,rfl,k3,_⟩:=kN t4;have n1:=jz k3;have r6:=jz (aA a4 q0);have g3:=jz (aA b0 q0);have w8:=m6.out.1;have x0:=m6.out.2;have w7:=h0.out;clear t4 k3 q0 a4 b0;go_upto_region 7 with fail
  rw[r1.out];clear w8 x0 w7;have y4:(0:Int)<=k:=by omega
  have t1:(k:Int)<=cap:=by have:=c5.out;have:=m4.out;omega
  have t2:k<=cap:=by have:=c5.out;have:=m4.out;omega
  -- region 7
  refine kZ (n:=10) (Below wA.heap.size wA) ((ji _ _).drew) (h:=λhH=>?_);refine qL 0 (cs:=K) (λW D=>I.out W (aA g3 D)) (f4) ?_;refine qM 1 (.slice A n cap) ?_;refine qM 2 (.int .i64 (k:Int)) ?_;refine qT 3 (.slice A k cap) ?_;refine kF 4 (some 52) ((n0 _ (aA g3 hH)).mono ?_);rintro e wB ⟨v2,rfl,t5,J⟩;refine⟨_,rfl,(aA hH J),λhH=>?_⟩;simp only[jq];refine qM 5 (.tuple #[v2,.nilIface]) ?_;refine qT 6 (v2) ?_;refine qT 7 (.nilIface) ?_;refine qT 8 (v2) ?_;refine qT 9 (.nilIface) ?_;refine kE (h:=?_)
  -- end of region 7
  obtain⟨A2,c2,rfl,k4,_⟩:=kN t5;have n2:=jz k4;have n3:=jz (aA r6 hH);have r0:=jz (aA g3 hH);have m2:=jz hH;clear t5 k4 J hH t1 t2;go_upto_region 9 with (first
   | (refine ld 37 (.tmp 3) rfl rfl (by rfl) (I _ r0) underlying37 rfl a3 ?_)
   | (go_at_call 11;refine(a2 wB n3).mono ?_;rintro e wC ⟨v3,rfl,t6,f1⟩))
  obtain⟨A3,c3,rfl,m1,_⟩:=kN t6;have r7:=jz (aA n3 f1);have e1:∀(A0:Option Addr) (c0 m:Nat) (L:List RowD) (W0:Wd),(∀ x∈L,x∈R)->L.length=m->Sn W0 36 (.slice A0 m c0) m (L.flatMap bM)->∀ j (hj:j<L.length),∃ b o,A0=some ⟨b,o,none⟩/\∀ W,Bw W0 W->W.rangeAt b (o+j*36) (bM L[j]):=λA0 c0 m L W0 hL hm hs j hj=>by
   subst hm;obtain⟨b,o,e,hr⟩:=Q5 hs (λx hx=>a5.out x (hL x hx)) j hj;exact⟨b,o,e,λW D i u hi=>j9 D (hr i u hi)⟩
  have f9:=jz (e1 A1 c1 n R wC (λx hx=>hx) d7 (n1.below (aA m2 f1)));have g0:=jz (e1 A2 c2 k (R.take k) wC (λx hx=>j7 hx) f5 (n2.below f1));have g1:=jz (e1 A3 c3 n R wC (λx hx=>hx) d7 m1);have n4:=jz (n1.below (aA m2 f1));have n6:=jz (n2.below f1);clear t6 m1 f1 e1 a2 n0 n1 n2 I a3 r6 n3 g3 r0 m2 a9;go_wp2_with fail
  go_loopw [14] (λi wr=>∃ j:Nat,j<=n/\i = .int .i64 j/\Hid (Bw wC wr)) (λi _=>n-(intOf i).toNat)
  case atStart=>exact⟨0,j0 _,rfl,jz (ji _ _)⟩
  case round=>
   obtain⟨j,hj,rfl,HB⟩:=hrel;rcases jo j n with q4|y1
   ·have f7:j<R.length:=by rw[d7.out];exact q4
    have h9:=a5.out _ (List.getElem_mem f7);obtain⟨b1,o1,v6,k0⟩:=f9.out j f7;obtain⟨b3,o3,v8,k1⟩:=g1.out j f7;subst v6 v8;have y2:(0:Int)<=j:=by omega
    have y3:(j:Int)<n:=by omega
    have x3:=h0.out;have h6:=eR h9;have h5:=Y8 h9;have h4:=fun(p q:Operand) (w:Wd)=>X2 (r:=R[j]) p q w
    have h7:∀(h:j<(R.take k).length),bM (R.take k)[j]=bM R[j]:=λh=>by rw[List.getElem_take]
    have f6:=g0.out j;obtain⟨Q,hQ⟩:=je (bM R[j]);rw[<- hQ] at k0 k1 h6 h5 h4 h7;have m8:Hid (∀ W,Bw wr W->W.rangeAt b1 (o1+j*36) Q):=jz (λW D=>k0 W (aA HB D));have r2:Hid (∀ W,Bw wr W->W.rangeAt b3 (o3+j*36) Q):=jz (λW D=>k1 W (aA HB D));have e8:=jz h6;have m5:=jz h5;have m3:=jz h4;have g8:Hid (Bw wC wr.drew):=jz (aA HB (ji _ _).drew);rcases jo j k with t0|t0
    ·have q2:j<(R.take k).length:=by rw[f5.out];exact t0
     obtain⟨b2,o2,v7,q6⟩:=f6 q2;subst v7;rw[h7 q2] at q6;have v4:Hid (∀ W,Bw wr W->W.rangeAt b2 (o2+j*36) Q):=jz (λW D=>q6 W (aA HB D));have w6:(j:Int)<k:=by omega
     clear k0 q6 k1 h9 hQ h6 h5 h4 h7 f6 f9 g0 g1 q2 f7;go_upto_region 14 with fail
     -- region 14a
     refine kZ (n:=25) (Below wr.heap.size wr) ((ji _ _).drew) (h:=λhH=>?_);refine qM 0 (.slice (some ⟨b1,o1,none⟩) n c1) ?_;refine qM 1 (.int .i64 (j:Int)) ?_;refine qT 2 (.pointer (some ⟨b1,o1+j*36,none⟩)) ?_;refine qL 3 (cs:=Q) (λW D=>m8.out W D) (e8) ?_;refine qM 4 (.slice (some ⟨b3,o3,none⟩) n c3) ?_;refine qM 5 (.int .i64 (j:Int)) ?_;refine qT 6 (.pointer (some ⟨b3,o3+j*36,none⟩)) ?_;refine qL 7 (cs:=Q) (λW D=>r2.out W D) (e8) ?_;refine qT 8 (.bool false) ?_ (hy:=λW _=>by have t3:=m5.out;have s4:=m3.out;unfold execOp;go_simp);refine qM 9 (.bool false) ?_;refine qM 10 (.int .i64 (j:Int)) ?_;refine qM 11 (.int .i64 (k:Int)) ?_;refine qT 12 (.bool true) ?_;refine qM 13 (.bool true) ?_;refine qM 14 (.slice (some ⟨b1,o1,none⟩) n c1) ?_;refine qM 15 (.int .i64 (j:Int)) ?_;refine qT 16 (.pointer (some ⟨b1,o1+j*36,none⟩)) ?_;refine qL 17 (cs:=Q) (λW D=>m8.out W D) (e8) ?_;refine qM 18 (.slice (some ⟨b2,o2,none⟩) k c2) ?_;refine qM 19 (.int .i64 (j:Int)) ?_;refine qT 20 (.pointer (some ⟨b2,o2+j*36,none⟩)) ?_;refine qL 21 (cs:=Q) (λW D=>v4.out W D) (e8) ?_;refine qT 22 (.bool false) ?_ (hy:=λW _=>by have t3:=m5.out;have s4:=m3.out;unfold execOp;go_simp);refine qT 23 (.bool false) ?_;refine qT 24 (.bool false) ?_;refine kE (h:=?_)
     -- end of region 14a
     clear hH;go_wp2_with fail
     exact⟨⟨j+1,q4,by go_num,g8⟩,by simp[intOf];omega⟩
    ·have w6:¬(j:Int)<k:=by omega
     obtain⟨v2,t9⟩:=je (Value.slice A2 k c2);rw[<- t9];clear k0 k1 h9 hQ h6 h5 h4 h7 f6 f9 g0 g1 f7 t9 n6;go_upto_region 14 with fail
     -- region 14b
     refine kZ (n:=25) (Below wr.heap.size wr) ((ji _ _).drew) (h:=λhH=>?_);refine qM 0 (.slice (some ⟨b1,o1,none⟩) n c1) ?_;refine qM 1 (.int .i64 (j:Int)) ?_;refine qT 2 (.pointer (some ⟨b1,o1+j*36,none⟩)) ?_;refine qL 3 (cs:=Q) (λW D=>m8.out W D) (e8) ?_;refine qM 4 (.slice (some ⟨b3,o3,none⟩) n c3) ?_;refine qM 5 (.int .i64 (j:Int)) ?_;refine qT 6 (.pointer (some ⟨b3,o3+j*36,none⟩)) ?_;refine qL 7 (cs:=Q) (λW D=>r2.out W D) (e8) ?_;refine qT 8 (.bool false) ?_ (hy:=λW _=>by have t3:=m5.out;have s4:=m3.out;unfold execOp;go_simp);refine qM 9 (.bool false) ?_;refine qM 10 (.int .i64 (j:Int)) ?_;refine qM 11 (.int .i64 (k:Int)) ?_;refine qT 12 (.bool false) ?_;refine qM 13 (.bool false) ?_;refine qX 14 ?_;refine qX 15 ?_;refine qX 16 ?_;refine qX 17 ?_;refine qX 18 ?_;refine qX 19 ?_;refine qX 20 ?_;refine qX 21 ?_;refine qX 22 ?_;refine qT 23 (.bool false) ?_;refine qT 24 (.bool false) ?_;refine kE (h:=?_)
     -- end of region 14b
     clear hH;go_wp2_with fail
     exact⟨⟨j+1,q4,by go_num,g8⟩,by simp[intOf];omega⟩
   ·obtain rfl:j=n:=by omega
    have HS:Hid (∀(A0:Option Addr) (c0:Nat) (W:Wd),Bw wr W->Sn wr 36 (.slice A0 k c0) k ((R.take k).flatMap bM)->Wc 7 #[.slice A0 k c0] W (Rt W (.string (SBy (fW (R.take k)))))):=jz (λA0 c0 W D hs=>by
     have h:=zM (R.take k) A0 c0 W (HT.below (aA r7 (aA HB D))) (by rw[f5.out];exact hs.below D) (λx hx=>a5.out x (j7 hx)) (by rw[f5.out];have:=c5.out;have:=h0.out;omega)
     rw[f5.out] at h
     exact h)
    have r3:=jz (fun(W:Wd) (D:Bw wr W)=>HS.out A2 c2 W D (n6.below HB));have r5:=jz (fun(W:Wd) (D:Bw wr W)=>HS.out A1 c1 W D (by
     have h1:=(n4.below HB).take k c5.out
     rw[nV bM 36 R (λx hx=>eR (a5.out x hx)) k (by rw[d7.out];exact c5.out)] at h1
     exact h1))
    obtain⟨S,hS⟩:=je (SBy (fW (R.take k)));rw[<- hS] at r3 r5;have x5:j<=c1:=by obtain⟨A',s0,hv,h1,_⟩:=n4.out;injection hv with _ _ h3;omega
    have t1:(k:Int)<=c1:=by have:=c5.out;omega
    have t2:k<=c1:=by have:=c5.out;omega
    have g8:=jz (aA r7 HB);clear hS HS f9 g0 g1 n4 n6;have y5:(S.toList == S.toList)=true:=beq_self_eq_true _;go_upto_region 16 with fail
    -- region 16
    refine kZ (n:=8) (Below wr.heap.size wr) ((ji _ _).drew) (h:=λhH=>?_);refine qM 0 (.slice A2 k c2) ?_;refine qM 2 (.slice A1 j c1) ?_;refine qM 3 (.int .i64 (k:Int)) ?_;refine qT 4 (.slice A1 k c1) ?_;refine kF 1 (some 119) ((r3 _ hH).mono ?_);rintro e y6 ⟨rfl,s1⟩;refine⟨_,rfl,(aA hH s1),λhH=>?_⟩;simp only[jq];refine kF 5 (some 123) ((r5 _ hH).mono ?_);rintro e z0 ⟨rfl,s3⟩;refine⟨_,rfl,(aA hH s3),λhH=>?_⟩;simp only[jq];refine qT 6 (.bool true) ?_;refine qT 7 (.bool true) ?_;refine kE (h:=?_)
    -- end of region 16
    go_wp2_with fail
    first|go_ret|skip
    exact⟨rfl,aA g8 hH⟩
end Go.Proofs.YtiaigidbcljblaaGreatDoor
