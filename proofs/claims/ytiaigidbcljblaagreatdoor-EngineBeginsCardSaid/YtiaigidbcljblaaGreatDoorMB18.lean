import Derived.Test.YtiaigidbcljblaaGreatDoorMB16
set_option linter.unusedVariables false
set_option linter.unusedSimpArgs false
set_option maxRecDepth 100000
set_option maxHeartbeats 40000000
namespace Go.Proofs.YtiaigidbcljblaaGreatDoor
open Go.Proofs.Tryz
open Go.RowKit
attribute [local irreducible] wpQuiet wpAnyH
def s7(key nn:Nat->Nat)(used:Nat):Wv:=arr 16 (c8 key)++arr 8 (c8 nn)++[.int .i64 (used:Nat)]
theorem PH{L:Wv}(h:L.length=8):(prog.info? 308).map (·.size)=some L.length:=by rw[h];kernel_rfl
theorem TW(key nn:Nat->Nat)(w:Wd):Wc 283 #[.agg (arr 16 (c8 key)).toArray,.agg (arr 8 (c8 nn)).toArray] w λe w'=>∃ p,e = .returned (.pointer (some ⟨p,0,none⟩))/\Blk w' p 433 (s7 key nn 0).toArray/\w.heap.size<=p/\Bw w w':=by
 go_enter func283,ntmps283
 go_upto_region 1 with fail
 obtain⟨g,hg⟩:=je w.heap.size;obtain⟨U,j⟩:=je ((w.alloc (.cells (arr 16 (c8 key)).toArray 35)).alloc (.cells (arr 8 (c8 nn)).toArray 308));have x:Hid (Bw w U/\w.heap.size<=g/\AB U g 35 16 (c8 key)/\AB U (g+1) 308 8 (c8 nn)):=jz (by
  rw[j,hg]
  exact⟨((ji _ w).alloc (ja _) _).alloc (by simp) _,ja _,(Blk.new _ _ _).alloc _,Blk.newAt _ _ _ _ (by simp)⟩)
 rw[<- j];simp only[World.size_alloc,<- hg];clear j hg;have O:=x.out.2.2.1.range;have J:=dW (L:=arr 16 (c8 key)) (aB _ _);have R:=x.out.2.2.2.range;have K:=PH (L:=arr 8 (c8 nn)) (aB _ _);have D:prog.built 433 [(0,.agg (arr 16 (c8 key)).toArray),(1,.agg (arr 8 (c8 nn)).toArray)]=some (s7 key nn 0).toArray:=by kernel_rfl
 obtain⟨C,I⟩:=je (s7 key nn 0);rw[<- I] at D;have V:=jz I;clear I;go_wp2_with (first
  | (refine ld 35 (.tmp 2) rfl rfl rfl O underlying35 rfl J ?_)
  | (refine ld 308 (.tmp 3) rfl rfl rfl R underlying308 rfl K ?_)
  | (refine eC 433 _ rfl (by rfl) (by rfl) D ?_))
 go_ret;exact⟨_,rfl,by rw[<- V.out];exact Blk.new _ _ _,x.out.1.size,x.out.1.alloc (x.out.1.size) _⟩
def YP(g:Nat):Value:=.func (.func 340) #[] #[.pointer (some ⟨g,0,none⟩),.pointer (some ⟨g+1,0,none⟩),.pointer (some ⟨g+1+1,0,none⟩)]
structure IXc(w W:Wd)(g:Nat)(key nn:Nat->Nat)(i:Nat):Prop where
 be:Bw w W
 lo:w.heap.size<=g
 k:AB W g 35 16 (c8 key)
 n:AB W (g+1) 308 8 (c8 nn)
 i:Blk W (g+1+1) 141 #[.int .u64 (i:Nat)]
theorem GC(key nn:Nat->Nat)(i:Nat)(w:Wd):Wc 332 #[.agg (arr 16 (c8 key)).toArray,.agg (arr 8 (c8 nn)).toArray,.int .u64 (i:Nat)] w λe w'=>e = .returned (YP w.heap.size)/\IXc w w' w.heap.size key nn i:=by
 have I:∀(fn:Fn) (first cap:Wa) (w:Wd),(Instr.makeFunc fn first cap).run prog w = .ok (.func fn first cap) w:=λ_ _ _ _=>rfl
 go_enter func332,ntmps332
 go_upto_region 1 with fail
 obtain⟨g,hg⟩:=je w.heap.size;obtain⟨J,j⟩:=je (((w.alloc (.cells (arr 16 (c8 key)).toArray 35)).alloc (.cells (arr 8 (c8 nn)).toArray 308)).alloc (.cells #[.int .u64 (i:Nat)] 141));have D:Hid (IXc w J g key nn i):=jz (by
  rw[j,hg]
  exact⟨(((ji _ w).alloc (ja _) _).alloc (by simp) _).alloc (by simp;omega) _,ja _,((Blk.new _ _ _).alloc _).alloc _,(Blk.newAt _ _ _ _ (by simp)).alloc _,Blk.newAt _ _ _ _ (by simp)⟩)
 have x:=jz hg;rw[<- j];simp only[World.size_alloc,<- hg];clear j hg;go_wp2_with fail
 go_ret;exact⟨by rw[<- x.out];rfl,by rw[<- x.out];exact D⟩
def JR(key nn:Nat->Nat)(i:Nat):Wa:=#[.agg (arr 16 (c8 (jE key (kV nn i)))).toArray]
def XBc(g:Nat):bJ:=λk=>k=g\/k=g+1\/k=g+1+1
def ZBc(g:Nat):bJ:=λk=>k=g+1+1
structure CIt(g:Nat)(key nn:Nat->Nat)(i:Nat)(T:bJ)(W:Wd):Prop where
 k:AB W g 35 16 (c8 key)
 n:AB W (g+1) 308 8 (c8 nn)
 i:Blk W (g+1+1) 141 #[.int .u64 (i:Nat)]
 nT:∀ k,T k->¬XBc g k
def PI(W:Wd)(g:Nat):Nat:=match W.cell? ⟨g+1+1,0,none⟩ with
 | some (.int _ z)=>z.toNat
 | _=>0
theorem CIt.cnt{g i:Nat}{key nn:Nat->Nat}{T:bJ}{W:Wd}(h:CIt g key nn i T W):PI W g=i:=by
 unfold PI;rw[h.i.cell 0];simp
theorem LM(j m k:Nat)(h:k<m):List.range' j k++[j+k] <+: List.range' j m:=by
 have e:List.range' j k++[j+k]=List.range' j (k+1):=by rw[List.range'_concat];simp
 rw[e];refine⟨List.range' (j+(k+1)) (m-(k+1)),?_⟩;have:=List.range'_append_1 (s:=j) (m:=k+1) (n:=m-(k+1));rw[this];congr 1;omega
theorem Turn.blkC{T x:bJ}{W W':Wd}{g t:Nat}{cs:Wa}(h:Turn T W x W')(j:Blk W g t cs)(D:¬T g):Blk W' g t cs:=(h.block g j.lt D).trans j
theorem TY(key nn:Nat->Nat)(D m g:Nat)(w:Wd)(a1:bD key)(c2:bD nn)(hi:D+m<18446744073709551616)(h1:AB w g 35 16 (c8 key))(h2:AB w (g+1) 308 8 (c8 nn))(h3:Blk w (g+1+1) 141 #[.int .u64 (D:Nat)]):
  NW True Fence.wide 9 prog 340 #[.pointer (some ⟨g,0,none⟩),.pointer (some ⟨g+1,0,none⟩),.pointer (some ⟨g+1+1,0,none⟩)] (JR key nn) (XBc g) (ZBc g) (List.range' D m) w:=by
 intro ly J Jx T0 W hW d7 e0 hJ d5 e8 hY b1 h0 a0;have a5:Hid (CIt g key nn D T0 W):=jz ⟨h1.keep hW,h2.keep hW,h3.keep hW,b1⟩;have d0:Hid (∀ k,k=ly->¬XBc g k):=jz (by
  have:=h3.lt
  rintro k rfl (h|h|h) <;> omega)
 have a7:=jz h0;have a6:=jz (λT W=>a0 trivial T W);have c7:=jz a1;have c9:=jz c2;have a8:=jz hJ;have e1:Hid (g+1+1<W.heap.size):=jz (jp h3.lt hW.size);clear h1 h2 h3 b1 h0 a0 a1 c2 hJ d5;refine callsIn_of_wp func340 rfl trivial ?_ rfl;simp only[ntmps340,js,List.length_cons,List.length_nil,Nat.reduceAdd,Nat.reduceSub,Array.replicate_succ,Array.replicate_zero,List.push_toArray,List.append_toArray,List.nil_append,List.cons_append];refine wpIn_wide.2 ?_;go_wp2_with fail
 go_loopw [11] (λu wr=>∃(k:Nat) (T:bJ),k<=m/\Hid (J (List.range' D k) T wr)/\Hid (CIt g key nn (D+k) T wr)/\Hid (W.heap.size<=wr.heap.size)) (λ_ wr=>D+m-PI wr g)
 case atStart=>exact⟨0,T0,j0 _,a7,a5,jz (ja _)⟩
 case round=>
  clear a7 a5;obtain⟨k,T,hk,HJ,Z,HS⟩:=hrel;have b7:k<m:=Nat.lt_of_le_of_ne hk (λe=>by
   subst e
   exact a6 _ _ HJ)
  have R:=jz (LM D m k b7);obtain⟨q,hq⟩:=je (D+k);have f1:q+1<18446744073709551616:=by omega
  have O:Hid (List.range' D k++[q]=List.range' D (k+1)/\q+1=D+(k+1)/\q<D+m):=jz ⟨by rw[hq,List.range'_concat];simp,by omega,by omega⟩;rw[<- hq] at Z R;have c4:=jz Z.cnt;have HK:=jz Z.k.range;have HN:=jz Z.n.range;have a2:=jz (LE key nn q wr c7 c9 (by omega));have c0:=Z.i.cell 0;simp only[jf,jg] at c0;obtain⟨e,he⟩:=je ((arr 16 (c8 (jE key (kV nn q)))).toArray);have HE:=jz he;have c5:Hid ((prog.info? 35).map (·.size)=some (arr 16 (c8 key)).length):=jz (by rw[aB];kernel_rfl);have c6:Hid ((prog.info? 308).map (·.size)=some (arr 8 (c8 nn)).length):=jz (by rw[aB];kernel_rfl);rw[<- he] at a2;clear he hq;refine(wpIn_wide (n:=9)).1 ?_;gi_wp2_with (first
   | (refine iLd 35 (.tmp 1) rfl zW rfl rfl HK underlying35 rfl c5 ?_)
   | (refine iLd 308 (.tmp 2) rfl zW rfl rfl HN underlying308 rfl c6 ?_))
  refine⟨trivial,(callsIn_wide.2 a2).mono ?_⟩;rintro _ w1 ⟨rfl,K⟩;have b0:J (List.range' D k) T w1:=a8.out _ _ _ _ HJ (Lies.of_below K);obtain⟨fn,tmps,c3,body,hy,hR⟩:=hY _ _ T w1 R b0;dsimp only [JR] at hy;rw[<- HE.out] at hy;have x:Hid (CIt g key nn q T w1):=jz ⟨Z.k.keep K,Z.n.keep K,Z.i.keep K,Z.nT⟩;have a4:Hid (W.heap.size<=w1.heap.size):=jz (jm HS K.size);clear K b0 a2 c0 HK HN Z HS HJ HE;gi_wp2_with fail
  refine hR.mono ?_;rintro _ wD ⟨T',hT,⟨rfl,U⟩|⟨rfl,U⟩⟩
  ·have V:∀ k,(T k\/k=ly)->¬XBc g k:=λj h hx=>h.elim (λh=>x.nT j h hx) (λe=>d0.out j e hx)
   have d1:Hid (W.heap.size<=wD.heap.size):=jz (jm a4 hT.size);have I:Hid (CIt g key nn q T' wD):=jz ⟨hT.blkC x.k (λh=>V _ h (.inl rfl)),hT.blkC x.n (λh=>V _ h (.inr (.inl rfl))),hT.blkC x.i (λh=>V _ h (.inr (.inr rfl))),
    λj hj hx=>(hT.sub j hj).elim (λh=>V j h hx) (λh=>by
     have h1:=x.k.lt
     have h2:=x.n.lt
     have h3:=x.i.lt
     rcases hx with hx|hx|hx <;> omega)⟩
   have a3:=jz U;clear hR hy hT V U hY x a4;have c0:=I.i.cell 0;simp only[jf,jg] at c0;have f0:=I.i.frozen 0;gi_wp2_with fail
   go_wp2_with fail
   have d2:J (List.range' D (k+1)) T' (wD.setCell ⟨g+1+1,0,none⟩ (.int .u64 ((q:Int)+1))):=by
    rw[<- O.out.1];exact a8 _ _ _ _ a3 (Lies.setCell _ _ _ _ (λh=>h.elim (λh=>I.nT _ h (.inr (.inr rfl))) (λh=>h.2 rfl)) _)
   have a9:CIt g key nn (D+(k+1)) T' (wD.setCell ⟨g+1+1,0,none⟩ (.int .u64 ((q:Int)+1))):=by
    rw[<- O.out.2.1];exact⟨I.k.far (p:=⟨g+1+1,0,none⟩) (by show g≠g+1+1;omega) _,I.n.far (p:=⟨g+1+1,0,none⟩) (by show g+1≠g+1+1;omega) _,by have:=Blk.set_ (show Blk wD (g+1+1) 141 #[.int .u64 (q:Nat)] from I.i) 0 (.int .u64 ((q:Int)+1));simpa using this,I.nT⟩
   have hm:D+m-PI (wD.setCell ⟨g+1+1,0,none⟩ (.int .u64 ((q:Int)+1))) g<D+m-PI wr g:=by
    rw[a9.cnt,c4.out];have:=O.out;omega
   exact⟨⟨k+1,T',b7,jz d2,jz a9,jz (by simpa using d1.out)⟩,hm⟩
  ·have a3:=jz U;clear hR hy hT U hY x a4;gi_wp2_with fail
   go_wp2_with fail
   go_end0
   exact⟨⟨_,rfl⟩,T',.inr ⟨_,R,a3⟩⟩
def hd3:Wa:=#[.int .u8 65,.int .u8 80,.int .u8 1]
def z3:Wa:=#[.int .u8 0,.int .u8 0,.int .u8 0]
theorem PJ(w:Wd):Wc 158 #[] w (Rt w (.agg hd3)):=by
 go_enter func158,ntmps158
 go_wp2
 exact bodyPost_ret (results_cell_row (P:=prog) rfl _ _ w.heap.size _ hd3 (0,0) _ rfl (heap_alloc_new w _) underlying278 rfl (by kernel_rfl)) rfl ⟨rfl,(ji _ w).alloc (ja _) _⟩
def rdH(b:Wl):Nat->RdS
 | 0=>(b,false)
 | k+1=>(aH 1 (rdH b k)).2
def hdN(k:Nat):Nat:=if k=0 then 65 else if k=1 then 80 else 1
def cW(b:Wl):Wl×Wl×Bool:=
 if 65536<b.length then ([],[],false) else
 if (aH 1 (rdH b 0)).1≠hdN 0 then ([],[],false) else
 if (aH 1 (rdH b 1)).1≠hdN 1 then ([],[],false) else
 if (aH 1 (rdH b 2)).1≠hdN 2 then ([],[],false) else
 if gX (bC 2 (bC 2 (rdH b 3)).2).2 then ((bC 2 (rdH b 3)).1,(bC 2 (bC 2 (rdH b 3)).2).1,true) else ([],[],false)
theorem rJ{b:Wl}(hb:Bys b)(j:b.length<=1000000):∀ k,RdOk (rdH b k)
 | 0=>⟨hb,j⟩
 | k+1=>(rJ hb j k).num 1
theorem PK{b:Wl}(k:Nat)(x:k<3)(D:b.length<=65536)(h:(aH 1 (rdH b k)).1≠hdN k):cW b=([],[],false):=by
 have j:k=0\/k=1\/k=2:=by omega
 unfold cW;rw[jQ (by omega)];rcases j with rfl|rfl|rfl
 ·rw[jP h]
 ·by_cases h0:(aH 1 (rdH b 0)).1≠hdN 0
  ·rw[jP h0]
  ·rw[jQ h0,jP h]
 ·by_cases h0:(aH 1 (rdH b 0)).1≠hdN 0
  ·rw[jP h0]
  ·by_cases h1:(aH 1 (rdH b 1)).1≠hdN 1
   ·rw[jQ h0,jP h1]
   ·rw[jQ h0,jQ h1,jP h]
theorem TZ{b:Wl}(j:b.length<=65536)(h:∀ k,k<3->(aH 1 (rdH b k)).1=hdN k):cW b=if gX (bC 2 (bC 2 (rdH b 3)).2).2 then ((bC 2 (rdH b 3)).1,(bC 2 (bC 2 (rdH b 3)).2).1,true) else ([],[],false):=by
 unfold cW;rw[jQ (by omega),jQ (by have:=h 0 (by omega);exact λe=>e this),jQ (by have:=h 1 (by omega);exact λe=>e this),jQ (by have:=h 2 (by omega);exact λe=>e this)]
theorem ZF(k:Nat)(x:k<3)(W:Wd):(Instr.index 278 (.agg #[.int .u8 65,.int .u8 80,.int .u8 1]) (.int .i64 (k:Int))).run prog W = .ok (.int .u8 ((hdN k:Nat):Int)) W:=by
 refine fA _ k underlying278 x (λw=>by kernel_rfl) (λw=>by kernel_rfl) ?_ W;have j:k=0\/k=1\/k=2:=by omega
 rcases j with rfl|rfl|rfl <;> rfl
theorem T4{w w':Wd}{g n c:Nat}{t:TypeId}{A:Option Addr}{O:Wl}(h:Sn w 1 (.slice A n c) n (u8s O))(R:Blk w g t #[.slice none 0 0,.slice none 0 0])(_:True)(ho:Off g w w'):Sn w' 1 (.slice A n c) n (u8s O):=by
 obtain⟨A',cap,hv,U,V,hx⟩:=h;injection hv with h1 h2 h3
 subst h1 h3;refine⟨A,c,rfl,U,V,λhp=>?_⟩;obtain⟨b,off,rfl,x⟩:=hx hp;refine⟨b,off,rfl,λj u D=>ho.cell (x j u D) (λe=>?_)⟩;have I:=x j u D;have e:b=g:=e;subst e;rw[R.cell] at I;have K:∃ z,u = .int .u8 z:=by
  unfold u8s at D;rw[List.getElem?_map,Option.map_eq_some_iff] at D;obtain⟨z,_,rfl⟩:=D;exact⟨z,rfl⟩
 obtain⟨z,rfl⟩:=K;have Z:off+j<2:=by
  have:=(Array.getElem?_eq_some_iff.1 I).1;exact this
 have J:off+j=0\/off+j=1:=by omega
 rcases J with J|J <;> (rw[J] at I;cases I)
def T5(w:Wd)(r:Wl×Wl×Bool)(e:Ending)(w':Wd):Prop:=∃ A ca B cb,e = .returned (.tuple #[.agg #[.slice A r.1.length ca,.slice B r.2.1.length cb],.bool r.2.2])/\Sn w' 1 (.slice A r.1.length ca) r.1.length (u8s r.1)/\Sn w' 1 (.slice B r.2.1.length cb) r.2.1.length (u8s r.2.1)/\Bw w w'/\(∀ b o,A=some ⟨b,o,none⟩->w.heap.size<=b)/\∀ b o,B=some ⟨b,o,none⟩->w.heap.size<=b
theorem vN{w w':Wd}{r:Wl×Wl×Bool}(h:r=([],[],false))(hb:Bw w w'):T5 w r (.returned (.tuple #[.agg #[.slice none 0 0,.slice none 0 0],.bool false])) w':=by
 subst h;exact⟨none,0,none,0,rfl,⟨none,0,rfl,ja _,rfl,λh=>absurd h (by simp)⟩,⟨none,0,rfl,ja _,rfl,λh=>absurd h (by simp)⟩,hb,(λb o h=>by cases h),λb o h=>by cases h⟩
def LN:Wa:=#[.slice none 0 0,.slice none 0 0]
theorem vO(b:Wl)(A:Option Addr)(cap:Nat)(w:Wd)(hs:Sn w 1 (.slice A b.length cap) b.length (u8s b))(hb:Bys b)(hl:b.length<=1000000):
  Wc 109 #[.slice A b.length cap] w (T5 w (cW b)):=by
 have HR:=jz (KY (.slice A b.length cap) b);have HS:=jz hs;have a1:=jz (rJ hb hl);obtain⟨n,hn⟩:=je b.length;rw[<- hn] at HR HS;have HL:=jz hl;clear hs hb hl;rcases jo 65536 b.length with c5|n4
 ·have HB:Hid (cW b=([],[],false)):=jz (by unfold cW;rw[jP c5]);rw[<- hn] at c5 ⊢;clear hn;have t1:(65536:Int)<n:=by omega
  go_enter func109,ntmps109
  go_wp2
  refine bodyPost_ret (aC (P:=prog) rfl _ rfl (cs:=[.slice none 0 0,.slice none 0 0]) (Blk.new w 214 LN).range underlying214 rfl (by kernel_rfl)) rfl ?_;exact vN HB ((ji _ w).alloc (ja _) _)
 ·rw[<- hn] at n4 ⊢;have b1:=jz (λk hk=>PK (b:=b) k hk (by omega));have g3:=jz (TZ (b:=b) (by omega));have HN:=jz hn;clear hn;have t1:¬(65536:Int)<n:=by omega
  go_enter func109,ntmps109
  go_upto_region 3 with fail
  obtain⟨w1,a9⟩:=je (w.alloc (.cells LN 214));obtain⟨K,e1⟩:=je w.heap.size;have c7:Hid (Bw w w1):=jz (by rw[a9];exact(ji _ w).alloc (ja _) _);have f8:Hid (Blk w1 K 214 LN):=jz (by rw[a9,e1];exact Blk.new _ _ _);have a2:Hid (w.heap.size<=K):=jz (by omega);have h7:w.alloc (.cells #[.slice none 0 0,.slice none 0 0] 214)=w1:=a9.symm;rw[h7,<- e1];clear a9 h7 e1;go_wp2_with fail
  refine(HR w1 (HS.below c7) (by have:=HN.out;have:=HL.out;omega)).mono ?_;rintro e w2 ⟨r,rfl,h4,h6,e0⟩;have g8:=jz h4;have Z:Hid (w.heap.size<=r/\K≠r):=jz ⟨jm c7.size h6,by have:=f8.lt;omega⟩;have f9:=jz (f8.keep e0);have f6:=jz (aA c7 e0);clear h4 h6 e0 HR;go_wp2_with fail
  refine(PJ w2).mono ?_;rintro e w3 ⟨rfl,a8⟩;have V:=jz (g8.keep a8);have a3:=jz (f9.keep a8);have I:=jz (aA f6 a8);clear a8;unfold hd3;go_wp2_with fail
  go_loopw [15] (λi wr=>∃ k:Nat,k<=3/\i = .int .i64 k/\Hid (RDR wr r (rdH b k))/\Hid (Blk wr K 214 LN)/\Hid (Bw w wr)/\Hid (∀ j,j<k->(aH 1 (rdH b j)).1=hdN j)) (λi _=>3-(intOf i).toNat)
  case atStart=>exact⟨0,by omega,rfl,V,a3,I,jz (λj hj=>by omega)⟩
  case round=>
   clear g8 f9 f6 V a3 I;obtain⟨k,hk,rfl,V,a3,I,HA⟩:=hrel;rcases jo k 3 with c6|q1
   ·have d2:=jz (F4 1 V (a1 k) (by omega) (by omega));have n0:=λW=>ZF k c6 W
    have hh:hdN k<256:=by unfold hdN;split <;> (try split) <;> omega
    obtain⟨h,f2⟩:=je (hdN k);rw[<- f2] at n0 hh;obtain⟨x,hx⟩:=je ((aH 1 (rdH b k)).1);rw[<- hx] at d2;have f7:=jz f2;have HX:=jz hx;have q2:(0:Int)<=k:=by omega
    have q3:(k:Int)<3:=by omega
    clear f2 hx;go_upto_region 7 with fail
    go_wp2_with fail
    refine d2.mono ?_;rintro e w4 ⟨ho,a0,rfl⟩;have a7:=jz a0;have D:=jz (ho.blk a3 Z.out.2);have U:=jz (I.trans (ho.below Z.out.1 I.size));clear ho a0 d2;by_cases hxh:x=h
    ·subst hxh;have t2:((x:Int) == (x:Int))=true:=beq_self_eq_true _;have k2:Hid (∀ j,j<k+1->(aH 1 (rdH b j)).1=hdN j):=jz (λj hj=>by
      rcases jo j k with h1|h1
      ·exact HA j h1
      ·obtain rfl:j=k:=by omega
       rw[<- HX.out,<- f7.out])
     go_wp2_with fail
     exact⟨⟨k+1,by omega,by go_num,a7,D,U,k2⟩,by simp[intOf];omega⟩
    ·have q4:¬(x:Int)=(h:Int):=by omega
     have k4:Hid (cW b=([],[],false)):=jz (b1 k c6 (by rw[<- HX.out,<- f7.out];exact hxh));have c0:=D.cell 0;have c1:=D.cell 1;have f0:=D.frozen 0;have f1:=D.frozen 1;simp only[LN,jf,jh,jg] at c0 c1;go_wp2_with fail
     have n3:=(D.set_ 0 (.slice none 0 0)).set_ 1 (.slice none 0 0);have m8:=(U.setCell a2 (.slice none 0 0) (p:=⟨K,0,none⟩)).setCell a2 (.slice none 0 0) (p:=⟨K,1,none⟩);refine bodyPost_ret (aC (P:=prog) rfl _ rfl (cs:=[.slice none 0 0,.slice none 0 0]) n3.range underlying214 rfl (by kernel_rfl)) rfl ?_;exact vN k4 m8
   ·obtain rfl:k=3:=by omega
    have a4:=jz (g3 HA);have d5:=jz (vI 2 V (a1 3) (by omega) (by omega));have a6:=jz ((a1 3).str 2);have m3:=jz (jH (a1 3) 2);obtain⟨x1,h8⟩:=je (bC 2 (rdH b 3));rw[<- h8] at d5 a6 a4 m3;clear h8 b1 g3 a1;go_wp2_with fail
    refine d5.mono ?_;rintro e w4 ⟨ho,a0,y1,rfl,O,a5⟩;obtain⟨A1,c1,rfl,_⟩:=id O;have a7:=jz a0;have D:=jz (ho.blk a3 Z.out.2);have U:=jz (I.trans (ho.below Z.out.1 I.size));have h0:=jz O;have m1:Hid (∀ b o,A1=some ⟨b,o,none⟩->w.heap.size<=b):=jz (λb o e=>jm I.size (a5 b (by rw[e];rfl)));have d7:=jz (vI 2 a0 a6 (by omega) (by omega));have m5:=jz (a6.str 2);have m4:=jz (jH a6 2);obtain⟨x2,h9⟩:=je (bC 2 x1.2);rw[<- h9] at d7 m5 a4 m4;clear h9 ho a0 O a5 d5 V;go_wp2_with fail
    refine d7.mono ?_;rintro e w5 ⟨ho,h5,y2,rfl,O,a5⟩;obtain⟨A2,c2,rfl,_⟩:=id O;have g0:=jz (ho.blk D Z.out.2);have k3:=jz (U.trans (ho.below Z.out.1 U.size));have h2:=jz O;have m2:Hid (∀ b o,A2=some ⟨b,o,none⟩->w.heap.size<=b):=jz (λb o e=>jm U.size (a5 b (by rw[e];rfl)));have c4:Hid (Sn w5 1 (.slice A1 x1.1.length c1) x1.1.length (u8s x1.1)):=jz (a7.sn h0 ho);have m6:=jz h5;obtain⟨z,hz⟩:=je (gX x2.2);rw[<- hz] at a4;have HZ:=jz hz;clear hz ho h5 O a5 d7 a7 h0 D;have n6:w5.heap.size=w5.heap.size:=rfl;obtain⟨n1,f4⟩:=je x1.1.length;obtain⟨n2,f5⟩:=je x2.1.length;have b7:=jz f4;have c3:=jz f5;rw[<- f4] at c4 ⊢;rw[<- f5] at h2 ⊢;clear f4 f5 n6;go_upto_region 11 with fail
    obtain⟨w6,b0⟩:=je (w5.alloc (.cells #[.slice A1 n1 c1,.slice A2 n2 c2] 214));obtain⟨g7,e8⟩:=je w5.heap.size;have R:Hid (Bw w5 w6):=jz (by rw[b0];exact(ji _ _).alloc (ja _) _);have g1:Hid (Blk w6 g7 214 #[.slice A1 n1 c1,.slice A2 n2 c2]):=jz (by rw[b0,e8];exact Blk.new _ _ _);have q0:Hid (K≠g7):=jz (by have:=g0.lt;omega);rw[<- b0,<- e8];clear b0 e8;have J:=jz (g0.keep R);have HD:=jz (O0 (m6.keep R));rw[<- HZ.out] at HD;have k0:=J.cell 0;have k1:=J.cell 1;have f0:=J.frozen 0;have f1:=J.frozen 1;have d0:=g1.cell 0;have d1:=g1.cell 1;simp only[LN,jf,jh,jg] at k0 k1 d0 d1;have c9:=jz (aA k3 R);cases z with
    | true=>
     have HF:Hid (cW b=(x1.1,x2.1,true)):=jz (by rw[a4.out,jP rfl]);go_wp2_with fail
     refine HD.mono ?_;rintro e wq ⟨rfl,rfl⟩;go_wp2_with fail
     have f3:=(J.set_ 0 (.slice A1 n1 c1)).set_ 1 (.slice A2 n2 c2);have h3:Off K w6 ((w6.setCell ⟨K,0,none⟩ (.slice A1 n1 c1)).setCell ⟨K,1,none⟩ (.slice A2 n2 c2)):=((Off.refl K w6).set 0 _).set 1 _;refine bodyPost_ret (aC (P:=prog) rfl _ rfl (cs:=[.slice A1 n1 c1,.slice A2 n2 c2]) f3.range underlying214 rfl (by kernel_rfl)) rfl ?_;unfold T5;rw[HF.out];have hq:∀ {A c n} {xs:Wl},Sn w5 1 (.slice A n c) n (u8s xs)->Sn ((w6.setCell ⟨K,0,none⟩ (.slice A1 n1 c1)).setCell ⟨K,1,none⟩ (.slice A2 n2 c2)) 1 (.slice A n c) n (u8s xs):=λh=>T4 (h.below R) J trivial h3
     refine⟨A1,c1,A2,c2,?_,?_,?_,c9.trans (h3.below a2 c9.size),m1,m2⟩
     ·rw[<- b7.out,<- c3.out];rfl
     ·rw[<- b7.out];exact hq c4.out
     ·rw[<- c3.out];exact hq h2.out
    | false=>
     have HF:Hid (cW b=([],[],false)):=jz (by rw[a4.out,jQ (by simp)]);go_wp2_with fail
     refine HD.mono ?_;rintro e wq ⟨rfl,rfl⟩;go_wp2_with fail
     have f3:=(J.set_ 0 (.slice none 0 0)).set_ 1 (.slice none 0 0);have m9:=(c9.setCell a2 (.slice none 0 0) (p:=⟨K,0,none⟩)).setCell a2 (.slice none 0 0) (p:=⟨K,1,none⟩);refine bodyPost_ret (aC (P:=prog) rfl _ rfl (cs:=[.slice none 0 0,.slice none 0 0]) f3.range underlying214 rfl (by kernel_rfl)) rfl ?_;exact vN HF m9
end Go.Proofs.YtiaigidbcljblaaGreatDoor
