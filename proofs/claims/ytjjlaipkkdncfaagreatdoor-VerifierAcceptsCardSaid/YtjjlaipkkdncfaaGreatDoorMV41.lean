import Derived.Test.YtjjlaipkkdncfaaGreatDoorMV35
import Derived.Test.YtjjlaipkkdncfaaGreatDoorMV36
import Derived.Test.YtjjlaipkkdncfaaGreatDoorMV37
set_option linter.unusedVariables false
set_option linter.unusedSimpArgs false
set_option maxRecDepth 100000
set_option maxHeartbeats 40000000
namespace Go.Proofs.YtjjlaipkkdncfaaGreatDoor
open Go.Proofs.Tryz
open Go.RowKit
attribute [local irreducible] wpQuiet wpAnyH
def oS(k:KdD):Bool:=decide (0<=k.st) && (decide (k.st<=k.fi) && (decide (k.fi<=1099511627776) && (decide (0<=k.tm) && decide (k.tm<=1099511627776))))
theorem pW(k:KdD)(w:Wd):Wc 11 #[.agg (kdC k).toArray] w (Rt w (.bool (oS k))):=by
 obtain⟨cl,ot,st,fi,tm,sq,fo,sp⟩:=k;unfold kdC oS;simp only;go_enter func11,ntmps11
 go_wp2_with fail
 all_goals
  go_ret;refine⟨?_,(by repeat (first|exact ji _ _|assumption|refine dG ?_ _|refine Below.setCell ?_ (by first|exact ja _|assumption|omega|(simp <;> omega)) _|refine Below.alloc ?_ (by first|exact ja _|assumption|omega|(simp <;> omega)) _))⟩
  first|rfl|(simp <;> omega)|(simp_all <;> omega)
def clN(n:Int):Nat:=(n % 256).toNat
theorem VM(n:Int):clN n<256:=by unfold clN;omega
def nmV(n:Int):Wv:=((iA (kdN n)).parts.map bI).map Value.string
theorem D7(n:Int)(A:Option Addr)(c:Nat)(st fi:Nat)(key:Nat->Nat):prog.built 53 [(0,.agg #[.string (bI [82]),.slice A 1 c]),(1,.int .i64 st),(2,.int .i64 fi),(3,.agg (arr 16 (c8 key)).toArray)]=some (tkC ⟨iA (kdN n),st,fi,key⟩ (.slice A 1 c)).toArray:=by unfold tkC;kernel_rfl
theorem P3(n:Int)(A:Option Addr)(c:Nat)(tm sq:Nat):prog.built 55 [(0,.agg #[.string (bI [82]),.slice A 1 c]),(1,.int .i64 tm),(3,.int .u32 sq)]=some (auC (auK (kdN n) tm sq) (.slice A 1 c)).toArray:=by unfold auC auK;kernel_rfl
theorem LL(b:Nat):prog.built 41 [(0,.int .u8 9),(1,.int .u8 (b:Nat))]=some (arr 16 (c8 (nth [9,b]))).toArray:=by kernel_rfl
structure PtX(w W:Wd)(g:Nat)(K:Wa):Prop where
 be:Bw w W
 k:Blk W g 37 K
theorem PtX.keep{w W W':Wd}{g:Nat}{K:Wa}(h:PtX w W g K)(hb:Bw W W'):PtX w W' g K:=⟨aB h.be hb,h.k.keep hb⟩
theorem PtX.off{w W W':Wd}{g b:Nat}{K:Wa}(h:PtX w W g K)(I:Off b W W')(hb:w.heap.size<=b)(D:g≠b):PtX w W' g K:=⟨h.be.trans (I.below hb h.be.size),I.blk h.k D⟩
theorem wI(cl ot:Int)(st fi tm sq:Nat)(fo:Bool)(sp:Int)(hc:aI cl)(O:aI ot)(w:Wd):Wc 17 #[.agg (kdC ⟨cl,ot,st,fi,tm,sq,fo,sp⟩).toArray] w λe w'=>∃ R c1 A2 c2,e = .returned (.tuple #[.agg (tkC (tkK (kdN cl) (clN cl) st fi) (.slice R 1 c1)).toArray,.agg (auC (auK (kdN ot) tm sq) (.slice A2 1 c2)).toArray])/\w'.ownsRow w.heap.size 9 1 (.slice R 1 c1) 1 (nmV cl)/\w'.ownsRow w.heap.size 9 1 (.slice A2 1 c2) 1 (nmV ot)/\Bw w w':=by
 have c3:=jz (λW=>r8 cl hc W);have c6:=jz (λW=>r8 ot O W);have c5:Hid (IntKind.u8.wrap cl=(clN cl:Nat)):=jz (by unfold clN;rw[IntKind.wrap_u8];omega);obtain⟨K,hK⟩:=je ((kdC ⟨cl,ot,st,fi,tm,sq,fo,sp⟩).toArray);have HK:=jz hK;rw[<- hK];clear hc O hK;go_enter func17,ntmps17
 go_upto_region 1 with (first
  | (refine al 53 tkZ rfl rfl iE ?_)
  | (refine al 55 auZ rfl rfl lZ ?_))
 obtain⟨g,hg⟩:=je w.heap.size;obtain⟨D,b1⟩:=je (((w.alloc (.cells K 37)).alloc (.cells tkZ 53)).alloc (.cells auZ 55));have a4:Hid (PtX w D g K/\Blk D (g+1) 53 tkZ/\Blk D (g+1+1) 55 auZ):=jz (by
  rw[b1,hg]
  exact⟨⟨(((ji _ w).alloc (ja _) _).alloc (by simp) _).alloc (by simp;omega) _,((Blk.new w _ _).alloc _).alloc _⟩,(Blk.newAt _ _ _ _ (by simp)).alloc _,Blk.newAt _ _ _ _ (by simp)⟩)
 have a3:Hid (g=w.heap.size/\D.heap.size=g+3):=jz ⟨hg,by rw[b1,hg];simp⟩;rw[<- b1];simp only[pe,World.size_alloc,<- hg];dsimp only [List.set];clear b1 hg;have a1:Hid (K=#[.int .i64 cl,.int .i64 ot,.int .i64 st,.int .i64 fi,.int .i64 tm,.int .u32 sq,.bool fo,.int .u16 sp]):=jz (by rw[HK.out];rfl);have H1b:Hid (Blk D (g+1) 53 tkZ/\Blk D (g+1+1) 55 auZ):=jz a4.out.2;obtain⟨wS,b7⟩:=je D.drew;have a5:Hid (PtX w wS g K/\Bw D wS/\Blk wS (g+1) 53 tkZ/\Blk wS (g+1+1) 55 auZ):=jz (by rw[b7];exact⟨a4.out.1.keep (ji _ _).drew,(ji _ _).drew,a4.out.2.1.keep (ji _ _).drew,a4.out.2.2.keep (ji _ _).drew⟩);refine kZ (n:=14) (λW=>PtX w W g K) (a4.out.1.keep (ji _ _).drew) (h:=λV=>?_);simp only[p0];dsimp only [List.replicate];rw[<- b7] at V ⊢;clear b7 a4;refine qT 0 (.pointer (some ⟨g,0,none⟩)) ?_;refine qC 1 (v:=.int .i64 cl) (λW hW=>(hW.k.cell 0).trans (by rw[a1.out];rfl)) ?_;refine qT 3 (.pointer (some ⟨g,2,none⟩)) ?_;refine qC 4 (v:=.int .i64 st) (λW hW=>(hW.k.cell 2).trans (by rw[a1.out];rfl)) ?_;refine qT 5 (.pointer (some ⟨g,3,none⟩)) ?_;refine qC 6 (v:=.int .i64 fi) (λW hW=>(hW.k.cell 3).trans (by rw[a1.out];rfl)) ?_;refine qT 7 (.pointer (some ⟨g,0,none⟩)) ?_;refine qC 8 (v:=.int .i64 cl) (λW hW=>(hW.k.cell 0).trans (by rw[a1.out];rfl)) ?_;refine qT 9 (.int .u8 (clN cl:Nat)) ?_ (hy:=λW hW=>by unfold execOp;go_simp;exact c5);refine kB 10 (some 15) (LL (clN cl)) (h:=?_);simp only[pe,p5,p2];dsimp only [List.set];refine kCA 2 12 (some 7) (some 4) iE ((c3 wS).mono ?bA) (V.keep ((ji _ _).alloc (ja _) _)) ?bB
 case' bA=>
  rintro e w2 ⟨R,c1,rfl,Z,a0⟩;have H2:Hid (PtX w w2 g K/\Bw D w2/\w2.ownsRow D.heap.size 9 1 (.slice R 1 c1) 1 (nmV cl)):=jz ⟨a5.out.1.keep a0,aB a5.out.2.1 a0,aT Z a5.out.2.1.size⟩;clear Z a0 V;refine⟨_,rfl,H2.out.1,λV=>?_⟩;simp only[pe,p5,p2];dsimp only [List.set];refine kB 11 (some 16) (D7 cl R c1 st fi (nth [9,clN cl])) (h:=?_);simp only[pe,p5,p2];dsimp only [List.set];obtain⟨w3,I⟩:=je (w2.alloc (.cells tkZ 53));obtain⟨g4,J⟩:=je w2.heap.size;have hb:Bw w2 w3:=by rw[I];exact(ji _ _).alloc (ja _) _
  have H3:Hid (PtX w w3 g K/\Bw D w3/\w3.ownsRow D.heap.size 9 1 (.slice R 1 c1) 1 (nmV cl)/\Blk w3 g4 53 tkZ/\D.heap.size<=g4/\(∀ b,(Value.slice R 1 c1).ownBlock=some b->b≠g4)):=jz ⟨H2.out.1.keep hb,aB H2.out.2.1 hb,aE H2.out.2.2 hb,by rw[I,J];exact Blk.new _ _ _,by rw[J];exact H2.out.2.1.size,λb e=>by have:=(H2.out.2.2.lt b e).2;omega⟩;refine kA 12 (some 4) (zs:=tkZ) iE (by rw[<- I];exact H3.out.1) ?_;rw[<- I,<- J];clear I J V H2 hb;simp only[pe,p5,p2];dsimp only [List.set]
 case' bB=>
  obtain⟨a7,I⟩:=je (wS.alloc (.cells tkZ 53));obtain⟨g4,J⟩:=je wS.heap.size;have hb:Bw wS a7:=by rw[I];exact(ji _ _).alloc (ja _) _
  have H2:Hid (PtX w a7 g K/\Bw D a7/\Blk a7 g4 53 tkZ/\D.heap.size<=g4/\g4<a7.heap.size):=jz ⟨a5.out.1.keep hb,aB a5.out.2.1 hb,by rw[I,J];exact Blk.new _ _ _,by rw[J];exact a5.out.2.1.size,by rw[I,J];simp⟩;rw[<- I,<- J];clear I J V hb;simp only[pe,p5,p2];dsimp only [List.set];have V:=H2.out.1;refine kF 2 (some 7) ((c3 a7).mono ?_);rintro e w3 ⟨R,c1,rfl,Z,a0⟩;have H3:Hid (PtX w w3 g K/\Bw D w3/\w3.ownsRow D.heap.size 9 1 (.slice R 1 c1) 1 (nmV cl)/\Blk w3 g4 53 tkZ/\D.heap.size<=g4/\(∀ b,(Value.slice R 1 c1).ownBlock=some b->b≠g4)):=jz ⟨H2.out.1.keep a0,aB H2.out.2.1 a0,aT Z H2.out.2.1.size,H2.out.2.2.1.keep a0,H2.out.2.2.2.1,λb e=>by have:=(Z.lt b e).1;have:=H2.out.2.2.2.2;omega⟩;clear Z a0 H2 V;refine⟨_,rfl,H3.out.1,λV=>?_⟩;simp only[pe,p5,p2];dsimp only [List.set];refine kB 11 (some 16) (D7 cl R c1 st fi (nth [9,clN cl])) (h:=?_);simp only[pe,p5,p2];dsimp only [List.set];clear V
 all_goals
  obtain⟨T,hT⟩:=je (tkC ⟨iA (kdN cl),st,fi,nth [9,clN cl]⟩ (.slice R 1 c1));rw[<- hT];have HT:Hid (T=tkC (tkK (kdN cl) (clN cl) st fi) (.slice R 1 c1)):=jz (by rw[hT];unfold tkK;rw[Nat.mod_eq_of_lt (VM cl)]);have a6:T.length=20:=by rw[hT];exact eO _ _
  have c4:∀ u∈T,u.oneCell'=true:=by rw[hT];exact pU rfl
  clear hT;obtain⟨w4,a8⟩:=je (w3.setCells g4 0 T);have O:Off g4 w3 w4:=by rw[a8];exact dP g4 T 0 (Off.refl _ _)
  have H4:Hid (PtX w w4 g K/\Bw D w4/\w4.ownsRow D.heap.size 9 1 (.slice R 1 c1) 1 (nmV cl)/\Blk w4 g4 53 T.toArray/\D.heap.size<=g4):=jz (by
   have hg:=a3.out
   have h4:=H3.out.2.2.2.2.1
   exact⟨H3.out.1.off O (by omega) (by omega),H3.out.2.1.trans (O.below h4 H3.out.2.1.size),aS H3.out.2.2.1 (λb e=>O.block b (H3.out.2.2.1.lt b e).2 (H3.out.2.2.2.2.2 b e)),by rw[a8];exact pV T H3.out.2.2.2.1 (by rw[a6];exact eE),h4⟩)
  have H4b:Hid (Blk w4 (g+1) 53 tkZ/\Blk w4 (g+1+1) 55 auZ):=jz (by
   have hg:=a3.out
   have h4:=H3.out.2.2.2.2.1
   exact⟨(H4.out.2.1.block _ (by omega)).trans (H1b.out.1),(H4.out.2.1.block _ (by omega)).trans (H1b.out.2)⟩)
  have V:=H3.out.1;refine kR 13 none (off:=0) (n:=20) (cs:=T) (bX H3.out.2.2.2.1 (by rw[eE];decide)) a6 c4 (by rw[<- a8];exact H4.out.1) (h:=?_);rw[<- a8];clear a8 O;simp only[pe,p5,p2];dsimp only [List.set];refine kE (h:=?_);clear V H3;go_upto_region 2 with fail
  obtain⟨wR,b2⟩:=je w4.drew;have hd:Bw w4 wR:=by rw[b2];exact(ji _ _).drew
  have H5:Hid (PtX w wR g K/\Blk wR g4 53 T.toArray/\Bw D wR/\wR.ownsRow D.heap.size 9 1 (.slice R 1 c1) 1 (nmV cl)/\Blk wR (g+1) 53 tkZ/\Blk wR (g+1+1) 55 auZ):=jz ⟨H4.out.1.keep hd,H4.out.2.2.2.1.keep hd,aB H4.out.2.1 hd,aE H4.out.2.2.1 hd,H4b.out.1.keep hd,H4b.out.2.keep hd⟩;have b9:Hid (D.heap.size<=g4):=jz H4.out.2.2.2.2;refine kZ (n:=11) (λW=>PtX w W g K/\Blk W g4 53 T.toArray) (by rw[<- b2];exact⟨H5.out.1,H5.out.2.1⟩) (h:=λV=>?_);simp only[p0];dsimp only [List.replicate];rw[<- b2] at V ⊢;clear b2 hd H4 H4b;refine qL 0 (cs:=T) (λW hW=>by have:=hW.2.range;rwa [jt] at this) a6 ?_;refine qT 1 (.pointer (some ⟨g,1,none⟩)) ?_;refine qC 2 (v:=.int .i64 ot) (λW hW=>(hW.1.k.cell 1).trans (by rw[a1.out];rfl)) ?_;refine qT 4 (.pointer (some ⟨g,4,none⟩)) ?_;refine qC 5 (v:=.int .i64 tm) (λW hW=>(hW.1.k.cell 4).trans (by rw[a1.out];rfl)) ?_;refine qT 6 (.pointer (some ⟨g,5,none⟩)) ?_;refine qC 7 (v:=.int .u32 sq) (λW hW=>(hW.1.k.cell 5).trans (by rw[a1.out];rfl)) ?_;refine kF 3 (some 20) ((c6 wR).mono ?_);rintro e w5 ⟨A2,c2,rfl,Z,a2⟩;have H6:Hid ((PtX w w5 g K/\Blk w5 g4 53 T.toArray)/\Bw D w5/\w5.ownsRow D.heap.size 9 1 (.slice R 1 c1) 1 (nmV cl)/\w5.ownsRow D.heap.size 9 1 (.slice A2 1 c2) 1 (nmV ot)/\Blk w5 (g+1) 53 tkZ/\Blk w5 (g+1+1) 55 auZ):=jz ⟨⟨H5.out.1.keep a2,H5.out.2.1.keep a2⟩,aB H5.out.2.2.1 a2,aE H5.out.2.2.2.1 a2,aT Z H5.out.2.2.1.size,H5.out.2.2.2.2.1.keep a2,H5.out.2.2.2.2.2.keep a2⟩;clear Z a2 H5 V;refine⟨_,rfl,H6.out.1,λV=>?_⟩;simp only[pe,p5,p2];dsimp only [List.set];refine kB 8 (some 25) (P3 ot A2 c2 tm sq) (h:=?_);simp only[pe,p5,p2];dsimp only [List.set];obtain⟨U,hU⟩:=je (auC (auK (kdN ot) tm sq) (.slice A2 1 c2));rw[<- hU];have HU:=jz hU;have b3:U.length=5:=by rw[hU];rfl
  have c7:∀ u∈U,u.oneCell'=true:=by rw[hU];exact nP rfl
  clear hU;obtain⟨w6,a9⟩:=je (w5.setCells (g+1) 0 T);have O:Off (g+1) w5 w6:=by rw[a9];exact dP _ T 0 (Off.refl _ _)
  have H7:Hid ((PtX w w6 g K/\Blk w6 g4 53 T.toArray)/\w6.ownsRow D.heap.size 9 1 (.slice R 1 c1) 1 (nmV cl)/\w6.ownsRow D.heap.size 9 1 (.slice A2 1 c2) 1 (nmV ot)/\Blk w6 (g+1) 53 T.toArray/\Blk w6 (g+1+1) 55 auZ):=jz (by
   have hg:=a3.out
   have h4:=b9.out
   exact⟨⟨H6.out.1.1.off O (by omega) (by omega),O.blk H6.out.1.2 (by omega)⟩,aS H6.out.2.2.1 (λb e=>O.block b (H6.out.2.2.1.lt b e).2 (by have:=(H6.out.2.2.1.lt b e).1;omega)),aS H6.out.2.2.2.1 (λb e=>O.block b (H6.out.2.2.2.1.lt b e).2 (by have:=(H6.out.2.2.2.1.lt b e).1;omega)),by rw[a9];exact pV T H6.out.2.2.2.2.1 (by rw[a6];exact eE),O.blk H6.out.2.2.2.2.2 (by omega)⟩)
  refine kR 9 none (off:=0) (n:=20) (cs:=T) (bX H6.out.2.2.2.2.1 (by rw[eE];decide)) a6 c4 (by rw[<- a9];exact H7.out.1) (h:=?_);rw[<- a9];clear a9 O V;simp only[pe,p5,p2];dsimp only [List.set];obtain⟨w7,b0⟩:=je (w6.setCells (g+1+1) 0 U);have O:Off (g+1+1) w6 w7:=by rw[b0];exact dP _ U 0 (Off.refl _ _)
  have H8:Hid ((PtX w w7 g K/\Blk w7 g4 53 T.toArray)/\w7.ownsRow D.heap.size 9 1 (.slice R 1 c1) 1 (nmV cl)/\w7.ownsRow D.heap.size 9 1 (.slice A2 1 c2) 1 (nmV ot)/\Blk w7 (g+1) 53 T.toArray/\Blk w7 (g+1+1) 55 U.toArray):=jz (by
   have hg:=a3.out
   have h4:=b9.out
   exact⟨⟨H7.out.1.1.off O (by omega) (by omega),O.blk H7.out.1.2 (by omega)⟩,aS H7.out.2.1 (λb e=>O.block b (H7.out.2.1.lt b e).2 (by have:=(H7.out.2.1.lt b e).1;omega)),aS H7.out.2.2.1 (λb e=>O.block b (H7.out.2.2.1.lt b e).2 (by have:=(H7.out.2.2.1.lt b e).1;omega)),O.blk H7.out.2.2.2.1 (by omega),by rw[b0];exact pV U H7.out.2.2.2.2 (by rw[b3];rfl)⟩)
  have V:=H7.out.1;refine kR 10 none (off:=0) (n:=5) (cs:=U) (bX H7.out.2.2.2.2 (by rw[show auZ.size=5 from rfl];decide)) b3 c7 (by rw[<- b0];exact H8.out.1) (h:=?_);rw[<- b0];clear b0 O V;simp only[pe,p5,p2];dsimp only [List.set];refine kE (h:=?_);go_wp2_with fail
  have r1:=H8.out.2.2.2.1.range;have r2:=H8.out.2.2.2.2.range;rw[jt] at r1 r2;refine bodyPost_ret (mA (P:=prog) rfl _ rfl rfl r1 r2 underlying53 rfl (by rw[a6];exact tkI) underlying55 rfl (by rw[b3];exact auI)) rfl ⟨R,c1,A2,c2,by rw[HT.out,HU.out],aT H8.out.2.1 (by have:=a3.out;omega),aT H8.out.2.2.1 (by have:=a3.out;omega),H8.out.1.1.be⟩
end Go.Proofs.YtjjlaipkkdncfaaGreatDoor
