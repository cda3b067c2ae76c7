import Derived.Test.YtjjlaipkkdncfaaGreatDoorMV33
import Derived.Test.YtjjlaipkkdncfaaGreatDoorMV34
set_option linter.unusedVariables false
set_option linter.unusedSimpArgs false
set_option maxRecDepth 100000
set_option maxHeartbeats 40000000
namespace Go.Proofs.YtjjlaipkkdncfaaGreatDoor
open Go.Proofs.Tryz
open Go.RowKit
attribute [local irreducible] wpQuiet wpAnyH
def vX(S:ByteArray)(ps:List ByteArray)(tm mi sq:Nat):List Nat:=2 :: l6 S ps++bR tm 8++bR mi 4++bR sq 4
theorem IV{s:ByteArray}(h:s.size<=255):Byn (wdR s):=λx D=>by
 rcases List.mem_cons.1 D with rfl|D
 ·omega
 ·exact ET s x D
theorem DX{S:ByteArray}{ps:List ByteArray}(hS:S.size<=255)(J:ps.length<=255)(I:∀ s∈ps,s.size<=255):Byn (l6 S ps):=λx D=>by
 unfold l6 jG at D;rcases List.mem_append.1 D with D|D
 ·exact IV hS x D
 ·rcases List.mem_cons.1 D with rfl|D
  ·omega
  ·obtain⟨s,hs,D⟩:=List.mem_flatMap.1 D;exact IV (I s hs) x D
theorem DY{S:ByteArray}{ps:List ByteArray}(hS:S.size<=255)(I:ps.length<=255)(D:∀ s∈ps,s.size<=255):(l6 S ps).length<=70000:=by
 have:=DQ S ps.length ps D;unfold l6;omega
theorem AE(S:ByteArray)(ps:List ByteArray)(A:Option Addr)(cap tm I sq:Nat)(w:Wd)(h:Sn w 1 (.slice A ps.length cap) ps.length (ps.map Value.string))(hS:S.size<=255)(hn:ps.length<=255)(D:∀ s∈ps,s.size<=255)(e8:tm<=1099511627776)(e6:I<4294967296)(e7:sq<4294967296):Wc 57 #[.agg #[.string S,.slice A ps.length cap,.int .i64 tm,.int .u32 I,.int .u32 sq]] w λe w'=>∃ v,e = .returned v/\w'.ownsRow w.heap.size 5 1 v (vX S ps tm I sq).length (n8 (vX S ps tm I sq))/\Bw w w':=by
 have HA:=jz h;have J:=jz (And.intro hS (And.intro hn D));have f0:IntKind.u64.wrap (tm:Int)=(tm:Int):=by rw[IntKind.wrap_u64];omega
 have f1:IntKind.u64.wrap (I:Int)=(I:Int):=by rw[IntKind.wrap_u64];omega
 have f2:IntKind.u64.wrap (sq:Int)=(sq:Int):=by rw[IntKind.wrap_u64];omega
 have f3:(tm:Int) % 18446744073709551616=(tm:Int):=by omega
 have f4:(I:Int) % 18446744073709551616=(I:Int):=by omega
 have f5:(sq:Int) % 18446744073709551616=(sq:Int):=by omega
 have d7:=jz (λW=>gZ 8 tm W (by omega) (by omega) (by omega) (by omega));have e0:=jz (λW=>gZ 4 I W (by omega) (by omega) (by omega) (by omega));have e1:=jz (λW=>gZ 4 sq W (by omega) (by omega) (by omega) (by omega));clear h hS hn D e8 e6 e7;go_enter func57,ntmps57
 go_upto_region 1 with fail
 obtain⟨g,hg⟩:=je w.heap.size;obtain⟨U,b7⟩:=je (w.alloc (.cells #[.string S,.slice A ps.length cap,.int .i64 tm,.int .u32 I,.int .u32 sq] 55));have H1:Hid (Blk U g 55 #[.string S,.slice A ps.length cap,.int .i64 tm,.int .u32 I,.int .u32 sq]/\Bw w U):=jz (by rw[b7,hg];exact⟨Blk.new _ _ _,(ji _ w).alloc (ja _) _⟩);rw[<- b7];simp only[<- hg];clear b7 hg;have e3:U.cell? ⟨g,2,none⟩=some (.int .i64 tm):=H1.out.1.cell 2;go_upto_region 2 with (go_at_call 93;refine(d7 U).mono ?_;rintro e w2 ⟨v2,rfl,a3,c7⟩;obtain⟨A2,c2,rfl,d2,_⟩:=aM a3;have H2:Hid (Bw U w2/\Sn w2 1 (.slice A2 8 c2) 8 (n8 (bR tm 8))):=jz ⟨c7,d2⟩;clear a3 c7 d2)
 have e4:w2.cell? ⟨g,3,none⟩=some (.int .u32 I):=(H1.out.1.keep H2.out.1).cell 3;clear e3;go_upto_region 3 with (go_at_call 93;refine(e0 w2).mono ?_;rintro e w3 ⟨v3,rfl,a4,b1⟩;obtain⟨A3,c3,rfl,d3,_⟩:=aM a4;have H3:Hid (Bw U w3/\Sn w3 1 (.slice A2 8 c2) 8 (n8 (bR tm 8))/\Sn w3 1 (.slice A3 4 c3) 4 (n8 (bR I 4))):=jz ⟨aB H2.out.1 b1,H2.out.2.below b1,d3⟩;clear a4 b1 d3)
 have e5:w3.cell? ⟨g,4,none⟩=some (.int .u32 sq):=(H1.out.1.keep H3.out.1).cell 4;clear e4;go_upto_region 4 with (go_at_call 93;refine(e1 w3).mono ?_;rintro e K ⟨v4,rfl,a5,a7⟩;obtain⟨A4,c4,rfl,d4,_⟩:=aM a5;have H4:Hid (Bw U K/\Sn K 1 (.slice A2 8 c2) 8 (n8 (bR tm 8))/\Sn K 1 (.slice A3 4 c3) 4 (n8 (bR I 4))/\Sn K 1 (.slice A4 4 c4) 4 (n8 (bR sq 4))):=jz ⟨aB H3.out.1 a7,H3.out.2.1.below a7,H3.out.2.2.below a7,d4⟩;clear a5 a7 d4)
 clear e5;obtain⟨w5,V⟩:=je (K.alloc (.cells #[.int .u8 2] 5));have H5:Hid (Bw U w5/\Bw K w5/\Sn w5 1 (.slice (some ⟨K.heap.size,0,none⟩) 1 1) 1 (n8 [2])):=jz (by
  have hb:Bw K w5:=by rw[V];exact(ji _ K).alloc (ja _) _
  exact⟨aB H4.out.1 hb,hb,by rw[V];exact Sn.new K #[.int .u8 2] _ 1 1 rfl⟩)
 have b3:w5.rangeAt g 0 [.string S,.slice A ps.length cap]:=λj u hj=>by
  have h:=(H1.out.1.keep H5.out.1).cell j;rw[Nat.zero_add,h];have:j=0\/j=1:=by
   have:=(List.getElem?_eq_some_iff.1 hj).1;simp at this;omega
  rcases this with rfl|rfl
  ·exact hj
  ·exact hj
 have c5:(prog.info? 51).map (·.size)=some ([Value.string S,.slice A ps.length cap]:Wv).length:=by kernel_rfl
 have b0:=jz (pQ S ps A cap w5 (HA.below (aB H1.out.2 H5.out.1)) J.out.1 J.out.2.1 J.out.2.2);rw[V] at b3 b0;go_wp2_with (refine ld 51 (.tmp 31) rfl (by rfl) (by rfl) b3 underlying51 rfl c5 ?_)
 refine b0.mono ?_;rintro e w6 ⟨v6,rfl,a6,a1⟩;obtain⟨A6,c6,rfl,d5,_⟩:=aM a6;rw[<- V] at a1;have f6:K.heap.size<w5.heap.size:=by rw[V];simp
 have H6:Hid (Bw U w6/\(∀ p∈([(.slice (some ⟨K.heap.size,0,none⟩) 1 1,[2]),(.slice A6 (l6 S ps).length c6,l6 S ps),(.slice A2 8 c2,bR tm 8),(.slice A3 4 c3,bR I 4),(.slice A4 4 c4,bR sq 4)]:List (Value×List Nat)),Sn w6 1 p.1 p.2.length (n8 p.2))):=jz (by
  have a0:=aB H5.out.2.1 a1
  refine⟨aB H5.out.1 a1,λp D=>?_⟩
  rcases List.mem_cons.1 D with rfl|D
  ·exact H5.out.2.2.below a1
  ·rcases List.mem_cons.1 D with rfl|D
   ·exact d5
   ·rcases List.mem_cons.1 D with rfl|D
    ·show Sn w6 1 _ (bR tm 8).length _
     rw[eW]
     exact H4.out.2.1.below a0
    ·rcases List.mem_cons.1 D with rfl|D
     ·show Sn w6 1 _ (bR I 4).length _
      rw[eW]
      exact H4.out.2.2.1.below a0
     ·rw[List.mem_singleton.1 D]
      show Sn w6 1 _ (bR sq 4).length _
      rw[eW]
      exact H4.out.2.2.2.below a0)
 clear a6 d5 a1 b3 c5 b0 V H5;go_wp2_with fail
 obtain⟨Z,R⟩:∃ l:List (Value×List Nat),l=[(.slice (some ⟨K.heap.size,0,none⟩) 1 1,[2]),(.slice A6 (l6 S ps).length c6,l6 S ps),(.slice A2 8 c2,bR tm 8),(.slice A3 4 c3,bR I 4),(.slice A4 4 c4,bR sq 4)]:=⟨_,rfl⟩;rw[<- R] at H6;obtain⟨w7,a8⟩:=je (w6.alloc (.cells #[.slice (some ⟨K.heap.size,0,none⟩) 1 1,.slice A6 (l6 S ps).length c6,.slice A2 8 c2,.slice A3 4 c3,.slice A4 4 c4] 60));have b2:Bw w6 w7:=by rw[a8];exact(ji _ w6).alloc (ja _) _
 have d1:w7.rangeAt w6.heap.size 0 (Z.map (·.1)):=by rw[a8,R];exact(Blk.new w6 _ _).range
 have d0:PN w7 (.slice (some ⟨w6.heap.size,0,none⟩) 5 5) Z:=qJ Z 5 (by rw[R];rfl) d1 (λp D=>(H6.out.2 p D).below b2) (λp D=>by
  rw[R] at D
  rcases List.mem_cons.1 D with rfl|D
  ·intro x hx
   rw[List.mem_singleton.1 hx]
   decide
  ·rcases List.mem_cons.1 D with rfl|D
   ·exact DX J.out.1 J.out.2.1 J.out.2.2
   ·rcases List.mem_cons.1 D with rfl|D
    ·exact oP _ _
    ·rcases List.mem_cons.1 D with rfl|D
     ·exact oP _ _
     ·rw[List.mem_singleton.1 D]
      exact oP _ _)
 have a2:bJ Z=vX S ps tm I sq:=by rw[R];unfold bJ vX;simp
 have a9:(bJ Z).length<=800000000:=by
  rw[a2];unfold vX;have:=DY J.out.1 J.out.2.1 J.out.2.2;simp only[jj,List.length_cons,eW];omega
 have HJ:=rE _ Z w7 d0 (by rw[R];exact(show(5:Nat)<=100 by decide)) a9;rw[a2] at HJ;have HJ:=jz HJ;have b9:=jz (aB H1.out.2 (aB H6.out.1 b2));rw[<- a8];clear a8 b2 d1 d0 a2 a9 H6 R;refine HJ.mono ?_;rintro e w8 ⟨v8,rfl,O,c9⟩;obtain⟨A8,e2,rfl,_,_⟩:=aM O;have HF:Hid (w8.ownsRow w.heap.size 5 1 (.slice A8 (vX S ps tm I sq).length e2) (vX S ps tm I sq).length (n8 (vX S ps tm I sq))/\Bw w w8):=jz ⟨aT O b9.size,aB b9 c9⟩;clear O c9 HJ;go_wp2_with fail
 go_ret;exact⟨_,rfl,HF.out.1,HF.out.2⟩
def sP(S:ByteArray)(ps:List ByteArray)(st fi:Nat)(key:Nat->Nat):List Nat:=1 :: l6 S ps++bR st 8++bR fi 8++arr 16 key
theorem vY(x:Nat)(w:Wd)(R:x<=1099511627776):Wc 92 #[.int .i64 x] w λe w'=>∃ v,e = .returned v/\w'.ownsRow w.heap.size 5 1 v 8 (n8 (bR x 8))/\Bw w w':=by
 have K:IntKind.u64.wrap (x:Int)=(x:Int):=by rw[IntKind.wrap_u64];omega
 have O:(x:Int) % 18446744073709551616=(x:Int):=by omega
 have J:=jz (λW=>gZ 8 x W (by omega) (by omega) (by omega) (by omega));clear R;go_enter func92,ntmps92
 go_wp2_with fail
 refine(J _).mono ?_;rintro e U ⟨v,rfl,D,hb⟩;obtain⟨A,c,rfl,_,_⟩:=aM D;have I:=jz (And.intro D hb);clear D hb;go_wp2_with fail
 go_ret;exact⟨_,rfl,I.out.1,I.out.2⟩
theorem AF(S:ByteArray)(ps:List ByteArray)(A:Option Addr)(cap st fi:Nat)(key:Nat->Nat)(w:Wd)(h:Sn w 1 (.slice A ps.length cap) ps.length (ps.map Value.string))(hS:S.size<=255)(hn:ps.length<=255)(hp:∀ s∈ps,s.size<=255)(e2:st<=1099511627776)(d7:fi<=1099511627776)(c2:aQ key):Wc 56 #[.agg ([Value.string S,.slice A ps.length cap,.int .i64 st,.int .i64 fi]++arr 16 (c8 key)).toArray] w λe w'=>∃ v,e = .returned v/\w'.ownsRow w.heap.size 5 1 v (sP S ps st fi key).length (n8 (sP S ps st fi key))/\Bw w w':=by
 have HA:=jz h;have a2:=jz (And.intro hS (And.intro hn hp));have e7:=jz c2;have f1:=jz (λW=>vY st W e2);have f2:=jz (λW=>vY fi W d7);clear h hS hn hp e2 d7 c2;obtain⟨T,hT⟩:∃ T,T=[.string S,.slice A ps.length cap,.int .i64 st,.int .i64 fi]++arr 16 (c8 key):=⟨_,rfl⟩;rw[<- hT];obtain⟨NM,a7⟩:=je (l6 S ps);obtain⟨n3,a8⟩:=je NM.length;obtain⟨NC,a4⟩:∃ l:Wv,l=[.string S,.slice A ps.length cap]:=⟨_,rfl⟩;have f0:Hid (NC.length=2):=jz (by rw[a4];rfl);have e6:=jz (And.intro hT (And.intro a7 (And.intro a8 a4)));clear hT a7 a8 a4;go_enter func56,ntmps56
 go_upto_region 1 with fail
 obtain⟨hT,a7,a8,a4⟩:=e6.out;obtain⟨g,hg⟩:=je w.heap.size;obtain⟨O,d2⟩:=je (w.alloc (.cells T.toArray 53));have H1:Hid (Blk O g 53 T.toArray/\Bw w O):=jz (by rw[d2,hg];exact⟨Blk.new _ _ _,(ji _ w).alloc (ja _) _⟩);rw[<- d2];simp only[<- hg];clear d2 hg;have b3:Hid (∀ W,Bw O W->∀ j,W.cell? ⟨g,j,none⟩=T[j]?):=jz (λW hW j=>by rw[(H1.out.1.keep hW).cell j,jf]);have f3:Hid (∀ W,Bw O W->W.rangeAt g 0 NC):=jz (λW hW j u hj=>by
  rw[Nat.zero_add,b3.out W hW j,hT]
  rw[a4] at hj
  have:j=0\/j=1:=by
   have:=(List.getElem?_eq_some_iff.1 hj).1
   simp at this
   omega
  rcases this with rfl|rfl
  ·exact hj
  ·exact hj)
 have e4:Hid (∀ W,Bw O W->W.cell? ⟨g,2,none⟩=some (.int .i64 st)):=jz (λW hW=>by rw[b3.out W hW 2,hT];rfl);have e5:Hid (∀ W,Bw O W->W.cell? ⟨g,3,none⟩=some (.int .i64 fi)):=jz (λW hW=>by rw[b3.out W hW 3,hT];rfl);have C3:Hid (∀ W,Bw O W->Wc 91 #[.agg NC.toArray] W λe w'=>∃ v,e = .returned v/\w'.ownsRow W.heap.size 5 1 v n3 (n8 NM)/\Bw W w'):=jz (λW hW=>by
  rw[a4,a8,a7]
  exact pQ S ps A cap W (HA.below (aB H1.out.2 hW)) a2.out.1 a2.out.2.1 a2.out.2.2)
 have C6:Hid (∀ W,Bw O W->Wc 92 #[.int .i64 st] W λe w'=>∃ v,e = .returned v/\w'.ownsRow W.heap.size 5 1 v 8 (n8 (bR st 8))/\Bw W w'):=jz (λW _=>f1.out W);have C9:Hid (∀ W,Bw O W->Wc 92 #[.int .i64 fi] W λe w'=>∃ v,e = .returned v/\w'.ownsRow W.heap.size 5 1 v 8 (n8 (bR fi 8))/\Bw W w'):=jz (λW _=>f2.out W);have e8:Hid (∀ W,Bw O W->Sn W 1 (.slice (some ⟨g,4,none⟩) 16 16) (arr 16 key).length (n8 (arr 16 key))):=jz (λW hW=>by
  rw[aA]
  refine⟨_,16,rfl,ja _,by rw[aJ,aA],λ_=>⟨g,4,rfl,λj u hj=>?_⟩⟩
  rw[b3.out W hW (4+j),hT]
  rw[lO] at hj
  rw[jx (by simp)]
  simpa using hj)
 have c5:=jz (And.intro a8 a7);clear hT a4 a8 a7;obtain⟨x0,d3⟩:=je O.drew;have c7:Hid (Bw O x0):=jz (by rw[d3];exact(ji _ O).drew);refine kZ (n:=15) (λW=>Bw O W) ((ji _ O).drew) (h:=λhH=>?_);simp only[p0];dsimp only [List.replicate];rw[<- d3] at hH ⊢;clear d3;refine qT 1 (.pointer (some ⟨g,0,none⟩)) ?_;refine qL 2 (cs:=NC) (f3) f0 ?_;refine qT 4 (.pointer (some ⟨g,2,none⟩)) ?_;refine qC 5 (v:=.int .i64 st) (e4) ?_;refine qT 7 (.pointer (some ⟨g,3,none⟩)) ?_;refine qC 8 (v:=.int .i64 fi) (e5) ?_;refine qT 10 (.pointer (some ⟨g,4,none⟩)) ?_;refine qT 11 (.slice (some ⟨g,4,none⟩) 16 16) ?_;obtain⟨b0,U⟩:=je x0.heap.size;obtain⟨x1,hx⟩:=je (x0.alloc (.cells #[.int .u8 1] 5));have D:Bw x0 x1:=by rw[hx];exact(ji _ _).alloc (ja _) _
 have a1:Hid (Bw O x1/\Sn x1 1 (.slice (some ⟨b0,0,none⟩) 1 1) 1 (n8 [1])):=jz ⟨aB c7 D,by rw[hx,U];exact Sn.new _ #[.int .u8 1] _ 1 1 rfl⟩;refine kSF 0 3 (some 3) (some 6) (.slice (some ⟨b0,0,none⟩) 1 1) x1 (λo ho=>by cases ho;rw[hx,U];unfold execOp;go_simp) a1.out.1 ?bA1 ((C3 x0 c7).mono ?bB1)
 case' bA1=>
  clear hx U D;simp only[pe,p5,p2];dsimp only [List.set];refine kF 3 (some 6) ((C3 x1 a1.out.1).mono ?_);rintro e x2 ⟨v,rfl,I,D⟩;obtain⟨A3,c3,rfl,K,_⟩:=aM I;have R:Hid (Bw O x2/\Sn x2 1 (.slice (some ⟨b0,0,none⟩) 1 1) 1 (n8 [1])/\Sn x2 1 (.slice A3 n3 c3) n3 (n8 NM)):=jz ⟨aB a1.out.1 D,(a1.out.2).below D,K⟩;clear I K D;refine⟨_,rfl,R.out.1,λhH=>?_⟩;simp only[pe,p5,p2];dsimp only [List.set];refine kF 6 (some 9) ((C6 x2 R.out.1).mono ?_);rintro e Z ⟨v,rfl,I,D⟩;obtain⟨A6,c6,rfl,K,_⟩:=aM I;have J:Hid (Bw O Z/\Sn Z 1 (.slice (some ⟨b0,0,none⟩) 1 1) 1 (n8 [1])/\Sn Z 1 (.slice A3 n3 c3) n3 (n8 NM)/\Sn Z 1 (.slice A6 8 c6) 8 (n8 (bR st 8))):=jz ⟨aB R.out.1 D,(R.out.2.1).below D,(R.out.2.2).below D,K⟩;clear I K D;refine⟨_,rfl,J.out.1,λhH=>?_⟩;simp only[pe,p5,p2];dsimp only [List.set];refine kF 9 (some 12) ((C9 Z J.out.1).mono ?_);rintro e V ⟨v,rfl,I,D⟩;obtain⟨A9,c9,rfl,K,_⟩:=aM I;have a0:Hid (Bw O V/\Sn V 1 (.slice (some ⟨b0,0,none⟩) 1 1) 1 (n8 [1])/\Sn V 1 (.slice A3 n3 c3) n3 (n8 NM)/\Sn V 1 (.slice A6 8 c6) 8 (n8 (bR st 8))/\Sn V 1 (.slice A9 8 c9) 8 (n8 (bR fi 8))):=jz ⟨aB J.out.1 D,(J.out.2.1).below D,(J.out.2.2.1).below D,(J.out.2.2.2).below D,K⟩;clear I K D;refine⟨_,rfl,a0.out.1,λhH=>?_⟩;simp only[pe,p5,p2];dsimp only [List.set]
 case' bB1=>
  clear a1 hx U D;clear x1 b0;rintro e x1 ⟨v,rfl,I,D⟩;obtain⟨A3,c3,rfl,K,_⟩:=aM I;have a1:Hid (Bw O x1/\Sn x1 1 (.slice A3 n3 c3) n3 (n8 NM)):=jz ⟨aB c7 D,K⟩;clear I K D;refine⟨_,rfl,a1.out.1,λhH=>?_⟩;simp only[pe,p5,p2];dsimp only [List.set];obtain⟨b0,U⟩:=je x1.heap.size;obtain⟨x2,hx⟩:=je (x1.alloc (.cells #[.int .u8 1] 5));have D:Bw x1 x2:=by rw[hx];exact(ji _ _).alloc (ja _) _
  have R:Hid (Bw O x2/\Sn x2 1 (.slice (some ⟨b0,0,none⟩) 1 1) 1 (n8 [1])/\Sn x2 1 (.slice A3 n3 c3) n3 (n8 NM)):=jz ⟨aB a1.out.1 D,by rw[hx,U];exact Sn.new _ #[.int .u8 1] _ 1 1 rfl,(a1.out.2).below D⟩;refine kSF 0 6 (some 3) (some 9) (.slice (some ⟨b0,0,none⟩) 1 1) x2 (λo ho=>by cases ho;rw[hx,U];unfold execOp;go_simp) R.out.1 ?bA2 ((C6 x1 a1.out.1).mono ?bB2)
  case' bA2=>
   clear hx U D;simp only[pe,p5,p2];dsimp only [List.set];refine kF 6 (some 9) ((C6 x2 R.out.1).mono ?_);rintro e Z ⟨v,rfl,I,D⟩;obtain⟨A6,c6,rfl,K,_⟩:=aM I;have J:Hid (Bw O Z/\Sn Z 1 (.slice (some ⟨b0,0,none⟩) 1 1) 1 (n8 [1])/\Sn Z 1 (.slice A3 n3 c3) n3 (n8 NM)/\Sn Z 1 (.slice A6 8 c6) 8 (n8 (bR st 8))):=jz ⟨aB R.out.1 D,(R.out.2.1).below D,(R.out.2.2).below D,K⟩;clear I K D;refine⟨_,rfl,J.out.1,λhH=>?_⟩;simp only[pe,p5,p2];dsimp only [List.set];refine kF 9 (some 12) ((C9 Z J.out.1).mono ?_);rintro e V ⟨v,rfl,I,D⟩;obtain⟨A9,c9,rfl,K,_⟩:=aM I;have a0:Hid (Bw O V/\Sn V 1 (.slice (some ⟨b0,0,none⟩) 1 1) 1 (n8 [1])/\Sn V 1 (.slice A3 n3 c3) n3 (n8 NM)/\Sn V 1 (.slice A6 8 c6) 8 (n8 (bR st 8))/\Sn V 1 (.slice A9 8 c9) 8 (n8 (bR fi 8))):=jz ⟨aB J.out.1 D,(J.out.2.1).below D,(J.out.2.2.1).below D,(J.out.2.2.2).below D,K⟩;clear I K D;refine⟨_,rfl,a0.out.1,λhH=>?_⟩;simp only[pe,p5,p2];dsimp only [List.set]
  case' bB2=>
   clear R hx U D;clear x2 b0;rintro e x2 ⟨v,rfl,I,D⟩;obtain⟨A6,c6,rfl,K,_⟩:=aM I;have R:Hid (Bw O x2/\Sn x2 1 (.slice A3 n3 c3) n3 (n8 NM)/\Sn x2 1 (.slice A6 8 c6) 8 (n8 (bR st 8))):=jz ⟨aB a1.out.1 D,(a1.out.2).below D,K⟩;clear I K D;refine⟨_,rfl,R.out.1,λhH=>?_⟩;simp only[pe,p5,p2];dsimp only [List.set];obtain⟨b0,U⟩:=je x2.heap.size;obtain⟨Z,hx⟩:=je (x2.alloc (.cells #[.int .u8 1] 5));have D:Bw x2 Z:=by rw[hx];exact(ji _ _).alloc (ja _) _
   have J:Hid (Bw O Z/\Sn Z 1 (.slice (some ⟨b0,0,none⟩) 1 1) 1 (n8 [1])/\Sn Z 1 (.slice A3 n3 c3) n3 (n8 NM)/\Sn Z 1 (.slice A6 8 c6) 8 (n8 (bR st 8))):=jz ⟨aB R.out.1 D,by rw[hx,U];exact Sn.new _ #[.int .u8 1] _ 1 1 rfl,(R.out.2.1).below D,(R.out.2.2).below D⟩;refine kSF 0 9 (some 3) (some 12) (.slice (some ⟨b0,0,none⟩) 1 1) Z (λo ho=>by cases ho;rw[hx,U];unfold execOp;go_simp) J.out.1 ?bA3 ((C9 x2 R.out.1).mono ?bB3)
   case' bA3=>
    clear hx U D;simp only[pe,p5,p2];dsimp only [List.set];refine kF 9 (some 12) ((C9 Z J.out.1).mono ?_);rintro e V ⟨v,rfl,I,D⟩;obtain⟨A9,c9,rfl,K,_⟩:=aM I;have a0:Hid (Bw O V/\Sn V 1 (.slice (some ⟨b0,0,none⟩) 1 1) 1 (n8 [1])/\Sn V 1 (.slice A3 n3 c3) n3 (n8 NM)/\Sn V 1 (.slice A6 8 c6) 8 (n8 (bR st 8))/\Sn V 1 (.slice A9 8 c9) 8 (n8 (bR fi 8))):=jz ⟨aB J.out.1 D,(J.out.2.1).below D,(J.out.2.2.1).below D,(J.out.2.2.2).below D,K⟩;clear I K D;refine⟨_,rfl,a0.out.1,λhH=>?_⟩;simp only[pe,p5,p2];dsimp only [List.set]
   case' bB3=>
    clear J hx U D;clear Z b0;rintro e Z ⟨v,rfl,I,D⟩;obtain⟨A9,c9,rfl,K,_⟩:=aM I;have J:Hid (Bw O Z/\Sn Z 1 (.slice A3 n3 c3) n3 (n8 NM)/\Sn Z 1 (.slice A6 8 c6) 8 (n8 (bR st 8))/\Sn Z 1 (.slice A9 8 c9) 8 (n8 (bR fi 8))):=jz ⟨aB R.out.1 D,(R.out.2.1).below D,(R.out.2.2).below D,K⟩;clear I K D;refine⟨_,rfl,J.out.1,λhH=>?_⟩;simp only[pe,p5,p2];dsimp only [List.set];obtain⟨b0,U⟩:=je Z.heap.size;obtain⟨V,hx⟩:=je (Z.alloc (.cells #[.int .u8 1] 5));have D:Bw Z V:=by rw[hx];exact(ji _ _).alloc (ja _) _
    have a0:Hid (Bw O V/\Sn V 1 (.slice (some ⟨b0,0,none⟩) 1 1) 1 (n8 [1])/\Sn V 1 (.slice A3 n3 c3) n3 (n8 NM)/\Sn V 1 (.slice A6 8 c6) 8 (n8 (bR st 8))/\Sn V 1 (.slice A9 8 c9) 8 (n8 (bR fi 8))):=jz ⟨aB J.out.1 D,by rw[hx,U];exact Sn.new _ #[.int .u8 1] _ 1 1 rfl,(J.out.2.1).below D,(J.out.2.2.1).below D,(J.out.2.2.2).below D⟩;refine kS 0 (some 3) (.slice (some ⟨b0,0,none⟩) 1 1) V (hrun:=by rw[hx,U];unfold execOp;go_simp) (hS:=a0.out.1) (h:=?_);clear hx U D;simp only[pe,p5,p2];dsimp only [List.set]
 all_goals
  obtain⟨a6,a5⟩:∃ l:List (Value×List Nat),l=[(.slice (some ⟨b0,0,none⟩) 1 1,[1]),(.slice A3 n3 c3,NM),(.slice A6 8 c6,bR st 8),(.slice A9 8 c9,bR fi 8),(.slice (some ⟨g,4,none⟩) 16 16,arr 16 key)]:=⟨_,rfl⟩;have H9:Hid (∀ p∈a6,Sn V 1 p.1 p.2.length (n8 p.2)):=jz (λp hp=>by
   rw[a5] at hp
   rcases List.mem_cons.1 hp with rfl|hp
   ·exact a0.out.2.1
   ·rcases List.mem_cons.1 hp with rfl|hp
    ·show Sn V 1 _ NM.length _
     rw[<- c5.out.1]
     exact a0.out.2.2.1
    ·rcases List.mem_cons.1 hp with rfl|hp
     ·show Sn V 1 _ (bR st 8).length _
      rw[eW]
      exact a0.out.2.2.2.1
     ·rcases List.mem_cons.1 hp with rfl|hp
      ·show Sn V 1 _ (bR fi 8).length _
       rw[eW]
       exact a0.out.2.2.2.2
      ·rw[List.mem_singleton.1 hp]
       exact e8 V a0.out.1)
  obtain⟨g5,d1⟩:=je V.heap.size;obtain⟨w9,b7⟩:=je (V.alloc (.cells #[.slice (some ⟨b0,0,none⟩) 1 1,.slice A3 n3 c3,.slice A6 8 c6,.slice A9 8 c9,.slice (some ⟨g,4,none⟩) 16 16] 60));have d0:Bw V w9:=by rw[b7];exact(ji _ V).alloc (ja _) _
  have e1:w9.rangeAt g5 0 (a6.map (·.1)):=by rw[b7,a5,d1];exact(Blk.new V _ _).range
  have e0:PN w9 (.slice (some ⟨g5,0,none⟩) 5 5) a6:=qJ a6 5 (by rw[a5];rfl) e1 (λp hp=>(H9 p hp).below d0) (λp hp=>by
   rw[a5] at hp
   rcases List.mem_cons.1 hp with rfl|hp
   ·intro x hx
    rw[List.mem_singleton.1 hx]
    decide
   ·rcases List.mem_cons.1 hp with rfl|hp
    ·show Byn NM
     rw[c5.out.2]
     exact DX a2.out.1 a2.out.2.1 a2.out.2.2
    ·rcases List.mem_cons.1 hp with rfl|hp
     ·exact oP _ _
     ·rcases List.mem_cons.1 hp with rfl|hp
      ·exact oP _ _
      ·rw[List.mem_singleton.1 hp]
       exact eH e7)
  have b1:bJ a6=sP S ps st fi key:=by rw[a5,c5.out.2];unfold bJ sP;simp
  have c4:(bJ a6).length<=800000000:=by
   rw[b1];unfold sP;have:=DY a2.out.1 a2.out.2.1 a2.out.2.2;simp only[jj,List.length_cons,eW,aA];omega
  have HJ:=rE _ a6 w9 e0 (by rw[a5];exact(show(5:Nat)<=100 by decide)) c4;rw[b1] at HJ;have HJ:=jz HJ;have b2:=jz (aB a0.out.1 d0);refine kS 12 (some 15) (.slice (some ⟨g5,0,none⟩) 5 5) w9 (hrun:=by rw[b7,d1];unfold execOp;go_simp) (hS:=b2.out) (h:=?_);clear b7 d0 e1 e0 b1 c4 H9 a5 d1;simp only[pe,p5,p2];dsimp only [List.set];refine kF 13 (some 16) (HJ.mono ?_);rintro e e3 ⟨f4,rfl,a3,a9⟩;obtain⟨d4,d5,rfl,_,_⟩:=aM a3;have HF:Hid (e3.ownsRow w.heap.size 5 1 (.slice d4 (sP S ps st fi key).length d5) (sP S ps st fi key).length (n8 (sP S ps st fi key))/\Bw w e3):=jz ⟨aT a3 (aB H1.out.2 b2).size,aB (aB H1.out.2 b2) a9⟩;have b9:=aB b2 a9;clear a3 a9 HJ;refine⟨_,rfl,b9,λhH=>?_⟩;simp only[pe,p5,p2];dsimp only [List.set];refine qT 14 (.slice d4 (sP S ps st fi key).length d5) ?_;refine kE (h:=?_);clear hH b9;go_wp2_with fail
  go_ret;exact⟨_,rfl,HF.out.1,HF.out.2⟩
def psR(l:List Nat):List Nat:=bR l.length 2++l
def rqR(x y:List Nat):List Nat:=65 :: 80 :: 1 :: (psR x++psR y)
theorem IW(l:List Nat):(psR l).length=2+l.length:=by unfold psR;rw[jj,eW]
theorem SL(x y:List Nat):(rqR x y).length=7+x.length+y.length:=by unfold rqR;simp only[List.length_cons,jj,IW];omega
theorem IY{l:List Nat}(h:Byn l):Byn (psR l):=λx D=>(List.mem_append.1 D).elim (oP _ _ x) (h x)
theorem sA(v:Value)(l:List Nat)(w:Wd)(h:Sn w 1 v l.length (n8 l))(hl:l.length<65536):Wc 94 #[.int .i64 2,v] w λe w'=>∃ v',e = .returned (.tuple #[v',.bool true])/\w'.ownsRow w.heap.size 5 1 v' (psR l).length (n8 (psR l))/\Bw w w':=by
 obtain⟨A,cap,rfl,R,_,_⟩:=id h;have HS:=jz h;obtain⟨n,U⟩:=je l.length;have Z:=jz (gZ 2 n w (by omega) (by omega) (by omega) (by omega));have O:Hid (bR n 2++l=psR l/\(psR l).length=2+n):=jz ⟨by unfold psR;rw[U],by rw[IW,U]⟩;rw[<- U] at HS hl ⊢;have a0:IntKind.u64.wrap (n:Int)=(n:Int):=by rw[IntKind.wrap_u64];omega
 have a1:(n:Int) % 18446744073709551616=(n:Int):=by omega
 clear h U R;go_enter func94,ntmps94
 go_wp2_with fail
 refine Z.mono ?_;rintro e V ⟨v2,rfl,D,I⟩;obtain⟨A2,c2,rfl,_,_⟩:=aM D;have K:Hid (V.ownsRow w.heap.size 5 1 (.slice A2 2 c2) 2 (n8 (bR n 2))/\Bw w V/\Sn V 1 (.slice A n cap) n (n8 l)/\w.heap.size<=V.heap.size):=jz ⟨D,I,HS.below I,I.size⟩;clear D I a0 a1;go_wp2_with (at_builtin;refine app fQ _ _ rfl (by rfl) (base:=w.heap.size) (by rfl) K.out.1 (by rfl) K.out.2.2.1 (bK l) (by unfold maxLen;omega) (by omega) K.out.2.2.2 ?_;intro v3 w3 J hg a2;have H3:Hid (w3.ownsRow w.heap.size 5 1 v3 (psR l).length (n8 (psR l))/\Bw w w3):=jz ⟨by rw[O.out.2,<- O.out.1,dD];exact J,K.out.2.1.grown hg K.out.2.2.2 (λq e=>(K.out.1.lt q e).1)⟩;clear J hg a2)
 go_ret2
 exact⟨_,rfl,H3.out.1,H3.out.2⟩
theorem wW(vx vy:Value)(x y:List Nat)(w:Wd)(hx:Sn w 1 vx x.length (n8 x))(hy:Sn w 1 vy y.length (n8 y))(b1:Byn x)(b3:Byn y)(b2:x.length<=30000)(b7:y.length<=30000):Wc 58 #[vx,vy] w λe w'=>∃ v',e = .returned (.tuple #[v',.bool true])/\w'.ownsRow w.heap.size 5 1 v' (rqR x y).length (n8 (rqR x y))/\Bw w w':=by
 obtain⟨Ax,cx,rfl,_,_,_⟩:=id hx;obtain⟨Ay,cy,rfl,_,_,_⟩:=id hy;have HX:=jz (And.intro hx hy);have HB:=jz (And.intro b1 b3);have HL:=jz (And.intro b2 b7);have c5:=jz (sA _ x w hx (by omega));have c6:=jz (λW (hW:Bw w W)=>sA _ y W (hy.below hW) (by omega));clear hx hy b1 b3 b2 b7;go_enter func58,ntmps58
 go_wp2_with fail
 refine c5.mono ?_;rintro e w2 ⟨v2,rfl,U,a5⟩;obtain⟨A2,c2,rfl,a8,_⟩:=aM U;have H2:Hid (Bw w w2/\Sn w2 1 (.slice A2 (psR x).length c2) (psR x).length (n8 (psR x))):=jz ⟨a5,a8⟩;clear U a5 a8;go_wp2_with fail
 refine(c6 w2 H2.out.1).mono ?_;rintro e I ⟨v3,rfl,V,a2⟩;obtain⟨A3,c3,rfl,a9,_⟩:=aM V;have H3:Hid (Bw w I/\Bw w2 I/\Sn I 1 (.slice A3 (psR y).length c3) (psR y).length (n8 (psR y))):=jz ⟨aB H2.out.1 a2,a2,a9⟩;clear V a2 a9;obtain⟨w4,Z⟩:=je (I.alloc (.cells #[.int .u8 65,.int .u8 80,.int .u8 1] 5));have H4:Hid (Bw I w4/\Sn w4 1 (.slice (some ⟨I.heap.size,0,none⟩) 3 3) 3 (n8 [65,80,1])):=jz (by
  have hb:Bw I w4:=by rw[Z];exact(ji _ I).alloc (ja _) _
  exact⟨hb,by rw[Z];exact Sn.new I #[.int .u8 65,.int .u8 80,.int .u8 1] _ 1 3 rfl⟩)
 have b0:w4.heap.size=I.heap.size+1:=by rw[Z];simp
 have c7:=jz b0;clear b0;go_wp2_with fail
 rw[<- Z];clear Z;obtain⟨O,K⟩:∃ l:List (Value×List Nat),l=[(.slice (some ⟨I.heap.size,0,none⟩) 3 3,[65,80,1]),(.slice A2 (psR x).length c2,psR x),(.slice A3 (psR y).length c3,psR y)]:=⟨_,rfl⟩;have H9:Hid (∀ p∈O,Sn w4 1 p.1 p.2.length (n8 p.2)):=jz (λp J=>by
  rw[K] at J
  rcases List.mem_cons.1 J with rfl|J
  ·exact H4.out.2
  ·rcases List.mem_cons.1 J with rfl|J
   ·exact H2.out.2.below (aB H3.out.2.1 H4.out.1)
   ·rw[List.mem_singleton.1 J]
    exact H3.out.2.2.below H4.out.1)
 obtain⟨w9,a0⟩:=je (w4.alloc (.cells #[.slice (some ⟨I.heap.size,0,none⟩) 3 3,.slice A2 (psR x).length c2,.slice A3 (psR y).length c3] 60));have a3:Bw w4 w9:=by rw[a0];exact(ji _ w4).alloc (ja _) _
 have a7:w9.rangeAt (I.heap.size+1) 0 (O.map (·.1)):=by rw[<- c7.out,a0,K];exact(Blk.new w4 _ _).range
 have a6:PN w9 (.slice (some ⟨I.heap.size+1,0,none⟩) 3 3) O:=qJ O 3 (by rw[K];rfl) a7 (λp J=>(H9 p J).below a3) (λp J=>by
  rw[K] at J
  rcases List.mem_cons.1 J with rfl|J
  ·intro z hz
   have hz:z∈[65,80,1]:=hz
   simp at hz
   omega
  ·rcases List.mem_cons.1 J with rfl|J
   ·exact IY HB.out.1
   ·rw[List.mem_singleton.1 J]
    exact IY HB.out.2)
 have R:bJ O=rqR x y:=by rw[K];unfold bJ rqR;simp
 obtain⟨n,hn⟩:=je ((rqR x y).length);have d0:n<=60007:=by rw[hn,SL];have:=HL.out;omega
 have d1:¬(65536:Int)<n:=by omega
 have HJ:=rE _ O w9 a6 (by rw[K];exact(show(3:Nat)<=100 by decide)) (by rw[R,<- hn];omega);rw[R,<- hn] at HJ;have HJ:=jz HJ;have a4:=jz (aB (aB H3.out.1 H4.out.1) a3);rw[<- a0];have HN:=jz hn;clear a0 a3 a7 a6 R H9 K hn d0;refine HJ.mono ?_;rintro e b9 ⟨d2,rfl,D,a1⟩;obtain⟨c4,c9,rfl,_,_⟩:=aM D;have HF:Hid (b9.ownsRow w.heap.size 5 1 (.slice c4 n c9) (rqR x y).length (n8 (rqR x y))/\Bw w b9):=jz ⟨by rw[<- HN.out];exact aT D a4.size,aB a4 a1⟩;clear D a1 HJ;go_wp2_with fail
 go_ret2
 exact⟨_,rfl,HF.out.1,HF.out.2⟩
def mkR(key nn:Nat->Nat)(T A:List Nat)(tkey:Nat->Nat):List Nat:=rqR (seR key 2 nn T) (seR tkey 11 nn A)
theorem SM(key nn:Nat->Nat)(b:List Nat):(frR key nn b).length=8+b.length:=by unfold frR;rw[jj,aA,aA]
theorem IZ(key:Nat->Nat)(D:Nat)(nn:Nat->Nat)(b:List Nat):(seR key D nn b).length=b.length+24:=by
 unfold seR;rw[jj,SM,jv,pP];omega
theorem I0{key nn:Nat->Nat}{J:Nat}{b:List Nat}(K:aQ key)(I:aQ nn)(hb:Byn b):Byn (seR key J nn b):=λx D=>by
 unfold seR at D;rcases List.mem_append.1 D with D|D
 ·unfold frR at D;rcases List.mem_append.1 D with D|D
  ·exact eH I x D
  ·exact eH (DP (λj=>dI (O6 key) j) I (λj=>dI hb j) _) x D
 ·exact rD _ _ x (j7 D)
theorem K8(key nn D:Nat->Nat)(T A:List Nat)(tc ac:Wv)(w:Wd)(b1:aQ key)(e3:aQ nn)(e7:aQ D)(e6:tc.length=20)(d5:ac.length=5)(e2:∀ j u,(arr 16 (c8 D))[j]? = some u->tc[4+j]? = some u)
  (hT:Byn T/\0<T.length/\T.length<=20000) (hA:Byn A/\0<A.length/\A.length<=20000)
  (d4:∀ W,Bw w W->Wc 56 #[.agg tc.toArray] W λe w'=>∃ v,e = .returned v/\w'.ownsRow W.heap.size 5 1 v T.length (n8 T)/\Bw W w')
  (d3:∀ W,Bw w W->Wc 57 #[.agg ac.toArray] W λe w'=>∃ v,e = .returned v/\w'.ownsRow W.heap.size 5 1 v A.length (n8 A)/\Bw W w'):
  Wc 38 #[.agg (arr 16 (c8 key)).toArray,.agg (arr 8 (c8 nn)).toArray,.agg tc.toArray,.agg ac.toArray] w λe w'=>∃ v,e = .returned v/\w'.ownsRow w.heap.size 5 1 v (mkR key nn T A D).length (n8 (mkR key nn T A D))/\Bw w w':=by
 have HK:=jz (And.intro b1 (And.intro e3 e7));have J:=jz (And.intro hT hA);have f6:=jz d4;have f0:=jz d3;obtain⟨Z,R⟩:=je (arr 16 (c8 key));obtain⟨N8,a1⟩:=je (arr 8 (c8 nn));obtain⟨a9,U⟩:=je (arr 16 (c8 D));have V:Hid (Z.length=16/\N8.length=8/\a9.length=16/\tc.length=20/\ac.length=5):=jz ⟨by rw[R];exact aA _ _,by rw[a1];exact aA _ _,by rw[U];exact aA _ _,e6,d5⟩;have d0:=jz e2;rw[<- U] at d0;have f4:Hid (∀ vb W,Sn W 1 vb T.length (n8 T)->Wc 55 #[.agg Z.toArray,.int .u8 2,.agg N8.toArray,vb] W λe w'=>∃ v,e = .returned v/\w'.ownsRow W.heap.size 5 1 v (seR key 2 nn T).length (n8 (seR key 2 nn T))/\Bw W w'):=jz (λvb W hs=>by
  rw[R,a1]
  exact yN key nn 2 T vb W HK.out.1 HK.out.2.1 (by omega) J.out.1.1 hs J.out.1.2.1 (by have:=J.out.1.2.2;omega))
 have f5:Hid (∀ vb W,Sn W 1 vb A.length (n8 A)->Wc 55 #[.agg a9.toArray,.int .u8 11,.agg N8.toArray,vb] W λe w'=>∃ v,e = .returned v/\w'.ownsRow W.heap.size 5 1 v (seR D 11 nn A).length (n8 (seR D 11 nn A))/\Bw W w'):=jz (λvb W hs=>by
  rw[U,a1]
  exact yN D nn 11 A vb W HK.out.2.2 HK.out.2.1 (by omega) J.out.2.1 hs J.out.2.2.1 (by have:=J.out.2.2.2;omega))
 rw[<- R,<- a1];clear b1 e3 e7 e6 d5 e2 hT hA d4 d3 R a1 U;go_enter func38,ntmps38
 go_upto_region 1 with fail
 obtain⟨g,hg⟩:=je w.heap.size;obtain⟨I,c4⟩:=je ((((w.alloc (.cells Z.toArray 41)).alloc (.cells N8.toArray 100)).alloc (.cells tc.toArray 53)).alloc (.cells ac.toArray 55));have H1:Hid (Bw w I/\Blk I g 41 Z.toArray/\Blk I (g+1) 100 N8.toArray/\Blk I (g+1+1) 53 tc.toArray/\Blk I (g+1+1+1) 55 ac.toArray):=jz (by
  rw[c4,hg]
  exact⟨((((ji _ w).alloc (ja _) _).alloc (by simp) _).alloc (by simp;omega) _).alloc (by simp;omega) _,(((Blk.new w _ _).alloc _).alloc _).alloc _,((Blk.newAt _ _ _ _ (by simp)).alloc _).alloc _,(Blk.newAt _ _ _ _ (by simp)).alloc _,Blk.newAt _ _ _ _ (by simp)⟩)
 rw[<- c4];simp only[World.size_alloc,<- hg];clear c4 hg;obtain⟨g1,b3⟩:=je (g+1);obtain⟨g2,b7⟩:=je (g1+1);obtain⟨g3,b9⟩:=je (g2+1);rw[<- b3,<- b7,<- b9] at H1;rw[<- b3,<- b7,<- b9];clear b3 b7 b9;have f1:Hid (∀ W,Bw I W->W.rangeAt g 0 Z):=jz (λW hW=>by have:=(H1.out.2.1.keep hW).range;rwa [jt] at this);have d1:Hid (∀ W,Bw I W->W.rangeAt g1 0 N8):=jz (λW hW=>by have:=(H1.out.2.2.1.keep hW).range;rwa [jt] at this);have d2:Hid (∀ W,Bw I W->W.rangeAt g2 0 tc):=jz (λW hW=>by have:=(H1.out.2.2.2.1.keep hW).range;rwa [jt] at this);have f2:Hid (∀ W,Bw I W->W.rangeAt g3 0 ac):=jz (λW hW=>by have:=(H1.out.2.2.2.2.keep hW).range;rwa [jt] at this);have f3:Hid (∀ W,Bw I W->W.rangeAt g2 4 a9):=jz (λW hW j u hj=>by have:=d2.out W hW (4+j) u (d0 j u hj);rwa [Nat.zero_add] at this);obtain⟨wS,c5⟩:=je I.drew;have HD:Hid (Bw I wS):=jz (by rw[c5];exact(ji _ I).drew);refine kZ (n:=6) (λW=>Bw I W) ((ji _ I).drew) (h:=λhH=>?_);simp only[p0];dsimp only [List.replicate];rw[<- c5] at hH ⊢;clear c5;refine qL 0 (cs:=Z) (f1) V.out.1 ?_;refine qL 1 (cs:=N8) (d1) V.out.2.1 ?_;refine qL 2 (cs:=tc) (d2) V.out.2.2.2.1 ?_;refine kF 3 (some 16) ((f6 wS (aB H1.out.1 HD)).mono ?_);rintro e w7 ⟨v7,rfl,a4,d7⟩;obtain⟨A7,c7,rfl,e4,_⟩:=aM a4;have H7:Hid (Bw I w7/\Sn w7 1 (.slice A7 T.length c7) T.length (n8 T)):=jz ⟨aB HD d7,e4⟩;clear a4 e4 d7;refine⟨_,rfl,H7.out.1,λhH=>?_⟩;simp only[pe,p5,p2];dsimp only [List.set];refine kF 4 (some 17) ((f4 _ w7 H7.out.2).mono ?_);rintro e w8 ⟨v8,rfl,a5,e0⟩;obtain⟨A8,a0,rfl,c2,_⟩:=aM a5;obtain⟨K,a2⟩:=je ((seR key 2 nn T).length);rw[<- a2] at c2 ⊢;have H8:Hid (Bw I w8/\Sn w8 1 (.slice A8 K a0) K (n8 (seR key 2 nn T))/\K=(seR key 2 nn T).length):=jz ⟨aB H7.out.1 e0,c2,a2⟩;clear a5 c2 e0 a2 H7;refine⟨_,rfl,H8.out.1,λhH=>?_⟩;simp only[pe,p5,p2];dsimp only [List.set];refine qT 5 (.slice A8 K a0) ?_;refine kE (h:=?_);clear hH;go_upto_region 2 with fail
 obtain⟨wU,c6⟩:=je w8.drew;have HU:Hid (Bw I wU/\Sn wU 1 (.slice A8 K a0) K (n8 (seR key 2 nn T))):=jz (by rw[c6];exact⟨H8.out.1.drew,H8.out.2.1.keep (λ_ _ h=>h)⟩);refine kZ (n:=7) (λW=>Bw I W) (H8.out.1.drew) (h:=λhH=>?_);simp only[p0];dsimp only [List.replicate];rw[<- c6] at hH ⊢;clear c6;refine qT 0 (.pointer (some ⟨g2,4,none⟩)) ?_;refine qL 1 (cs:=a9) (f3) V.out.2.2.1 ?_;refine qL 2 (cs:=N8) (d1) V.out.2.1 ?_;refine qL 3 (cs:=ac) (f2) V.out.2.2.2.2 ?_;refine kF 4 (some 22) ((f0 wU (aB H1.out.1 HU.out.1)).mono ?_);rintro e w9 ⟨v9,rfl,a6,b2⟩;obtain⟨A9,c9,rfl,e5,_⟩:=aM a6;have H9:Hid (Bw wU w9/\Bw I w9/\Sn w9 1 (.slice A9 A.length c9) A.length (n8 A)):=jz ⟨b2,aB HU.out.1 b2,e5⟩;clear a6 e5 b2;refine⟨_,rfl,H9.out.2.1,λhH=>?_⟩;simp only[pe,p5,p2];dsimp only [List.set];refine kF 5 (some 23) ((f5 _ w9 H9.out.2.2).mono ?_);rintro e wA ⟨vA,rfl,a7,b0⟩;obtain⟨AA,cA,rfl,c3,_⟩:=aM a7;obtain⟨a8,a3⟩:=je ((seR D 11 nn A).length);rw[<- a3] at c3 ⊢;have HA:Hid (Bw w wA/\Bw I wA/\Sn wA 1 (.slice A8 K a0) K (n8 (seR key 2 nn T))/\Sn wA 1 (.slice AA a8 cA) a8 (n8 (seR D 11 nn A))/\a8=(seR D 11 nn A).length):=jz ⟨aB H1.out.1 (aB H9.out.2.1 b0),aB H9.out.2.1 b0,HU.out.2.below (aB H9.out.1 b0),c3,a3⟩;clear a7 c3 b0 a3 H9 HU;refine⟨_,rfl,HA.out.2.1,λhH=>?_⟩;simp only[pe,p5,p2];dsimp only [List.set];refine qT 6 (.slice AA a8 cA) ?_;refine kE (h:=?_);clear hH;have HB:=jz (wW (.slice A8 K a0) (.slice AA a8 cA) (seR key 2 nn T) (seR D 11 nn A) wA (by rw[<- H8.out.2.2];exact HA.out.2.2.1) (by rw[<- HA.out.2.2.2.2];exact HA.out.2.2.2.1) (I0 HK.out.1 HK.out.2.1 J.out.1.1) (I0 HK.out.2.2 HK.out.2.1 J.out.2.1) (by rw[IZ];have:=J.out.1.2.2;omega) (by rw[IZ];have:=J.out.2.2.2;omega));go_wp2_with (go_at_call 58;refine HB.mono ?_;rintro e wB ⟨vB,rfl,O,e1⟩;obtain⟨e8,cB,rfl,_,_⟩:=aM O;have HF:Hid (wB.ownsRow w.heap.size 5 1 (.slice e8 (mkR key nn T A D).length cB) (mkR key nn T A D).length (n8 (mkR key nn T A D))/\Bw w wB):=jz ⟨aT O HA.out.1.size,aB HA.out.1 e1⟩;clear O e1)
 first|go_ret2|go_ret
 exact⟨_,rfl,HF.out.1,HF.out.2⟩
end Go.Proofs.YtjjlaipkkdncfaaGreatDoor
