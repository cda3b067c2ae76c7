import Derived.Test.YtiaigidbcljblaaGreatDoorMS29
import Derived.Test.YtiaigidbcljblaaGreatDoorMS26
set_option linter.unusedVariables false
set_option linter.unusedSimpArgs false
set_option maxRecDepth 100000
set_option maxHeartbeats 40000000
namespace Go.Proofs.YtiaigidbcljblaaGreatDoor
open Go.Proofs.Tryz
section
open Go.RowKit
theorem IsBuilder.keep{T e B b:Nat}{bs:Wv}{w w':Wd}(h:Lib.IsBuilder T e B b bs w)(hb:Bw w w'):Lib.IsBuilder T e B b bs w':=by
 have key:∀ p,Lib.BuilderAt T e B b p bs w->Lib.BuilderAt T e B b p bs w':=by
  rintro p ⟨K,v,j,x,J⟩;have I:b<w.heap.size:=by
   rcases jo b w.heap.size with D|D
   ·exact D
   ·simp[Array.getElem?_eq_none D] at j
  exact⟨K,v,by rw[hb.block b I];exact j,aK x hb,J⟩
 rcases h with h|h
 ·exact .inl (key _ h)
 ·exact .inr (key _ h)
structure OpR where
 o:OpD
 A:Option Addr
 ca:Nat
 B:Option Addr
 cb:Nat
def opC(x:OpR):Wv:=[.int .i64 x.o.kind,.int .i64 x.o.n,.slice x.A x.o.data.length x.ca,.slice x.B x.o.cuts.length x.cb]
def OpI(w:Wd)(x:OpR):Prop:=Sn w 1 (.slice x.A x.o.data.length x.ca) x.o.data.length (Lib.byteCells x.o.data)/\Sn w 1 (.slice x.B x.o.cuts.length x.cb) x.o.cuts.length (oA x.o.cuts)
theorem OpI.below{w w':Wd}{x:OpR}(h:OpI w x)(hb:Bw w w'):OpI w' x:=⟨h.1.below hb,h.2.below hb⟩
theorem LL(x:OpR):∀ u∈opC x,u.oneCell'=true:=by
 intro u j;simp only[opC,jl,j8,or_false] at j;rcases j with rfl|rfl|rfl|rfl <;> rfl
theorem LM{w:Wd}{A:Option Addr}{cap:Nat}{l:List OpR}(h:Sn w 4 (.slice A l.length cap) l.length (l.flatMap opC))(k:Nat)(j:k<l.length):
  ∃ b off,A=some ⟨b,off,none⟩/\w.rangeAt b (off+k*4) (opC l[k]):=by
 obtain⟨b,off,rfl,x⟩:=h.range k j;rw[lO opC 4 l (λ_ _=>rfl) k j] at x;exact⟨b,off,rfl,x⟩
def aR(l:List OpR):List OpD:=l.map OpR.o
theorem FN(l:List OpR)(k:Nat)(h:k<l.length):dH (aR (l.take (k+1)))=dH (aR (l.take k))++e9 l[k].o++[10]:=by
 unfold dH aR;rw[j6 h,List.map_append,List.flatMap_append];simp
def lU(l:List OpD):Bs×Bool:=if l.all aD then (dH l,true) else ([],false)
theorem N3(l:List OpR)(A:Option Addr)(cap:Nat)(w:Wd)(ht:Tab w)(hs:Sn w 4 (.slice A l.length cap) l.length (l.flatMap opC))(d5:∀ x∈l,OpI w x)(hd:∀ x∈l,x.o.data.length<=100000/\x.o.cuts.length<=100000)(hl:l.length<=1000)(a6:∀ k,(dH (aR (l.take k))).length<=1000000000)(a7:∀ x∈l,(e9 x.o).length<=1000000000):
  Wc 14 #[.slice A l.length cap] w (Rt w (.tuple #[.string (SBy (lU (aR l)).1),.bool (lU (aR l)).2])):=by
 have HT:=jz ht;have HS:=jz hs;have f1:=jz d5;have HD:=jz hd;have a4:=jz a6;have c6:=jz a7;clear ht hs d5 hd a6 a7;have e0:∀ w,(zeroValue 71).run prog w = .ok (.agg opZ) w:=λw=>by kernel_rfl
 have c9:=jz e0;clear e0;go_enter func14,ntmps14
 go_wp2_with fail
 go_loopw [10] (λi wr=>∃ k:Nat,k<=l.length/\i = .int .i64 k/\Hid (Lib.IsBuilder 89 5 w.heap.size w.heap.size (Lib.byteCells (dH (aR (l.take k)))) wr)/\Hid (Bw w wr)/\Hid ((aR (l.take k)).all aD=true)) (λi _=>l.length-(intOf i).toNat)
 case atStart=>exact⟨0,j0 _,rfl,jz (Lib.fresh_isBuilder 89 5 w),jz (aT _ _),jz rfl⟩
 case round=>
  obtain⟨k,hk,rfl,HI,HB,HA⟩:=hrel;have a8:=HB.size;rcases jo k l.length with V|f3
  ·obtain⟨b,off,eA,Z⟩:=LM (HS.below HB) k V;subst eA;have I:=List.getElem_mem V;have b0:=jz (FN l k V);have c2:=f1.out _ I;have c3:=HD.out _ I;have d7:=c6.out _ I;have f7:=a4.out k;have a0:=a4.out (k+1);rw[b0.out] at a0;simp only[jj,List.length_cons,List.length_nil] at a0;obtain⟨x,hx⟩:=je (l[k]);rw[<- hx] at Z b0 c2 c3 d7 a0;have a3:Hid ((aR (l.take (k+1))).all aD=aD x.o):=jz (by
    have h:=HA.out
    unfold aR at h ⊢
    rw[j6 V,List.map_append,List.all_append,h,<- hx]
    simp)
   have K:Hid (aD x.o=false->lU (aR l)=([],false)):=jz (λhr=>by
    unfold lU
    rw[jQ]
    intro h
    have:=List.all_eq_true.1 h x.o (List.mem_map.2 ⟨x,by rw[hx];exact I,rfl⟩)
    rw[hr] at this
    cases this)
   have a5:=jz Z;have c7:=jz c2;clear hx Z c2 I;obtain⟨⟨kk,nn,dd,cc⟩,xA,a1,xB,a2⟩:=x;have f5:(0:Int)<=k:=by omega
   have f6:(k:Int)<l.length:=by omega
   have O:Hid (∀ w1,Bw wr w1->Wc 29 #[.agg #[.int .i64 kk,.int .i64 nn,.slice xA dd.length a1,.slice xB cc.length a2]] w1 (Rt w1 (.string (SBy (e9 ⟨kk,nn,dd,cc⟩))))):=jz (λw1 hb=>R7 kk nn dd cc xA xB a1 a2 w1 (HT.below (aA HB hb)) (c7.out.1.below (aA HB hb)) (c7.out.2.below (aA HB hb)) (by have:=c3.1;simp at this;omega) (by have:=c3.2;simp at this;omega));have b1:=IU ⟨kk,nn,dd,cc⟩;obtain⟨L,hL⟩:=je (e9 ⟨kk,nn,dd,cc⟩);rw[<- hL] at O b1 d7 a0;have HL:=jz hL;have D:(SBy L).toList.isEmpty=L.isEmpty:=by rw[ByteArray.toList_eq,o6]
   rw[b1] at D;clear hL b1;rcases jb (aD ⟨kk,nn,dd,cc⟩) with hr|hr
   ·rw[hr] at a3 D;have f2:=jz (bU L);obtain⟨S,hS⟩:=je (SBy L);rw[<- hS] at O D;have HSe:=jz hS;clear hr hS K;go_wp2_with (first
     | (refine ld 71 (.tmp 12) rfl rfl (by rfl) a5 underlying71 rfl (by kernel_rfl) ?_)
     | (refine al 71 _ rfl rfl c9 ?_)
     | (refine bZ 71 (.tmp 6) (.tmp 13) rfl rfl (by rfl) (by rfl) (by kernel_rfl) (by rfl) (eF _ _ _ _ _ _ _ _) ?_;intro wN R U c4;have a9:Hid (wN.rangeAt wr.heap.size 0 [.int .i64 kk,.int .i64 nn,.slice xA dd.length a1,.slice xB cc.length a2]):=jz (Blk.range R);have HbN:=jz U;clear R c4 U)
     | (refine ld 71 (.tmp 6) rfl rfl (by rfl) a9 underlying71 rfl (by kernel_rfl) ?_)
     | (go_at_call 29;refine(O _ HbN).mono ?_;rintro e w3 ⟨rfl,j⟩;have J:=jz (aA HbN j);have f8:=J.size;clear j)
     | (go_at_call 30;refine(uB w.heap.size w.heap.size _ S _ (IsBuilder.keep HI J) (by rw[aG,HSe.out,bU];omega) (by omega)).mono ?_;rintro e w4 ⟨rfl,b7,d0⟩;have e8:Hid (Lib.IsBuilder 89 5 w.heap.size w.heap.size (Lib.byteCells (dH (aR (l.take k))++L)) w4):=jz (by rw[bB];rw[HSe.out] at b7;exact b7);have c5:=jz (HB.trans ((J.mono a8).trans d0));have f9:=c5.size;clear b7 d0)
     | (go_at_call 31;refine(yY w.heap.size w.heap.size (dH (aR (l.take k))++L) 10 _ e8 (by rw[jj];omega) (by omega)).mono ?_;rintro e w5 ⟨rfl,d2,d1⟩;have f0:=jz d2;have e1:=jz (c5.trans d1);clear d2 d1))
    exact⟨⟨k+1,V,by go_num,jz (by rw[b0.out,<- HL.out];exact f0),e1,a3⟩,by simp[intOf];omega⟩
   ·rw[hr] at D;have HF:=jz (K hr);obtain⟨S,hS⟩:=je (SBy L);rw[<- hS] at O D;clear hr hS K;go_wp2_with (first
     | (refine ld 71 (.tmp 12) rfl rfl (by rfl) a5 underlying71 rfl (by kernel_rfl) ?_)
     | (refine al 71 _ rfl rfl c9 ?_)
     | (refine bZ 71 (.tmp 6) (.tmp 13) rfl rfl (by rfl) (by rfl) (by kernel_rfl) (by rfl) (eF _ _ _ _ _ _ _ _) ?_;intro wN R U c4;have a9:Hid (wN.rangeAt wr.heap.size 0 [.int .i64 kk,.int .i64 nn,.slice xA dd.length a1,.slice xB cc.length a2]):=jz (Blk.range R);have HbN:=jz U;clear R c4 U)
     | (refine ld 71 (.tmp 6) rfl rfl (by rfl) a9 underlying71 rfl (by kernel_rfl) ?_)
     | (go_at_call 29;refine(O _ HbN).mono ?_;rintro e w3 ⟨rfl,j⟩;have J:=jz (aA HbN j);clear j))
    go_ret2
    exact⟨by rw[HF.out];rfl,aA HB J⟩
  ·obtain rfl:k=l.length:=by omega
   rw[List.take_length] at HI HA;have HF:Hid (lU (aR l)=(dH (aR l),true)):=jz (by unfold lU;rw[jP HA.out]);go_wp2_with (go_at_call 32;refine(Tryz.Builder_String_any w.heap.size w.heap.size (dH (aR l)) _ HI a8).mono ?_;rintro e w3 ⟨rfl,j⟩;have J:=jz (HB.trans j);clear j)
   go_ret2
   exact⟨by rw[HF.out];rfl,J⟩
end
section
open Go.RowKit
attribute [local irreducible] wpQuiet wpAnyH
def uC(a b:Int):Int:=if a-b>9223372036854775807 then 9223372036854775807 else if a-b < -9223372036854775808 then -9223372036854775808 else a-b
def p9(a b:Int):Int:=uC (max a b) (min a b)
theorem AS(a b:Int)(w:Wd)(ha:aE a)(hb:aE b):
  Wc 314 #[.int .i64 a,.int .i64 b] w λe w'=>e = .returned (.int .i64 (uC a b))/\w=w':=by
 obtain⟨s,hs⟩:∃ s,wrap64 (a-b)=s:=⟨_,rfl⟩;have j:(-9223372036854775808<=a-b/\a-b<=9223372036854775807/\s=a-b)\/(9223372036854775807<a-b/\s=a-b-18446744073709551616)\/(a-b < -9223372036854775808/\s=a-b+18446744073709551616):=by
  rw[<- hs];unfold aE at ha hb;unfold wrap64;omega
 have HW:=jz j;have V:=jz ha;have x:=jz hb;clear j ha hb;have K:uC a b=if 9223372036854775807<a-b then 9223372036854775807 else if a-b < -9223372036854775808 then -9223372036854775808 else a-b:=rfl
 have Z:=jz K;clear K;rcases jb (decide (0<=a)) with D|D <;> rcases jb (decide (0<=b)) with I|I <;> rcases jb (decide (s<0)) with J|J
 all_goals
  have O:decide (a<0) = !decide (0<=a):=by by_cases h:0<=a <;> simp[h] <;> omega
  have R:decide (b<0) = !decide (0<=b):=by by_cases h:0<=b <;> simp[h] <;> omega
  have U:decide (0<=s) = !decide (s<0):=by by_cases h:0<=s <;> simp[h] <;> omega
  rw[D] at O;rw[I] at R;rw[J] at U;simp only[Bool.not_true,Bool.not_false] at O R U;go_enter func314,ntmps314
  go_wp2_with fail
  go_ret;refine⟨VM ?_,rfl⟩;rw[Z.out];have h1:=HW.out;have h2:=V.out;have h3:=x.out;unfold aE at h2 h3;simp only[decide_eq_true_eq,decide_eq_false_iff_not] at D I J
  first
   | (rw[jP (by omega)])
   | (rw[jQ (by omega),jP (by omega)])
   | (rw[jQ (by omega),jQ (by omega)];omega)
end
section
open Go.RowKit
attribute [local irreducible] wpQuiet wpAnyH
attribute [local go_sem] Oper.semAt_some
theorem Lies.off{T:bL}{g:Nat}{W W':Wd}(h:Off g W W')(hg:¬T g):Lies T W W':=⟨h.os,h.tape,h.output,h.size,λk j ht=>h.block k j λe=>hg (e ▸ ht)⟩
def fU:List Bs->List (Bs×Bool)
 | []=>[]
 | [w]=>if w.isEmpty then [] else [(w,false)]
 | w :: x :: ws=>(w,true) :: fU (x :: ws)
def dE(s:Bs):List (Bs×Bool):=fU (split 10 s)
theorem JA:dE []=[]:=rfl
theorem JB(w r:Bs)(h:(10:UInt8) ∉ w):dE (w++10 :: r)=(w,true) :: dE r:=by
 unfold dE;rw[mC 10 w r h];obtain⟨a,b,e⟩:=fT 10 r;rw[e];rfl
theorem FO(w:Bs)(h:(10:UInt8) ∉ w)(j:w≠[]):dE w=[(w,false)]:=by
 unfold dE;rw[mV 10 w h];cases w with
 | nil=>exact absurd rfl j
 | cons _ _=>rfl
theorem N4(r:Bs)(j:r≠[])(hs:r.length<=100000000):∃(x q:Bs) (I:Bool),Lib.cut r [10]=(x,q,I)/\dE r=(x,I) :: dE q/\q.length<r.length/\x.length<=r.length/\(hs=hs):=by
 by_cases h:(10:UInt8)∈r
 ·obtain⟨w,q,rfl,D⟩:=sK 10 r h;exact⟨w,q,true,LF 10 w q D,JB w q D,by simp;omega,by simp,rfl⟩
 ·refine⟨r,[],false,E9 10 r h,FO r h j,?_,ja _,rfl⟩;cases r with
  | nil=>exact absurd rfl j
  | cons _ _=>simp
def V7(x:Bs×Bool):Wa:=#[.string (SBy x.1),.bool x.2]
def XL(g1:Nat):bL:=λk=>k=g1\/k=2
def sM(g1:Nat)(wr:Wd):Nat:=NX ((wr.cell? ⟨g1,0,none⟩).getD .nilIface)
structure LIt(g1:Nat)(r:Bs)(T:bL)(wr:Wd):Prop where
 box:Blk wr g1 9 #[.string (SBy r)]
 ml:ML wr
 nT:¬T g1/\¬T 2
 len:r.length<=100000000
theorem ML.same{w w':Wd}(h:ML w)(hb:w'.heap[2]? = w.heap[2]?):ML w':=by
 obtain⟨m,j⟩:=h;exact⟨m,(World.cell?_of_block hb).trans j⟩
theorem ML.lt{w:Wd}(h:ML w):2<w.heap.size:=by
 obtain⟨m,j⟩:=h;exact dW j
theorem N5(s:Bs)(j:Nat)(w:Wd)(h1:Blk w j 9 #[.string (SBy s)])(a8:ML w)(hs:s.length<=100000000)(hg:j≠2):
  SeqZ Fence.wide 9 prog 92 #[.pointer (some ⟨j,0,none⟩)] V7 (XL j) (λk=>k=j) (dE s) w:=by
 intro ly J Jx T0 W hW e1 e8 hJ f5 f3 hY a6 h0 _;have b1:Hid (LIt j s T0 W):=jz ⟨h1.keep hW,a8.below hW,⟨λh=>a6 _ h (.inl rfl),λh=>a6 _ h (.inr rfl)⟩,hs⟩;have e0:j<w.heap.size:=h1.lt;have f0:=a8.lt;have a4:=jz (show j≠ly/\2≠ly/\j≠2 by refine⟨by omega,by omega,hg⟩);have b7:=jz h0;clear h1 a8 a6 h0 hg;refine callsIn_of_wp func92 rfl trivial ?_ rfl;simp only[ntmps92,js,List.length_cons,List.length_nil,Nat.reduceAdd,Nat.reduceSub,Array.replicate_succ,Array.replicate_zero,List.push_toArray,List.append_toArray,List.nil_append,List.cons_append];refine wpIn_wide.2 ?_;go_wp2_with fail
 go_loopw [3] (λ_ wr=>∃(I:List (Bs×Bool)) (T:bL) (r:Bs),Hid (J I T wr)/\Hid (LIt j r T wr)/\Hid (dE s=I++dE r)) (λ_ wr=>sM j wr)
 case atStart=>exact⟨[],T0,s,b7,b1,jz rfl⟩
 case round=>
  clear b7 b1;obtain⟨I,T,r,HJ,U,HL⟩:=hrel;have c1:=U.box.cell 0;have f1:=U.box.frozen 0;simp only[jf,jg] at c1;have d1:Hid (sM j wr=r.length):=jz (by unfold sM;rw[c1];simp[NX,bU]);by_cases hn:r=[]
  ·subst hn;have HF:Hid (J (dE s) T wr):=jz (by rw[HL.out,JA,List.append_nil];exact HJ);have f2:wr.cell? ⟨j,0,none⟩=some (.string ⟨#[]⟩):=c1;clear c1;go_wp2_with fail
   go_end0
   exact⟨⟨_,rfl⟩,T,.inl HF⟩
  ·obtain⟨x,q,mb,hcut,a7,c6,f7,_⟩:=N4 r hn U.len;have a1:(SBy r).toList.isEmpty=false:=E1 (λe=>hn (by have:=bU r;rw[e] at this;exact List.length_eq_zero_iff.1 this.symm));have D:=rE 10 r wr U.ml U.len;rw[hcut] at D;have K:Hid (Wc 93 #[.string (SBy r),.string ⟨#[10]⟩] wr λe w'=>e = .returned (.tuple #[.string (SBy x),.string (SBy q),.bool mb])/\∃ n,w'=wr.drewN n):=jz D;have a2:I++[(x,mb)] <+: dE s:=by rw[HL.out,a7];exact⟨dE q,by simp⟩
   have a0:=jz a2;have d0:Hid (dE s=(I++[(x,mb)])++dE q):=jz (by rw[HL.out,a7];simp);have c2:=jz c6;obtain⟨S,hS⟩:=je (SBy r);rw[<- hS] at c1 a1 K;clear hS D hcut a7 a2 c6 hn;go_upto_region 2 with (go_at_call 93;refine K.mono ?_;rintro e w1 ⟨rfl,dn,c7⟩;have c5:Bw wr w1:=(by rw[c7];exact cA (ji _ _) _);have a3:=jz c5;clear c7 c5)
   have c3:J I T w1:=hJ _ _ _ _ HJ (Lies.of_below a3);obtain⟨fn,tmps,c9,body,hy,hR⟩:=hY _ _ T w1 a0 c3;have HB1x:=jz (U.box.keep a3);have R:=jz (U.ml.below a3);dsimp only [V7] at hy;refine(wpIn_wide (n:=9)).1 ?_;gi_wp2_with fail
   refine hR.mono ?_;rintro e wD ⟨T',hT,⟨rfl,Z⟩|⟨rfl,Z⟩⟩
   ·have a9:¬(T j\/j=ly):=λh=>h.elim U.nT.1 a4.out.1
    have b0:¬(T 2\/2=ly):=λh=>h.elim U.nT.2 a4.out.2.1
    have V:=hT.blk HB1x a9;have c4:ML wD:=R.same (hT.block _ R.lt b0);have d5:=HB1x.lt;have d7:=R.lt;have a5:¬T' j/\¬T' 2:=⟨λh=>(hT.sub _ h).elim a9 (λh=>by omega),λh=>(hT.sub _ h).elim b0 (λh=>by omega)⟩;have O:Hid (J (I++[(x,mb)]) T' (wD.setCell ⟨j,0,none⟩ (.string (SBy q)))/\LIt j q T' (wD.setCell ⟨j,0,none⟩ (.string (SBy q)))):=jz (by
     refine⟨hJ _ _ _ _ Z (Lies.setCell _ _ _ _ (λh=>h.elim a5.1 (λh=>h.2 rfl)) _),V.set_ 0 _,c4.same (Below.heap_setCell wD ⟨j,0,none⟩ _ _ (λe=>a4.out.2.2 e.symm)),a5,by have:=U.len;have:=c2.out;omega⟩)
    have d2:=V.cell 0;have f6:=V.frozen 0;simp only[jf,jg] at d2;have HM:Hid (sM j (wD.setCell ⟨j,0,none⟩ (.string (SBy q)))<sM j wr):=jz (by
     rw[d1.out]
     unfold sM
     have:=O.out.2.box.cell 0
     simp only[jf,jg] at this
     rw[this]
     simp only[Option.getD_some,NX,bU]
     exact c2)
    clear hR hy hT a9 b0 V c4 d5 d7 a5 Z c3 c1 f1 a1;gi_wp2_with fail
    go_wp2_with fail
    exact⟨⟨_,T',q,jz O.out.1,jz O.out.2,d0⟩,HM⟩
   ·gi_wp2_with fail
    go_wp2_with fail
    refine bodyPost_ret (results_none rfl _ _ _) rfl ?_;exact⟨⟨_,rfl⟩,T',.inr ⟨_,a0,Z⟩⟩
def nK:List (Bs×Bool)->Nat->List OpD->Nat×List OpD
 | [],_,acc=>(0,acc)
 | (w,b) :: ls,n,acc=>if b then (if fG w then nK ls (n+1) acc else match cU w with
  | none=>(n+1,[])
  | some o=>nK ls (n+1) (acc++[o])) else (n+1,[])
theorem N6{w:Bs}(x:List (Bs×Bool))(n:Nat)(j:List OpD)(h:fG w=true):nK ((w,true) :: x) n j=nK x (n+1) j:=by
 show(if true=true then (if fG w then nK x (n+1) j else _) else _)=_;rw[jP rfl,jP h]
theorem N7{w:Bs}(x:List (Bs×Bool))(n:Nat)(j:List OpD)(h:fG w=false)(D:cU w=none):nK ((w,true) :: x) n j=(n+1,[]):=by
 show(if true=true then (if fG w then nK x (n+1) j else match cU w with|none=>_|some o=>_) else _)=_;rw[jP rfl,jQ (by rw[h];exact Bool.false_ne_true),D]
theorem N8{w:Bs}{o:OpD}(x:List (Bs×Bool))(n:Nat)(j:List OpD)(h:fG w=false)(D:cU w=some o):nK ((w,true) :: x) n j=nK x (n+1) (j++[o]):=by
 show(if true=true then (if fG w then nK x (n+1) j else match cU w with|none=>_|some o=>_) else _)=_;rw[jP rfl,jQ (by rw[h];exact Bool.false_ne_true),D]
theorem sN:∀(ws:List Bs) (n:Nat) (acc:List OpD),tZ ws n acc=nK (fU ws) n acc
 | [],_,_=>rfl
 | [w],n,acc=>by
  rw[NI];unfold fU;cases w <;> rfl
 | w :: x :: ws,n,acc=>by
  have j:fU (w :: x :: ws)=(w,true) :: fU (x :: ws):=rfl;rw[j];have D:nK ((w,true) :: fU (x :: ws)) n acc=if fG w then nK (fU (x :: ws)) (n+1) acc else match cU w with
   | none=>(n+1,[])
   | some o=>nK (fU (x :: ws)) (n+1) (acc++[o]):=rfl
  rw[D];cases hs:fG w with
  | true=>rw[NJ _ _ _ hs (by simp),sN];rfl
  | false=>
   cases hp:cU w with
   | none=>rw[NK _ _ _ hs (by simp) hp];rfl
   | some o=>rw[AO _ _ _ hs (by simp) hp,sN];rfl
theorem CQ(s:Bs):bH s=nK (dE s) 0 []:=sN _ _ _
theorem x7:∀ ws:List Bs,(fU ws).length<=ws.length
 | []=>ja _
 | [w]=>by
  unfold fU;split <;> simp
 | w :: x :: ws=>by
  have:=x7 (x :: ws);show(fU (x :: ws)).length+1<=_;simp at this ⊢;omega
theorem AT(c:UInt8):∀ s:Bs,(split c s).length<=s.length+1
 | []=>ja _
 | x :: s=>by
  have:=AT c s;rw[iF];split
  ·simp;omega
  ·simp;omega
theorem JC(s:Bs):(dE s).length<=s.length+1:=jm (x7 _) (AT 10 s)
theorem x8:∀(ws:List Bs) (x:Bs×Bool),x∈fU ws->x.1∈ws
 | [],x,h=>by cases h
 | [w],x,h=>by
  unfold fU at h;split at h
  ·cases h
  ·simp at h;rw[h];simp
 | w :: y :: ws,x,h=>by
  have h:x∈(w,true) :: fU (y :: ws):=h;rw[jl] at h;rcases h with rfl|h
  ·simp
  ·have:=x8 (y :: ws) x h;simp at this ⊢;exact .inr this
theorem pO(c:UInt8):∀(s:Bs) (x:Bs),x∈split c s->x.length<=s.length
 | [],x,h=>by simp[split] at h;rw[h];simp
 | y :: s,x,h=>by
  have ih:=pO c s;obtain⟨w,j,e⟩:=fT c s;rw[iF] at h;rw[e] at ih h;split at h
  ·rw[jl] at h;rcases h with rfl|h
   ·simp
   ·have:=ih x h;simp;omega
  ·rw[List.headD_cons,List.tail_cons,jl] at h;rcases h with rfl|h
   ·have:=ih w (by simp);simp;omega
   ·have:=ih x (by simp[h]);simp;omega
theorem V8{s:Bs}{x:Bs×Bool}(h:x∈dE s):x.1.length<=s.length:=pO 10 s _ (x8 _ x h)
def SG(z:Int):Value:=.iface 145 (.agg #[.int .i64 16,.int .i64 z])
def JD(n:Nat):Value:=SG (n:Int)
theorem sO(z:Int)(w:Wd):Wc 38 #[.int .i64 16,.int .i64 z] w λe w'=>e = .returned (.iface 145 (.agg #[.int .i64 16,.int .i64 z]))/\w'=w:=by
 go_enter func38,ntmps38
 go_wp2_with fail
 go_ret;exact⟨rfl,rfl⟩
theorem N9(s:Bs)(w:Wd):Wc 62 #[.string (SBy s)] w λe w'=>e = .returned (.func (.func 92) #[] #[.pointer (some ⟨w.heap.size,0,none⟩)])/\w'=w.alloc (.cells #[.string (SBy s)] 9):=by
 go_enter func62,ntmps62
 go_wp2_with fail
 go_ret;exact⟨rfl,rfl⟩
theorem SM.ne{w:Wd}{b n g:Nat}{f:Bs->Option Value}{t:TypeId}{cs:Wa}(h:SM w b n f)(j:Blk w g t cs):b≠g:=by
 obtain⟨D,⟨x,clock,hb,_⟩,_⟩:=h;intro e;subst e;unfold Blk at j;rw[hb] at j;cases j
def XI(N:Nat)(T:bL)(x:OpR):Prop:=(∀ b off,x.A=some ⟨b,off,none⟩->T b/\N<=b)/\(∀ b off,x.B=some ⟨b,off,none⟩->T b/\N<=b)
theorem FP{w w':Wd}{base e s n:Nat}{v:Value}{x:Wv}(h:w.ownsRow base e s v n x)(hb:∀ k,v.ownBlock=some k->w'.heap[k]? = w.heap[k]?):w'.ownsRow base e s v n x:=by
 refine⟨h.1,?_⟩;rcases h.2 with D|⟨g,cap,j,rfl,I,J,K⟩
 ·exact .inl D
 ·exact .inr ⟨g,cap,j,rfl,I,(hb g rfl).trans J,K⟩
theorem Sn.blks{s n cap:Nat}{A:Option Addr}{J:Wv}{W W':Wd}(h:Sn W s (.slice A n cap) n J)(hb:∀ b off,A=some ⟨b,off,none⟩->b<W.heap.size->W'.heap[b]? = W.heap[b]?):Sn W' s (.slice A n cap) n J:=by
 obtain⟨V,D,hv,K,O,U⟩:=h;injection hv with hA _ hcp
 subst hA hcp;refine⟨_,_,rfl,K,O,λR=>?_⟩;obtain⟨b,off,e,x⟩:=U R;exact⟨b,off,e,λj u I=>(World.cell?_of_block (hb b off e (dW (x j u I)))).trans (x j u I)⟩
structure FS(w:Wd)(N g2 g3 g4 g5 g6 b:Nat)(pre:List (Bs×Bool))(v:Value)(R:List OpR)(T:bL)(W:Wd):Prop where
 b2:Blk W g2 38 #[.slice none 0 0]
 b3:Blk W g3 42 #[.nilIface]
 b4:Blk W g4 131 #[.map (some b)]
 b5:Blk W g5 38 #[v]
 b6:Blk W g6 3 #[.int .i64 pre.length]
 map:SM W b 6 (t8 6)
 ml:ML W
 own:W.ownsRow N 71 4 v R.length (R.flatMap opC)
 ownT:∀ k,v.ownBlock=some k->T k
 ops:∀ x∈R,OpI W x/\XI N T x
 len:R.length<=pre.length
 sep:∀ x∈R,(∀ b off,x.A=some ⟨b,off,none⟩->v.ownBlock≠some b)/\(∀ b off,x.B=some ⟨b,off,none⟩->v.ownBlock≠some b)
 bel:Bw w W
 size:N<=W.heap.size
 tin:T g2/\T g3/\T g5/\T g6
 tsub:∀ k,T k->k=g2\/k=g3\/k=g5\/k=g6\/N<=k
 tlt:∀ k,T k->k<W.heap.size
def YQ(s:Bs)(pre:List (Bs×Bool))(R:List OpR):Prop:=∀ rest,dE s=pre++rest->bH s=nK rest pre.length (aR R)
structure GS(w:Wd)(N g2 g3 g4 g5 g6 g7 b:Nat):Prop where
 e2:g2=w.heap.size
 e3:g3=w.heap.size+1
 e4:w.heap.size+2<=g4
 e5:g5=g4+1
 e6:g6=g4+2
 e7:g7=g4+3
 eN:N=g4+4
 eb:b<g4/\b≠g2/\b≠g3
 em:2<w.heap.size
theorem OpI.lies{N:Nat}{T:bL}{U:bL}{A B:Wd}{x:OpR}(h:OpI A x)(D:XI N T x)(J:Lies U A B)(I:∀ k,T k->U k):OpI B x:=
 ⟨h.1.blks λb off e j=>J.block b j (I _ (D.1 b off e).1),h.2.blks λb off e j=>J.block b j (I _ (D.2 b off e).1)⟩
theorem FS.stab{w:Wd}{N K O g4 g5 g6 g7 b:Nat}{J:List (Bs×Bool)}{v:Value}{R:List OpR}{T:bL}{A B:Wd}(D:GS w N K O g4 g5 g6 g7 b)(h:FS w N K O g4 g5 g6 b J v R T A)(j:Lies (λk=>T k\/(k<N/\¬k=g7)) A B):FS w N K O g4 g5 g6 b J v R T B where
 b2:=j.blk h.b2 (.inl h.tin.1)
 b3:=j.blk h.b3 (.inl h.tin.2.1)
 b4:=j.blk h.b4 (.inr (by have:=D.e7;have:=D.eN;omega))
 b5:=j.blk h.b5 (.inl h.tin.2.2.1)
 b6:=j.blk h.b6 (.inl h.tin.2.2.2)
 map:=h.map.of_block (j.block _ h.map.lt (.inr (by have:=D.e7;have:=D.eN;have:=D.eb;omega)))
 ml:=h.ml.same (j.block _ h.ml.lt (.inr (by have:=D.e7;have:=D.eN;have:=D.em;have:=D.e4;omega)))
 own:=FP h.own (λk I=>j.block k (h.own.lt k I).2 (.inl (h.ownT k I)))
 ownT:=h.ownT
 ops:=λx U=>⟨(h.ops x U).1.lies (h.ops x U).2 j (λ_ ht=>.inl ht),(h.ops x U).2⟩
 len:=h.len
 sep:=h.sep
 bel:=⟨j.os.trans h.bel.os,j.tape.trans h.bel.tape,j.output.trans h.bel.output,jm h.bel.size j.size,λk I=>(j.block k (jp I h.bel.size) (.inr (by have:=D.e7;have:=D.eN;have:=D.e4;omega))).trans (h.bel.block k I)⟩
 size:=jm h.size j.size
 tin:=h.tin
 tsub:=h.tsub
 tlt:=λk I=>jp (h.tlt k I) j.size
theorem FS.count{w:Wd}{N J K g4 g5 g6 g7 b:Nat}{D:List (Bs×Bool)}{v:Value}{R:List OpR}{T:bL}{U:Wd}(j:GS w N J K g4 g5 g6 g7 b)(h:FS w N J K g4 g5 g6 b D v R T U){z:Int}(x:Bs×Bool)(V:z=(D++[x]).length):
  FS w N J K g4 g5 g6 b (D++[x]) v R T (U.setCell ⟨g6,0,none⟩ (.int .i64 z)) where
 b2:=h.b2.far (by have:=j.e2;have:=j.e4;have:=j.e6;simp;omega) _
 b3:=h.b3.far (by have:=j.e3;have:=j.e4;have:=j.e6;simp;omega) _
 b4:=h.b4.far (by have:=j.e6;simp;omega) _
 b5:=h.b5.far (by have:=j.e5;have:=j.e6;simp;omega) _
 b6:=by rw[<- V];exact h.b6.set_ 0 _
 map:=h.map.of_block (Below.heap_setCell U ⟨g6,0,none⟩ _ b (by have:=j.eb;have:=j.e6;simp;omega))
 ml:=h.ml.same (Below.heap_setCell U ⟨g6,0,none⟩ _ _ (by have:=j.em;have:=j.e4;have:=j.e6;simp;omega))
 own:=rG h.own (by have:=j.eN;have:=j.e6;omega) 0 _
 ownT:=h.ownT
 ops:=λy hy=>by
  have h1:=h.ops y hy;have I:∀ k,N<=k->(U.setCell ⟨g6,0,none⟩ (.int .i64 z)).heap[k]? = U.heap[k]?:=λk O=>Below.heap_setCell U ⟨g6,0,none⟩ _ k (by have:=j.eN;have:=j.e6;simp;omega)
  exact⟨⟨h1.1.1.blks λq off e _=>I q (h1.2.1 q off e).2,h1.1.2.blks λq off e _=>I q (h1.2.2 q off e).2⟩,h1.2⟩
 len:=by have:=h.len;simp;omega
 sep:=h.sep
 bel:=h.bel.setCell (p:=⟨g6,0,none⟩) (by have:=j.e6;have:=j.e4;simp;omega) _
 size:=by have:=h.size;simpa using this
 tin:=h.tin
 tsub:=h.tsub
 tlt:=λk O=>by have:=h.tlt k O;simpa using this
theorem tOps:SlT prog 38 71 4 64:=SlT.mk' underlying38 (z:=.agg opZ) (by kernel_rfl) rfl (by decide)
theorem FS.push{w:Wd}{N g2 g3 g4 g5 g6 g7 b:Nat}{a0:List (Bs×Bool)}{v:Value}{R:List OpR}{T:bL}{I Z:Wd}(K:GS w N g2 g3 g4 g5 g6 g7 b)(h:FS w N g2 g3 g4 g5 g6 b a0 v R T I){x:OpR}{v':Value}{M:Nat}(hx:OpI I x)
    (hA:∀ q off,x.A=some ⟨q,off,none⟩->M<=q/\q<I.heap.size/\v.ownBlock≠some q) (hB:∀ q off,x.B=some ⟨q,off,none⟩->M<=q/\q<I.heap.size/\v.ownBlock≠some q)
    (U:Z.ownsRow N 71 4 v' (R.length+1) (R.flatMap opC++opC x)) (J:I.grownBy Z v.ownBlock) (O:v'.ownBlock=v.ownBlock\/v'.ownBlock=some I.heap.size) (a1:R.length+1<=a0.length) (hM:N<=M/\M<=I.heap.size):
    FS w N g2 g3 g4 g5 g6 b a0 v' (R++[x]) (λk=>T k\/(M<=k/\k<Z.heap.size)) (Z.setCell ⟨g5,0,none⟩ v'):=by
  have e2:=K.e2;have e3:=K.e3;have e4:=K.e4;have e5:=K.e5;have e6:=K.e6;have eN:=K.eN;have eb:=K.eb;have em:=K.em;have D:∀ k,k<N->some k≠v.ownBlock:=λk hk e=>by have:=(h.own.lt k e.symm).1;omega
  have j:∀ k,k<I.heap.size->some k≠v.ownBlock->k≠g5->(Z.setCell ⟨g5,0,none⟩ v').heap[k]? = I.heap[k]?:=λk hk h1 h2=>(Below.heap_setCell Z ⟨g5,0,none⟩ v' k h2).trans (J.block k hk h1)
  have hs:=J.size;have hN:=h.size
  refine { b2 := (j g2 h.b2.lt (D _ (by omega)) (by omega)).trans h.b2, b3 := (j g3 h.b3.lt (D _ (by omega)) (by omega)).trans h.b3, b4 := (j g4 h.b4.lt (D _ (by omega)) (by omega)).trans h.b4
           b5 := Blk.set_ (show Blk Z g5 _ #[v] from (J.block g5 h.b5.lt (D _ (by omega))).trans h.b5) 0 v', b6 := (j g6 h.b6.lt (D _ (by omega)) (by omega)).trans h.b6
           map := h.map.of_block (j b h.map.lt (D _ (by omega)) (by omega)), ml := h.ml.same (j _ h.ml.lt (D _ (by omega)) (by omega))
           own := ?_, ownT := ?_, ops := ?_, len := by simpa using a1, sep := ?_, bel := ?_, size := by simp; omega, tin := ⟨.inl h.tin.1, .inl h.tin.2.1, .inl h.tin.2.2.1, .inl h.tin.2.2.2⟩
           tsub:=λk hk=>hk.elim (h.tsub k) (λh2=>.inr (.inr (.inr (.inr (by omega))))),tlt:=λk hk=>hk.elim (λh1=>by have:=h.tlt k h1;simp;omega) (λh2=>by simp;exact h2.2) }
  · have:=rG U (g:=g5) (by omega) 0 v';rw[jj,List.flatMap_append];simpa using this
  · intro k hk;rcases O with e|e
    · exact .inl (h.ownT k (by rw[<- e];exact hk))
    · rw[e] at hk;injection hk with hk
      have:=(U.lt k (by rw[e,hk])).2;exact .inr ⟨by omega,this⟩
  · intro y hy;rw[ju,List.mem_singleton] at hy;rcases hy with hy|rfl
    · have h1:=h.ops y hy;have h2:=h.sep y hy;refine⟨⟨h1.1.1.blks λq off e V=>?_,h1.1.2.blks λq off e V=>?_⟩,λq off e=>⟨.inl (h1.2.1 q off e).1,(h1.2.1 q off e).2⟩,λq off e=>⟨.inl (h1.2.2 q off e).1,(h1.2.2 q off e).2⟩⟩
      · exact j q V (λe3=>h2.1 q off e e3.symm) (by have:=(h1.2.1 q off e).2;omega)
      · exact j q V (λe3=>h2.2 q off e e3.symm) (by have:=(h1.2.2 q off e).2;omega)
    · refine⟨⟨hx.1.blks λq off e V=>?_,hx.2.blks λq off e V=>?_⟩,λq off e=>?_,λq off e=>?_⟩
      · have:=hA q off e;exact j q V (λe3=>this.2.2 e3.symm) (by omega)
      · have:=hB q off e;exact j q V (λe3=>this.2.2 e3.symm) (by omega)
      · have:=hA q off e;exact⟨.inr (by omega),by omega⟩
      · have:=hB q off e;exact⟨.inr (by omega),by omega⟩
  · intro y hy;have key:∀ q,q<I.heap.size->v.ownBlock≠some q->v'.ownBlock≠some q:=λq V h1 h2=>by
      rcases O with e|e
      · exact h1 (by rw[<- e];exact h2)
      · rw[e] at h2;injection h2 with h2
        omega
    rw[ju,List.mem_singleton] at hy;rcases hy with hy|rfl
    · have h1:=(h.ops y hy).2;have h2:=h.sep y hy;exact⟨λq off e=>key q (h.tlt q (h1.1 q off e).1) (h2.1 q off e),λq off e=>key q (h.tlt q (h1.2 q off e).1) (h2.2 q off e)⟩
    · exact⟨λq off e=>key q (hA q off e).2.1 (hA q off e).2.2,λq off e=>key q (hB q off e).2.1 (hB q off e).2.2⟩
  · exact((h.bel.grown J h.bel.size (λk hk=>by have:=(h.own.lt k hk).1;omega))).setCell (p:=⟨g5,0,none⟩) (by simp;omega) _
structure FXP(w:Wd)(N g2 g3 g7:Nat)(s:Bs)(T:bL)(W:Wd):Prop where
 b2:Blk W g2 38 #[.slice none 0 0]
 b3:Blk W g3 42 #[JD (bH s).1]
 bad:1<=(bH s).1
 bel:Bw w W
 tin:T g2/\T g3
theorem FXP.stab{w:Wd}{N x D g4 g5 g6 g7 b:Nat}{s:Bs}{T:bL}{A B:Wd}(I:GS w N x D g4 g5 g6 g7 b)(h:FXP w N x D g7 s T A)(j:Lies (λk=>T k\/(k<N/\¬k=g7)) A B):FXP w N x D g7 s T B where
 b2:=j.blk h.b2 (.inl h.tin.1)
 b3:=j.blk h.b3 (.inl h.tin.2)
 bad:=h.bad
 bel:=⟨j.os.trans h.bel.os,j.tape.trans h.bel.tape,j.output.trans h.bel.output,jm h.bel.size j.size,λk J=>(j.block k (jp J h.bel.size) (.inr (by have:=I.e7;have:=I.eN;have:=I.e4;omega))).trans (h.bel.block k J)⟩
 tin:=h.tin
theorem OA(s:Bs)(w:Wd)(n6:ML w)(hs:s.length<=10000000):
  Wc 33 #[.string (SBy s)] w λe w'=>Bw w w'/\∃ v ev,e = .returned (.tuple #[v,ev])/\(((bH s).1=0/\ev = .nilIface/\∃ R:List OpR,aR R=(bH s).2/\w'.ownsRow w.heap.size 71 4 v R.length (R.flatMap opC)/\∀ x∈R,OpI w' x)\/(1<=(bH s).1/\ev=JD (bH s).1/\v = .slice none 0 0)):=by
 have t5:=jz n6;have s4:=n6.lt;clear n6;refine nQ func33 rfl ?_;simp only[ntmps33,js,List.length_cons,List.length_nil,Nat.reduceAdd,Nat.reduceSub,Array.replicate_succ,Array.replicate_zero,List.push_toArray,List.append_toArray,List.nil_append,List.cons_append];refine wpIn_wide.2 ?_;go_wp2_with (first
  | (go_at_call 61;refine(NW _).mono ?_;rintro e w1 ⟨b,rfl,hm,n0⟩;have HM:=jz hm;have d2:=jz n0;clear hm n0)
  | (go_at_call 62;refine(N9 s _).mono ?_;rintro e w2 ⟨rfl,rfl⟩))
 obtain⟨W,hW⟩:=je (((((w1.alloc (.cells #[.map (some b)] 131)).alloc (.cells #[.slice none 0 0] 38)).alloc (.cells #[.int .i64 0] 3)).alloc (.cells #[.string (SBy s)] 9)));rw[<- hW];obtain⟨g4,b0⟩:=je w1.heap.size;rw[<- b0];have t1:=d2.size;simp only[World.size_alloc] at t1;have m6:Blk w1 w.heap.size 38 #[.slice none 0 0]:=((Blk.new w _ _).alloc _).keep d2.out;have a8:Blk w1 (w.heap.size+1) 42 #[.nilIface]:=(Blk.newAt (w.alloc (.cells #[.slice none 0 0] 38)) _ _ (w.heap.size+1) (by simp)).keep d2.out;have n1:Bw w w1:=aA (aA (aT _ _) (aT _ _)) d2.out;have d1:Bw w1 W:=by rw[hW];exact aA (aA (aA (aT _ _) (aT _ _)) (aT _ _)) (aT _ _)
 have hG:GS w (g4+4) w.heap.size (w.heap.size+1) g4 (g4+1) (g4+2) (g4+3) b:=⟨rfl,rfl,by omega,rfl,rfl,rfl,rfl,⟨by rw[b0];exact HM.lt,HM.ne m6,HM.ne a8⟩,s4⟩;have r1:Blk W g4 131 #[.map (some b)]:=by rw[hW,b0];exact(((Blk.new _ _ _).alloc _).alloc _).alloc _
 have r5:Blk W (g4+1) 38 #[.slice none 0 0]:=by rw[hW,b0];exact((Blk.newAt _ _ _ _ (by simp)).alloc _).alloc _
 have r6:Blk W (g4+2) 3 #[.int .i64 0]:=by rw[hW,b0];exact(Blk.newAt _ _ _ _ (by simp)).alloc _
 have r7:Blk W (g4+3) 9 #[.string (SBy s)]:=by rw[hW,b0];exact Blk.newAt _ _ _ _ (by simp)
 have m9:W.heap.size=g4+4:=by rw[hW,b0];simp
 have m8:ML W:=t5.below (aA n1 d1)
 have s0:FS w (g4+4) w.heap.size (w.heap.size+1) g4 (g4+1) (g4+2) b [] (.slice none 0 0) [] (λk=>k=w.heap.size\/k=w.heap.size+1\/k=g4+1\/k=g4+2) W:={
  b2:=m6.keep d1,b3:=a8.keep d1,b4:=r1,b5:=r5,b6:=r6
  map:=HM.keep d1
  ml:=m8
  own:=World.ownsRow_nil _ _ _ _
  ownT:=λk h=>by cases h
  ops:=λx hx=>by cases hx
  len:=ja _
  sep:=λx hx=>by cases hx
  bel:=aA n1 d1
  size:=by omega
  tin:=⟨.inl rfl,.inr (.inl rfl),.inr (.inr (.inl rfl)),.inr (.inr (.inr rfl))⟩
  tsub:=λk hk=>by rcases hk with h|h|h|h <;> simp[h]
  tlt:=λk hk=>by rcases hk with h|h|h|h <;> omega }
 have t4:=jz s0;have HG:=jz hG;have m1:=N5 s (g4+3) W r7 m8 (by omega) (by omega);have q5:=jz m1;have x1:(dE s).length<=100000000:=by
  have:=JC s;omega
 clear hW m6 a8 n1 d1 r1 r5 r6 r7 m8 s0 hG m1 t1 b0 HM d2;refine(wpIn_wide (n:=9)).1 ?_;refine gW (w0:=W) (all:=dE s) (encs:=V7) (Z:=λk=>k=g4+3) (X:=XL (g4+3)) rfl (λh=>by cases h) (gf:=92) (lb:=#[.pointer (some ⟨g4+3,0,none⟩)]) rfl trivial (enters_of func92 (by kernel_rfl) rfl)
  (SeqZ.any q5) (ji _ _) (λ_=>rfl) (λk h=>by omega)
  (λI T U=>∃ v R,FS w (g4+4) w.heap.size (w.heap.size+1) g4 (g4+1) (g4+2) b I v R T U/\YQ s I R)
  (λc I T U=>c = .ret/\FXP w (g4+4) w.heap.size (w.heap.size+1) (g4+3) s T U)
  (λI x a' T U=>∃ v R,FS w (g4+4) w.heap.size (w.heap.size+1) g4 (g4+1) (g4+2) b I v R T U/\YQ s I R/\a'={ tmps:=#[.string (SBy s),undef,.pointer (some ⟨w.heap.size,0,none⟩),.pointer (some ⟨w.heap.size+1,0,none⟩),.pointer (some ⟨g4,0,none⟩),.pointer (some ⟨g4+1,0,none⟩),.pointer (some ⟨g4+1+1,0,none⟩),.string (SBy x.1),.bool x.2,undef,undef,.map (some b),.string (SBy s),.func (.func 92) #[] #[.pointer (some ⟨g4+1+1+1,0,none⟩)],.string (SBy x.1),.bool x.2,undef,undef,undef,undef,undef,undef,undef,undef,undef,undef,undef,undef,undef,undef,undef,undef,undef,undef,undef,undef,undef,undef,undef,undef,undef,undef,undef,undef],defers:=[] })
  (λk=>k=w.heap.size\/k=w.heap.size+1\/k=g4+1\/k=g4+2)
  (λst T A' B h b7=>by
   obtain⟨v,R,h,hr⟩:=h
   exact⟨v,R,h.stab HG (by rw[m9] at b7;exact b7),hr⟩)
  (λc st T A' B h b7=>⟨h.1,h.2.stab HG (by rw[m9] at b7;exact b7)⟩)
  (λI x a' _ T A' B h b7=>by
   obtain⟨v,R,h,hr,ha⟩:=h
   exact⟨v,R,h.stab HG (by rw[m9] at b7;exact b7),hr,ha⟩)
  (λst T A' h k hk=>by
   obtain⟨v,R,h,_⟩:=h
   exact h.tlt k hk)
  (λk hk hx=>by
   have e4:=HG.e4
   rcases hx with h|h
   ·rcases hk with h'|h'|h'|h' <;> omega
   ·have:=HG.em
    rcases hk with h'|h'|h'|h' <;> omega)
  ⟨_,_,t4,λrest e=>by rw[CQ,e];rfl⟩
  ?assign ?body ?done ?stop
 case assign=>
  rintro ln I x T U v8 a2 w6 ⟨v,R,hI,c9⟩;have HI:=jz hI;have g8:=jz c9;clear hI a2 c9;dsimp only [V7];gi_wp2_with fail
  exact⟨T,Turn.refl _ _,v,R,HI,g8,by trivial⟩
 case body=>
  rintro ln I x a' T U v8 a2 w6 ⟨v,R,hI,c9,rfl⟩;obtain⟨j,a3⟩:=x;dsimp only;have v9:=List.IsPrefix.length_le a2;simp only[jj,List.length_singleton] at v9;obtain⟨rest,a5⟩:=a2;have g3:=c9 ((j,a3) :: rest) (by rw[<- a5];simp);have e1:=jz g3;have t9:=jz a5;have x2:j.length<=s.length:=V8 (by rw[<- a5];simp:(j,a3)∈dE s);have c6:U.cell? ⟨g4+1+1,0,none⟩=some (.int .i64 I.length):=by have:=hI.b6.cell 0;simpa using this
  have f6:U.frozen? ⟨g4+1+1,0,none⟩=false:=hI.b6.frozen 0;obtain⟨z,hz⟩:=je ((I.length:Int));rw[<- hz] at c6;have x4:0<=z:=by omega
  have n0:z+1<=9223372036854775807:=by omega
  have y1:IntKind.i64.wrap (z+1)=z+1:=IntWalk.i64_in _ (by omega);obtain⟨W1,a1⟩:=je (U.setCell ⟨g4+1+1,0,none⟩ (.int .i64 (z+1)));have k2:Turn T U T W1:=by rw[a1];exact(Turn.refl T U).setCell hI.tin.2.2.2 0 _
  have a7:=jz k2;have HI:=jz hI;have h0:Hid (z+1=((I++[(j,a3)]).length:Nat)):=jz (by rw[hz];simp);have g8:=jz c9;clear hI g3 a5 k2 hz c9;cases a3 with
  | false=>
   have O:Hid (bH s=((I++[(j,false)]).length,[])):=jz (by rw[e1.out];simp[nK]);have HC:Hid (Blk W1 w.heap.size 38 #[.slice none 0 0]/\Blk W1 (w.heap.size+1) 42 #[.nilIface]/\Bw w W1):=jz (by
    have e4:=HG.e4
    rw[a1]
    exact⟨HI.b2.far (by simp;omega) _,HI.b3.far (by simp;omega) _,HI.bel.setCell (p:=⟨g4+1+1,0,none⟩) (by simp;omega) _⟩)
   gi_wp2_with fail
   rw[<- a1];clear a1 c6 f6;refine⟨trivial,(inR ln (sO (z+1) W1)).mono ?_⟩;rintro e WA ⟨rfl,f8⟩;rw[f8];clear f8;have n4:=HC.out.1.cell 0;have v7:=HC.out.1.frozen 0;have g1:=(HC.out.2.1.far (p:=⟨w.heap.size,0,none⟩) (by simp) (.slice none 0 0)).cell 0;have s1:=(HC.out.2.1.far (p:=⟨w.heap.size,0,none⟩) (by simp) (.slice none 0 0)).frozen 0;simp only[jf,jg] at n4 g1;gi_wp2_with fail
   refine⟨T,(a7.setCell HI.tin.1 0 _).setCell HI.tin.2.1 0 _,rfl,(HC.out.1.set_ 0 _).far (by simp) _,?_,by rw[O.out];simp,(HC.out.2.2.setCell (p:=⟨w.heap.size,0,none⟩) (ja _) _).setCell (p:=⟨w.heap.size+1,0,none⟩) (by simp) _,HI.tin.1,HI.tin.2.1⟩;have h3:=(HC.out.2.1.far (p:=⟨w.heap.size,0,none⟩) (by simp) (.slice none 0 0)).set_ 0 (SG (z+1));have he:JD (bH s).1=SG (z+1):=by rw[O.out,h0.out];rfl
   rw[he];exact h3
  | true=>
   have a6:Hid (FS w (g4+4) w.heap.size (w.heap.size+1) g4 (g4+1) (g4+2) b (I++[(j,true)]) v R T W1):=jz (by rw[a1];exact HI.count HG (j,true) h0);have V:Hid (fG j=true->∃ v R,FS w (g4+4) w.heap.size (w.heap.size+1) g4 (g4+1) (g4+2) b (I++[(j,true)]) v R T W1/\YQ s (I++[(j,true)]) R):=jz (λw4=>by
    refine⟨v,R,a6,λJ e=>?_⟩
    have h:=g8.out ((j,true) :: J) (by rw[e];simp)
    rw[h,N6 _ _ _ w4,jj];rfl)
   have g0:=IP j;have K:(SBy j).toList.isEmpty=j.isEmpty:=by rw[ByteArray.toList_eq,o6]
   rcases(show j=[]\/∃ c tl,j=c :: tl by cases j with|nil=>exact .inl rfl|cons c tl=>exact .inr ⟨c,tl,rfl⟩) with b1|⟨c,tl,b1⟩
   ·subst b1;have d5:=jz (V rfl);obtain⟨S,hS⟩:=je (SBy ([]:Bs));rw[<- hS] at K ⊢;have K:S.toList.isEmpty=true:=K;clear hS g0 V;gi_wp2_with fail
    rw[<- a1];exact⟨T,a7,d5⟩
   ·have h6:∀ W,(Instr.index 9 (.string (SBy j)) (.int .i64 0)).run prog W = .ok (.int .u8 (c.toNat:Int)) W:=λW=>by
     have h:=g0 0 (by rw[b1];simp) W;have e0:j[0]'(by rw[b1];simp)=c:=by simp[b1]
     rw[e0] at h;exact h
    have K:(SBy j).toList.isEmpty=false:=by rw[K,b1];rfl
    have a0:fG j=((c.toNat:Int) == 35):=by
     rw[b1];unfold fG;rw[Bool.eq_iff_iff];simp only[List.isEmpty_cons,Bool.false_or,List.head?_cons,beq_iff_eq,Option.some.injEq];constructor
     ·rintro rfl;rfl
     ·intro h;exact UInt8.toNat_inj.1 (by have:(35:UInt8).toNat=35:=rfl;omega)
    clear g0 b1;obtain⟨y,hy⟩:=je ((c.toNat:Int));rw[<- hy] at h6 a0;clear hy;rcases jb (y == 35) with q0|q0
    ·rw[q0] at a0;have d5:=jz (V a0);obtain⟨S,hS⟩:=je (SBy j);rw[<- hS] at K h6 ⊢;clear hS a0 V;gi_wp2_with fail
     rw[<- a1];exact⟨T,a7,d5⟩
    ·rw[q0] at a0;have q6:=jz a0;have c4:(U.setCell ⟨g4+1+1,0,none⟩ (.int .i64 (z+1))).cell? ⟨g4,0,none⟩=some (.map (some b)):=by
      have:=a6.b4.cell 0;rw[a1] at this;simpa using this
     obtain⟨S,hS⟩:=je (SBy j);rw[<- hS] at K h6 ⊢;have HSe:=jz hS;clear hS a0 V;gi_wp2_with fail
     rw[<- a1];clear c6 f6 c4 K h6;have m4:=yX j b W1 a6.ml (by omega) a6.map;rw[<- HSe.out] at m4;refine⟨trivial,(inR ln m4).mono ?_⟩;clear m4;rintro e W3 ⟨v3,rfl,w7,h4⟩;obtain⟨xA,xca,xB,xcb,rfl,s2,s3,n2,n3⟩:=w7;obtain⟨o',h7⟩:∃ o',o'=(cU j).getD op0:=⟨_,rfl⟩;rw[<- h7] at s2 s3;rw[<- h7];obtain⟨A0,cap0,rfl,_,_⟩:=mZ a6.own;have q1:=jz (a6.stab HG (Lies.of_below h4));have HX:=jz (And.intro s2 s3);have HN:=jz (And.intro n2 n3);have k0:=jz (a7.below h4);have v0:=jz h4.size;have t2:∀ w,(zeroValue 71).run prog w = .ok (.agg opZ) w:=λw=>by kernel_rfl
     have r0:=jz t2;have HO:=jz h7;clear s2 s3 n2 n3 h4 t2 h7 a1;cases hpl2:cU j with
     | none=>
      have O:Hid (bH s=((I++[(j,true)]).length,[])):=jz (by
       rw[e1.out,N7 _ _ _ q6.out hpl2]
       simp)
      clear hpl2;gi_wp2_with (first
       | (refine iAl 71 _ rfl (bP _) rfl r0 ?_)
       | (refine pR (cells:=#[.int .i64 o'.kind,.int .i64 o'.n,.slice xA o'.data.length xca,.slice xB o'.cuts.length xcb]) 71 (.tmp 9) (.tmp 33) rfl (bP _) rfl (by rfl) (by rfl) (by kernel_rfl) rfl (eF _ _ _ _ _ _ _ _) ?_;intro W5 d0;have a9:Bw W3 W5:=(by rw[d0];exact aT _ _);have HF5:=jz (q1.stab HG (Lies.of_below a9));have e8:=jz (k0.below a9);have c6:W5.cell? ⟨g4+1+1,0,none⟩=some (.int .i64 (z+1)):=(by have h:=HF5.b6.cell 0;rw[<- h0.out] at h;simpa using h);clear d0 a9))
      refine⟨trivial,(inR ln (sO (z+1) W5)).mono ?_⟩;rintro e WA ⟨rfl,f8⟩;rw[f8];clear f8;have n4:=HF5.b2.cell 0;have v7:=HF5.b2.frozen 0;have g1:=(HF5.b3.far (p:=⟨w.heap.size,0,none⟩) (by simp) (.slice none 0 0)).cell 0;have s1:=(HF5.b3.far (p:=⟨w.heap.size,0,none⟩) (by simp) (.slice none 0 0)).frozen 0;simp only[jf,jg] at n4 g1;gi_wp2_with fail
      refine⟨T,(e8.setCell HI.tin.1 0 _).setCell HI.tin.2.1 0 _,rfl,(HF5.b2.set_ 0 _).far (by simp) _,?_,by rw[O.out];simp,(HF5.bel.setCell (p:=⟨w.heap.size,0,none⟩) (ja _) _).setCell (p:=⟨w.heap.size+1,0,none⟩) (by simp) _,HI.tin.1,HI.tin.2.1⟩;have h3:=(HF5.b3.far (p:=⟨w.heap.size,0,none⟩) (by simp) (.slice none 0 0)).set_ 0 (SG (z+1));have he:JD (bH s).1=SG (z+1):=by rw[O.out,h0.out];rfl
      rw[he];exact h3
     | some o=>
      have ho:o'=o:=by rw[HO.out,hpl2];rfl
      have m5:Hid (∀ J,dE s=(I++[(j,true)])++J->bH s=nK J (I++[(j,true)]).length (aR R++[o'])):=jz (λJ e=>by
       have h:=g8.out ((j,true) :: J) (by rw[e];simp)
       rw[h,N8 _ _ _ q6.out hpl2,jj,ho];rfl)
      clear hpl2 ho;have v5:=a6.size;have x0:R.length<=100000000:=by have:=HI.len;omega
      gi_wp2_with (first
       | (refine iAl 71 _ rfl (bP _) rfl r0 ?_)
       | (refine pR (cells:=#[.int .i64 o'.kind,.int .i64 o'.n,.slice xA o'.data.length xca,.slice xB o'.cuts.length xcb]) 71 (.tmp 9) (.tmp 33) rfl (bP _) rfl (by rfl) (by rfl) (by kernel_rfl) rfl (eF _ _ _ _ _ _ _ _) ?_;intro W5 d0;have a9:Bw W3 W5:=(by rw[d0];exact aT _ _);have HF5:=jz (q1.stab HG (Lies.of_below a9));have e8:=jz (k0.below a9);have m2:=jz a9;have c5:W5.cell? ⟨g4+1,0,none⟩=some (.slice A0 R.length cap0):=(by have h:=HF5.b5.cell 0;simpa using h);have t7:Hid (W5.rangeAt W3.heap.size 0 [.int .i64 o'.kind,.int .i64 o'.n,.slice xA o'.data.length xca,.slice xB o'.cuts.length xcb]):=jz (by rw[d0];exact(Blk.new _ _ _).range);have x3:=HF5.size;clear d0 a9)
       | (refine iLd 71 (.tmp 9) rfl (bP _) rfl (by rfl) t7 underlying71 rfl (by kernel_rfl) ?_)
       | (refine ZJ tOps (.tmp 39) (.tmp 41) (bP _) rfl rfl (by rfl) (World.ownsRow.alloc HF5.own _) (by rfl) (Sn.new W5 (opC (OpR.mk o' xA xca xB xcb)).toArray 71 4 1 rfl) (LL (OpR.mk o' xA xca xB xcb)) (by unfold maxLen;omega) (by omega) (by simp;omega) ?_;intro v' W7 hown hgrow hblk;obtain⟨A7,cap7,rfl,_⟩:=mZ hown;rw[jt] at hown;have hb6:=aT W5 (.cells (opC (OpR.mk o' xA xca xB xcb)).toArray 71);have HF6:=jz (HF5.stab HG (Lies.of_below hb6));have hg5:Blk W7 (g4+1) 38 #[.slice A0 R.length cap0]:=((hgrow.block (g4+1) HF6.b5.lt (λe=>by have:=(HF6.own.lt _ e.symm).1;omega)).trans HF6.b5);have c7:=hg5.cell 0;have f7:=hg5.frozen 0;simp only[jf,jg] at c7;have t6:=jz hown;have q2:=jz hgrow;have t3:=jz hblk;have q7:=jz (e8.below hb6);clear hown hgrow hblk hb6 hg5))
      have v6:OpI (W5.alloc (.cells (opC (OpR.mk o' xA xca xB xcb)).toArray 71)) (OpR.mk o' xA xca xB xcb):=by
       have h1:=HX.out;exact⟨(h1.1.below m2).below (aT _ _),(h1.2.below m2).below (aT _ _)⟩
      have w8:=m2.size;have t0:∀ q,W1.heap.size<=q->(Value.slice A0 R.length cap0).ownBlock≠some q:=λq hq e=>by
       have:=(a6.own.lt q e).2;omega
      have hP:=HF6.push HG (M:=W1.heap.size) v6 (λq off e=>by
        have h1:=HN.out.1 q off e
        exact⟨h1.1,by simp;omega,t0 q h1.1⟩) (λq off e=>by
        have h1:=HN.out.2 q off e
        exact⟨h1.1,by simp;omega,t0 q h1.1⟩) t6 q2 t3 (by have:=HI.len;simp;omega) ⟨v5,by have:=v0.out;simp;omega⟩
      refine⟨λk=>T k\/(W1.heap.size<=k/\k<W7.heap.size),((q7.grown q2 (λk e=>HF6.ownT k e)).setCell HF6.tin.2.2.1 0 _).grow (λk hk=>hk.imp id (λh=>by have:=a7.size;omega)),_,R++[OpR.mk o' xA xca xB xcb],hP,λJ e=>?_⟩;have h:=m5.out J e;rw[h];unfold aR;rw[List.map_append];rfl
 case done=>
  rintro D T U hD ⟨v,R,h,c9⟩ s5 f5;obtain⟨A,cap,rfl,w5,_⟩:=mZ h.own;have c5:=h.b5.cell 0;have c2:=h.b2.cell 0;have f2:=h.b2.frozen 0;simp only[jf,jg] at c5 c2;have a8:=h.b3.far (p:=⟨w.heap.size,0,none⟩) (by simp) (.slice A R.length cap);have c3:=a8.cell 0;have f3:=a8.frozen 0;simp only[jf,jg] at c3;have e4:=HG.e4;obtain⟨U2,a4⟩:=je ((U.setCell ⟨w.heap.size,0,none⟩ (.slice A R.length cap)).setCell ⟨w.heap.size+1,0,none⟩ .nilIface);have h8:∀ k,k≠w.heap.size->k≠w.heap.size+1->U2.heap[k]? = U.heap[k]?:=λk h1 h2=>by
   rw[a4];exact(Below.heap_setCell _ ⟨w.heap.size+1,0,none⟩ _ k h2).trans (Below.heap_setCell _ ⟨w.heap.size,0,none⟩ _ k h1)
  have k1:U2.heap[D]? = some (.deferred (some [])):=(h8 D (by omega) (by omega)).trans f5;have hrun:=run_takeDeferred (P:=prog) k1;have f0:Blk (U2.putObj D (.deferred none)) w.heap.size 38 #[.slice A R.length cap]:=(World.putObj_heap_other (by omega)).trans (by rw[a4];exact(h.b2.set_ 0 _).far (by simp) _);have f1:Blk (U2.putObj D (.deferred none)) (w.heap.size+1) 42 #[.nilIface]:=(World.putObj_heap_other (by omega)).trans (by rw[a4];exact a8.set_ 0 _);have r2:=f0.cell 0;have r3:=f1.cell 0;simp only[jf,jg] at r2 r3;have hN:=HG.eN;have hT:∀ k,T k->k≠w.heap.size->k≠w.heap.size+1->(U2.putObj D (.deferred none)).heap[k]? = U.heap[k]?:=λk ht h1 h2=>(World.putObj_heap_other (λe=>s5 (by rw[<- e];exact ht))).trans (h8 k h1 h2)
  have g2:(U2.putObj D (.deferred none)).ownsRow w.heap.size 71 4 (.slice A R.length cap) R.length (R.flatMap opC):=
   bI (FP h.own (λk hk=>by have:=(h.own.lt k hk).1;exact hT k (h.ownT k hk) (by omega) (by omega))) (by omega)
  have k3:∀ x∈R,OpI (U2.putObj D (.deferred none)) x:=λx hx=>by
   have h1:=h.ops x hx;refine⟨h1.1.1.blks λb off e _=>?_,h1.1.2.blks λb off e _=>?_⟩
   ·have:=h1.2.1 b off e;exact hT b this.1 (by omega) (by omega)
   ·have:=h1.2.2 b off e;exact hT b this.1 (by omega) (by omega)
  have f9:Bw w (U2.putObj D (.deferred none)):=by
   have h5:=h.bel;refine⟨by rw[a4];exact h5.os,by rw[a4];exact h5.tape,by rw[a4];exact h5.output,by have:=h5.size;rw[a4];simpa using this,λk hk=>(World.putObj_heap_other (by omega)).trans ((h8 k (by omega) (by omega)).trans (h5.block k hk))⟩
  have k4:bH s=(0,aR R):=c9 [] (by simp);have m3:=jz f9;have d7:=jz hrun;have h9:=jz k4;have q4:=jz g2;have q3:=jz k3;have v4:=jz a4;clear h f0 f1 f9 f5 k1 hrun h8 hT g2 k3 k4 a8 w5 a4;gi_wp2_with fail
  go_wp2_with fail
  rw[<- v4.out];refine⟨by simp,.inl ⟨_,_,rfl,d7,?_⟩⟩;refine⟨.tuple #[.slice A R.length cap,.nilIface],by simp[results,Tryz.results33,go_sem,r2,r3],m3,_,_,rfl,.inl ⟨by rw[h9.out],rfl,R,by rw[h9.out],q4,q3⟩⟩
 case stop=>
  rintro D c I T U hD a2 ⟨rfl,h⟩ s5 f5;have e4:=HG.e4;have hrun:=run_takeDeferred (P:=prog) f5;have f0:Blk (U.putObj D (.deferred none)) w.heap.size 38 #[.slice none 0 0]:=(World.putObj_heap_other (by omega)).trans h.b2;have f1:Blk (U.putObj D (.deferred none)) (w.heap.size+1) 42 #[JD (bH s).1]:=(World.putObj_heap_other (by omega)).trans h.b3;have r2:=f0.cell 0;have r3:=f1.cell 0;simp only[jf,jg] at r2 r3;have f9:Bw w (U.putObj D (.deferred none)):=by
   have h5:=h.bel;exact⟨h5.os,h5.tape,h5.output,by simpa using h5.size,λk hk=>(World.putObj_heap_other (by omega)).trans (h5.block k hk)⟩
  have m3:=jz f9;have d7:=jz hrun;have O:=jz h.bad;clear h f0 f1 f9 f5 hrun a2;gi_wp2_with fail
  refine⟨by simp,.inl ⟨_,_,rfl,d7,?_⟩⟩;refine⟨.tuple #[.slice none 0 0,JD (bH s).1],by simp[results,Tryz.results33,go_sem,r2,r3],m3,_,_,rfl,.inr ⟨O,rfl,rfl⟩⟩
end
section
open Go.RowKit
end
end Go.Proofs.YtiaigidbcljblaaGreatDoor
