import Derived.Test.YtiaigidbcljblaaGreatDoorMS20
import Derived.Test.YtiaigidbcljblaaGreatDoorMS19
import Derived.Test.YtiaigidbcljblaaGreatDoorMS21
set_option linter.unusedVariables false
set_option linter.unusedSimpArgs false
set_option maxRecDepth 100000
set_option maxHeartbeats 40000000
namespace Go.Proofs.YtiaigidbcljblaaGreatDoor
open Go.Proofs.Tryz
section
open Go.RowKit
attribute [local irreducible] wpQuiet wpAnyH
def NM(fa:Ans)(fd:DiskD)(L:LogD)(wa:Ans)(wd:DiskD)(so g n:Nat):Ans×DiskD×LogD:=match fa with
 | some x=>(some x,fd,pL L x.1)
 | none=>match wa with
  | some x=>(some x,wd,pL L x.1)
  | none=>(none,wd,{ L with side:=so,gen:=g,cnt:=n })
def NN(d:DiskD)(h:Nat)(L:LogD)(qs:List cL)(g:Nat):Ans×DiskD×LogD:=
 NM (dI d (bD h (1-L.side)) h g qs).1 (dI d (bD h (1-L.side)) h g qs).2 L (wsA (dI d (bD h (1-L.side)) h g qs).2 (bD h (1-L.side)) (rec g toll)) (wsD (dI d (bD h (1-L.side)) h g qs).2 (bD h (1-L.side)) (rec g toll)) (1-L.side) g qs.length
def iG(d:DiskD)(h:Nat)(L:LogD)(qs:List cL):Ans×DiskD×LogD:=if L.brk then (some (11,none),d,L) else if max L.last L.gen=4294967295 then (some (13,none),d,L) else NN d h L qs (max L.last L.gen+1)
theorem E6(j:List cL)(A:Option Addr)(cap:Nat)(w:Wd)(m:DiskM)(d:DiskD)(gl h:Nat)(L:LogD)(k:LK w m d gl h L)(hs:Sn w 33 (.slice A j.length cap) j.length (j.flatMap aO))(h8:∀ q∈j,EntOk q)(hln:j.length<=10000)(hr:d.room+30000<=100000):
  Wc 175 #[.pointer (some ⟨gl,0,none⟩),.slice A j.length cap] w λe w'=>e = .returned (bM (iG d h L j).1)/\∃ m',LK w' m' (iG d h L j).2.1 gl h (iG d h L j).2.2/\LT gl w m w' m':=by
 have hh:=LogOk.h_le k;have HK:=jz k;have HS:=jz hs;have m8:=jz h8;have HB:Hid (Blk w gl 327 (bX m.g h L)):=jz k.blk;obtain⟨c0,c5,c6,c7,c8,c9⟩:=k.cells;have r2:=k.blk.lt;clear hs h8;cases hb:L.brk with
 | true=>
  have HV:Hid (iG d h L j=(some (11,none),d,L)):=jz (by unfold iG;rw[jP hb]);rw[hb] at c9;clear hb k;go_enter func175,ntmps175
  go_wp2_with fail
  go_ret;exact⟨by rw[HV.out];rfl,m,by rw[HV.out];exact HK,LT.of_below (ji _ _)⟩
 | false=>
  rw[hb] at c9;obtain⟨gm,h0⟩:=je (max L.last L.gen);have g8:max (L.last:Int) L.gen=gm:=by omega
  have f3:=jz g8;have m3:Hid (gm<4294967296):=jz (by have h1:=k.ok.last;have h2:=k.ok.gen;omega);have d0:Hid (iG d h L j=if gm=4294967295 then (some (13,none),d,L) else NN d h L j (gm+1)):=jz (by unfold iG;rw[hb,h0];rfl);have r5:=k.ok.side;have HC:Hid (∀ W,Blk W gl 327 (bX m.g h L)->W.cell? ⟨gl,6,none⟩=some (.int .u32 L.last)/\W.cell? ⟨gl,7,none⟩=some (.int .u32 L.gen)):=jz (λW hk=>⟨(hk.cell 6).trans rfl,(hk.cell 7).trans rfl⟩);clear hb h0 k g8;go_enter func175,ntmps175
  go_upto_region 5 with fail
  obtain⟨wS,a8⟩:=je w.drew;have a2:Hid (Bw w wS):=jz (by rw[a8];exact(ji _ _).drew);refine kZ (n:=10) (λW=>Blk W gl 327 (bX m.g h L)) (by rw[<- a8];exact HB.keep a2) (h:=λI=>?_);rw[<- a8] at I ⊢;clear a8;refine qM 0 (.pointer (some ⟨gl,0,none⟩)) ?_;refine qT 1 (.pointer (some ⟨gl,0,none⟩)) ?_;refine qT 2 (.pointer (some ⟨gl,6,none⟩)) ?_;refine qC 3 (v:=.int .u32 L.last) (λ_ V=>(HC _ V).1) ?_;refine qM 4 (.pointer (some ⟨gl,0,none⟩)) ?_;refine qT 5 (.pointer (some ⟨gl,0,none⟩)) ?_;refine qT 6 (.pointer (some ⟨gl,7,none⟩)) ?_;refine qC 7 (v:=.int .u32 L.gen) (λ_ V=>(HC _ V).2) ?_;refine qT 8 (.int .u32 gm) ?_ (hy:=λW hW=>by unfold execOp;rw[<- f3.out];go_simp);refine qT 9 (.int .u32 gm) ?_;refine kE (h:=?_);obtain⟨so,k0⟩:∃ so,so=1-L.side:=⟨_,rfl⟩;have h9:(1:Int)-L.side=so:=by omega
  have n0:=jz h9;have hso2:so<2:=by omega
  have q2:(L.side:Int)<2:=by omega
  have q1:(0:Int)<=L.side:=by omega
  have g3:Hid (Bw w wS):=a2;have f6:Hid (LK wS m d gl h L):=jz (HK.keep a2);have g0:=jz (HS.below a2);have d5:wS.cell? ⟨gl,5,none⟩=some (.int .i64 L.side):=(I.cell 5).trans rfl;have q5:Hid (Blk wS gl 327 (bX m.g h L)):=jz I;have r1:gl<wS.heap.size:=I.lt;clear c0 c5 c6 c7 c8 c9 h9 I;rcases jo gm 4294967295 with h7|h7
  ·have t9:((gm:Int) == 4294967295)=false:=by rw[beq_eq_false_iff_ne];omega
   obtain⟨gn,h4⟩:=je (gm+1);have m1:Hid ((gm:Int)+1=gn):=jz (by omega);have HG4:Hid (gn<4294967296):=jz (by omega);have m4:Hid ((gm:Int)<4294967295):=jz (by omega);have HV:Hid (iG d h L j=NN d h L j gn):=jz (by rw[d0.out,jQ (by omega),h4]);clear h7 h4;go_upto_region 8 with fail
   have h3:=m4.out;go_upto_region 10 with fail
   rw[m1.out,n0.out];obtain⟨J,a6⟩:=je (bD h so);have a3:Hid ((J:Int)<=100000/\0<=(J:Int)):=jz (by rw[a6];exact⟨(IL hh).2,(IL (h:=h) (s:=so) hh).1⟩);have f9:Hid (∀ W,Blk W gl 327 (bX m.g h L)->W.rangeAt gl (1+so*2) [.int .i64 J,.int .i64 h]):=jz (λW hk=>by rw[a6];exact qZ hk so hso2);have q3:(0:Int)<=so:=by omega
   have q4:(so:Int)<2:=by omega
   obtain⟨fa,e0⟩:=je ((dI d J h gn j).1);obtain⟨O,a5⟩:=je ((dI d J h gn j).2);have d7:Hid (iG d h L j=NM fa O L (wsA O J (rec gn toll)) (wsD O J (rec gn toll)) so gn j.length):=jz (by rw[HV.out,e0,a5,a6,k0];rfl);have f2:Hid (Bd (2*j.length+1) d O):=jz (by rw[a5];exact ES HK.dk.ok.st _ _ _ _);have m2:Hid (h<=2048):=jz (by have h1:=HK.ok.half;have h2:=HK.dk.ok.few;omega);have k1:=jz HK.ap;have f1:=jz (λW (hk:DK W m d) (hs:Sn W 33 (.slice A j.length cap) j.length (j.flatMap aO))=>MW J h gn j A cap W m d hk hs m8 ⟨a3.out.2,a3.out.1⟩ ⟨⟨by omega,by omega⟩,by have:=m2.out;omega⟩ HG4 (by omega) (by omega));rw[<- e0,<- a5] at f1;clear e0 a5 a6 k0 h3 d5 t9;obtain⟨wT,a9⟩:=je wS.drew;have b7:Hid (Bw wS wT):=jz (by rw[a9];exact(ji _ _).drew);have c3:=jz (f6.keep b7);have k3:Hid (Blk wT gl 327 (bX m.g h L)):=jz c3.blk;have n2:=jz (g0.below b7);refine kZ (n:=14) (λW=>Blk W gl 327 (bX m.g h L)) (by rw[<- a9];exact k3) (h:=λI=>?_);rw[<- a9] at I ⊢;clear a9;refine qM 0 (.pointer (some ⟨gl,0,none⟩)) ?_;refine qT 1 (.pointer (some ⟨gl,0,none⟩)) ?_;refine qT 2 (.pointer (some ⟨gl,0,none⟩)) ?_;refine qC 3 (v:=.pointer (some ⟨m.g,0,none⟩)) (λ_ V=>(V.cell 0).trans rfl) ?_;refine qM 4 (.pointer (some ⟨gl,0,none⟩)) ?_;refine qM 5 (.int .i64 so) ?_;refine qT 6 (.pointer (some ⟨gl,0,none⟩)) ?_;refine qT 7 (.pointer (some ⟨gl,1,none⟩)) ?_;refine qT 8 (.pointer (some ⟨gl,1+so*2,none⟩)) ?_;refine qL 9 (cs:=[.int .i64 J,.int .i64 h]) (λ_ V=>f9.out _ V) (rfl) ?_;refine qM 10 (.int .u32 gn) ?_;refine qM 11 (.slice A j.length cap) ?_;refine kF 12 (some 48) ((f1 wT c3.dk n2).mono ?_);rintro e w5 ⟨rfl,R,h5,a0⟩;refine⟨_,rfl,(a0.off I.lt k1.out.1).trans I,λn4=>?_⟩;simp only[jq];refine qT 13 (bM fa) ?_;refine kE (h:=?_);have U:Hid (LK w5 R O gl h L):=jz (c3.disk h5 a0 f2.out.2.2);have g1:Hid (LT gl w m w5 R):=jz ((LT.of_below (aA g3 b7)).trans (LT.of_dt a0));have m6:Hid (R.g=m.g):=jz a0.g;clear h5 a0 I n4;cases fa with
   | some x=>
    obtain⟨t,u,K⟩:=bW x;have HN:=jz (xH (some x) w5 R O gl h L U);have d2:=jz K;rw[K] at HN ⊢;have q0:=dC t u;clear K;go_wp2_with fail
    refine HN.mono ?_;rintro e w6 ⟨rfl,Z,a1⟩;have c2:=jz Z;have d1:=jz (g1.trans a1);clear Z a1;go_wp2_with fail
    go_ret;exact⟨by rw[d7.out];show _=Ending.returned (bM (some x));rw[d2.out];rfl,R,by rw[d7.out];exact c2,d1⟩
   | none=>
    have K:bM none = .nilIface:=rfl;have r3:=o4;rw[K];clear K;have q7:gl<w5.heap.size:=U.blk.lt;go_upto_region 13 with fail
    obtain⟨wa,e1⟩:=je (wsA O J (rec gn toll));obtain⟨wd,b1⟩:=je (wsD O J (rec gn toll));have a4:Hid (iG d h L j=NM none O L wa wd so gn j.length):=jz (by rw[d7.out,e1,b1]);have n3:Hid (wd.sec.length=O.sec.length):=jz (by rw[b1];exact mS _ _ _);have e8:=jz (λW (hk:DK W R O)=>s7 J h gn W R O hk ⟨by have:=a3.out.2;omega,by have:=a3.out.1;omega⟩ HG4 (by have:=f2.out.2.1;omega));rw[<- e1,<- b1] at e8;have q6:Hid (Blk w5 gl 327 (bX R.g h L)):=jz U.blk;have n1:Hid (∀ W,Blk W gl 327 (bX R.g h L)->W.rangeAt gl (1+so*2) [.int .i64 J,.int .i64 h]):=jz (λW hk=>f9.out W (by rw[<- m6.out];exact hk));have k2:=jz U.ap;clear e1 b1;obtain⟨wU,b0⟩:=je w5.drew;have f0:Hid (Bw w5 wU):=jz (by rw[b0];exact(ji _ _).drew);have c4:=jz (U.keep f0);have k4:Hid (Blk wU gl 327 (bX R.g h L)):=jz c4.blk;refine kZ (n:=13) (λW=>Blk W gl 327 (bX R.g h L)) (by rw[<- b0];exact k4) (h:=λI=>?_);rw[<- b0] at I ⊢;clear b0;refine qM 0 (.pointer (some ⟨gl,0,none⟩)) ?_;refine qT 1 (.pointer (some ⟨gl,0,none⟩)) ?_;refine qT 2 (.pointer (some ⟨gl,0,none⟩)) ?_;refine qC 3 (v:=.pointer (some ⟨R.g,0,none⟩)) (λ_ V=>(V.cell 0).trans rfl) ?_;refine qM 4 (.pointer (some ⟨gl,0,none⟩)) ?_;refine qM 5 (.int .i64 so) ?_;refine qT 6 (.pointer (some ⟨gl,0,none⟩)) ?_;refine qT 7 (.pointer (some ⟨gl,1,none⟩)) ?_;refine qT 8 (.pointer (some ⟨gl,1+so*2,none⟩)) ?_;refine qL 9 (cs:=[.int .i64 J,.int .i64 h]) (λ_ V=>n1.out _ V) (rfl) ?_;refine qM 10 (.int .u32 gn) ?_;refine kF 11 (some 65) ((e8 wU c4.dk).mono ?_);rintro e w9 ⟨rfl,m9,h6,a7⟩;refine⟨_,rfl,(a7.off I.lt k2.out.1).trans I,λn6=>?_⟩;simp only[jq];refine qT 12 (bM wa) ?_;refine kE (h:=?_);have D:Hid (LK w9 m9 wd gl h L):=jz (c4.disk h6 a7 n3);have g2:Hid (LT gl w m w9 m9):=jz ((g1.trans (LT.of_below f0)).trans (LT.of_dt a7));clear h6 a7 I n6;cases wa with
    | some x=>
     obtain⟨t,u,K⟩:=bW x;have HN:=jz (xH (some x) w9 m9 wd gl h L D);have d2:=jz K;rw[K] at HN ⊢;have q0:=dC t u;clear K;go_wp2_with fail
     refine HN.mono ?_;rintro e w6 ⟨rfl,Z,a1⟩;have c2:=jz Z;have d1:=jz (g2.trans a1);clear Z a1;go_wp2_with fail
     go_ret;exact⟨by rw[a4.out];show _=Ending.returned (bM (some x));rw[d2.out];rfl,m9,by rw[a4.out];exact c2,d1⟩
    | none=>
     obtain⟨c0,c5,c6,c7,c8,c9⟩:=D.cells;have f5:=D.blk.frozen 5;have f7:=D.blk.frozen 7;have f8:=D.blk.frozen 8;have r0:gl<w9.heap.size:=D.blk.lt;have K:bM none = .nilIface:=rfl;rw[K];clear K;go_wp2_with fail
     go_ret;have HO:=D.ok;refine⟨by rw[a4.out];rfl,m9,?_,((g2.set 5 _).set 7 _).set 8 _⟩;rw[a4.out];exact((D.set (L':={ L with side:=so }) 5 _ rfl ⟨hso2,HO.last,HO.gen,HO.cnt,HO.half⟩).set (L':={ L with side:=so,gen:=gn }) 7 _ rfl ⟨hso2,HO.last,HG4,HO.cnt,HO.half⟩).set 8 _ rfl ⟨hso2,HO.last,HG4,hln,HO.half⟩
  ·obtain rfl:gm=4294967295:=by have:=m3.out;omega
   have HV:Hid (iG d h L j=(some (13,none),d,L)):=jz (by rw[d0.out,jP rfl]);clear d0 f3;go_wp2_with fail
   go_ret;exact⟨by rw[HV.out];rfl,m,by rw[HV.out];exact f6,LT.of_below g3⟩
theorem RQ{l:List Wl}{a:Nat}(h:a<l.length):l.getD a []∈l:=by
 rw[jn,List.getElem?_eq_getElem h];exact List.getElem_mem h
theorem RR{l:List Wl}{s:Wl}(h:s∈l):∃ a,a<l.length/\l.getD a []=s:=by
 obtain⟨a,ha,hs⟩:=List.mem_iff_getElem.1 h;exact⟨a,ha,by rw[jn,List.getElem?_eq_getElem ha];exact hs⟩
theorem RS{l m:List Wl}(x:l.length=m.length)(h:∀ a,a<m.length->l.getD a []=m.getD a []):l=m:=by
 apply List.ext_getElem x;intro a h1 j;have:=h a j;rw[jn,jn,List.getElem?_eq_getElem h1,List.getElem?_eq_getElem j] at this;exact this
def Near(sec:List Wl)(W:List (Int×Wl))(sec':List Wl):Prop:=
 sec'.length=sec.length/\∀ a:Nat,a<sec.length->sec'.getD a []=sec.getD a []\/∃ s,((a:Int),s)∈W/\(sec'.getD a []=s\/lE (sec'.getD a [])=lE (sec.getD a []))
theorem Near.mono{sec j:List Wl}{W V:List (Int×Wl)}(h:Near sec W j)(hs:∀ p∈W,p∈V):Near sec V j:=
 ⟨h.1,λa ha=>(h.2 a ha).imp id (λ⟨s,h1,x⟩=>⟨s,hs _ h1,x⟩)⟩
theorem Near.refl(sec:List Wl)(W:List (Int×Wl)):Near sec W sec:=⟨rfl,λ_ _=>.inl rfl⟩
theorem Near.nil{sec j:List Wl}(h:Near sec [] j):j=sec:=
 RS h.1 λa ha=>(h.2 a ha).elim id (λ⟨_,h1,_⟩=>by cases h1)
structure Live(sec:List Wl)(h s g:Nat)(es:List cL):Prop where
 s2:s<2
 ln:h+h<=sec.length
 fit:es.length+1<=h
 g4:g<4294967296
 hd:sec.getD (bD h s) []=rec g toll
 en:∀ i (hi:i<es.length),sec.getD (bD h s+1+i) []=cT g es[i]
 eo:∀ q∈es,EntOk q/\cS q=true
 nx:∀ i,es.length<=i->i+1<h->lE (sec.getD (bD h s+1+i) [])≠g
 ot:lE (sec.getD (bD h (1-s)) [])<g
theorem NO(sec:List Wl)(f h i:Nat)(hi:i<h)(_:f+h<=sec.length):((sec.drop f).take h).getD i []=sec.getD (f+i) []:=by
 rw[jn,jn,List.getElem?_take_of_lt hi,List.getElem?_drop]
theorem RT{L:List Wl}{g:Nat}(h:(gI (none,[]) L).1=some g):∃ x,L.head? = some x/\pC x=some g:=by
 cases L with
 | nil=>simp[gI] at h
 | cons x L=>
  rw[gI] at h;unfold kV at h;simp only at h;cases hp:pC x with
  | none=>rw[hp] at h;simp at h
  | some g2=>
   rw[hp] at h;simp only[Option.map_some] at h;have D:∀(L:List Wl) (j:List cL),(gI (some g2,j) L).1=some g2:=λL j=>by
    obtain⟨more,I,_⟩:=s8 g2 L j;rw[I]
   rw[D] at h;exact⟨x,rfl,hp.trans h⟩
theorem NP{d:DiskD}(hd:d.down=false)(j:d.opn=[])(i:Nat)(hi:i<d.sec.length):rdS d i=d.sec.getD i []:=by
 unfold rdS rdD kH;rw[hd,j];simp;omega
theorem E7{d:DiskD}(hd:d.down=false)(j:d.opn=[])(K:Nat)(ht:∀ s∈d.sec,lE s<=K):∀ k,k<=d.sec.length->cN d k<=K
 | 0,_=>j0 _
 | k+1,hk=>by
  unfold cN;have h1:=E7 hd j K ht k (by omega);rw[NP hd j k (by omega)];have x:=ht _ (RQ (show k<d.sec.length by omega));omega
def xP(c:Nat):Wl:=(rec 1 toll).take c++zsec.drop c
structure Fresh(sec:List Wl)(h:Nat):Prop where
 h1:1<=h
 ln:h+h<=sec.length
 ex:∃ c,c<64/\sec.getD 0 []=xP c
 zs:∀ a,0<a->a<sec.length->sec.getD a []=zsec
theorem NQ:(List.range 64).all (λc=>(pC (xP c)).isNone && (lE (xP c) == 0))=true:=by kernel_rfl
theorem p7{c:Nat}(h:c<64):pC (xP c)=none/\lE (xP c)=0:=by
 have:=List.all_eq_true.1 NQ c (List.mem_range.2 h);simpa using this
def Good(P:Nat->List cL->Prop)(h:Nat)(sec:List Wl):Prop:=(∃ s g es,Live sec h s g es/\P g es)\/(Fresh sec h/\P 0 [])
theorem Good.imp{P D:Nat->List cL->Prop}{h:Nat}{sec:List Wl}(k:Good P h sec)(I:∀ g j,P g j->D g j):Good D h sec:=
 Or.imp (λ⟨s,g,j,h1,x⟩=>⟨s,g,j,h1,I _ _ x⟩) (λ⟨h1,x⟩=>⟨h1,I _ _ x⟩) k
structure SA(P:Nat->List cL->Prop)(N K:Nat)(d:DiskD)(L:LogD)(es:List cL):Prop where
 brk:L.brk=false
 opn:d.opn=[]
 len:d.sec.length=N
 lv:Live d.sec (N/2) L.side L.gen es
 cnt:L.cnt=es.length
 p:P L.gen es
 tg:∀ s∈d.sec,lE s<=max L.last L.gen
 k:max L.last L.gen<=K
structure SB(P:Nat->List cL->Prop)(N K:Nat)(d:DiskD):Prop where
 nd:(d.opn.map (·.1)).Nodup
 len:d.sec.length=N
 tg:∀ s∈d.sec,lE s<=K
 tw:∀ p∈d.opn,lE p.2<=K
 gd:∀ cl,Good P (N/2) (lQ d.sec d.opn cl)
theorem SB.imp{P x:Nat->List cL->Prop}{N K j:Nat}{d:DiskD}(h:SB P N K d)(J:∀ g D,P g D->x g D)(I:K<=j):SB x N j d:=
 ⟨h.nd,h.len,λs hs=>jm (h.tg s hs) I,λp O=>jm (h.tw p O) I,λcl=>(h.gd cl).imp J⟩
theorem SA.imp{P D:Nat->List cL->Prop}{N K x:Nat}{d:DiskD}{L:LogD}{j:List cL}(h:SA P N K d L j)(J:P L.gen j->D L.gen j)(I:K<=x):SA D N x d L j:=
 ⟨h.brk,h.opn,h.len,h.lv,h.cnt,J h.p,h.tg,jm h.k I⟩
theorem SA.disk{P:Nat->List cL->Prop}{N K:Nat}{d d':DiskD}{L:LogD}{j:List cL}(h:SA P N K d L j)(hs:d'.sec=d.sec)(x:d'.opn=d.opn):SA P N K d' L j:=
 ⟨h.brk,x.trans h.opn,by rw[hs];exact h.len,by rw[hs];exact h.lv,h.cnt,h.p,by rw[hs];exact h.tg,h.k⟩
theorem SB.disk{P:Nat->List cL->Prop}{N K:Nat}{d d':DiskD}(h:SB P N K d)(hs:d'.sec=d.sec)(j:d'.opn=d.opn):SB P N K d':=
 ⟨by rw[j];exact h.nd,by rw[hs];exact h.len,by rw[hs];exact h.tg,by rw[j];exact h.tw,by rw[hs,j];exact h.gd⟩
theorem Z2{h s:Nat}(hs:s<2):(bD h s=0/\bD h (1-s)=h)\/(bD h s=h/\bD h (1-s)=0):=by
 have:s=0\/s=1:=by omega
 rcases this with rfl|rfl
 ·exact .inl ⟨rfl,rfl⟩
 ·exact .inr ⟨rfl,rfl⟩
theorem xQ:xP 0=zsec:=by unfold xP;simp
theorem RW:lE zsec=0:=by rw[<- xQ];exact(p7 (by omega)).2
theorem Fresh.tag{sec:List Wl}{h:Nat}(f:Fresh sec h):∀ s∈sec,lE s<=0:=by
 intro s hs;obtain⟨a,ha,rfl⟩:=RR hs;obtain⟨c,j,x⟩:=f.ex
 match a with
 | 0=>rw[x,(p7 j).2];exact ja _
 | a+1=>rw[f.zs _ (by omega) ha,RW];exact ja _
theorem Fresh.scan{sec:List Wl}{h:Nat}(f:Fresh sec h)(s:Nat)(hs:s<2):(gI (none,[]) ((sec.drop (bD h s)).take h)).1=none:=by
 cases hg:(gI (none,[]) ((sec.drop (bD h s)).take h)).1 with
 | none=>rfl
 | some g=>
  obtain⟨x,R,D⟩:=RT hg;have h1:=f.h1;have O:=f.ln;have I:=Z2 (h:=h) hs;have j:x=sec.getD (bD h s) []:=by
   have:=NO sec (bD h s) h 0 (by omega) (by omega);rw[Nat.add_zero] at this;rw[<- this,jn,<- List.head?_eq_getElem?,R];rfl
  rcases I with ⟨e,_⟩|⟨e,_⟩
  ·obtain⟨c,J,K⟩:=f.ex;rw[e,K] at j;rw[j,(p7 J).1] at D;cases D
  ·rw[e,f.zs h (by omega) (by omega)] at j;rw[j,M4] at D;cases D
theorem IV{d:DiskD}(h:∀ s,s<2->(gI (none,[]) ((d.sec.drop (bD (d.sec.length/2) s)).take (d.sec.length/2))).1=none):(q8 d).1=none:=by
 unfold q8;generalize d.sec.length/2=f at *
 show(lK 1 (eS d (bD f 1) f) (lK 0 (eS d (bD f 0) f) (none,_))).1=none;rw[k6 (k:=0) (S:=eS d (bD f 0) f) (h 0 (by omega)),k6 (k:=1) (S:=eS d (bD f 1) f) (h 1 (by omega))]
theorem NR(n:Nat)(j:2<=n):Fresh (List.replicate n zsec) (n/2):=by
 refine⟨by omega,by rw[List.length_replicate];omega,⟨0,by omega,?_⟩,λa _ ha=>?_⟩
 ·rw[xQ];rw[jn,List.getElem?_replicate,jP (by omega)];rfl
 ·rw[List.length_replicate] at ha;rw[jn,List.getElem?_replicate,jP ha];rfl
theorem K9:aE (cR none):=⟨by decide,by decide⟩
theorem oE(c:Int)(o:Option Int)(h:aE c):aE (cR (some (c,o))):=h
theorem tE(d:DiskD)(a:Int):aE (cR (fQ d a)):=by
 unfold fQ;split
 ·exact⟨by decide,by decide⟩
 ·split
  ·exact⟨by decide,by decide⟩
  ·split
   ·exact⟨by decide,by decide⟩
   ·split
    ·exact⟨by decide,by decide⟩
    ·exact oE 15 _ ⟨by decide,by decide⟩
theorem p8(d:DiskD):aE (cR (kN d)):=by
 unfold kN;split
 ·exact⟨by decide,by decide⟩
 ·split
  ·exact⟨by decide,by decide⟩
  ·split
   ·exact⟨by decide,by decide⟩
   ·exact⟨by decide,by decide⟩
theorem xR(d:DiskD)(a:Int)(s:Wl):aE (cR (wsA d a s)):=by
 unfold wsA;split
 ·rename_i x h;rw[<- h];exact tE d a
 ·exact p8 _
theorem NS(d:DiskD)(f z p:Int)(g:Nat)(q:cL):aE (cR (nI d f z p g q)):=by
 unfold nI;split
 ·exact⟨by decide,by decide⟩
 ·split
  ·exact⟨by decide,by decide⟩
  ·split
   ·exact xR _ _ _
   ·exact⟨by decide,by decide⟩
theorem xS:∀(L:List Wl) (d:DiskD) (a:Int),aE (cR (i8 d a L).1)
 | [],d,a=>p8 d
 | s :: L,d,a=>by
  unfold i8;split
  ·rename_i x h;show aE (cR (some x));rw[<- h];exact tE d a
  ·exact xS L _ _
theorem IW(d:DiskD)(f z:Int)(g:Nat)(l:List cL):aE (cR (dI d f z g l).1):=by
 unfold dI;split
 ·exact oE 13 _ ⟨by decide,by decide⟩
 ·split
  ·exact xS _ _ _
  ·exact oE 15 _ ⟨by decide,by decide⟩
theorem AP(d:DiskD)(h:Nat)(L:LogD)(q:cL):aE (cR (yU d h L q)):=by
 unfold yU;split
 ·exact oE 11 _ ⟨by decide,by decide⟩
 ·exact NS _ _ _ _ _ _
theorem NT(d:DiskD)(h:Nat)(L:LogD)(D:List cL):aE (cR (iG d h L D).1):=by
 unfold iG;split
 ·exact oE 11 _ ⟨by decide,by decide⟩
 ·split
  ·exact oE 13 _ ⟨by decide,by decide⟩
  ·unfold NN;have h1:=IW d (bD h (1-L.side)) h (max L.last L.gen+1) D;have I:=xR (dI d (bD h (1-L.side)) h (max L.last L.gen+1) D).2 (bD h (1-L.side)) (rec (max L.last L.gen+1) toll);unfold NM;split
   ·rename_i x j;rw[j] at h1;exact h1
   ·split
    ·rename_i x j;rw[j] at I;exact I
    ·exact K9
theorem IY(d:DiskD):aE (cR (cI d).1):=by
 unfold cI;split
 ·exact oE 15 _ ⟨by decide,by decide⟩
 ·split
  ·rename_i x j;show aE (cR (some x));rw[<- j];exact p8 d
  ·unfold jB;split
   ·exact K9
   ·split
    ·exact oE 13 _ ⟨by decide,by decide⟩
    ·split
     ·rename_i x j;show aE (cR (some x));rw[<- j];exact xR _ _ _
     ·exact K9
section
variable {d : DiskD}
theorem VY{d:DiskD}(h:d.steps<=d.room)(j:Nat)(L:LogD)(q:cL):(sC d j L q).room<=d.room+3:=by
 unfold sC;split
 ·omega
 ·unfold pD;split
  ·omega
  ·split
   ·omega
   ·split
    ·exact(II h _ _).2.1
    ·omega
theorem VZ{d:DiskD}(h:d.steps<=d.room)(j:Nat)(L:LogD)(x:List cL):(iG d j L x).2.1.room<=d.room+2*x.length+4:=by
 unfold iG;split
 ·show d.room<=_;omega
 ·split
  ·show d.room<=_;omega
  ·unfold NN;have h1:=ES h (bD j (1-L.side)) j (max L.last L.gen+1) x;have D:=II h1.1 (bD j (1-L.side)) (rec (max L.last L.gen+1) toll);have I:=h1.2.1;have J:=D.2.1;unfold NM;split
   ·show(dI d (bD j (1-L.side)) j (max L.last L.gen+1) x).2.room<=_;omega
   ·split
    ·show(wsD (dI d (bD j (1-L.side)) j (max L.last L.gen+1) x).2 _ _).room<=_;omega
    ·show(wsD (dI d (bD j (1-L.side)) j (max L.last L.gen+1) x).2 _ _).room<=_;omega
theorem RX{d:DiskD}(h:d.steps<=d.room):(cI d).2.1.room<=d.room+4:=by
 have h1:=xE h;have x:=h1.2.1;unfold cI;split
 ·show d.room<=_;omega
 ·split
  ·show(cK d).room<=_;omega
  ·unfold jB;have j:=II h1.1 0 (rec (cN (cK d) (cK d).sec.length+1) toll);have D:=j.2.1;split
   ·show(cK d).room<=_;omega
   ·split
    ·show(cK d).room<=_;omega
    ·split
     ·show(wsD (cK d) 0 _).room<=_;omega
     ·show(wsD (cK d) 0 _).room<=_;omega
end
theorem RY(d:DiskD)(h:Nat)(L:LogD)(q:cL):(sC d h L q).sec.length=d.sec.length:=by
 unfold sC;split
 ·rfl
 ·exact EY _ _ _ _ _ _
theorem RZ(d:DiskD)(h:Nat)(L:LogD)(j:List cL):(iG d h L j).2.1.sec.length=d.sec.length:=by
 unfold iG;split
 ·rfl
 ·split
  ·rfl
  ·unfold NN NM;split
   ·exact sD _ _ _ _ _
   ·split
    ·show(wsD _ _ _).sec.length=_;rw[mS,sD]
    ·show(wsD _ _ _).sec.length=_;rw[mS,sD]
theorem NU(d:DiskD):(cI d).2.1.sec.length=d.sec.length:=by
 unfold cI;split
 ·rfl
 ·split
  ·exact eX d
  ·unfold jB;split
   ·exact eX d
   ·split
    ·exact eX d
    ·split
     ·show(wsD _ _ _).sec.length=_;rw[mS,eX]
     ·show(wsD _ _ _).sec.length=_;rw[mS,eX]
section
variable {d : DiskD}
theorem LC(d:DiskD)(n:Int)(cl:Wl):((planF d n).room<=d.room+1/\(planF d n).sec.length=d.sec.length)/\(planC d n cl).room<=d.room+1/\(planC d n cl).sec.length=d.sec.length:=by
 unfold planF planC;constructor
 ·split
  ·exact⟨by omega,rfl⟩
  ·exact⟨ja _,rfl⟩
 ·split
  ·exact⟨by omega,rfl⟩
  ·exact⟨ja _,rfl⟩
end
end
section
open Go.RowKit
attribute [local irreducible] wpQuiet wpAnyH
structure CT(F:List Nat)(w:Wd)(m:DiskM)(w':Wd)(m':DiskM):Prop where
 g:m'.g=m.g
 fo:Fo (F++aZ m) w w'
 sub:∀ k∈aZ m',k∈aZ m\/w.heap.size<=k
 cv:∀ k v,m'.cv k=some v->m.cv k=some v\/∀ b,v.ownBlock=some b->w.heap.size<=b
def Far(m:DiskM)(F:List Nat)(b:Nat):Prop:=Apart m b/\b ∉ F
section
variable {F : List Nat} {w w' w'' : Wd} {m m' m'' : DiskM} {d d' : DiskD}
theorem CT.of_lt{gl:Nat}(h:LT gl w m w' m')(hg:gl∈F\/w.heap.size<=gl):CT F w m w' m':=
 ⟨h.g,⟨h.fo.os,h.fo.tape,h.fo.output,h.fo.size,λk D x=>h.fo.block k D (λI=>by
  rcases List.mem_cons.1 I with h1|h1
  ·rcases hg with j|j
   ·exact x (List.mem_append.2 (.inl (h1 ▸ j)))
   ·omega
  ·exact x (List.mem_append.2 (.inr h1)))⟩,h.sub,h.cv⟩
theorem CT.of_dt(h:DT w m w' m'):CT F w m w' m':=⟨h.g,h.fo.wide (λ_ j=>List.mem_append.2 (.inr j)),h.sub,h.cv⟩
theorem CT.of_below(h:Bw w w'):CT F w m w' m:=CT.of_dt (DT.of_below h)
theorem CT.of_off{b:Nat}(h:Off b w w')(hb:b∈F):CT F w m w' m:=
 ⟨rfl,⟨h.os,h.tape,h.output,h.size,λk j x=>h.block k j (λe=>x (List.mem_append.2 (.inl (e ▸ hb))))⟩,λ_ h=>.inl h,λ_ _ h=>.inl h⟩
theorem CT.trans(h:CT F w m w' m')(k:CT F w' m' w'' m''):CT F w m w'' m'':=
 ⟨k.g.trans h.g,h.fo.trans k.fo (λx j=>by
  rcases List.mem_append.1 j with h1|h1
  ·exact .inl (List.mem_append.2 (.inl h1))
  ·exact(h.sub x h1).imp (λh=>List.mem_append.2 (.inr h)) id),λx j=>by
  rcases k.sub x j with h1|h1
  ·exact h.sub x h1
  ·exact .inr (jm h.fo.size h1),λx v j=>by
  rcases k.cv x v j with h1|h1
  ·exact h.cv x v h1
  ·exact .inr (λb e=>jm h.fo.size (h1 b e))⟩
theorem CT.block(h:CT F w m w' m'){b:Nat}(hb:b<w.heap.size)(j:Far m F b):w'.heap[b]? = w.heap[b]?:=
 h.fo.block b hb (λx=>(List.mem_append.1 x).elim j.2 j.1.1)
theorem CT.apart(h:CT F w m w' m'){b:Nat}(hb:b<w.heap.size)(j:Apart m b):Apart m' b:=
 ⟨λD=>by
  rcases h.sub b D with h1|h1
  ·exact j.1 h1
  ·omega,λk x v I e=>by
  rcases h.cv k v I with h1|h1
  ·exact j.2 k x v h1 e
  ·have:=h1 b e;omega⟩
theorem CT.far(h:CT F w m w' m'){b:Nat}(hb:b<w.heap.size)(j:Far m F b):Far m' F b:=⟨h.apart hb j.1,j.2⟩
theorem CT.below{B:Nat}(h:CT F w m w' m')(x:∀ k∈aZ m,B<=k)(hg:∀ k∈F,B<=k)(j:B<=w.heap.size):Below B w w':=
 h.fo.below (λk D=>(List.mem_append.1 D).elim (hg k) (x k)) j
theorem CT.le{B:Nat}(h:CT F w m w' m')(j:∀ k∈aZ m,B<=k)(D:B<=w.heap.size):∀ k∈aZ m',B<=k:=λk x=>by
 rcases h.sub k x with h1|h1
 ·exact j k h1
 ·omega
theorem CT.wide{G:List Nat}(h:CT F w m w' m')(hs:∀ x∈F,x∈G\/w.heap.size<=x):CT G w m w' m':=
 ⟨h.g,⟨h.fo.os,h.fo.tape,h.fo.output,h.fo.size,λk I D=>h.fo.block k I (λJ=>by
  rcases List.mem_append.1 J with h1|h1
  ·rcases hs k h1 with j|j
   ·exact D (List.mem_append.2 (.inl j))
   ·omega
  ·exact D (List.mem_append.2 (.inr h1)))⟩,h.sub,h.cv⟩
theorem St.ct{w0:Wd}(h:St w0 w m d)(j:DK w' m' d')(ht:CT F w m w' m')(hg:∀ k∈F,w0.heap.size<=k):St w0 w' m' d':=
 ⟨j,ht.le h.ft h.bel.size,h.bel.trans (ht.below h.ft hg h.bel.size)⟩
theorem Blk.ct{g:Nat}{t:TypeId}{cs:Wa}(h:Blk w g t cs)(ht:CT F w m w' m')(j:Far m F g):Blk w' g t cs:=(ht.block h.lt j).trans h
end
theorem DK.offO{w w':Wd}{m:DiskM}{d:DiskD}{b:Nat}(h:DK w m d)(D:Off b w w')(ha:Apart m b):DK w' m d where
 blk:=(D.block m.g h.blk.lt (λe=>ha.1 (e ▸ iW m))).trans h.blk
 sec:=aQ h.sec λx J=>D.block x (h.sec.lt x J).2 (λe=>ha.1 (e ▸ qI J))
 opn:=aQ h.opn λx J=>D.block x (h.opn.lt x J).2 (λe=>ha.1 (e ▸ uI J))
 last:=h.last.of_block (D.block _ h.last.lt (λe=>ha.1 (e ▸ oP m)))
 fl:=h.fl.of_block (D.block _ h.fl.lt (λe=>ha.1 (e ▸ oQ m)))
 cr:=h.cr.of_block (D.block _ h.cr.lt (λe=>ha.1 (e ▸ mI m)))
 nd:=h.nd
 flv:=h.flv
 crv:=λk hi=>by
  have:=h.crv k hi;cases hc:d.cr k with
  | none=>rw[hc] at this;exact this
  | some cs=>
   rw[hc] at this;obtain⟨v,h1,R,O⟩:=this;refine⟨v,h1,?_,λb hb=>⟨(O b hb).1,jp (O b hb).2 D.size⟩⟩;have K:=ha.2 k hi v h1;obtain⟨A,cap,rfl,Z,q2,J⟩:=R;refine⟨A,cap,rfl,Z,q2,λV=>?_⟩;obtain⟨g,o,rfl,I⟩:=J V;exact⟨g,o,rfl,λj u U=>D.cell (I j u U) (λe=>K (by rw[<- e];rfl))⟩
 ok:=h.ok
structure CacheD where
 L:LogD
 E:EL
 til:Int
def cacheC(gl gi:Nat)(t:Int):Wa:=#[.pointer (some ⟨gl,0,none⟩),.pointer (some ⟨gi,0,none⟩),.int .i64 t]
def XK(w:Wd)(gi bi n:Nat)(E:EL):Prop:=∃ f c,IX w gi bi n f c/\Lists f E
theorem XK.keep{w w':Wd}{gi bi n:Nat}{E:EL}(h:XK w gi bi n E)(hb:Bw w w'):XK w' gi bi n E:=by
 obtain⟨f,c,h1,j⟩:=h;exact⟨f,c,h1.keep hb,j⟩
theorem XK.same{w w':Wd}{gi bi n:Nat}{E:EL}(h:XK w gi bi n E)(h1:w'.heap[gi]? = w.heap[gi]?)(j:w'.heap[bi]? = w.heap[bi]?):XK w' gi bi n E:=by
 obtain⟨f,c,⟨a,b,e⟩,x⟩:=h;exact⟨f,c,⟨(World.cell?_of_block (a:=⟨gi,0,none⟩) h1).trans a,b,e.of_block j⟩,x⟩
theorem XK.len{w:Wd}{gi bi n:Nat}{E:EL}(h:XK w gi bi n E):E.length<=n:=by
 obtain⟨f,c,⟨_,_,e⟩,j⟩:=h;have:=j.count e;have:=e.le;omega
theorem XK.lt{w:Wd}{gi bi n:Nat}{E:EL}(h:XK w gi bi n E):gi<w.heap.size/\bi<w.heap.size:=by
 obtain⟨f,c,⟨a,_,e⟩,_⟩:=h;exact⟨dW a,e.lt⟩
theorem XK.wl{w:Wd}{gi bi n:Nat}{E:EL}(h:XK w gi bi n E):WL E:=by
 obtain⟨f,c,_,h⟩:=h;exact⟨f,h⟩
theorem XK.mono{w:Wd}{gi bi n n':Nat}{E:EL}(h:XK w gi bi n E)(x:n<=n'):XK w gi bi n' E:=by
 obtain⟨f,c,h1,j⟩:=h;exact⟨f,c,h1.mono x,j⟩
structure CK(w:Wd)(m:DiskM)(d:DiskD)(gc gl gi bi h n:Nat)(C:CacheD):Prop where
 lk:LK w m d gl h C.L
 blk:Blk w gc 229 (cacheC gl gi C.til)
 ix:XK w gi bi n C.E
 ac:Apart m gc
 ai:Apart m gi
 ab:Apart m bi
 ne:gc≠gl/\gi≠gl/\bi≠gl/\gc≠bi/\gi≠bi
 i64:aE C.til
theorem CK.keep{w w':Wd}{m:DiskM}{d:DiskD}{gc gl gi bi h n:Nat}{C:CacheD}(k:CK w m d gc gl gi bi h n C)(hb:Bw w w'):CK w' m d gc gl gi bi h n C:=
 ⟨k.lk.keep hb,k.blk.keep hb,k.ix.keep hb,k.ac,k.ai,k.ab,k.ne,k.i64⟩
theorem CK.log{w w':Wd}{m m':DiskM}{d d':DiskD}{gc gl gi bi h n:Nat}{C:CacheD}{L':LogD}(k:CK w m d gc gl gi bi h n C)(D:LK w' m' d' gl h L')(ht:LT gl w m w' m'):CK w' m' d' gc gl gi bi h n ⟨L',C.E,C.til⟩:=
 have j:CT [gl] w m w' m':=CT.of_lt ht (.inl (List.mem_singleton.2 rfl));have x:∀ b,b≠gl->Apart m b->Far m [gl] b:=λb hb ha=>⟨ha,λI=>hb (List.mem_singleton.1 I)⟩
 have lt:=k.ix.lt
 ⟨D,k.blk.ct j (x _ k.ne.1 k.ac),k.ix.same (j.block lt.1 (x _ k.ne.2.1 k.ai)) (j.block lt.2 (x _ k.ne.2.2.1 k.ab)),j.apart k.blk.lt k.ac,j.apart lt.1 k.ai,j.apart lt.2 k.ab,k.ne,k.i64⟩
theorem CK.disk{w w':Wd}{m m':DiskM}{d d':DiskD}{gc gl gi bi h n:Nat}{C:CacheD}(k:CK w m d gc gl gi bi h n C)(j:DK w' m' d')(ht:DT w m w' m')(x:d'.sec.length=d.sec.length):CK w' m' d' gc gl gi bi h n C:=
 k.log (L':=C.L) (k.lk.disk j ht x) (LT.of_dt ht)
theorem CK.index{w w':Wd}{m:DiskM}{d:DiskD}{gc gl gi bi h n n':Nat}{C:CacheD}{D:EL}(k:CK w m d gc gl gi bi h n C)(x:Off bi w w')(O:XK w' gi bi n' D):CK w' m d gc gl gi bi h n' ⟨C.L,D,C.til⟩:=
 have h1:∀ j,j<w.heap.size->j≠bi->w'.heap[j]? = w.heap[j]?:=x.block;have I:Fo [bi] w w':=⟨x.os,x.tape,x.output,x.size,λj J K=>h1 j J (λe=>K (List.mem_singleton.2 e))⟩
 ⟨⟨k.lk.dk.offO x k.ab,(h1 gl k.lk.blk.lt (λe=>k.ne.2.2.1 e.symm)).trans k.lk.blk,k.lk.ap,k.lk.ok⟩,(h1 gc k.blk.lt k.ne.2.2.2.1).trans k.blk,O,k.ac,k.ai,k.ab,k.ne,k.i64⟩
end
section
open Go.RowKit
attribute [local irreducible] wpQuiet wpAnyH
theorem LD(w:Wd)(gi bi n:Nat)(E:EL)(now:Int)(h:XK w gi bi n E)(K:n<=1000):
  Wc 119 #[.pointer (some ⟨gi,0,none⟩),.int .i64 now] w λe w'=>∃ v,e = .returned v/\Sn w' 33 v (bT E now).length ((bT E now).flatMap aO)/\Bw w w'/\∀ b,v.ownBlock=some b->w.heap.size<=b/\b<w'.heap.size:=by
 obtain⟨f,c,O,j⟩:=h;refine(QS gi bi n c f now w O K).mono ?_;rintro e w' ⟨v,L,rfl,h1,x,D,I,_,J⟩;have:L=bT E now:=(Lists.of_live x D j.exp).eq (j.live now);subst this;exact⟨v,rfl,h1,I,J⟩
theorem LE(w:Wd)(gi bi n:Nat)(E:EL)(now:Int)(h:XK w gi bi n E)(D:n<=1000):
  Wc 152 #[.pointer (some ⟨gi,0,none⟩),.int .i64 now] w λe w'=>∃ k:Nat,e = .returned (.int .i64 k)/\XK w' gi bi n (bT E now)/\Off bi w w':=by
 obtain⟨f,c,I,x⟩:=h;refine(P6 gi bi n c f now w I D).mono ?_;rintro e w' ⟨k,J,rfl,_,h1,j⟩;exact⟨k,rfl,⟨_,_,h1,x.live now⟩,j⟩
theorem R0(w:Wd)(gi bi n:Nat)(E:EL)(q:cL)(h:XK w gi bi n E)(j:EntOk q)(J:n<=1000):
  Wc 206 #[.pointer (some ⟨gi,0,none⟩),.agg (aO q).toArray] w λe w'=>∃ b,e = .returned (.bool b)/\XK w' gi bi (n+1) (fB E q).1/\Off bi w w':=by
 obtain⟨f,c,I,D⟩:=h;refine(KS gi bi n c f q.1 q.2 w I j.dig j.exp (by unfold maxLen;omega)).mono ?_;rintro e w' ⟨rfl,h1,x⟩;exact⟨_,rfl,⟨_,_,h1,(rY D j).1⟩,x⟩
theorem YL(w:Wd)(gi bi n:Nat)(E:EL)(d:Wl)(now:Int)(h:XK w gi bi n E)(hd:DigOk d):
  Wc 209 #[.pointer (some ⟨gi,0,none⟩),.agg (u8s d).toArray,.int .i64 now] w (Rt w (.bool (QO E d now))):=by
 obtain⟨f,c,x,j⟩:=h;rw[j.hasq hd now];exact UP gi bi n c f d now w x hd
theorem YM(v:Value)(l:EL)(w:Wd)(hs:Sn w 33 v l.length (l.flatMap aO))(j:∀ p∈l,EntOk p)(J:l.length<=1000):
  Wc 150 #[v] w λe w'=>∃ gi bi,e = .returned (.pointer (some ⟨gi,0,none⟩))/\XK w' gi bi l.length (gD l)/\w.heap.size<=gi/\w.heap.size<=bi/\gi≠bi/\Bw w w':=by
 refine(UR v l w hs j J).mono ?_;rintro e w' ⟨g,b,rfl,h1,x,D,I⟩;exact⟨g,b,rfl,⟨_,_,h1,EF l j⟩,x,D,h1.2.1,I⟩
section
variable {w : Wd} {gc gl gi : Nat} {til : Int}
theorem bV(h:Blk w gc 229 (cacheC gl gi til)):w.cell? ⟨gc,0,none⟩=some (.pointer (some ⟨gl,0,none⟩))/\w.cell? ⟨gc,1,none⟩=some (.pointer (some ⟨gi,0,none⟩))/\w.cell? ⟨gc,2,none⟩=some (.int .i64 til):=
 ⟨(h.cell 0).trans rfl,(h.cell 1).trans rfl,(h.cell 2).trans rfl⟩
end
section
variable {w : Wd} {m : DiskM} {d : DiskD} {gc gl gi bi h n : Nat} {C : CacheD}
theorem YN(now:Int)(k:CK w m d gc gl gi bi h n C)(O:n<=1000):
  Wc 79 #[.pointer (some ⟨gc,0,none⟩),.int .i64 now] w λe w'=>∃ v,e = .returned v/\Sn w' 33 v (bT C.E now).length ((bT C.E now).flatMap aO)/\Bw w w'/\∀ b,v.ownBlock=some b->w.heap.size<=b/\b<w'.heap.size:=by
 obtain⟨_,c1,_⟩:=bV k.blk;have K:=jz (LD w gi bi n C.E now k.ix O);clear k;go_enter func79,ntmps79
 go_wp2_with fail
 refine K.mono ?_;rintro e w' ⟨v,rfl,h1,j,x⟩;have D:=jz h1;have I:=jz j;have J:=jz x;clear h1 j x;go_wp2_with fail
 go_ret;exact⟨v,rfl,D,I,J⟩
theorem CH(k:CK w m d gc gl gi bi h n C):
  Wc 154 #[.pointer (some ⟨gc,0,none⟩)] w λe w'=>e = .returned (.int .i64 C.til)/\w'=w:=by
 obtain⟨_,_,j⟩:=bV k.blk;clear k;go_enter func154,ntmps154
 go_wp2_with fail
 go_ret;exact⟨rfl,rfl⟩
theorem IZ(k:CK w m d gc gl gi bi h n C):
  Wc 211 #[.pointer (some ⟨gc,0,none⟩)] w λe w'=>e = .returned (.int .i64 C.L.cnt)/\w'=w:=by
 obtain⟨c0,_,_⟩:=bV k.blk;have x:=jz (ND w gl m.g h C.L k.lk.blk);clear k;go_enter func211,ntmps211
 go_wp2_with fail
 refine x.mono ?_;rintro e w' ⟨rfl,j⟩;rw[j];clear j w';go_wp2_with fail
 go_ret;exact⟨rfl,rfl⟩
theorem I0(k:CK w m d gc gl gi bi h n C):
  Wc 212 #[.pointer (some ⟨gc,0,none⟩)] w (Rt w (.int .i64 (h-1:Nat))):=by
 obtain⟨c0,_,_⟩:=bV k.blk;have x:=jz (Q5 w gl m.g h C.L k.lk.blk k.lk.ok.side (LogOk.h_le k.lk));clear k;go_enter func212,ntmps212
 go_wp2_with fail
 refine x.mono ?_;rintro e w' ⟨rfl,hb⟩;have j:=jz hb;clear hb;go_wp2_with fail
 go_ret;exact⟨rfl,j⟩
theorem R1(k:CK w m d gc gl gi bi h n C):
  Wc 210 #[.pointer (some ⟨gc,0,none⟩)] w λe w'=>e = .returned (.bool C.L.brk)/\w'=w:=by
 obtain⟨c0,_,_⟩:=bV k.blk;have x:=jz (IJ w gl m.g h C.L k.lk.blk);clear k;go_enter func210,ntmps210
 go_wp2_with fail
 refine x.mono ?_;rintro e w' ⟨rfl,j⟩;rw[j];clear j w';go_wp2_with fail
 go_ret;exact⟨rfl,rfl⟩
end
def yV(x:Ans):Int:=if cR x=12 then 0 else 9
theorem xT(x:Ans)(w:Wd)(R:aE (cR x)):Wc 213 #[bM x] w (Rt w (.int .i64 (yV x))):=by
 obtain⟨v,O⟩:=je (bM x);have I:=jz (nU x w);rw[<- O] at I ⊢;have D:Hid (yV x=if cR x=12 then 0 else 9):=jz rfl;obtain⟨a,ha⟩:=je (yV x);rw[<- ha] at D ⊢;obtain⟨c,K⟩:=je (cR x);rw[<- K] at I D R;clear O K ha;rcases jb (c == 12) with j|j
 all_goals
  go_enter func213,ntmps213
  go_wp2_with (go_at_call 34;refine I.mono ?_;rintro e U ⟨rfl,hb⟩;have J:=jz hb;clear hb)
  go_ret;have h1:=D.out;simp only[beq_iff_eq,beq_eq_false_iff_ne,ne_eq] at j
  first
   | (rw[jP j] at h1;rw[h1];exact⟨rfl,J⟩)
   | (rw[jQ j] at h1;rw[h1];exact⟨rfl,J⟩)
end
section
open Go.RowKit
attribute [local irreducible] wpQuiet wpAnyH
def gL(d:DiskD)(h:Nat)(C:CacheD)(now:Int):Ans×DiskD×CacheD:=match (iG d h C.L (bT C.E now)).1 with
 | none=>(none,(iG d h C.L (bT C.E now)).2.1,⟨(iG d h C.L (bT C.E now)).2.2,bT C.E now,C.til⟩)
 | some x=>(some x,(iG d h C.L (bT C.E now)).2.1,⟨(iG d h C.L (bT C.E now)).2.2,C.E,C.til⟩)
def xU(d:DiskD)(h:Nat)(C:CacheD)(q:cL):Int×DiskD×CacheD:=if h-1<=C.L.cnt then (9,d,C) else match yU d h C.L q with
 | none=>(10,sC d h C.L q,⟨CD d h C.L q,(fB C.E q).1,C.til⟩)
 | some x=>(yV (some x),sC d h C.L q,⟨CD d h C.L q,C.E,C.til⟩)
def pE(d:DiskD)(h:Nat)(C:CacheD)(q:cL)(now:Int):Int×DiskD×CacheD:=
 if QO C.E q.1 now then (8,d,C) else if C.L.brk then (9,d,C) else if q.2<0 then (9,d,C) else if 4611686018427387904<q.2 then (9,d,C) else
 if h-1<=C.L.cnt then (match (gL d h C now).1 with
  | some x=>(yV (some x),(gL d h C now).2.1,(gL d h C now).2.2)
  | none=>xU (gL d h C now).2.1 h (gL d h C now).2.2 q) else xU d h C q
theorem E8(d:DiskD)(h:Nat)(C:CacheD)(now:Int):aE (cR (gL d h C now).1):=by
 have h1:=NT d h C.L (bT C.E now);unfold gL;split
 ·exact K9
 ·rename_i x j;rw[j] at h1;exact h1
theorem CK.up{w:Wd}{m:DiskM}{d:DiskD}{gc gl gi bi h n n':Nat}{C:CacheD}(k:CK w m d gc gl gi bi h n C)(j:n<=n'):CK w m d gc gl gi bi h n' C:=⟨k.lk,k.blk,k.ix.mono j,k.ac,k.ai,k.ab,k.ne,k.i64⟩
theorem sJ(now:Int)(w:Wd)(m:DiskM)(d:DiskD)(gc gl gi bi h n:Nat)(C:CacheD)(k:CK w m d gc gl gi bi h n C)(hn:n<=1000)(hr:d.room+30000<=100000):
  Wc 114 #[.pointer (some ⟨gc,0,none⟩),.int .i64 now] w λe w'=>e = .returned (bM (gL d h C now).1)/\∃ m',CK w' m' (gL d h C now).2.1 gc gl gi bi h n (gL d h C now).2.2/\CT [gl,bi] w m w' m':=by
 have HK:=jz k;have hE:=k.ix.len;have c7:=zU C.E now;have a6:∀ q∈bT C.E now,EntOk q:=(k.ix.wl.live now).ok;obtain⟨til,K⟩:=je C.til;obtain⟨ra,U⟩:=je ((iG d h C.L (bT C.E now)).1);obtain⟨rd,V⟩:=je ((iG d h C.L (bT C.E now)).2.1);obtain⟨rl,Z⟩:=je ((iG d h C.L (bT C.E now)).2.2);have HV:Hid (gL d h C now=match (generalizing:=false) ra with
  | none=>(none,rd,⟨rl,bT C.E now,C.til⟩)
  | some x=>(some x,rd,⟨rl,C.E,C.til⟩)):=jz (by subst U V Z;rfl)
 have c2:Hid (∀ W M A cap,LK W M d gl h C.L->Sn W 33 (.slice A (bT C.E now).length cap) (bT C.E now).length ((bT C.E now).flatMap aO)->Wc 175 #[.pointer (some ⟨gl,0,none⟩),.slice A (bT C.E now).length cap] W λe w'=>e = .returned (bM ra)/\∃ m',LK w' m' rd gl h rl/\LT gl W M w' m'):=jz (by rw[U,V,Z];exact λW M A cap hk hs=>E6 _ A cap W M d gl h C.L hk hs a6 (by omega) (by omega));have b7:=jz (λW (kk:XK W gi bi n C.E)=>LD W gi bi n C.E now kk hn);clear U V Z k a6 hE c7;have a5:=jz K.symm;go_enter func114,ntmps114
 go_upto_region 3 with fail
 clear K;rw[show C.til=til from a5.out] at HV;have a3:Hid (CK w m d gc gl gi bi h n ⟨C.L,C.E,til⟩):=jz (by rw[<- a5.out];exact HK);replace HK:=a3;clear a3;obtain⟨wS,I⟩:=je w.drew;have HD:Hid (Bw w wS):=jz (by rw[I];exact(ji _ _).drew);have D:=jz (HK.keep HD);refine kZ (n:=12) (λW=>Blk W gc 229 (cacheC gl gi til)) (by rw[<- I];exact D.blk) (h:=λhH=>?_);rw[<- I] at hH ⊢;clear I;refine qM 0 (.pointer (some ⟨gc,0,none⟩)) ?_;refine qT 1 (.pointer (some ⟨gc,0,none⟩)) ?_;refine qT 2 (.pointer (some ⟨gc,0,none⟩)) ?_;refine qC 3 (v:=.pointer (some ⟨gl,0,none⟩)) (λ_ hX=>(bV hX).1) ?_;refine qM 4 (.pointer (some ⟨gc,0,none⟩)) ?_;refine qT 5 (.pointer (some ⟨gc,0,none⟩)) ?_;refine qT 6 (.pointer (some ⟨gc,1,none⟩)) ?_;refine qC 7 (v:=.pointer (some ⟨gi,0,none⟩)) (λ_ hX=>(bV hX).2.1) ?_;refine qM 8 (.int .i64 now) ?_;refine kF 9 (some 18) ((b7 wS D.ix).mono ?_);rintro e w5 ⟨v5,rfl,a0,O,_⟩;obtain⟨A5,c5,rfl,_⟩:=id a0;have a2:=jz (D.keep O);have c3:=jz a0;have a9:=jz (aA HD O);clear a0;refine⟨_,rfl,D.blk.keep O,λhH=>?_⟩;simp only[jq];refine kF 10 (some 19) ((c2 w5 m A5 c5 a2.lk c3).mono ?_);rintro e w6 ⟨rfl,m6,J,a1⟩;have j:=jz (a2.log J a1);have a4:Hid (CT [gl,bi] w m w6 m6):=jz ((CT.of_below a9).trans (CT.of_lt a1 (.inl (by simp))));clear J a1;refine⟨_,rfl,j.blk,λhH=>?_⟩;simp only[jq];refine qT 11 (bM ra) ?_;refine kE (h:=?_);cases ra with
 | some x=>
  obtain⟨t,u,hv⟩:=bW x;have c6:=jz hv;rw[hv];have c9:=dC t u;clear hv;go_wp2_with fail
  go_ret;rw[HV.out];exact⟨by rw[<- c6.out];rfl,m6,j,a4⟩
 | none=>
  have a7:bM none = .nilIface:=rfl;rw[a7];obtain⟨_,c1,_⟩:=bV j.blk;have b0:=jz (LE w6 gi bi n C.E now j.ix hn);clear a7;go_wp2_with fail
  refine b0.mono ?_;rintro e w7 ⟨kd,rfl,a8,R⟩;have b1:=jz (j.index R a8);have c4:=jz (a4.trans (CT.of_off (F:=[gl,bi]) R (by simp)));clear a8 R;go_wp2_with fail
  go_ret;rw[HV.out];exact⟨rfl,m6,b1,c4⟩
theorem CI{d:DiskD}(h:d.steps<=d.room)(j:Nat)(C:CacheD)(now:Int):(gL d j C now).2.1.room<=d.room+2*C.E.length+4/\(gL d j C now).2.1.sec.length=d.sec.length:=by
 have h1:=VZ h j C.L (bT C.E now);have x:=RZ d j C.L (bT C.E now);have D:=zU C.E now;unfold gL;split
 ·exact⟨by show(iG d j C.L (bT C.E now)).2.1.room<=_;omega,x⟩
 ·exact⟨by show(iG d j C.L (bT C.E now)).2.1.room<=_;omega,x⟩
theorem R2(q:cL)(now:Int)(w:Wd)(m:DiskM)(d:DiskD)(gc gl gi bi h n:Nat)(C:CacheD)(k:CK w m d gc gl gi bi h n C)(hq:EntOk q)(hn:n+1<=1000)(hr:d.room+40000<=100000):
  Wc 156 #[.pointer (some ⟨gc,0,none⟩),.agg (aO q).toArray,.int .i64 now] w λe w'=>e = .returned (.int .i64 (pE d h C q now).1)/\∃ m',CK w' m' (pE d h C q now).2.1 gc gl gi bi h (n+1) (pE d h C q now).2.2/\CT [gl,bi] w m w' m':=by
 have HQ:=jz hq;have r5:=bC q hq;have f0:=jz r5;have q2:Hid ((u8s q.1).length=32):=jz (by simp[u8s,hq.dig.len]);obtain⟨w1,f8⟩:=je (w.alloc (.cells (aO q).toArray 172));obtain⟨gq,k1⟩:=je w.heap.size;have h3:Hid (Blk w1 gq 172 (aO q).toArray):=jz (by rw[f8,k1];exact Blk.new _ _ _);have m1:Hid (Bw w w1):=jz (by rw[f8];exact aH _ _);obtain⟨til,R⟩:=je C.til;have s1:=jz R.symm;have q4:Hid (CK w m d gc gl gi bi h n ⟨C.L,C.E,til⟩):=jz (by rw[R];exact k);have g2:=jz (q4.keep m1);have a5:Hid (Far m [gl,bi] gq):=jz ⟨Apart.fresh k.lk.dk (by omega),λhm=>by
  have h1:=k.lk.blk.lt
  have h2:=k.ix.lt.2
  simp at hm
  omega⟩
 have m8:Hid (gq≠bi):=jz (λe=>a5.out.2 (by simp[e]));have m4:=jz (λW (kk:XK W gi bi n C.E)=>YL W gi bi n C.E q.1 now kk hq.dig);obtain⟨hv,k2⟩:=je (QO C.E q.1 now);rw[<- k2] at m4;obtain⟨xa,f9⟩:=je ((gL d h C now).1);obtain⟨xd,g0⟩:=je ((gL d h C now).2.1);obtain⟨xC,k4⟩:=je ((gL d h C now).2.2);have r2:=CI k.lk.dk.ok.st h C now;have r1:=k.ix.len;have r0:Hid (xd.room+3<=100000):=jz (by rw[g0];omega);have q7:Hid (aE (cR xa)):=jz (by rw[f9];exact E8 d h C now);have q1:Hid (∀ W M,CK W M d gc gl gi bi h n ⟨C.L,C.E,til⟩->Wc 114 #[.pointer (some ⟨gc,0,none⟩),.int .i64 now] W λe w'=>e = .returned (bM xa)/\∃ m',CK w' m' xd gc gl gi bi h n xC/\CT [gl,bi] W M w' m'):=jz (λW M kk=>by rw[f9,g0,k4];rw[R] at kk;exact sJ now W M d gc gl gi bi h n C kk (by omega) (by omega));obtain⟨pa,a1⟩:=je (yU d h C.L q);obtain⟨pd,b0⟩:=je (sC d h C.L q);obtain⟨pl,b1⟩:=je (CD d h C.L q);have e0:Hid (∀ W M,LK W M d gl h C.L->Wc 214 #[.pointer (some ⟨gl,0,none⟩),.agg (aO q).toArray] W λe w'=>e = .returned (bM pa)/\∃ m',LK w' m' pd gl h pl/\LT gl W M w' m'):=jz (by rw[a1,b0,b1];exact λW M kk=>xI q W M d gl h C.L kk hq (by omega));have d7:Hid (aE (cR pa)):=jz (by rw[a1];exact AP d h C.L q);have Z:Hid (pE d h C q now=if hv then (8,d,C) else if C.L.brk then (9,d,C) else if q.2<0 then (9,d,C) else if 4611686018427387904<q.2 then (9,d,C) else
  if h-1<=C.L.cnt then (match (generalizing:=false) xa with
  | some x=>(yV (some x),xd,xC)
  | none=>xU xd h xC q) else (if h-1<=C.L.cnt then (9,d,C) else match (generalizing:=false) pa with
   | none=>(10,pd,⟨pl,(fB C.E q).1,til⟩)
   | some x=>(yV (some x),pd,⟨pl,C.E,til⟩))):=jz (by subst f9 g0 k4 k2 a1 b0 b1 R;rfl)
 have e8:Hid (C=⟨C.L,C.E,til⟩):=jz (by rw[R]);clear f9 g0 k4 k2 a1 b0 b1 R r2 r1 k;go_enter func156,ntmps156
 go_upto_region 3 with fail
 rw[<- f8,<- k1];clear f8 k1;obtain⟨wS,I⟩:=je w1.drew;have V:Hid (Bw w1 wS):=jz (by rw[I];exact(ji _ _).drew);have D:=jz (g2.keep V);have K:=jz (h3.keep V);refine kZ (n:=8) (λW=>(Blk W gc 229 (cacheC gl gi til)/\Blk W gq 172 (aO q).toArray)) (by rw[<- I];exact⟨D.blk,K⟩) (h:=λhH=>?_);rw[<- I] at hH ⊢;clear I;refine qM 0 (.pointer (some ⟨gc,0,none⟩)) ?_;refine qT 1 (.pointer (some ⟨gc,0,none⟩)) ?_;refine qT 2 (.pointer (some ⟨gc,1,none⟩)) ?_;refine qC 3 (v:=.pointer (some ⟨gi,0,none⟩)) (λ_ hX=>(bV hX.1).2.1) ?_;refine qT 4 (.pointer (some ⟨gq,0,none⟩)) ?_;refine qL 5 (cs:=u8s q.1) (λ_ hX=>(zP hX.2.range HQ).1) (q2) ?_;refine qM 6 (.int .i64 now) ?_;refine kF 7 (some 18) ((m4 wS D.ix).mono ?_);rintro e w5 ⟨rfl,d1⟩;have U:=jz (D.keep d1);have c5:=jz (K.keep d1);have e1:=jz (aA m1 (aA V d1));refine⟨_,rfl,⟨D.blk.keep d1,K.keep d1⟩,λhH=>?_⟩;simp only[jq];refine kE (h:=?_);clear D K V;cases hv with
 | true=>
  go_wp2_with fail
  go_ret;rw[Z.out];exact⟨rfl,m,by show CK _ m d gc gl gi bi h (n+1) C;rw[e8.out];exact U.up (Nat.le_succ _),CT.of_below e1⟩
 | false=>
 have a9:Hid (CT [gl,bi] w m w5 m):=jz (CT.of_below e1);obtain⟨r6,c32⟩:=zP c5.range HQ.out;replace c32:w5.cell? ⟨gq,32,none⟩=some (.int .i64 q.2):=c32;have a3:=jz (R1 U);obtain⟨br,n2⟩:=je C.L.brk;rw[<- n2] at Z a3;clear n2 r6;cases br with
 | true=>
  go_wp2_with (refine a3.mono ?_;rintro e wq ⟨rfl,j⟩;rw[j];clear j wq)
  go_ret;rw[Z.out];exact⟨rfl,m,by show CK _ m d gc gl gi bi h (n+1) C;rw[e8.out];exact U.up (Nat.le_succ _),a9⟩
 | false=>
 obtain⟨t,ht⟩:=je q.2;rw[<- ht] at Z c32;clear ht;rcases jb (decide (t<0)) with t1|t1
 ·go_wp2_with (refine a3.mono ?_;rintro e wq ⟨rfl,j⟩;rw[j];clear j wq)
  go_ret;have h1:=of_decide_eq_true t1;rw[Z.out,jQ (by simp),jQ (by simp),jP h1];exact⟨rfl,m,by show CK _ m d gc gl gi bi h (n+1) C;rw[e8.out];exact U.up (Nat.le_succ _),a9⟩
 rcases jb (decide (4611686018427387904<t)) with t2|t2
 ·go_wp2_with (refine a3.mono ?_;rintro e wq ⟨rfl,j⟩;rw[j];clear j wq)
  go_ret;have h1:=of_decide_eq_false t1;have h2:=of_decide_eq_true t2;rw[Z.out,jQ (by simp),jQ (by simp),jQ h1,jP h2];exact⟨rfl,m,by show CK _ m d gc gl gi bi h (n+1) C;rw[e8.out];exact U.up (Nat.le_succ _),a9⟩
 have c4:=Z.out;rw[jQ (by simp),jQ (by simp),jQ (of_decide_eq_false t1),jQ (of_decide_eq_false t2)] at c4;replace Z:=jz c4;clear c4;have d0:=jz (IZ U);have c7:=jz (I0 U);obtain⟨rm,k3⟩:∃ r:Nat,r=h-1:=⟨_,rfl⟩;obtain⟨cn,k0⟩:∃ c:Nat,c=C.L.cnt:=⟨_,rfl⟩;rw[<- k3] at c7 Z;rw[<- k0] at d0 Z;have f2:=jz k3;have q0:=jz k0;clear k3 k0;rcases jo cn rm with s4|s3
 ·have hi:(cn:Int)<(rm:Int):=by omega
  rw[jQ (by omega),jQ (by omega)] at Z;go_wp2_with fail
  refine a3.mono ?_;rintro e wq ⟨rfl,j⟩;rw[j];clear j wq;go_wp2_with fail
  refine d0.mono ?_;rintro e wq ⟨rfl,j⟩;rw[j];clear j wq;go_wp2_with fail
  refine c7.mono ?_;rintro e w7 ⟨rfl,O⟩;have HK7a:=jz (U.keep O);have HQ7a:=jz (c5.keep O);have HT7a:=jz (a9.trans (CT.of_below O));have h8:=jz (IZ HK7a);have h5:=jz (I0 HK7a);rw[show C.L.cnt=cn from q0.symm] at h8;rw[<- f2.out] at h5;clear O d0 c7 a3 c32;go_wp2_with fail
  refine h8.mono ?_;rintro e wq ⟨rfl,j⟩;rw[j];clear j wq;go_wp2_with fail
  refine h5.mono ?_;rintro e w8 ⟨rfl,f6⟩;have HK8a:=jz (HK7a.keep f6);have HQ8a:=jz (HQ7a.keep f6);have HT8a:=jz (HT7a.trans (CT.of_below f6));clear f6 h8 h5 U c5 a9 HK7a HQ7a HT7a g2 h3 e1;go_upto_region 13 with fail
  have g1:Hid (Far m [gl] gq):=jz (⟨a5.out.1,λhm=>a5.out.2 (by simp at hm ⊢;exact .inl hm)⟩);obtain⟨wS,I⟩:=je w8.drew;have V:Hid (Bw w8 wS):=jz (by rw[I];exact(ji _ _).drew);have D:=jz (HK8a.keep V);have K:=jz (HQ8a.keep V);refine kZ (n:=7) (λW=>(Blk W gc 229 (cacheC gl gi til)/\Blk W gq 172 (aO q).toArray)) (by rw[<- I];exact⟨D.blk,K⟩) (h:=λhH=>?_);rw[<- I] at hH ⊢;clear I;refine qM 0 (.pointer (some ⟨gc,0,none⟩)) ?_;refine qT 1 (.pointer (some ⟨gc,0,none⟩)) ?_;refine qT 2 (.pointer (some ⟨gc,0,none⟩)) ?_;refine qC 3 (v:=.pointer (some ⟨gl,0,none⟩)) (λ_ hX=>(bV hX.1).1) ?_;refine qL 4 (cs:=aO q) (λ_ hX=>hX.2.range) (f0) ?_;refine kF 5 (some 53) ((e0 wS m D.lk).mono ?_);rintro e w6 ⟨rfl,m6,a7,a2⟩;have a8:=jz (D.log a7 a2);have c9:Hid (CT [gl,bi] w m w6 m6):=jz (HT8a.trans ((CT.of_below V).trans (CT.of_lt a2 (.inl (by simp)))));have c6:=jz (K.ct (CT.of_lt (F:=[gl]) a2 (.inl (by simp))) g1);clear a7 a2;refine⟨_,rfl,⟨a8.blk,c6⟩,λhH=>?_⟩;simp only[jq];refine qT 6 (bM pa) ?_;refine kE (h:=?_);clear D K V;cases pa with
  | some x=>
   obtain⟨t,u,hv⟩:=bW x;have a4:=jz (xT (some x) w6 (d7));rw[hv] at a4 ⊢;have n6:=dC t u;clear hv;go_wp2_with fail
   refine a4.mono ?_;rintro e w7 ⟨rfl,O⟩;have g3:=jz (a8.keep O);have c3:=jz (c9.trans (CT.of_below O));clear O;go_wp2_with fail
   go_ret;rw[Z.out];exact⟨rfl,m6,g3.up (Nat.le_succ _),c3⟩
  | none=>
   have d2:bM none = .nilIface:=rfl;rw[d2];go_upto_region 16 with fail
   obtain⟨wS,I⟩:=je w6.drew;have V:Hid (Bw w6 wS):=jz (by rw[I];exact(ji _ _).drew);have D:=jz (a8.keep V);have K:=jz (c6.keep V);refine kZ (n:=6) (λW=>(Blk W gc 229 (cacheC gl gi til)/\Blk W gq 172 (aO q).toArray)) (by rw[<- I];exact⟨D.blk,K⟩) (h:=λhH=>?_);rw[<- I] at hH ⊢;clear I;refine qM 0 (.pointer (some ⟨gc,0,none⟩)) ?_;refine qT 1 (.pointer (some ⟨gc,0,none⟩)) ?_;refine qT 2 (.pointer (some ⟨gc,1,none⟩)) ?_;refine qC 3 (v:=.pointer (some ⟨gi,0,none⟩)) (λ_ hX=>(bV hX.1).2.1) ?_;refine qL 4 (cs:=aO q) (λ_ hX=>hX.2.range) (f0) ?_;refine kF 5 (some 63) ((R0 wS gi bi n _ q D.ix HQ (by omega)).mono ?_);rintro e w8 ⟨pb,rfl,d5,a0⟩;have g8:=jz (D.index a0 d5);have h6:=jz (c9.trans ((CT.of_below V).trans (CT.of_off (F:=[gl,bi]) a0 (by simp))));have a6:=jz a0;clear d5 a0;refine⟨_,rfl,⟨a6.blk D.blk D.ne.2.2.2.1,a6.blk K m8⟩,λhH=>?_⟩;simp only[jq];refine kE (h:=?_);go_wp2_with fail
   go_ret;rw[Z.out];exact⟨rfl,m6,g8,h6⟩
 ·have hi:(rm:Int)<=(cn:Int):=by omega
  rw[jP (by omega)] at Z;go_wp2_with fail
  refine a3.mono ?_;rintro e wq ⟨rfl,j⟩;rw[j];clear j wq;go_wp2_with fail
  refine d0.mono ?_;rintro e wq ⟨rfl,j⟩;rw[j];clear j wq;go_wp2_with fail
  refine c7.mono ?_;rintro e w7 ⟨rfl,O⟩;have m3:=jz (q1 w7 m (U.keep O));have h4:=jz (c5.keep O);have c3:=jz (a9.trans (CT.of_below O));have n3:gq<w7.heap.size:=h4.lt;clear O d0 c7 a3 c32;go_wp2_with fail
  refine m3.mono ?_;rintro e w9 ⟨rfl,m9,n4,f7⟩;have b7:=jz n4;have f3:=jz (c3.trans f7);have m5:=jz (h4.ct f7 (a5));have q3:=jz (f7.far n3 a5);clear n4 f7 U c5 a9 g2 h3 e1 n3 m3 c3 h4;cases xa with
  | some x=>
   obtain⟨ty,u,hv⟩:=bW x;have a4:=jz (xT (some x) w9 q7);rw[hv] at a4 ⊢;have n6:=dC ty u;clear hv;go_wp2_with fail
   refine a4.mono ?_;rintro e s5 ⟨rfl,J⟩;have q5:=jz (b7.keep J);have q6:=jz (f3.trans (CT.of_below J));clear J;go_wp2_with fail
   go_ret;rw[Z.out];exact⟨rfl,m9,q5.up (Nat.le_succ _),q6⟩
  | none=>
   have d2:bM none = .nilIface:=rfl;rw[d2];obtain⟨c2,h9⟩:∃ c:Nat,c=xC.L.cnt:=⟨_,rfl⟩;have f5:=jz (IZ b7);have f1:=jz (I0 b7);have c4:Hid (pE d h C q now=xU xd h xC q):=jz Z.out;replace Z:=c4;clear c4 e0 d7 pa pd pl;rw[<- h9] at f5;rw[<- f2.out] at f1;have m2:=jz h9;clear h9;rcases jo c2 rm with s0|r7
   ·have r3:(c2:Int)<(rm:Int):=by omega
    obtain⟨pa,a1⟩:=je (yU xd h xC.L q);obtain⟨pd,b0⟩:=je (sC xd h xC.L q);obtain⟨pl,b1⟩:=je (CD xd h xC.L q);obtain⟨til,R⟩:=je xC.til;have e0:Hid (∀ W M,LK W M xd gl h xC.L->Wc 214 #[.pointer (some ⟨gl,0,none⟩),.agg (aO q).toArray] W λe w'=>e = .returned (bM pa)/\∃ m',LK w' m' pd gl h pl/\LT gl W M w' m'):=jz (by rw[a1,b0,b1];exact λW M kk=>xI q W M xd gl h xC.L kk HQ r0);have d7:Hid (aE (cR pa)):=jz (by rw[a1];exact AP xd h xC.L q);have n1:Hid (pE d h C q now=match (generalizing:=false) pa with
     | none=>(10,pd,⟨pl,(fB xC.E q).1,til⟩)
     | some x=>(yV (some x),pd,⟨pl,xC.E,til⟩)):=jz (by
      rw[Z.out]
      unfold xU
      rw[<- m2.out,<- f2.out,jQ (by omega),a1,b0,b1,R])
    replace Z:=n1;have HKc:Hid (CK w9 m9 xd gc gl gi bi h n ⟨xC.L,xC.E,til⟩):=jz (by rw[R];exact b7);have a5:=q3;clear n1 a1 b0 b1 R;go_wp2_with fail
    refine f5.mono ?_;rintro e wq ⟨rfl,j⟩;rw[j];clear j wq;go_wp2_with fail
    refine f1.mono ?_;rintro e wB ⟨rfl,J⟩;have h0:=jz (HKc.keep J);have n0:=jz (m5.keep J);have h7:=jz (f3.trans (CT.of_below J));clear J f5 f1 b7 HKc m5 f3;go_upto_region 13 with fail
    have g1:Hid (Far m9 [gl] gq):=jz (⟨a5.out.1,λhm=>a5.out.2 (by simp at hm ⊢;exact .inl hm)⟩);obtain⟨wS,I⟩:=je wB.drew;have V:Hid (Bw wB wS):=jz (by rw[I];exact(ji _ _).drew);have D:=jz (h0.keep V);have K:=jz (n0.keep V);refine kZ (n:=7) (λW=>(Blk W gc 229 (cacheC gl gi til)/\Blk W gq 172 (aO q).toArray)) (by rw[<- I];exact⟨D.blk,K⟩) (h:=λhH=>?_);rw[<- I] at hH ⊢;clear I;refine qM 0 (.pointer (some ⟨gc,0,none⟩)) ?_;refine qT 1 (.pointer (some ⟨gc,0,none⟩)) ?_;refine qT 2 (.pointer (some ⟨gc,0,none⟩)) ?_;refine qC 3 (v:=.pointer (some ⟨gl,0,none⟩)) (λ_ hX=>(bV hX.1).1) ?_;refine qL 4 (cs:=aO q) (λ_ hX=>hX.2.range) (f0) ?_;refine kF 5 (some 53) ((e0 wS m9 D.lk).mono ?_);rintro e w6 ⟨rfl,m6,a7,a2⟩;have a8:=jz (D.log a7 a2);have c9:Hid (CT [gl,bi] w m w6 m6):=jz (h7.trans ((CT.of_below V).trans (CT.of_lt a2 (.inl (by simp)))));have c6:=jz (K.ct (CT.of_lt (F:=[gl]) a2 (.inl (by simp))) g1);clear a7 a2;refine⟨_,rfl,⟨a8.blk,c6⟩,λhH=>?_⟩;simp only[jq];refine qT 6 (bM pa) ?_;refine kE (h:=?_);clear D K V;cases pa with
    | some x=>
     obtain⟨t,u,hv⟩:=bW x;have a4:=jz (xT (some x) w6 (d7));rw[hv] at a4 ⊢;have n6:=dC t u;clear hv;go_wp2_with fail
     refine a4.mono ?_;rintro e w7 ⟨rfl,O⟩;have g3:=jz (a8.keep O);have c3:=jz (c9.trans (CT.of_below O));clear O;go_wp2_with fail
     go_ret;rw[Z.out];exact⟨rfl,m6,g3.up (Nat.le_succ _),c3⟩
    | none=>
     have d2:bM none = .nilIface:=rfl;rw[d2];go_upto_region 16 with fail
     obtain⟨wS,I⟩:=je w6.drew;have V:Hid (Bw w6 wS):=jz (by rw[I];exact(ji _ _).drew);have D:=jz (a8.keep V);have K:=jz (c6.keep V);refine kZ (n:=6) (λW=>(Blk W gc 229 (cacheC gl gi til)/\Blk W gq 172 (aO q).toArray)) (by rw[<- I];exact⟨D.blk,K⟩) (h:=λhH=>?_);rw[<- I] at hH ⊢;clear I;refine qM 0 (.pointer (some ⟨gc,0,none⟩)) ?_;refine qT 1 (.pointer (some ⟨gc,0,none⟩)) ?_;refine qT 2 (.pointer (some ⟨gc,1,none⟩)) ?_;refine qC 3 (v:=.pointer (some ⟨gi,0,none⟩)) (λ_ hX=>(bV hX.1).2.1) ?_;refine qL 4 (cs:=aO q) (λ_ hX=>hX.2.range) (f0) ?_;refine kF 5 (some 63) ((R0 wS gi bi n _ q D.ix HQ (by omega)).mono ?_);rintro e w8 ⟨pb,rfl,d5,a0⟩;have g8:=jz (D.index a0 d5);have h6:=jz (c9.trans ((CT.of_below V).trans (CT.of_off (F:=[gl,bi]) a0 (by simp))));have a6:=jz a0;clear d5 a0;refine⟨_,rfl,⟨a6.blk D.blk D.ne.2.2.2.1,a6.blk K m8⟩,λhH=>?_⟩;simp only[jq];refine kE (h:=?_);go_wp2_with fail
     go_ret;rw[Z.out];exact⟨rfl,m6,g8,h6⟩
   ·have r3:(rm:Int)<=(c2:Int):=by omega
    go_wp2_with fail
    refine f5.mono ?_;rintro e wq ⟨rfl,j⟩;rw[j];clear j wq;go_wp2_with fail
    refine f1.mono ?_;rintro e wB ⟨rfl,J⟩;have h0:=jz (b7.keep J);have h7:=jz (f3.trans (CT.of_below J));clear J;go_wp2_with fail
    go_ret;rw[Z.out];unfold xU;rw[<- m2.out,<- f2.out,jP (by omega)];exact⟨rfl,m9,h0.up (Nat.le_succ _),h7⟩
end
end Go.Proofs.YtiaigidbcljblaaGreatDoor
