import Derived.Test.YtiaigidbcljblaaGreatDoorMB20
import Derived.Test.YtiaigidbcljblaaGreatDoorMB19
import Derived.Test.YtiaigidbcljblaaGreatDoorMB21
set_option linter.unusedVariables false
set_option linter.unusedSimpArgs false
set_option maxRecDepth 100000
set_option maxHeartbeats 40000000
namespace Go.Proofs.YtiaigidbcljblaaGreatDoor
open Go.Proofs.Tryz
section
open Go.RowKit
attribute [local irreducible] wpQuiet wpAnyH
def L0(fa:Ans)(fd:DiskD)(L:LogD)(wa:Ans)(wd:DiskD)(so g n:Nat):Ans×DiskD×LogD:=match fa with
 | some x=>(some x,fd,oV L x.1)
 | none=>match wa with
  | some x=>(some x,wd,oV L x.1)
  | none=>(none,wd,{ L with side:=so,gen:=g,cnt:=n })
def L8(d:DiskD)(h:Nat)(L:LogD)(qs:List cH)(g:Nat):Ans×DiskD×LogD:=
 L0 (dE d (bA h (1-L.side)) h g qs).1 (dE d (bA h (1-L.side)) h g qs).2 L (wsA (dE d (bA h (1-L.side)) h g qs).2 (bA h (1-L.side)) (rec g toll)) (wsD (dE d (bA h (1-L.side)) h g qs).2 (bA h (1-L.side)) (rec g toll)) (1-L.side) g qs.length
def iC(d:DiskD)(h:Nat)(L:LogD)(qs:List cH):Ans×DiskD×LogD:=if L.brk then (some (11,none),d,L) else if max L.last L.gen=4294967295 then (some (13,none),d,L) else L8 d h L qs (max L.last L.gen+1)
theorem DZ(j:List cH)(A:Option Addr)(cap:Nat)(w:Wd)(m:DiskM)(d:DiskD)(gl h:Nat)(L:LogD)(k:LK w m d gl h L)(hs:Sn w 33 (.slice A j.length cap) j.length (j.flatMap aN))(h7:∀ q∈j,EntOk q)(hln:j.length<=10000)(hr:d.room+30000<=100000):
  Wc 175 #[.pointer (some ⟨gl,0,none⟩),.slice A j.length cap] w λe w'=>e = .returned (bK (iC d h L j).1)/\∃ m',LK w' m' (iC d h L j).2.1 gl h (iC d h L j).2.2/\LT gl w m w' m':=by
 have hh:=LogOk.h_le k;have HK:=jz k;have HS:=jz hs;have m6:=jz h7;have HB:Hid (Blk w gl 327 (bV m.g h L)):=jz k.blk;obtain⟨c0,c5,c6,c7,c8,c9⟩:=k.cells;have r1:=k.blk.lt;clear hs h7;cases hb:L.brk with
 | true=>
  have HV:Hid (iC d h L j=(some (11,none),d,L)):=jz (by unfold iC;rw[jP hb]);rw[hb] at c9;clear hb k;go_enter func175,ntmps175
  go_wp2_with fail
  go_ret;exact⟨by rw[HV.out];rfl,m,by rw[HV.out];exact HK,LT.of_below (ji _ _)⟩
 | false=>
  rw[hb] at c9;obtain⟨gm,g8⟩:=je (max L.last L.gen);have g3:max (L.last:Int) L.gen=gm:=by omega
  have f3:=jz g3;have m2:Hid (gm<4294967296):=jz (by have h1:=k.ok.last;have h2:=k.ok.gen;omega);have d0:Hid (iC d h L j=if gm=4294967295 then (some (13,none),d,L) else L8 d h L j (gm+1)):=jz (by unfold iC;rw[hb,g8];rfl);have r3:=k.ok.side;have HC:Hid (∀ W,Blk W gl 327 (bV m.g h L)->W.cell? ⟨gl,6,none⟩=some (.int .u32 L.last)/\W.cell? ⟨gl,7,none⟩=some (.int .u32 L.gen)):=jz (λW hk=>⟨(hk.cell 6).trans rfl,(hk.cell 7).trans rfl⟩);clear hb g8 k g3;go_enter func175,ntmps175
  go_upto_region 5 with fail
  obtain⟨wS,a8⟩:=je w.drew;have a2:Hid (Bw w wS):=jz (by rw[a8];exact(ji _ _).drew);refine kZ (n:=10) (λW=>Blk W gl 327 (bV m.g h L)) (by rw[<- a8];exact HB.keep a2) (h:=λI=>?_);rw[<- a8] at I ⊢;clear a8;refine qM 0 (.pointer (some ⟨gl,0,none⟩)) ?_;refine qT 1 (.pointer (some ⟨gl,0,none⟩)) ?_;refine qT 2 (.pointer (some ⟨gl,6,none⟩)) ?_;refine qC 3 (v:=.int .u32 L.last) (λ_ V=>(HC _ V).1) ?_;refine qM 4 (.pointer (some ⟨gl,0,none⟩)) ?_;refine qT 5 (.pointer (some ⟨gl,0,none⟩)) ?_;refine qT 6 (.pointer (some ⟨gl,7,none⟩)) ?_;refine qC 7 (v:=.int .u32 L.gen) (λ_ V=>(HC _ V).2) ?_;refine qT 8 (.int .u32 gm) ?_ (hy:=λW hW=>by unfold execOp;rw[<- f3.out];go_simp);refine qT 9 (.int .u32 gm) ?_;refine kE (h:=?_);obtain⟨so,h9⟩:∃ so,so=1-L.side:=⟨_,rfl⟩;have h8:(1:Int)-L.side=so:=by omega
  have m8:=jz h8;have hso2:so<2:=by omega
  have q1:(L.side:Int)<2:=by omega
  have q0:(0:Int)<=L.side:=by omega
  have g2:Hid (Bw w wS):=a2;have f4:Hid (LK wS m d gl h L):=jz (HK.keep a2);have f9:=jz (HS.below a2);have d5:wS.cell? ⟨gl,5,none⟩=some (.int .i64 L.side):=(I.cell 5).trans rfl;have q4:Hid (Blk wS gl 327 (bV m.g h L)):=jz I;have r0:gl<wS.heap.size:=I.lt;clear c0 c5 c6 c7 c8 c9 h8 I;rcases jo gm 4294967295 with h6|h6
  ·have t9:((gm:Int) == 4294967295)=false:=by rw[beq_eq_false_iff_ne];omega
   obtain⟨gn,h3⟩:=je (gm+1);have k4:Hid ((gm:Int)+1=gn):=jz (by omega);have HG4:Hid (gn<4294967296):=jz (by omega);have m3:Hid ((gm:Int)<4294967295):=jz (by omega);have HV:Hid (iC d h L j=L8 d h L j gn):=jz (by rw[d0.out,jQ (by omega),h3]);clear h6 h3;go_upto_region 8 with fail
   have h0:=m3.out;go_upto_region 10 with fail
   rw[k4.out,m8.out];obtain⟨J,a6⟩:=je (bA h so);have a3:Hid ((J:Int)<=100000/\0<=(J:Int)):=jz (by rw[a6];exact⟨(GG hh).2,(GG (h:=h) (s:=so) hh).1⟩);have f6:Hid (∀ W,Blk W gl 327 (bV m.g h L)->W.rangeAt gl (1+so*2) [.int .i64 J,.int .i64 h]):=jz (λW hk=>by rw[a6];exact p7 hk so hso2);have q2:(0:Int)<=so:=by omega
   have q3:(so:Int)<2:=by omega
   obtain⟨fa,e0⟩:=je ((dE d J h gn j).1);obtain⟨O,a5⟩:=je ((dE d J h gn j).2);have d7:Hid (iC d h L j=L0 fa O L (wsA O J (rec gn toll)) (wsD O J (rec gn toll)) so gn j.length):=jz (by rw[HV.out,e0,a5,a6,h9];rfl);have f2:Hid (Bd (2*j.length+1) d O):=jz (by rw[a5];exact DJ HK.dk.ok.st _ _ _ _);have m1:Hid (h<=2048):=jz (by have h1:=HK.ok.half;have h2:=HK.dk.ok.few;omega);have k0:=jz HK.ap;have f1:=jz (λW (hk:DK W m d) (hs:Sn W 33 (.slice A j.length cap) j.length (j.flatMap aN))=>K3 J h gn j A cap W m d hk hs m6 ⟨a3.out.2,a3.out.1⟩ ⟨⟨by omega,by omega⟩,by have:=m1.out;omega⟩ HG4 (by omega) (by omega));rw[<- e0,<- a5] at f1;clear e0 a5 a6 h9 h0 d5 t9;obtain⟨wT,a9⟩:=je wS.drew;have b7:Hid (Bw wS wT):=jz (by rw[a9];exact(ji _ _).drew);have c3:=jz (f4.keep b7);have k2:Hid (Blk wT gl 327 (bV m.g h L)):=jz c3.blk;have n1:=jz (f9.below b7);refine kZ (n:=14) (λW=>Blk W gl 327 (bV m.g h L)) (by rw[<- a9];exact k2) (h:=λI=>?_);rw[<- a9] at I ⊢;clear a9;refine qM 0 (.pointer (some ⟨gl,0,none⟩)) ?_;refine qT 1 (.pointer (some ⟨gl,0,none⟩)) ?_;refine qT 2 (.pointer (some ⟨gl,0,none⟩)) ?_;refine qC 3 (v:=.pointer (some ⟨m.g,0,none⟩)) (λ_ V=>(V.cell 0).trans rfl) ?_;refine qM 4 (.pointer (some ⟨gl,0,none⟩)) ?_;refine qM 5 (.int .i64 so) ?_;refine qT 6 (.pointer (some ⟨gl,0,none⟩)) ?_;refine qT 7 (.pointer (some ⟨gl,1,none⟩)) ?_;refine qT 8 (.pointer (some ⟨gl,1+so*2,none⟩)) ?_;refine qL 9 (cs:=[.int .i64 J,.int .i64 h]) (λ_ V=>f6.out _ V) (rfl) ?_;refine qM 10 (.int .u32 gn) ?_;refine qM 11 (.slice A j.length cap) ?_;refine kF 12 (some 48) ((f1 wT c3.dk n1).mono ?_);rintro e w5 ⟨rfl,R,h4,a0⟩;refine⟨_,rfl,(a0.off I.lt k0.out.1).trans I,λn3=>?_⟩;simp only[jq];refine qT 13 (bK fa) ?_;refine kE (h:=?_);have U:Hid (LK w5 R O gl h L):=jz (c3.disk h4 a0 f2.out.2.2);have g0:Hid (LT gl w m w5 R):=jz ((LT.of_below (aA g2 b7)).trans (LT.of_dt a0));have m4:Hid (R.g=m.g):=jz a0.g;clear h4 a0 I n3;cases fa with
   | some x=>
    obtain⟨t,u,K⟩:=bU x;have HN:=jz (vT (some x) w5 R O gl h L U);have d2:=jz K;rw[K] at HN ⊢;have n6:=cV t u;clear K;go_wp2_with fail
    refine HN.mono ?_;rintro e w6 ⟨rfl,Z,a1⟩;have c2:=jz Z;have d1:=jz (g0.trans a1);clear Z a1;go_wp2_with fail
    go_ret;exact⟨by rw[d7.out];show _=Ending.returned (bK (some x));rw[d2.out];rfl,R,by rw[d7.out];exact c2,d1⟩
   | none=>
    have K:bK none = .nilIface:=rfl;have r2:=oF;rw[K];clear K;have q6:gl<w5.heap.size:=U.blk.lt;go_upto_region 13 with fail
    obtain⟨wa,e1⟩:=je (wsA O J (rec gn toll));obtain⟨wd,b1⟩:=je (wsD O J (rec gn toll));have a4:Hid (iC d h L j=L0 none O L wa wd so gn j.length):=jz (by rw[d7.out,e1,b1]);have n2:Hid (wd.sec.length=O.sec.length):=jz (by rw[b1];exact mI _ _ _);have e8:=jz (λW (hk:DK W R O)=>sH J h gn W R O hk ⟨by have:=a3.out.2;omega,by have:=a3.out.1;omega⟩ HG4 (by have:=f2.out.2.1;omega));rw[<- e1,<- b1] at e8;have q5:Hid (Blk w5 gl 327 (bV R.g h L)):=jz U.blk;have n0:Hid (∀ W,Blk W gl 327 (bV R.g h L)->W.rangeAt gl (1+so*2) [.int .i64 J,.int .i64 h]):=jz (λW hk=>f6.out W (by rw[<- m4.out];exact hk));have k1:=jz U.ap;clear e1 b1;obtain⟨wU,b0⟩:=je w5.drew;have f0:Hid (Bw w5 wU):=jz (by rw[b0];exact(ji _ _).drew);have c4:=jz (U.keep f0);have k3:Hid (Blk wU gl 327 (bV R.g h L)):=jz c4.blk;refine kZ (n:=13) (λW=>Blk W gl 327 (bV R.g h L)) (by rw[<- b0];exact k3) (h:=λI=>?_);rw[<- b0] at I ⊢;clear b0;refine qM 0 (.pointer (some ⟨gl,0,none⟩)) ?_;refine qT 1 (.pointer (some ⟨gl,0,none⟩)) ?_;refine qT 2 (.pointer (some ⟨gl,0,none⟩)) ?_;refine qC 3 (v:=.pointer (some ⟨R.g,0,none⟩)) (λ_ V=>(V.cell 0).trans rfl) ?_;refine qM 4 (.pointer (some ⟨gl,0,none⟩)) ?_;refine qM 5 (.int .i64 so) ?_;refine qT 6 (.pointer (some ⟨gl,0,none⟩)) ?_;refine qT 7 (.pointer (some ⟨gl,1,none⟩)) ?_;refine qT 8 (.pointer (some ⟨gl,1+so*2,none⟩)) ?_;refine qL 9 (cs:=[.int .i64 J,.int .i64 h]) (λ_ V=>n0.out _ V) (rfl) ?_;refine qM 10 (.int .u32 gn) ?_;refine kF 11 (some 65) ((e8 wU c4.dk).mono ?_);rintro e w9 ⟨rfl,m9,h5,a7⟩;refine⟨_,rfl,(a7.off I.lt k1.out.1).trans I,λn4=>?_⟩;simp only[jq];refine qT 12 (bK wa) ?_;refine kE (h:=?_);have D:Hid (LK w9 m9 wd gl h L):=jz (c4.disk h5 a7 n2);have g1:Hid (LT gl w m w9 m9):=jz ((g0.trans (LT.of_below f0)).trans (LT.of_dt a7));clear h5 a7 I n4;cases wa with
    | some x=>
     obtain⟨t,u,K⟩:=bU x;have HN:=jz (vT (some x) w9 m9 wd gl h L D);have d2:=jz K;rw[K] at HN ⊢;have n6:=cV t u;clear K;go_wp2_with fail
     refine HN.mono ?_;rintro e w6 ⟨rfl,Z,a1⟩;have c2:=jz Z;have d1:=jz (g1.trans a1);clear Z a1;go_wp2_with fail
     go_ret;exact⟨by rw[a4.out];show _=Ending.returned (bK (some x));rw[d2.out];rfl,m9,by rw[a4.out];exact c2,d1⟩
    | none=>
     obtain⟨c0,c5,c6,c7,c8,c9⟩:=D.cells;have f5:=D.blk.frozen 5;have f7:=D.blk.frozen 7;have f8:=D.blk.frozen 8;have q7:gl<w9.heap.size:=D.blk.lt;have K:bK none = .nilIface:=rfl;rw[K];clear K;go_wp2_with fail
     go_ret;have HO:=D.ok;refine⟨by rw[a4.out];rfl,m9,?_,((g1.set 5 _).set 7 _).set 8 _⟩;rw[a4.out];exact((D.set (L':={ L with side:=so }) 5 _ rfl ⟨hso2,HO.last,HO.gen,HO.cnt,HO.half⟩).set (L':={ L with side:=so,gen:=gn }) 7 _ rfl ⟨hso2,HO.last,HG4,HO.cnt,HO.half⟩).set 8 _ rfl ⟨hso2,HO.last,HG4,hln,HO.half⟩
  ·obtain rfl:gm=4294967295:=by have:=m2.out;omega
   have HV:Hid (iC d h L j=(some (13,none),d,L)):=jz (by rw[d0.out,jP rfl]);clear d0 f3;go_wp2_with fail
   go_ret;exact⟨by rw[HV.out];rfl,m,by rw[HV.out];exact f4,LT.of_below g2⟩
theorem QC{l:List Wl}{a:Nat}(h:a<l.length):l.getD a []∈l:=by
 rw[jn,List.getElem?_eq_getElem h];exact List.getElem_mem h
theorem QD{l:List Wl}{s:Wl}(h:s∈l):∃ a,a<l.length/\l.getD a []=s:=by
 obtain⟨a,ha,hs⟩:=List.mem_iff_getElem.1 h;exact⟨a,ha,by rw[jn,List.getElem?_eq_getElem ha];exact hs⟩
theorem QE{l m:List Wl}(x:l.length=m.length)(h:∀ a,a<m.length->l.getD a []=m.getD a []):l=m:=by
 apply List.ext_getElem x;intro a h1 j;have:=h a j;rw[jn,jn,List.getElem?_eq_getElem h1,List.getElem?_eq_getElem j] at this;exact this
def Near(sec:List Wl)(W:List (Int×Wl))(sec':List Wl):Prop:=
 sec'.length=sec.length/\∀ a:Nat,a<sec.length->sec'.getD a []=sec.getD a []\/∃ s,((a:Int),s)∈W/\(sec'.getD a []=s\/k7 (sec'.getD a [])=k7 (sec.getD a []))
theorem Near.mono{sec j:List Wl}{W V:List (Int×Wl)}(h:Near sec W j)(hs:∀ p∈W,p∈V):Near sec V j:=
 ⟨h.1,λa ha=>(h.2 a ha).imp id (λ⟨s,h1,x⟩=>⟨s,hs _ h1,x⟩)⟩
theorem Near.refl(sec:List Wl)(W:List (Int×Wl)):Near sec W sec:=⟨rfl,λ_ _=>.inl rfl⟩
theorem Near.nil{sec j:List Wl}(h:Near sec [] j):j=sec:=
 QE h.1 λa ha=>(h.2 a ha).elim id (λ⟨_,h1,_⟩=>by cases h1)
structure Live(sec:List Wl)(h s g:Nat)(es:List cH):Prop where
 s2:s<2
 ln:h+h<=sec.length
 fit:es.length+1<=h
 g4:g<4294967296
 hd:sec.getD (bA h s) []=rec g toll
 en:∀ i (hi:i<es.length),sec.getD (bA h s+1+i) []=cP g es[i]
 eo:∀ q∈es,EntOk q/\cO q=true
 nx:∀ i,es.length<=i->i+1<h->k7 (sec.getD (bA h s+1+i) [])≠g
 ot:k7 (sec.getD (bA h (1-s)) [])<g
theorem L9(sec:List Wl)(f h i:Nat)(hi:i<h)(_:f+h<=sec.length):((sec.drop f).take h).getD i []=sec.getD (f+i) []:=by
 rw[jn,jn,List.getElem?_take_of_lt hi,List.getElem?_drop]
theorem QF{L:List Wl}{g:Nat}(h:(gF (none,[]) L).1=some g):∃ x,L.head? = some x/\oM x=some g:=by
 cases L with
 | nil=>simp[gF] at h
 | cons x L=>
  rw[gF] at h;unfold kH at h;simp only at h;cases hp:oM x with
  | none=>rw[hp] at h;simp at h
  | some g2=>
   rw[hp] at h;simp only[Option.map_some] at h;have D:∀(L:List Wl) (j:List cH),(gF (some g2,j) L).1=some g2:=λL j=>by
    obtain⟨more,I,_⟩:=sI g2 L j;rw[I]
   rw[D] at h;exact⟨x,rfl,hp.trans h⟩
theorem MA{d:DiskD}(hd:d.down=false)(j:d.opn=[])(i:Nat)(hi:i<d.sec.length):rdS d i=d.sec.getD i []:=by
 unfold rdS rdD jJ;rw[hd,j];simp;omega
theorem D0{d:DiskD}(hd:d.down=false)(j:d.opn=[])(K:Nat)(ht:∀ s∈d.sec,k7 s<=K):∀ k,k<=d.sec.length->cI d k<=K
 | 0,_=>j0 _
 | k+1,hk=>by
  unfold cI;have h1:=D0 hd j K ht k (by omega);rw[MA hd j k (by omega)];have x:=ht _ (QC (show k<d.sec.length by omega));omega
def vW(c:Nat):Wl:=(rec 1 toll).take c++zsec.drop c
structure Fresh(sec:List Wl)(h:Nat):Prop where
 h1:1<=h
 ln:h+h<=sec.length
 ex:∃ c,c<64/\sec.getD 0 []=vW c
 zs:∀ a,0<a->a<sec.length->sec.getD a []=zsec
theorem MB:(List.range 64).all (λc=>(oM (vW c)).isNone && (k7 (vW c) == 0))=true:=by kernel_rfl
theorem pF{c:Nat}(h:c<64):oM (vW c)=none/\k7 (vW c)=0:=by
 have:=List.all_eq_true.1 MB c (List.mem_range.2 h);simpa using this
def Good(P:Nat->List cH->Prop)(h:Nat)(sec:List Wl):Prop:=(∃ s g es,Live sec h s g es/\P g es)\/(Fresh sec h/\P 0 [])
theorem Good.imp{P D:Nat->List cH->Prop}{h:Nat}{sec:List Wl}(k:Good P h sec)(I:∀ g j,P g j->D g j):Good D h sec:=
 Or.imp (λ⟨s,g,j,h1,x⟩=>⟨s,g,j,h1,I _ _ x⟩) (λ⟨h1,x⟩=>⟨h1,I _ _ x⟩) k
structure SA(P:Nat->List cH->Prop)(N K:Nat)(d:DiskD)(L:LogD)(es:List cH):Prop where
 brk:L.brk=false
 opn:d.opn=[]
 len:d.sec.length=N
 lv:Live d.sec (N/2) L.side L.gen es
 cnt:L.cnt=es.length
 p:P L.gen es
 tg:∀ s∈d.sec,k7 s<=max L.last L.gen
 k:max L.last L.gen<=K
structure SB(P:Nat->List cH->Prop)(N K:Nat)(d:DiskD):Prop where
 nd:(d.opn.map (·.1)).Nodup
 len:d.sec.length=N
 tg:∀ s∈d.sec,k7 s<=K
 tw:∀ p∈d.opn,k7 p.2<=K
 gd:∀ cl,Good P (N/2) (lJ d.sec d.opn cl)
theorem SB.imp{P x:Nat->List cH->Prop}{N K j:Nat}{d:DiskD}(h:SB P N K d)(J:∀ g D,P g D->x g D)(I:K<=j):SB x N j d:=
 ⟨h.nd,h.len,λs hs=>jm (h.tg s hs) I,λp O=>jm (h.tw p O) I,λcl=>(h.gd cl).imp J⟩
theorem SA.imp{P D:Nat->List cH->Prop}{N K x:Nat}{d:DiskD}{L:LogD}{j:List cH}(h:SA P N K d L j)(J:P L.gen j->D L.gen j)(I:K<=x):SA D N x d L j:=
 ⟨h.brk,h.opn,h.len,h.lv,h.cnt,J h.p,h.tg,jm h.k I⟩
theorem SA.disk{P:Nat->List cH->Prop}{N K:Nat}{d d':DiskD}{L:LogD}{j:List cH}(h:SA P N K d L j)(hs:d'.sec=d.sec)(x:d'.opn=d.opn):SA P N K d' L j:=
 ⟨h.brk,x.trans h.opn,by rw[hs];exact h.len,by rw[hs];exact h.lv,h.cnt,h.p,by rw[hs];exact h.tg,h.k⟩
theorem SB.disk{P:Nat->List cH->Prop}{N K:Nat}{d d':DiskD}(h:SB P N K d)(hs:d'.sec=d.sec)(j:d'.opn=d.opn):SB P N K d':=
 ⟨by rw[j];exact h.nd,by rw[hs];exact h.len,by rw[hs];exact h.tg,by rw[j];exact h.tw,by rw[hs,j];exact h.gd⟩
theorem YV{h s:Nat}(hs:s<2):(bA h s=0/\bA h (1-s)=h)\/(bA h s=h/\bA h (1-s)=0):=by
 have:s=0\/s=1:=by omega
 rcases this with rfl|rfl
 ·exact .inl ⟨rfl,rfl⟩
 ·exact .inr ⟨rfl,rfl⟩
theorem vX:vW 0=zsec:=by unfold vW;simp
theorem QG:k7 zsec=0:=by rw[<- vX];exact(pF (by omega)).2
theorem Fresh.tag{sec:List Wl}{h:Nat}(f:Fresh sec h):∀ s∈sec,k7 s<=0:=by
 intro s hs;obtain⟨a,ha,rfl⟩:=QD hs;obtain⟨c,j,x⟩:=f.ex
 match a with
 | 0=>rw[x,(pF j).2];exact ja _
 | a+1=>rw[f.zs _ (by omega) ha,QG];exact ja _
theorem Fresh.scan{sec:List Wl}{h:Nat}(f:Fresh sec h)(s:Nat)(hs:s<2):(gF (none,[]) ((sec.drop (bA h s)).take h)).1=none:=by
 cases hg:(gF (none,[]) ((sec.drop (bA h s)).take h)).1 with
 | none=>rfl
 | some g=>
  obtain⟨x,R,D⟩:=QF hg;have h1:=f.h1;have O:=f.ln;have I:=YV (h:=h) hs;have j:x=sec.getD (bA h s) []:=by
   have:=L9 sec (bA h s) h 0 (by omega) (by omega);rw[Nat.add_zero] at this;rw[<- this,jn,<- List.head?_eq_getElem?,R];rfl
  rcases I with ⟨e,_⟩|⟨e,_⟩
  ·obtain⟨c,J,K⟩:=f.ex;rw[e,K] at j;rw[j,(pF J).1] at D;cases D
  ·rw[e,f.zs h (by omega) (by omega)] at j;rw[j,LC] at D;cases D
theorem GN{d:DiskD}(h:∀ s,s<2->(gF (none,[]) ((d.sec.drop (bA (d.sec.length/2) s)).take (d.sec.length/2))).1=none):(p8 d).1=none:=by
 unfold p8;generalize d.sec.length/2=f at *
 show(lD 1 (eP d (bA f 1) f) (lD 0 (eP d (bA f 0) f) (none,_))).1=none;rw[kJ (k:=0) (S:=eP d (bA f 0) f) (h 0 (by omega)),kJ (k:=1) (S:=eP d (bA f 1) f) (h 1 (by omega))]
theorem MC(n:Nat)(j:2<=n):Fresh (List.replicate n zsec) (n/2):=by
 refine⟨by omega,by rw[List.length_replicate];omega,⟨0,by omega,?_⟩,λa _ ha=>?_⟩
 ·rw[vX];rw[jn,List.getElem?_replicate,jP (by omega)];rfl
 ·rw[List.length_replicate] at ha;rw[jn,List.getElem?_replicate,jP ha];rfl
theorem JV:aD (cN none):=⟨by decide,by decide⟩
theorem nO(c:Int)(o:Option Int)(h:aD c):aD (cN (some (c,o))):=h
theorem sK(d:DiskD)(a:Int):aD (cN (fN d a)):=by
 unfold fN;split
 ·exact⟨by decide,by decide⟩
 ·split
  ·exact⟨by decide,by decide⟩
  ·split
   ·exact⟨by decide,by decide⟩
   ·split
    ·exact⟨by decide,by decide⟩
    ·exact nO 15 _ ⟨by decide,by decide⟩
theorem pG(d:DiskD):aD (cN (jX d)):=by
 unfold jX;split
 ·exact⟨by decide,by decide⟩
 ·split
  ·exact⟨by decide,by decide⟩
  ·split
   ·exact⟨by decide,by decide⟩
   ·exact⟨by decide,by decide⟩
theorem vY(d:DiskD)(a:Int)(s:Wl):aD (cN (wsA d a s)):=by
 unfold wsA;split
 ·rename_i x h;rw[<- h];exact sK d a
 ·exact pG _
theorem MD(d:DiskD)(f z p:Int)(g:Nat)(q:cH):aD (cN (mT d f z p g q)):=by
 unfold mT;split
 ·exact⟨by decide,by decide⟩
 ·split
  ·exact⟨by decide,by decide⟩
  ·split
   ·exact vY _ _ _
   ·exact⟨by decide,by decide⟩
theorem vZ:∀(L:List Wl) (d:DiskD) (a:Int),aD (cN (iX d a L).1)
 | [],d,a=>pG d
 | s :: L,d,a=>by
  unfold iX;split
  ·rename_i x h;show aD (cN (some x));rw[<- h];exact sK d a
  ·exact vZ L _ _
theorem GO(d:DiskD)(f z:Int)(g:Nat)(l:List cH):aD (cN (dE d f z g l).1):=by
 unfold dE;split
 ·exact nO 13 _ ⟨by decide,by decide⟩
 ·split
  ·exact vZ _ _ _
  ·exact nO 15 _ ⟨by decide,by decide⟩
theorem zF(d:DiskD)(h:Nat)(L:LogD)(q:cH):aD (cN (xS d h L q)):=by
 unfold xS;split
 ·exact nO 11 _ ⟨by decide,by decide⟩
 ·exact MD _ _ _ _ _ _
theorem ME(d:DiskD)(h:Nat)(L:LogD)(D:List cH):aD (cN (iC d h L D).1):=by
 unfold iC;split
 ·exact nO 11 _ ⟨by decide,by decide⟩
 ·split
  ·exact nO 13 _ ⟨by decide,by decide⟩
  ·unfold L8;have h1:=GO d (bA h (1-L.side)) h (max L.last L.gen+1) D;have I:=vY (dE d (bA h (1-L.side)) h (max L.last L.gen+1) D).2 (bA h (1-L.side)) (rec (max L.last L.gen+1) toll);unfold L0;split
   ·rename_i x j;rw[j] at h1;exact h1
   ·split
    ·rename_i x j;rw[j] at I;exact I
    ·exact JV
theorem GP(d:DiskD):aD (cN (cC d).1):=by
 unfold cC;split
 ·exact nO 15 _ ⟨by decide,by decide⟩
 ·split
  ·rename_i x j;show aD (cN (some x));rw[<- j];exact pG d
  ·unfold iY;split
   ·exact JV
   ·split
    ·exact nO 13 _ ⟨by decide,by decide⟩
    ·split
     ·rename_i x j;show aD (cN (some x));rw[<- j];exact vY _ _ _
     ·exact JV
section
variable {d : DiskD}
theorem UF{d:DiskD}(h:d.steps<=d.room)(j:Nat)(L:LogD)(q:cH):(rL d j L q).room<=d.room+3:=by
 unfold rL;split
 ·omega
 ·unfold oN;split
  ·omega
  ·split
   ·omega
   ·split
    ·exact(GD h _ _).2.1
    ·omega
theorem UG{d:DiskD}(h:d.steps<=d.room)(j:Nat)(L:LogD)(x:List cH):(iC d j L x).2.1.room<=d.room+2*x.length+4:=by
 unfold iC;split
 ·show d.room<=_;omega
 ·split
  ·show d.room<=_;omega
  ·unfold L8;have h1:=DJ h (bA j (1-L.side)) j (max L.last L.gen+1) x;have D:=GD h1.1 (bA j (1-L.side)) (rec (max L.last L.gen+1) toll);have I:=h1.2.1;have J:=D.2.1;unfold L0;split
   ·show(dE d (bA j (1-L.side)) j (max L.last L.gen+1) x).2.room<=_;omega
   ·split
    ·show(wsD (dE d (bA j (1-L.side)) j (max L.last L.gen+1) x).2 _ _).room<=_;omega
    ·show(wsD (dE d (bA j (1-L.side)) j (max L.last L.gen+1) x).2 _ _).room<=_;omega
theorem QH{d:DiskD}(h:d.steps<=d.room):(cC d).2.1.room<=d.room+4:=by
 have h1:=vQ h;have x:=h1.2.1;unfold cC;split
 ·show d.room<=_;omega
 ·split
  ·show(cG d).room<=_;omega
  ·unfold iY;have j:=GD h1.1 0 (rec (cI (cG d) (cG d).sec.length+1) toll);have D:=j.2.1;split
   ·show(cG d).room<=_;omega
   ·split
    ·show(cG d).room<=_;omega
    ·split
     ·show(wsD (cG d) 0 _).room<=_;omega
     ·show(wsD (cG d) 0 _).room<=_;omega
end
theorem QI(d:DiskD)(h:Nat)(L:LogD)(q:cH):(rL d h L q).sec.length=d.sec.length:=by
 unfold rL;split
 ·rfl
 ·exact DQ _ _ _ _ _ _
theorem QJ(d:DiskD)(h:Nat)(L:LogD)(j:List cH):(iC d h L j).2.1.sec.length=d.sec.length:=by
 unfold iC;split
 ·rfl
 ·split
  ·rfl
  ·unfold L8 L0;split
   ·exact rM _ _ _ _ _
   ·split
    ·show(wsD _ _ _).sec.length=_;rw[mI,rM]
    ·show(wsD _ _ _).sec.length=_;rw[mI,rM]
theorem MF(d:DiskD):(cC d).2.1.sec.length=d.sec.length:=by
 unfold cC;split
 ·rfl
 ·split
  ·exact eV d
  ·unfold iY;split
   ·exact eV d
   ·split
    ·exact eV d
    ·split
     ·show(wsD _ _ _).sec.length=_;rw[mI,eV]
     ·show(wsD _ _ _).sec.length=_;rw[mI,eV]
section
variable {d : DiskD}
theorem JW(d:DiskD)(n:Int)(cl:Wl):((planF d n).room<=d.room+1/\(planF d n).sec.length=d.sec.length)/\(planC d n cl).room<=d.room+1/\(planC d n cl).sec.length=d.sec.length:=by
 unfold planF planC;constructor
 ·split
  ·exact⟨by omega,rfl⟩
  ·exact⟨ja _,rfl⟩
 ·split
  ·exact⟨by omega,rfl⟩
  ·exact⟨ja _,rfl⟩
end
end
section
open Go.RowKit
attribute [local irreducible] wpQuiet wpAnyH
structure CT(F:List Nat)(w:Wd)(m:DiskM)(w':Wd)(m':DiskM):Prop where
 g:m'.g=m.g
 fo:Fo (F++aX m) w w'
 sub:∀ k∈aX m',k∈aX m\/w.heap.size<=k
 cv:∀ k v,m'.cv k=some v->m.cv k=some v\/∀ b,v.ownBlock=some b->w.heap.size<=b
def Far(m:DiskM)(F:List Nat)(b:Nat):Prop:=Apart m b/\b ∉ F
section
variable {F : List Nat} {w w' w'' : Wd} {m m' m'' : DiskM} {d d' : DiskD}
theorem CT.of_lt{gl:Nat}(h:LT gl w m w' m')(hg:gl∈F\/w.heap.size<=gl):CT F w m w' m':=
 ⟨h.g,⟨h.fo.os,h.fo.tape,h.fo.output,h.fo.size,λk D x=>h.fo.block k D (λI=>by
  rcases List.mem_cons.1 I with h1|h1
  ·rcases hg with j|j
   ·exact x (List.mem_append.2 (.inl (h1 ▸ j)))
   ·omega
  ·exact x (List.mem_append.2 (.inr h1)))⟩,h.sub,h.cv⟩
theorem CT.of_dt(h:DT w m w' m'):CT F w m w' m':=⟨h.g,h.fo.wide (λ_ j=>List.mem_append.2 (.inr j)),h.sub,h.cv⟩
theorem CT.of_below(h:Bw w w'):CT F w m w' m:=CT.of_dt (DT.of_below h)
theorem CT.of_off{b:Nat}(h:Off b w w')(hb:b∈F):CT F w m w' m:=
 ⟨rfl,⟨h.os,h.tape,h.output,h.size,λk j x=>h.block k j (λe=>x (List.mem_append.2 (.inl (e ▸ hb))))⟩,λ_ h=>.inl h,λ_ _ h=>.inl h⟩
theorem CT.trans(h:CT F w m w' m')(k:CT F w' m' w'' m''):CT F w m w'' m'':=
 ⟨k.g.trans h.g,h.fo.trans k.fo (λx j=>by
  rcases List.mem_append.1 j with h1|h1
  ·exact .inl (List.mem_append.2 (.inl h1))
  ·exact(h.sub x h1).imp (λh=>List.mem_append.2 (.inr h)) id),λx j=>by
  rcases k.sub x j with h1|h1
  ·exact h.sub x h1
  ·exact .inr (jm h.fo.size h1),λx v j=>by
  rcases k.cv x v j with h1|h1
  ·exact h.cv x v h1
  ·exact .inr (λb e=>jm h.fo.size (h1 b e))⟩
theorem CT.block(h:CT F w m w' m'){b:Nat}(hb:b<w.heap.size)(j:Far m F b):w'.heap[b]? = w.heap[b]?:=
 h.fo.block b hb (λx=>(List.mem_append.1 x).elim j.2 j.1.1)
theorem CT.apart(h:CT F w m w' m'){b:Nat}(hb:b<w.heap.size)(j:Apart m b):Apart m' b:=
 ⟨λD=>by
  rcases h.sub b D with h1|h1
  ·exact j.1 h1
  ·omega,λk x v I e=>by
  rcases h.cv k v I with h1|h1
  ·exact j.2 k x v h1 e
  ·have:=h1 b e;omega⟩
theorem CT.far(h:CT F w m w' m'){b:Nat}(hb:b<w.heap.size)(j:Far m F b):Far m' F b:=⟨h.apart hb j.1,j.2⟩
theorem CT.below{B:Nat}(h:CT F w m w' m')(x:∀ k∈aX m,B<=k)(hg:∀ k∈F,B<=k)(j:B<=w.heap.size):Below B w w':=
 h.fo.below (λk D=>(List.mem_append.1 D).elim (hg k) (x k)) j
theorem CT.le{B:Nat}(h:CT F w m w' m')(j:∀ k∈aX m,B<=k)(D:B<=w.heap.size):∀ k∈aX m',B<=k:=λk x=>by
 rcases h.sub k x with h1|h1
 ·exact j k h1
 ·omega
theorem CT.wide{G:List Nat}(h:CT F w m w' m')(hs:∀ x∈F,x∈G\/w.heap.size<=x):CT G w m w' m':=
 ⟨h.g,⟨h.fo.os,h.fo.tape,h.fo.output,h.fo.size,λk I D=>h.fo.block k I (λJ=>by
  rcases List.mem_append.1 J with h1|h1
  ·rcases hs k h1 with j|j
   ·exact D (List.mem_append.2 (.inl j))
   ·omega
  ·exact D (List.mem_append.2 (.inr h1)))⟩,h.sub,h.cv⟩
theorem St.ct{w0:Wd}(h:St w0 w m d)(j:DK w' m' d')(ht:CT F w m w' m')(hg:∀ k∈F,w0.heap.size<=k):St w0 w' m' d':=
 ⟨j,ht.le h.ft h.bel.size,h.bel.trans (ht.below h.ft hg h.bel.size)⟩
theorem Blk.ct{g:Nat}{t:TypeId}{cs:Wa}(h:Blk w g t cs)(ht:CT F w m w' m')(j:Far m F g):Blk w' g t cs:=(ht.block h.lt j).trans h
end
theorem DK.offO{w w':Wd}{m:DiskM}{d:DiskD}{b:Nat}(h:DK w m d)(D:Off b w w')(ha:Apart m b):DK w' m d where
 blk:=(D.block m.g h.blk.lt (λe=>ha.1 (e ▸ iR m))).trans h.blk
 sec:=aP h.sec λx J=>D.block x (h.sec.lt x J).2 (λe=>ha.1 (e ▸ pO J))
 opn:=aP h.opn λx J=>D.block x (h.opn.lt x J).2 (λe=>ha.1 (e ▸ tH J))
 last:=h.last.of_block (D.block _ h.last.lt (λe=>ha.1 (e ▸ nX m)))
 fl:=h.fl.of_block (D.block _ h.fl.lt (λe=>ha.1 (e ▸ nY m)))
 cr:=h.cr.of_block (D.block _ h.cr.lt (λe=>ha.1 (e ▸ l9 m)))
 nd:=h.nd
 flv:=h.flv
 crv:=λk hi=>by
  have:=h.crv k hi;cases hc:d.cr k with
  | none=>rw[hc] at this;exact this
  | some cs=>
   rw[hc] at this;obtain⟨v,h1,R,O⟩:=this;refine⟨v,h1,?_,λb hb=>⟨(O b hb).1,jp (O b hb).2 D.size⟩⟩;have K:=ha.2 k hi v h1;obtain⟨A,cap,rfl,Z,q2,J⟩:=R;refine⟨A,cap,rfl,Z,q2,λV=>?_⟩;obtain⟨g,o,rfl,I⟩:=J V;exact⟨g,o,rfl,λj u U=>D.cell (I j u U) (λe=>K (by rw[<- e];rfl))⟩
 ok:=h.ok
structure CacheD where
 L:LogD
 E:EL
 til:Int
def cacheC(gl gi:Nat)(t:Int):Wa:=#[.pointer (some ⟨gl,0,none⟩),.pointer (some ⟨gi,0,none⟩),.int .i64 t]
def XK(w:Wd)(gi bi n:Nat)(E:EL):Prop:=∃ f c,IX w gi bi n f c/\Lists f E
theorem XK.keep{w w':Wd}{gi bi n:Nat}{E:EL}(h:XK w gi bi n E)(hb:Bw w w'):XK w' gi bi n E:=by
 obtain⟨f,c,h1,j⟩:=h;exact⟨f,c,h1.keep hb,j⟩
theorem XK.same{w w':Wd}{gi bi n:Nat}{E:EL}(h:XK w gi bi n E)(h1:w'.heap[gi]? = w.heap[gi]?)(j:w'.heap[bi]? = w.heap[bi]?):XK w' gi bi n E:=by
 obtain⟨f,c,⟨a,b,e⟩,x⟩:=h;exact⟨f,c,⟨(World.cell?_of_block (a:=⟨gi,0,none⟩) h1).trans a,b,e.of_block j⟩,x⟩
theorem XK.len{w:Wd}{gi bi n:Nat}{E:EL}(h:XK w gi bi n E):E.length<=n:=by
 obtain⟨f,c,⟨_,_,e⟩,j⟩:=h;have:=j.count e;have:=e.le;omega
theorem XK.lt{w:Wd}{gi bi n:Nat}{E:EL}(h:XK w gi bi n E):gi<w.heap.size/\bi<w.heap.size:=by
 obtain⟨f,c,⟨a,_,e⟩,_⟩:=h;exact⟨dV a,e.lt⟩
theorem XK.wl{w:Wd}{gi bi n:Nat}{E:EL}(h:XK w gi bi n E):WL E:=by
 obtain⟨f,c,_,h⟩:=h;exact⟨f,h⟩
theorem XK.mono{w:Wd}{gi bi n n':Nat}{E:EL}(h:XK w gi bi n E)(x:n<=n'):XK w gi bi n' E:=by
 obtain⟨f,c,h1,j⟩:=h;exact⟨f,c,h1.mono x,j⟩
structure CK(w:Wd)(m:DiskM)(d:DiskD)(gc gl gi bi h n:Nat)(C:CacheD):Prop where
 lk:LK w m d gl h C.L
 blk:Blk w gc 229 (cacheC gl gi C.til)
 ix:XK w gi bi n C.E
 ac:Apart m gc
 ai:Apart m gi
 ab:Apart m bi
 ne:gc≠gl/\gi≠gl/\bi≠gl/\gc≠bi/\gi≠bi
 i64:aD C.til
theorem CK.keep{w w':Wd}{m:DiskM}{d:DiskD}{gc gl gi bi h n:Nat}{C:CacheD}(k:CK w m d gc gl gi bi h n C)(hb:Bw w w'):CK w' m d gc gl gi bi h n C:=
 ⟨k.lk.keep hb,k.blk.keep hb,k.ix.keep hb,k.ac,k.ai,k.ab,k.ne,k.i64⟩
theorem CK.log{w w':Wd}{m m':DiskM}{d d':DiskD}{gc gl gi bi h n:Nat}{C:CacheD}{L':LogD}(k:CK w m d gc gl gi bi h n C)(D:LK w' m' d' gl h L')(ht:LT gl w m w' m'):CK w' m' d' gc gl gi bi h n ⟨L',C.E,C.til⟩:=
 have j:CT [gl] w m w' m':=CT.of_lt ht (.inl (List.mem_singleton.2 rfl));have x:∀ b,b≠gl->Apart m b->Far m [gl] b:=λb hb ha=>⟨ha,λI=>hb (List.mem_singleton.1 I)⟩
 have lt:=k.ix.lt
 ⟨D,k.blk.ct j (x _ k.ne.1 k.ac),k.ix.same (j.block lt.1 (x _ k.ne.2.1 k.ai)) (j.block lt.2 (x _ k.ne.2.2.1 k.ab)),j.apart k.blk.lt k.ac,j.apart lt.1 k.ai,j.apart lt.2 k.ab,k.ne,k.i64⟩
theorem CK.disk{w w':Wd}{m m':DiskM}{d d':DiskD}{gc gl gi bi h n:Nat}{C:CacheD}(k:CK w m d gc gl gi bi h n C)(j:DK w' m' d')(ht:DT w m w' m')(x:d'.sec.length=d.sec.length):CK w' m' d' gc gl gi bi h n C:=
 k.log (L':=C.L) (k.lk.disk j ht x) (LT.of_dt ht)
theorem CK.index{w w':Wd}{m:DiskM}{d:DiskD}{gc gl gi bi h n n':Nat}{C:CacheD}{D:EL}(k:CK w m d gc gl gi bi h n C)(x:Off bi w w')(O:XK w' gi bi n' D):CK w' m d gc gl gi bi h n' ⟨C.L,D,C.til⟩:=
 have h1:∀ j,j<w.heap.size->j≠bi->w'.heap[j]? = w.heap[j]?:=x.block;have I:Fo [bi] w w':=⟨x.os,x.tape,x.output,x.size,λj J K=>h1 j J (λe=>K (List.mem_singleton.2 e))⟩
 ⟨⟨k.lk.dk.offO x k.ab,(h1 gl k.lk.blk.lt (λe=>k.ne.2.2.1 e.symm)).trans k.lk.blk,k.lk.ap,k.lk.ok⟩,(h1 gc k.blk.lt k.ne.2.2.2.1).trans k.blk,O,k.ac,k.ai,k.ab,k.ne,k.i64⟩
end
section
open Go.RowKit
attribute [local irreducible] wpQuiet wpAnyH
theorem JX(w:Wd)(gi bi n:Nat)(E:EL)(now:Int)(h:XK w gi bi n E)(K:n<=1000):
  Wc 119 #[.pointer (some ⟨gi,0,none⟩),.int .i64 now] w λe w'=>∃ v,e = .returned v/\Sn w' 33 v (bS E now).length ((bS E now).flatMap aN)/\Bw w w'/\∀ b,v.ownBlock=some b->w.heap.size<=b/\b<w'.heap.size:=by
 obtain⟨f,c,O,j⟩:=h;refine(PF gi bi n c f now w O K).mono ?_;rintro e w' ⟨v,L,rfl,h1,x,D,I,_,J⟩;have:L=bS E now:=(Lists.of_live x D j.exp).eq (j.live now);subst this;exact⟨v,rfl,h1,I,J⟩
theorem JY(w:Wd)(gi bi n:Nat)(E:EL)(now:Int)(h:XK w gi bi n E)(D:n<=1000):
  Wc 152 #[.pointer (some ⟨gi,0,none⟩),.int .i64 now] w λe w'=>∃ k:Nat,e = .returned (.int .i64 k)/\XK w' gi bi n (bS E now)/\Off bi w w':=by
 obtain⟨f,c,I,x⟩:=h;refine(OS gi bi n c f now w I D).mono ?_;rintro e w' ⟨k,J,rfl,_,h1,j⟩;exact⟨k,rfl,⟨_,_,h1,x.live now⟩,j⟩
theorem QK(w:Wd)(gi bi n:Nat)(E:EL)(q:cH)(h:XK w gi bi n E)(j:EntOk q)(J:n<=1000):
  Wc 206 #[.pointer (some ⟨gi,0,none⟩),.agg (aN q).toArray] w λe w'=>∃ b,e = .returned (.bool b)/\XK w' gi bi (n+1) (eZ E q).1/\Off bi w w':=by
 obtain⟨f,c,I,D⟩:=h;refine(JK gi bi n c f q.1 q.2 w I j.dig j.exp (by unfold maxLen;omega)).mono ?_;rintro e w' ⟨rfl,h1,x⟩;exact⟨_,rfl,⟨_,_,h1,(rC D j).1⟩,x⟩
theorem W4(w:Wd)(gi bi n:Nat)(E:EL)(d:Wl)(now:Int)(h:XK w gi bi n E)(hd:DigOk d):
  Wc 209 #[.pointer (some ⟨gi,0,none⟩),.agg (u8s d).toArray,.int .i64 now] w (Rt w (.bool (PA E d now))):=by
 obtain⟨f,c,x,j⟩:=h;rw[j.hasq hd now];exact S8 gi bi n c f d now w x hd
theorem W8(v:Value)(l:EL)(w:Wd)(hs:Sn w 33 v l.length (l.flatMap aN))(j:∀ p∈l,EntOk p)(J:l.length<=1000):
  Wc 150 #[v] w λe w'=>∃ gi bi,e = .returned (.pointer (some ⟨gi,0,none⟩))/\XK w' gi bi l.length (fZ l)/\w.heap.size<=gi/\w.heap.size<=bi/\gi≠bi/\Bw w w':=by
 refine(TB v l w hs j J).mono ?_;rintro e w' ⟨g,b,rfl,h1,x,D,I⟩;exact⟨g,b,rfl,⟨_,_,h1,C8 l j⟩,x,D,h1.2.1,I⟩
section
variable {w : Wd} {gc gl gi : Nat} {til : Int}
theorem bT(h:Blk w gc 229 (cacheC gl gi til)):w.cell? ⟨gc,0,none⟩=some (.pointer (some ⟨gl,0,none⟩))/\w.cell? ⟨gc,1,none⟩=some (.pointer (some ⟨gi,0,none⟩))/\w.cell? ⟨gc,2,none⟩=some (.int .i64 til):=
 ⟨(h.cell 0).trans rfl,(h.cell 1).trans rfl,(h.cell 2).trans rfl⟩
end
section
variable {w : Wd} {m : DiskM} {d : DiskD} {gc gl gi bi h n : Nat} {C : CacheD}
theorem W9(now:Int)(k:CK w m d gc gl gi bi h n C)(O:n<=1000):
  Wc 79 #[.pointer (some ⟨gc,0,none⟩),.int .i64 now] w λe w'=>∃ v,e = .returned v/\Sn w' 33 v (bS C.E now).length ((bS C.E now).flatMap aN)/\Bw w w'/\∀ b,v.ownBlock=some b->w.heap.size<=b/\b<w'.heap.size:=by
 obtain⟨_,c1,_⟩:=bT k.blk;have K:=jz (JX w gi bi n C.E now k.ix O);clear k;go_enter func79,ntmps79
 go_wp2_with fail
 refine K.mono ?_;rintro e w' ⟨v,rfl,h1,j,x⟩;have D:=jz h1;have I:=jz j;have J:=jz x;clear h1 j x;go_wp2_with fail
 go_ret;exact⟨v,rfl,D,I,J⟩
theorem AY(k:CK w m d gc gl gi bi h n C):
  Wc 154 #[.pointer (some ⟨gc,0,none⟩)] w λe w'=>e = .returned (.int .i64 C.til)/\w'=w:=by
 obtain⟨_,_,j⟩:=bT k.blk;clear k;go_enter func154,ntmps154
 go_wp2_with fail
 go_ret;exact⟨rfl,rfl⟩
theorem GQ(k:CK w m d gc gl gi bi h n C):
  Wc 211 #[.pointer (some ⟨gc,0,none⟩)] w λe w'=>e = .returned (.int .i64 C.L.cnt)/\w'=w:=by
 obtain⟨c0,_,_⟩:=bT k.blk;have x:=jz (LQ w gl m.g h C.L k.lk.blk);clear k;go_enter func211,ntmps211
 go_wp2_with fail
 refine x.mono ?_;rintro e w' ⟨rfl,j⟩;rw[j];clear j w';go_wp2_with fail
 go_ret;exact⟨rfl,rfl⟩
theorem GR(k:CK w m d gc gl gi bi h n C):
  Wc 212 #[.pointer (some ⟨gc,0,none⟩)] w (Rt w (.int .i64 (h-1:Nat))):=by
 obtain⟨c0,_,_⟩:=bT k.blk;have x:=jz (PU w gl m.g h C.L k.lk.blk k.lk.ok.side (LogOk.h_le k.lk));clear k;go_enter func212,ntmps212
 go_wp2_with fail
 refine x.mono ?_;rintro e w' ⟨rfl,hb⟩;have j:=jz hb;clear hb;go_wp2_with fail
 go_ret;exact⟨rfl,j⟩
theorem QL(k:CK w m d gc gl gi bi h n C):
  Wc 210 #[.pointer (some ⟨gc,0,none⟩)] w λe w'=>e = .returned (.bool C.L.brk)/\w'=w:=by
 obtain⟨c0,_,_⟩:=bT k.blk;have x:=jz (GE w gl m.g h C.L k.lk.blk);clear k;go_enter func210,ntmps210
 go_wp2_with fail
 refine x.mono ?_;rintro e w' ⟨rfl,j⟩;rw[j];clear j w';go_wp2_with fail
 go_ret;exact⟨rfl,rfl⟩
end
def xU(x:Ans):Int:=if cN x=12 then 0 else 9
theorem wG(x:Ans)(w:Wd)(R:aD (cN x)):Wc 213 #[bK x] w (Rt w (.int .i64 (xU x))):=by
 obtain⟨v,O⟩:=je (bK x);have I:=jz (nD x w);rw[<- O] at I ⊢;have D:Hid (xU x=if cN x=12 then 0 else 9):=jz rfl;obtain⟨a,ha⟩:=je (xU x);rw[<- ha] at D ⊢;obtain⟨c,K⟩:=je (cN x);rw[<- K] at I D R;clear O K ha;rcases jb (c == 12) with j|j
 all_goals
  go_enter func213,ntmps213
  go_wp2_with (go_at_call 34;refine I.mono ?_;rintro e U ⟨rfl,hb⟩;have J:=jz hb;clear hb)
  go_ret;have h1:=D.out;simp only[beq_iff_eq,beq_eq_false_iff_ne,ne_eq] at j
  first
   | (rw[jP j] at h1;rw[h1];exact⟨rfl,J⟩)
   | (rw[jQ j] at h1;rw[h1];exact⟨rfl,J⟩)
end
section
open Go.RowKit
attribute [local irreducible] wpQuiet wpAnyH
def gI(d:DiskD)(h:Nat)(C:CacheD)(now:Int):Ans×DiskD×CacheD:=match (iC d h C.L (bS C.E now)).1 with
 | none=>(none,(iC d h C.L (bS C.E now)).2.1,⟨(iC d h C.L (bS C.E now)).2.2,bS C.E now,C.til⟩)
 | some x=>(some x,(iC d h C.L (bS C.E now)).2.1,⟨(iC d h C.L (bS C.E now)).2.2,C.E,C.til⟩)
def wH(d:DiskD)(h:Nat)(C:CacheD)(q:cH):Int×DiskD×CacheD:=if h-1<=C.L.cnt then (9,d,C) else match xS d h C.L q with
 | none=>(10,rL d h C.L q,⟨AV d h C.L q,(eZ C.E q).1,C.til⟩)
 | some x=>(xU (some x),rL d h C.L q,⟨AV d h C.L q,C.E,C.til⟩)
def oO(d:DiskD)(h:Nat)(C:CacheD)(q:cH)(now:Int):Int×DiskD×CacheD:=
 if PA C.E q.1 now then (8,d,C) else if C.L.brk then (9,d,C) else if q.2<0 then (9,d,C) else if 4611686018427387904<q.2 then (9,d,C) else
 if h-1<=C.L.cnt then (match (gI d h C now).1 with
  | some x=>(xU (some x),(gI d h C now).2.1,(gI d h C now).2.2)
  | none=>wH (gI d h C now).2.1 h (gI d h C now).2.2 q) else wH d h C q
theorem D1(d:DiskD)(h:Nat)(C:CacheD)(now:Int):aD (cN (gI d h C now).1):=by
 have h1:=ME d h C.L (bS C.E now);unfold gI;split
 ·exact JV
 ·rename_i x j;rw[j] at h1;exact h1
theorem CK.up{w:Wd}{m:DiskM}{d:DiskD}{gc gl gi bi h n n':Nat}{C:CacheD}(k:CK w m d gc gl gi bi h n C)(j:n<=n'):CK w m d gc gl gi bi h n' C:=⟨k.lk,k.blk,k.ix.mono j,k.ac,k.ai,k.ab,k.ne,k.i64⟩
theorem rS(now:Int)(w:Wd)(m:DiskM)(d:DiskD)(gc gl gi bi h n:Nat)(C:CacheD)(k:CK w m d gc gl gi bi h n C)(hn:n<=1000)(hr:d.room+30000<=100000):
  Wc 114 #[.pointer (some ⟨gc,0,none⟩),.int .i64 now] w λe w'=>e = .returned (bK (gI d h C now).1)/\∃ m',CK w' m' (gI d h C now).2.1 gc gl gi bi h n (gI d h C now).2.2/\CT [gl,bi] w m w' m':=by
 have HK:=jz k;have hE:=k.ix.len;have c7:=yR C.E now;have a6:∀ q∈bS C.E now,EntOk q:=(k.ix.wl.live now).ok;obtain⟨til,K⟩:=je C.til;obtain⟨ra,U⟩:=je ((iC d h C.L (bS C.E now)).1);obtain⟨rd,V⟩:=je ((iC d h C.L (bS C.E now)).2.1);obtain⟨rl,Z⟩:=je ((iC d h C.L (bS C.E now)).2.2);have HV:Hid (gI d h C now=match (generalizing:=false) ra with
  | none=>(none,rd,⟨rl,bS C.E now,C.til⟩)
  | some x=>(some x,rd,⟨rl,C.E,C.til⟩)):=jz (by subst U V Z;rfl)
 have c2:Hid (∀ W M A cap,LK W M d gl h C.L->Sn W 33 (.slice A (bS C.E now).length cap) (bS C.E now).length ((bS C.E now).flatMap aN)->Wc 175 #[.pointer (some ⟨gl,0,none⟩),.slice A (bS C.E now).length cap] W λe w'=>e = .returned (bK ra)/\∃ m',LK w' m' rd gl h rl/\LT gl W M w' m'):=jz (by rw[U,V,Z];exact λW M A cap hk hs=>DZ _ A cap W M d gl h C.L hk hs a6 (by omega) (by omega));have b7:=jz (λW (kk:XK W gi bi n C.E)=>JX W gi bi n C.E now kk hn);clear U V Z k a6 hE c7;have a5:=jz K.symm;go_enter func114,ntmps114
 go_upto_region 3 with fail
 clear K;rw[show C.til=til from a5.out] at HV;have a3:Hid (CK w m d gc gl gi bi h n ⟨C.L,C.E,til⟩):=jz (by rw[<- a5.out];exact HK);replace HK:=a3;clear a3;obtain⟨wS,I⟩:=je w.drew;have HD:Hid (Bw w wS):=jz (by rw[I];exact(ji _ _).drew);have D:=jz (HK.keep HD);refine kZ (n:=12) (λW=>Blk W gc 229 (cacheC gl gi til)) (by rw[<- I];exact D.blk) (h:=λhH=>?_);rw[<- I] at hH ⊢;clear I;refine qM 0 (.pointer (some ⟨gc,0,none⟩)) ?_;refine qT 1 (.pointer (some ⟨gc,0,none⟩)) ?_;refine qT 2 (.pointer (some ⟨gc,0,none⟩)) ?_;refine qC 3 (v:=.pointer (some ⟨gl,0,none⟩)) (λ_ hX=>(bT hX).1) ?_;refine qM 4 (.pointer (some ⟨gc,0,none⟩)) ?_;refine qT 5 (.pointer (some ⟨gc,0,none⟩)) ?_;refine qT 6 (.pointer (some ⟨gc,1,none⟩)) ?_;refine qC 7 (v:=.pointer (some ⟨gi,0,none⟩)) (λ_ hX=>(bT hX).2.1) ?_;refine qM 8 (.int .i64 now) ?_;refine kF 9 (some 18) ((b7 wS D.ix).mono ?_);rintro e w5 ⟨v5,rfl,a0,O,_⟩;obtain⟨A5,c5,rfl,_⟩:=id a0;have a2:=jz (D.keep O);have c3:=jz a0;have a9:=jz (aA HD O);clear a0;refine⟨_,rfl,D.blk.keep O,λhH=>?_⟩;simp only[jq];refine kF 10 (some 19) ((c2 w5 m A5 c5 a2.lk c3).mono ?_);rintro e w6 ⟨rfl,m6,J,a1⟩;have j:=jz (a2.log J a1);have a4:Hid (CT [gl,bi] w m w6 m6):=jz ((CT.of_below a9).trans (CT.of_lt a1 (.inl (by simp))));clear J a1;refine⟨_,rfl,j.blk,λhH=>?_⟩;simp only[jq];refine qT 11 (bK ra) ?_;refine kE (h:=?_);cases ra with
 | some x=>
  obtain⟨t,u,hv⟩:=bU x;have c6:=jz hv;rw[hv];have c9:=cV t u;clear hv;go_wp2_with fail
  go_ret;rw[HV.out];exact⟨by rw[<- c6.out];rfl,m6,j,a4⟩
 | none=>
  have a7:bK none = .nilIface:=rfl;rw[a7];obtain⟨_,c1,_⟩:=bT j.blk;have b0:=jz (JY w6 gi bi n C.E now j.ix hn);clear a7;go_wp2_with fail
  refine b0.mono ?_;rintro e w7 ⟨kd,rfl,a8,R⟩;have b1:=jz (j.index R a8);have c4:=jz (a4.trans (CT.of_off (F:=[gl,bi]) R (by simp)));clear a8 R;go_wp2_with fail
  go_ret;rw[HV.out];exact⟨rfl,m6,b1,c4⟩
theorem AZ{d:DiskD}(h:d.steps<=d.room)(j:Nat)(C:CacheD)(now:Int):(gI d j C now).2.1.room<=d.room+2*C.E.length+4/\(gI d j C now).2.1.sec.length=d.sec.length:=by
 have h1:=UG h j C.L (bS C.E now);have x:=QJ d j C.L (bS C.E now);have D:=yR C.E now;unfold gI;split
 ·exact⟨by show(iC d j C.L (bS C.E now)).2.1.room<=_;omega,x⟩
 ·exact⟨by show(iC d j C.L (bS C.E now)).2.1.room<=_;omega,x⟩
theorem QM(q:cH)(now:Int)(w:Wd)(m:DiskM)(d:DiskD)(gc gl gi bi h n:Nat)(C:CacheD)(k:CK w m d gc gl gi bi h n C)(hq:EntOk q)(hn:n+1<=1000)(hr:d.room+40000<=100000):
  Wc 156 #[.pointer (some ⟨gc,0,none⟩),.agg (aN q).toArray,.int .i64 now] w λe w'=>e = .returned (.int .i64 (oO d h C q now).1)/\∃ m',CK w' m' (oO d h C q now).2.1 gc gl gi bi h (n+1) (oO d h C q now).2.2/\CT [gl,bi] w m w' m':=by
 have HQ:=jz hq;have r3:=aZ q hq;have f0:=jz r3;have q1:Hid ((u8s q.1).length=32):=jz (by simp[u8s,hq.dig.len]);obtain⟨w1,f7⟩:=je (w.alloc (.cells (aN q).toArray 172));obtain⟨gq,k0⟩:=je w.heap.size;have h0:Hid (Blk w1 gq 172 (aN q).toArray):=jz (by rw[f7,k0];exact Blk.new _ _ _);have k4:Hid (Bw w w1):=jz (by rw[f7];exact aG _ _);obtain⟨til,R⟩:=je C.til;have s0:=jz R.symm;have q3:Hid (CK w m d gc gl gi bi h n ⟨C.L,C.E,til⟩):=jz (by rw[R];exact k);have g1:=jz (q3.keep k4);have a5:Hid (Far m [gl,bi] gq):=jz ⟨Apart.fresh k.lk.dk (by omega),λhm=>by
  have h1:=k.lk.blk.lt
  have h2:=k.ix.lt.2
  simp at hm
  omega⟩
 have m5:Hid (gq≠bi):=jz (λe=>a5.out.2 (by simp[e]));have m3:=jz (λW (kk:XK W gi bi n C.E)=>W4 W gi bi n C.E q.1 now kk hq.dig);obtain⟨hv,k1⟩:=je (PA C.E q.1 now);rw[<- k1] at m3;obtain⟨xa,f8⟩:=je ((gI d h C now).1);obtain⟨xd,f9⟩:=je ((gI d h C now).2.1);obtain⟨xC,k3⟩:=je ((gI d h C now).2.2);have r1:=AZ k.lk.dk.ok.st h C now;have r0:=k.ix.len;have q7:Hid (xd.room+3<=100000):=jz (by rw[f9];omega);have q6:Hid (aD (cN xa)):=jz (by rw[f8];exact D1 d h C now);have q0:Hid (∀ W M,CK W M d gc gl gi bi h n ⟨C.L,C.E,til⟩->Wc 114 #[.pointer (some ⟨gc,0,none⟩),.int .i64 now] W λe w'=>e = .returned (bK xa)/\∃ m',CK w' m' xd gc gl gi bi h n xC/\CT [gl,bi] W M w' m'):=jz (λW M kk=>by rw[f8,f9,k3];rw[R] at kk;exact rS now W M d gc gl gi bi h n C kk (by omega) (by omega));obtain⟨pa,a1⟩:=je (xS d h C.L q);obtain⟨pd,b0⟩:=je (rL d h C.L q);obtain⟨pl,b1⟩:=je (AV d h C.L q);have e0:Hid (∀ W M,LK W M d gl h C.L->Wc 214 #[.pointer (some ⟨gl,0,none⟩),.agg (aN q).toArray] W λe w'=>e = .returned (bK pa)/\∃ m',LK w' m' pd gl h pl/\LT gl W M w' m'):=jz (by rw[a1,b0,b1];exact λW M kk=>vU q W M d gl h C.L kk hq (by omega));have d7:Hid (aD (cN pa)):=jz (by rw[a1];exact zF d h C.L q);have Z:Hid (oO d h C q now=if hv then (8,d,C) else if C.L.brk then (9,d,C) else if q.2<0 then (9,d,C) else if 4611686018427387904<q.2 then (9,d,C) else
  if h-1<=C.L.cnt then (match (generalizing:=false) xa with
  | some x=>(xU (some x),xd,xC)
  | none=>wH xd h xC q) else (if h-1<=C.L.cnt then (9,d,C) else match (generalizing:=false) pa with
   | none=>(10,pd,⟨pl,(eZ C.E q).1,til⟩)
   | some x=>(xU (some x),pd,⟨pl,C.E,til⟩))):=jz (by subst f8 f9 k3 k1 a1 b0 b1 R;rfl)
 have e8:Hid (C=⟨C.L,C.E,til⟩):=jz (by rw[R]);clear f8 f9 k3 k1 a1 b0 b1 R r1 r0 k;go_enter func156,ntmps156
 go_upto_region 3 with fail
 rw[<- f7,<- k0];clear f7 k0;obtain⟨wS,I⟩:=je w1.drew;have V:Hid (Bw w1 wS):=jz (by rw[I];exact(ji _ _).drew);have D:=jz (g1.keep V);have K:=jz (h0.keep V);refine kZ (n:=8) (λW=>(Blk W gc 229 (cacheC gl gi til)/\Blk W gq 172 (aN q).toArray)) (by rw[<- I];exact⟨D.blk,K⟩) (h:=λhH=>?_);rw[<- I] at hH ⊢;clear I;refine qM 0 (.pointer (some ⟨gc,0,none⟩)) ?_;refine qT 1 (.pointer (some ⟨gc,0,none⟩)) ?_;refine qT 2 (.pointer (some ⟨gc,1,none⟩)) ?_;refine qC 3 (v:=.pointer (some ⟨gi,0,none⟩)) (λ_ hX=>(bT hX.1).2.1) ?_;refine qT 4 (.pointer (some ⟨gq,0,none⟩)) ?_;refine qL 5 (cs:=u8s q.1) (λ_ hX=>(yM hX.2.range HQ).1) (q1) ?_;refine qM 6 (.int .i64 now) ?_;refine kF 7 (some 18) ((m3 wS D.ix).mono ?_);rintro e w5 ⟨rfl,d1⟩;have U:=jz (D.keep d1);have c5:=jz (K.keep d1);have e1:=jz (aA k4 (aA V d1));refine⟨_,rfl,⟨D.blk.keep d1,K.keep d1⟩,λhH=>?_⟩;simp only[jq];refine kE (h:=?_);clear D K V;cases hv with
 | true=>
  go_wp2_with fail
  go_ret;rw[Z.out];exact⟨rfl,m,by show CK _ m d gc gl gi bi h (n+1) C;rw[e8.out];exact U.up (Nat.le_succ _),CT.of_below e1⟩
 | false=>
 have a9:Hid (CT [gl,bi] w m w5 m):=jz (CT.of_below e1);obtain⟨r5,c32⟩:=yM c5.range HQ.out;replace c32:w5.cell? ⟨gq,32,none⟩=some (.int .i64 q.2):=c32;have a3:=jz (QL U);obtain⟨br,n1⟩:=je C.L.brk;rw[<- n1] at Z a3;clear n1 r5;cases br with
 | true=>
  go_wp2_with (refine a3.mono ?_;rintro e wq ⟨rfl,j⟩;rw[j];clear j wq)
  go_ret;rw[Z.out];exact⟨rfl,m,by show CK _ m d gc gl gi bi h (n+1) C;rw[e8.out];exact U.up (Nat.le_succ _),a9⟩
 | false=>
 obtain⟨t,ht⟩:=je q.2;rw[<- ht] at Z c32;clear ht;rcases jb (decide (t<0)) with t1|t1
 ·go_wp2_with (refine a3.mono ?_;rintro e wq ⟨rfl,j⟩;rw[j];clear j wq)
  go_ret;have h1:=of_decide_eq_true t1;rw[Z.out,jQ (by simp),jQ (by simp),jP h1];exact⟨rfl,m,by show CK _ m d gc gl gi bi h (n+1) C;rw[e8.out];exact U.up (Nat.le_succ _),a9⟩
 rcases jb (decide (4611686018427387904<t)) with t2|t2
 ·go_wp2_with (refine a3.mono ?_;rintro e wq ⟨rfl,j⟩;rw[j];clear j wq)
  go_ret;have h1:=of_decide_eq_false t1;have h2:=of_decide_eq_true t2;rw[Z.out,jQ (by simp),jQ (by simp),jQ h1,jP h2];exact⟨rfl,m,by show CK _ m d gc gl gi bi h (n+1) C;rw[e8.out];exact U.up (Nat.le_succ _),a9⟩
 have c4:=Z.out;rw[jQ (by simp),jQ (by simp),jQ (of_decide_eq_false t1),jQ (of_decide_eq_false t2)] at c4;replace Z:=jz c4;clear c4;have d0:=jz (GQ U);have c7:=jz (GR U);obtain⟨rm,k2⟩:∃ r:Nat,r=h-1:=⟨_,rfl⟩;obtain⟨cn,h9⟩:∃ c:Nat,c=C.L.cnt:=⟨_,rfl⟩;rw[<- k2] at c7 Z;rw[<- h9] at d0 Z;have f2:=jz k2;have n6:=jz h9;clear k2 h9;rcases jo cn rm with s3|s1
 ·have hi:(cn:Int)<(rm:Int):=by omega
  rw[jQ (by omega),jQ (by omega)] at Z;go_wp2_with fail
  refine a3.mono ?_;rintro e wq ⟨rfl,j⟩;rw[j];clear j wq;go_wp2_with fail
  refine d0.mono ?_;rintro e wq ⟨rfl,j⟩;rw[j];clear j wq;go_wp2_with fail
  refine c7.mono ?_;rintro e w7 ⟨rfl,O⟩;have HK7a:=jz (U.keep O);have HQ7a:=jz (c5.keep O);have HT7a:=jz (a9.trans (CT.of_below O));have h7:=jz (GQ HK7a);have h4:=jz (GR HK7a);rw[show C.L.cnt=cn from n6.symm] at h7;rw[<- f2.out] at h4;clear O d0 c7 a3 c32;go_wp2_with fail
  refine h7.mono ?_;rintro e wq ⟨rfl,j⟩;rw[j];clear j wq;go_wp2_with fail
  refine h4.mono ?_;rintro e w8 ⟨rfl,f5⟩;have HK8a:=jz (HK7a.keep f5);have HQ8a:=jz (HQ7a.keep f5);have HT8a:=jz (HT7a.trans (CT.of_below f5));clear f5 h7 h4 U c5 a9 HK7a HQ7a HT7a g1 h0 e1;go_upto_region 13 with fail
  have g0:Hid (Far m [gl] gq):=jz (⟨a5.out.1,λhm=>a5.out.2 (by simp at hm ⊢;exact .inl hm)⟩);obtain⟨wS,I⟩:=je w8.drew;have V:Hid (Bw w8 wS):=jz (by rw[I];exact(ji _ _).drew);have D:=jz (HK8a.keep V);have K:=jz (HQ8a.keep V);refine kZ (n:=7) (λW=>(Blk W gc 229 (cacheC gl gi til)/\Blk W gq 172 (aN q).toArray)) (by rw[<- I];exact⟨D.blk,K⟩) (h:=λhH=>?_);rw[<- I] at hH ⊢;clear I;refine qM 0 (.pointer (some ⟨gc,0,none⟩)) ?_;refine qT 1 (.pointer (some ⟨gc,0,none⟩)) ?_;refine qT 2 (.pointer (some ⟨gc,0,none⟩)) ?_;refine qC 3 (v:=.pointer (some ⟨gl,0,none⟩)) (λ_ hX=>(bT hX.1).1) ?_;refine qL 4 (cs:=aN q) (λ_ hX=>hX.2.range) (f0) ?_;refine kF 5 (some 53) ((e0 wS m D.lk).mono ?_);rintro e w6 ⟨rfl,m6,a7,a2⟩;have a8:=jz (D.log a7 a2);have c9:Hid (CT [gl,bi] w m w6 m6):=jz (HT8a.trans ((CT.of_below V).trans (CT.of_lt a2 (.inl (by simp)))));have c6:=jz (K.ct (CT.of_lt (F:=[gl]) a2 (.inl (by simp))) g0);clear a7 a2;refine⟨_,rfl,⟨a8.blk,c6⟩,λhH=>?_⟩;simp only[jq];refine qT 6 (bK pa) ?_;refine kE (h:=?_);clear D K V;cases pa with
  | some x=>
   obtain⟨t,u,hv⟩:=bU x;have a4:=jz (wG (some x) w6 (d7));rw[hv] at a4 ⊢;have n4:=cV t u;clear hv;go_wp2_with fail
   refine a4.mono ?_;rintro e w7 ⟨rfl,O⟩;have g2:=jz (a8.keep O);have c3:=jz (c9.trans (CT.of_below O));clear O;go_wp2_with fail
   go_ret;rw[Z.out];exact⟨rfl,m6,g2.up (Nat.le_succ _),c3⟩
  | none=>
   have d2:bK none = .nilIface:=rfl;rw[d2];go_upto_region 16 with fail
   obtain⟨wS,I⟩:=je w6.drew;have V:Hid (Bw w6 wS):=jz (by rw[I];exact(ji _ _).drew);have D:=jz (a8.keep V);have K:=jz (c6.keep V);refine kZ (n:=6) (λW=>(Blk W gc 229 (cacheC gl gi til)/\Blk W gq 172 (aN q).toArray)) (by rw[<- I];exact⟨D.blk,K⟩) (h:=λhH=>?_);rw[<- I] at hH ⊢;clear I;refine qM 0 (.pointer (some ⟨gc,0,none⟩)) ?_;refine qT 1 (.pointer (some ⟨gc,0,none⟩)) ?_;refine qT 2 (.pointer (some ⟨gc,1,none⟩)) ?_;refine qC 3 (v:=.pointer (some ⟨gi,0,none⟩)) (λ_ hX=>(bT hX.1).2.1) ?_;refine qL 4 (cs:=aN q) (λ_ hX=>hX.2.range) (f0) ?_;refine kF 5 (some 63) ((QK wS gi bi n _ q D.ix HQ (by omega)).mono ?_);rintro e w8 ⟨pb,rfl,d5,a0⟩;have g3:=jz (D.index a0 d5);have h5:=jz (c9.trans ((CT.of_below V).trans (CT.of_off (F:=[gl,bi]) a0 (by simp))));have a6:=jz a0;clear d5 a0;refine⟨_,rfl,⟨a6.blk D.blk D.ne.2.2.2.1,a6.blk K m5⟩,λhH=>?_⟩;simp only[jq];refine kE (h:=?_);go_wp2_with fail
   go_ret;rw[Z.out];exact⟨rfl,m6,g3,h5⟩
 ·have hi:(rm:Int)<=(cn:Int):=by omega
  rw[jP (by omega)] at Z;go_wp2_with fail
  refine a3.mono ?_;rintro e wq ⟨rfl,j⟩;rw[j];clear j wq;go_wp2_with fail
  refine d0.mono ?_;rintro e wq ⟨rfl,j⟩;rw[j];clear j wq;go_wp2_with fail
  refine c7.mono ?_;rintro e w7 ⟨rfl,O⟩;have m2:=jz (q0 w7 m (U.keep O));have h3:=jz (c5.keep O);have c3:=jz (a9.trans (CT.of_below O));have n2:gq<w7.heap.size:=h3.lt;clear O d0 c7 a3 c32;go_wp2_with fail
  refine m2.mono ?_;rintro e w9 ⟨rfl,m9,n3,f6⟩;have b7:=jz n3;have f3:=jz (c3.trans f6);have m4:=jz (h3.ct f6 (a5));have q2:=jz (f6.far n2 a5);clear n3 f6 U c5 a9 g1 h0 e1 n2 m2 c3 h3;cases xa with
  | some x=>
   obtain⟨ty,u,hv⟩:=bU x;have a4:=jz (wG (some x) w9 q6);rw[hv] at a4 ⊢;have n4:=cV ty u;clear hv;go_wp2_with fail
   refine a4.mono ?_;rintro e s4 ⟨rfl,J⟩;have q4:=jz (b7.keep J);have q5:=jz (f3.trans (CT.of_below J));clear J;go_wp2_with fail
   go_ret;rw[Z.out];exact⟨rfl,m9,q4.up (Nat.le_succ _),q5⟩
  | none=>
   have d2:bK none = .nilIface:=rfl;rw[d2];obtain⟨c2,h8⟩:∃ c:Nat,c=xC.L.cnt:=⟨_,rfl⟩;have f4:=jz (GQ b7);have f1:=jz (GR b7);have c4:Hid (oO d h C q now=wH xd h xC q):=jz Z.out;replace Z:=c4;clear c4 e0 d7 pa pd pl;rw[<- h8] at f4;rw[<- f2.out] at f1;have m1:=jz h8;clear h8;rcases jo c2 rm with r7|r6
   ·have r2:(c2:Int)<(rm:Int):=by omega
    obtain⟨pa,a1⟩:=je (xS xd h xC.L q);obtain⟨pd,b0⟩:=je (rL xd h xC.L q);obtain⟨pl,b1⟩:=je (AV xd h xC.L q);obtain⟨til,R⟩:=je xC.til;have e0:Hid (∀ W M,LK W M xd gl h xC.L->Wc 214 #[.pointer (some ⟨gl,0,none⟩),.agg (aN q).toArray] W λe w'=>e = .returned (bK pa)/\∃ m',LK w' m' pd gl h pl/\LT gl W M w' m'):=jz (by rw[a1,b0,b1];exact λW M kk=>vU q W M xd gl h xC.L kk HQ q7);have d7:Hid (aD (cN pa)):=jz (by rw[a1];exact zF xd h xC.L q);have n0:Hid (oO d h C q now=match (generalizing:=false) pa with
     | none=>(10,pd,⟨pl,(eZ xC.E q).1,til⟩)
     | some x=>(xU (some x),pd,⟨pl,xC.E,til⟩)):=jz (by
      rw[Z.out]
      unfold wH
      rw[<- m1.out,<- f2.out,jQ (by omega),a1,b0,b1,R])
    replace Z:=n0;have HKc:Hid (CK w9 m9 xd gc gl gi bi h n ⟨xC.L,xC.E,til⟩):=jz (by rw[R];exact b7);have a5:=q2;clear n0 a1 b0 b1 R;go_wp2_with fail
    refine f4.mono ?_;rintro e wq ⟨rfl,j⟩;rw[j];clear j wq;go_wp2_with fail
    refine f1.mono ?_;rintro e wB ⟨rfl,J⟩;have g8:=jz (HKc.keep J);have m8:=jz (m4.keep J);have h6:=jz (f3.trans (CT.of_below J));clear J f4 f1 b7 HKc m4 f3;go_upto_region 13 with fail
    have g0:Hid (Far m9 [gl] gq):=jz (⟨a5.out.1,λhm=>a5.out.2 (by simp at hm ⊢;exact .inl hm)⟩);obtain⟨wS,I⟩:=je wB.drew;have V:Hid (Bw wB wS):=jz (by rw[I];exact(ji _ _).drew);have D:=jz (g8.keep V);have K:=jz (m8.keep V);refine kZ (n:=7) (λW=>(Blk W gc 229 (cacheC gl gi til)/\Blk W gq 172 (aN q).toArray)) (by rw[<- I];exact⟨D.blk,K⟩) (h:=λhH=>?_);rw[<- I] at hH ⊢;clear I;refine qM 0 (.pointer (some ⟨gc,0,none⟩)) ?_;refine qT 1 (.pointer (some ⟨gc,0,none⟩)) ?_;refine qT 2 (.pointer (some ⟨gc,0,none⟩)) ?_;refine qC 3 (v:=.pointer (some ⟨gl,0,none⟩)) (λ_ hX=>(bT hX.1).1) ?_;refine qL 4 (cs:=aN q) (λ_ hX=>hX.2.range) (f0) ?_;refine kF 5 (some 53) ((e0 wS m9 D.lk).mono ?_);rintro e w6 ⟨rfl,m6,a7,a2⟩;have a8:=jz (D.log a7 a2);have c9:Hid (CT [gl,bi] w m w6 m6):=jz (h6.trans ((CT.of_below V).trans (CT.of_lt a2 (.inl (by simp)))));have c6:=jz (K.ct (CT.of_lt (F:=[gl]) a2 (.inl (by simp))) g0);clear a7 a2;refine⟨_,rfl,⟨a8.blk,c6⟩,λhH=>?_⟩;simp only[jq];refine qT 6 (bK pa) ?_;refine kE (h:=?_);clear D K V;cases pa with
    | some x=>
     obtain⟨t,u,hv⟩:=bU x;have a4:=jz (wG (some x) w6 (d7));rw[hv] at a4 ⊢;have n4:=cV t u;clear hv;go_wp2_with fail
     refine a4.mono ?_;rintro e w7 ⟨rfl,O⟩;have g2:=jz (a8.keep O);have c3:=jz (c9.trans (CT.of_below O));clear O;go_wp2_with fail
     go_ret;rw[Z.out];exact⟨rfl,m6,g2.up (Nat.le_succ _),c3⟩
    | none=>
     have d2:bK none = .nilIface:=rfl;rw[d2];go_upto_region 16 with fail
     obtain⟨wS,I⟩:=je w6.drew;have V:Hid (Bw w6 wS):=jz (by rw[I];exact(ji _ _).drew);have D:=jz (a8.keep V);have K:=jz (c6.keep V);refine kZ (n:=6) (λW=>(Blk W gc 229 (cacheC gl gi til)/\Blk W gq 172 (aN q).toArray)) (by rw[<- I];exact⟨D.blk,K⟩) (h:=λhH=>?_);rw[<- I] at hH ⊢;clear I;refine qM 0 (.pointer (some ⟨gc,0,none⟩)) ?_;refine qT 1 (.pointer (some ⟨gc,0,none⟩)) ?_;refine qT 2 (.pointer (some ⟨gc,1,none⟩)) ?_;refine qC 3 (v:=.pointer (some ⟨gi,0,none⟩)) (λ_ hX=>(bT hX.1).2.1) ?_;refine qL 4 (cs:=aN q) (λ_ hX=>hX.2.range) (f0) ?_;refine kF 5 (some 63) ((QK wS gi bi n _ q D.ix HQ (by omega)).mono ?_);rintro e w8 ⟨pb,rfl,d5,a0⟩;have g3:=jz (D.index a0 d5);have h5:=jz (c9.trans ((CT.of_below V).trans (CT.of_off (F:=[gl,bi]) a0 (by simp))));have a6:=jz a0;clear d5 a0;refine⟨_,rfl,⟨a6.blk D.blk D.ne.2.2.2.1,a6.blk K m5⟩,λhH=>?_⟩;simp only[jq];refine kE (h:=?_);go_wp2_with fail
     go_ret;rw[Z.out];exact⟨rfl,m6,g3,h5⟩
   ·have r2:(rm:Int)<=(c2:Int):=by omega
    go_wp2_with fail
    refine f4.mono ?_;rintro e wq ⟨rfl,j⟩;rw[j];clear j wq;go_wp2_with fail
    refine f1.mono ?_;rintro e wB ⟨rfl,J⟩;have g8:=jz (b7.keep J);have h6:=jz (f3.trans (CT.of_below J));clear J;go_wp2_with fail
    go_ret;rw[Z.out];unfold wH;rw[<- m1.out,<- f2.out,jP (by omega)];exact⟨rfl,m9,g8.up (Nat.le_succ _),h6⟩
end
end Go.Proofs.YtiaigidbcljblaaGreatDoor
