import Derived.Test.YtjjlaipkkdncfaaGreatDoorMV23
import Derived.Test.YtjjlaipkkdncfaaGreatDoorMV21
import Derived.Test.YtjjlaipkkdncfaaGreatDoorMV22
set_option linter.unusedVariables false
set_option linter.unusedSimpArgs false
set_option maxRecDepth 100000
set_option maxHeartbeats 40000000
namespace Go.Proofs.YtjjlaipkkdncfaaGreatDoor
open Go.Proofs.Tryz
section
open Go.RowKit
attribute [local irreducible] wpQuiet wpAnyH
def KI(fa:Ans)(fd:DiskD)(L:LogD)(wa:Ans)(wd:DiskD)(so g n:Nat):Ans×DiskD×LogD:=match fa with
 | some x=>(some x,fd,nZ L x.1)
 | none=>match wa with
  | some x=>(some x,wd,nZ L x.1)
  | none=>(none,wd,{ L with side:=so,gen:=g,cnt:=n })
def KJ(d:DiskD)(h:Nat)(L:LogD)(qs:List b8)(g:Nat):Ans×DiskD×LogD:=
 KI (dE d (bD h (1-L.side)) h g qs).1 (dE d (bD h (1-L.side)) h g qs).2 L (wsA (dE d (bD h (1-L.side)) h g qs).2 (bD h (1-L.side)) (rec g toll)) (wsD (dE d (bD h (1-L.side)) h g qs).2 (bD h (1-L.side)) (rec g toll)) (1-L.side) g qs.length
def gH(d:DiskD)(h:Nat)(L:LogD)(qs:List b8):Ans×DiskD×LogD:=if L.brk then (some (11,none),d,L) else if max L.last L.gen=4294967295 then (some (13,none),d,L) else KJ d h L qs (max L.last L.gen+1)
theorem DD(qs:List b8)(A:Option Addr)(cap:Nat)(w:Wd)(m:DiskM)(d:DiskD)(gl h:Nat)(L:LogD)(k:LK w m d gl h L)(hs:Sn w 33 (.slice A qs.length cap) qs.length (qs.flatMap aO))(g0:∀ q∈qs,EntOk q)(hln:qs.length<=10000)(hr:d.room+30000<=100000):
  Wc 139 #[.pointer (some ⟨gl,0,none⟩),.slice A qs.length cap] w λe w'=>e = .returned (bV (gH d h L qs).1)/\∃ m',LK w' m' (gH d h L qs).2.1 gl h (gH d h L qs).2.2/\LT gl w m w' m':=by
 have hh:=LogOk.h_le k;have HK:=jz k;have HS:=jz hs;have h9:=jz g0;have HB:Hid (Blk w gl 141 (bU m.g h L)):=jz k.blk;obtain⟨c0,c5,c6,c7,c8,c9⟩:=k.cells;have n2:=k.blk.lt;clear hs g0;cases hb:L.brk with
 | true=>
  have HV:Hid (gH d h L qs=(some (11,none),d,L)):=jz (by unfold gH;rw[jP hb]);rw[hb] at c9;clear hb k;go_enter func139,ntmps139
  go_wp2_with fail
  go_ret;exact⟨by rw[HV.out];rfl,m,by rw[HV.out];exact HK,LT.of_below (ji _ _)⟩
 | false=>
  rw[hb] at c9;obtain⟨R,f1⟩:=je (max L.last L.gen);have f0:max (L.last:Int) L.gen=R:=by omega
  have e2:=jz f0;have h6:Hid (R<4294967296):=jz (by have h1:=k.ok.last;have h2:=k.ok.gen;omega);have c3:Hid (gH d h L qs=if R=4294967295 then (some (13,none),d,L) else KJ d h L qs (R+1)):=jz (by unfold gH;rw[hb,f1];rfl);have n4:=k.ok.side;have HC:Hid (∀ W,Blk W gl 141 (bU m.g h L)->W.cell? ⟨gl,6,none⟩=some (.int .u32 L.last)/\W.cell? ⟨gl,7,none⟩=some (.int .u32 L.gen)):=jz (λW hk=>⟨(hk.cell 6).trans rfl,(hk.cell 7).trans rfl⟩);clear hb f1 k f0;go_enter func139,ntmps139
  go_upto_region 5 with fail
  obtain⟨wS,a9⟩:=je w.drew;have a3:Hid (Bw w wS):=jz (by rw[a9];exact(ji _ _).drew);refine kZ (n:=10) (λW=>Blk W gl 141 (bU m.g h L)) (by rw[<- a9];exact HB.keep a3) (h:=λI=>?_);rw[<- a9] at I ⊢;clear a9;refine qM 0 (.pointer (some ⟨gl,0,none⟩)) ?_;refine qT 1 (.pointer (some ⟨gl,0,none⟩)) ?_;refine qT 2 (.pointer (some ⟨gl,6,none⟩)) ?_;refine qC 3 (v:=.int .u32 L.last) (λ_ Z=>(HC _ Z).1) ?_;refine qM 4 (.pointer (some ⟨gl,0,none⟩)) ?_;refine qT 5 (.pointer (some ⟨gl,0,none⟩)) ?_;refine qT 6 (.pointer (some ⟨gl,7,none⟩)) ?_;refine qC 7 (v:=.int .u32 L.gen) (λ_ Z=>(HC _ Z).2) ?_;refine qT 8 (.int .u32 R) ?_ (hy:=λW hW=>by unfold execOp;rw[<- e2.out];go_simp);refine qT 9 (.int .u32 R) ?_;refine kE (h:=?_);obtain⟨so,g2⟩:∃ so,so=1-L.side:=⟨_,rfl⟩;have g1:(1:Int)-L.side=so:=by omega
  have k0:=jz g1;have hso2:so<2:=by omega
  have m1:(L.side:Int)<2:=by omega
  have k7:(0:Int)<=L.side:=by omega
  have e8:Hid (Bw w wS):=a3;have e3:Hid (LK wS m d gl h L):=jz (HK.keep a3);have e5:=jz (HS.below a3);have d5:wS.cell? ⟨gl,5,none⟩=some (.int .i64 L.side):=(I.cell 5).trans rfl;have m4:Hid (Blk wS gl 141 (bU m.g h L)):=jz I;have n1:gl<wS.heap.size:=I.lt;clear c0 c5 c6 c7 c8 c9 g1 I;rcases jo R 4294967295 with f9|f9
  ·have t9:((R:Int) == 4294967295)=false:=by rw[beq_eq_false_iff_ne];omega
   obtain⟨gn,f3⟩:=je (R+1);have h4:Hid ((R:Int)+1=gn):=jz (by omega);have HG4:Hid (gn<4294967296):=jz (by omega);have h7:Hid ((R:Int)<4294967295):=jz (by omega);have HV:Hid (gH d h L qs=KJ d h L qs gn):=jz (by rw[c3.out,jQ (by omega),f3]);clear f9 f3;go_upto_region 8 with fail
   have f2:=h7.out;go_upto_region 10 with fail
   rw[h4.out,k0.out];obtain⟨J,a7⟩:=je (bD h so);have a4:Hid ((J:Int)<=100000/\0<=(J:Int)):=jz (by rw[a7];exact⟨(FD hh).2,(FD (h:=h) (s:=so) hh).1⟩);have e4:Hid (∀ W,Blk W gl 141 (bU m.g h L)->W.rangeAt gl (1+so*2) [.int .i64 J,.int .i64 h]):=jz (λW hk=>by rw[a7];exact pH hk so hso2);have m2:(0:Int)<=so:=by omega
   have m3:(so:Int)<2:=by omega
   obtain⟨fa,d2⟩:=je ((dE d J h gn qs).1);obtain⟨O,a6⟩:=je ((dE d J h gn qs).2);have d1:Hid (gH d h L qs=KI fa O L (wsA O J (rec gn toll)) (wsD O J (rec gn toll)) so gn qs.length):=jz (by rw[HV.out,d2,a6,a7,g2];rfl);have e1:Hid (Bd (2*qs.length+1) d O):=jz (by rw[a6];exact C0 HK.dk.ok.st _ _ _ _);have h5:Hid (h<=2048):=jz (by have h1:=HK.ok.half;have h2:=HK.dk.ok.few;omega);have g3:=jz HK.ap;have e0:=jz (λW (hk:DK W m d) (hs:Sn W 33 (.slice A qs.length cap) qs.length (qs.flatMap aO))=>JP J h gn qs A cap W m d hk hs h9 ⟨a4.out.2,a4.out.1⟩ ⟨⟨by omega,by omega⟩,by have:=h5.out;omega⟩ HG4 (by omega) (by omega));rw[<- d2,<- a6] at e0;clear d2 a6 a7 g2 f2 d5 t9;obtain⟨wT,b0⟩:=je wS.drew;have b3:Hid (Bw wS wT):=jz (by rw[b0];exact(ji _ _).drew);have b9:=jz (e3.keep b3);have h0:Hid (Blk wT gl 141 (bU m.g h L)):=jz b9.blk;have k2:=jz (e5.below b3);refine kZ (n:=14) (λW=>Blk W gl 141 (bU m.g h L)) (by rw[<- b0];exact h0) (h:=λI=>?_);rw[<- b0] at I ⊢;clear b0;refine qM 0 (.pointer (some ⟨gl,0,none⟩)) ?_;refine qT 1 (.pointer (some ⟨gl,0,none⟩)) ?_;refine qT 2 (.pointer (some ⟨gl,0,none⟩)) ?_;refine qC 3 (v:=.pointer (some ⟨m.g,0,none⟩)) (λ_ Z=>(Z.cell 0).trans rfl) ?_;refine qM 4 (.pointer (some ⟨gl,0,none⟩)) ?_;refine qM 5 (.int .i64 so) ?_;refine qT 6 (.pointer (some ⟨gl,0,none⟩)) ?_;refine qT 7 (.pointer (some ⟨gl,1,none⟩)) ?_;refine qT 8 (.pointer (some ⟨gl,1+so*2,none⟩)) ?_;refine qL 9 (cs:=[.int .i64 J,.int .i64 h]) (λ_ Z=>e4.out _ Z) (rfl) ?_;refine qM 10 (.int .u32 gn) ?_;refine qM 11 (.slice A qs.length cap) ?_;refine kF 12 (some 48) ((e0 wT b9.dk k2).mono ?_);rintro e w5 ⟨rfl,U,f4,a1⟩;refine⟨_,rfl,(a1.off I.lt g3.out.1).trans I,λk4=>?_⟩;simp only[jq];refine qT 13 (bV fa) ?_;refine kE (h:=?_);have V:Hid (LK w5 U O gl h L):=jz (b9.disk f4 a1 e1.out.2.2);have e6:Hid (LT gl w m w5 U):=jz ((LT.of_below (aB e8 b3)).trans (LT.of_dt a1));have h8:Hid (U.g=m.g):=jz a1.g;clear f4 a1 I k4;cases fa with
   | some x=>
    obtain⟨t,u,K⟩:=cH x;have HN:=jz (vG (some x) w5 U O gl h L V);have d0:=jz K;rw[K] at HN ⊢;have k6:=dR t u;clear K;go_wp2_with fail
    refine HN.mono ?_;rintro e w6 ⟨rfl,a0,a2⟩;have b7:=jz a0;have c4:=jz (e6.trans a2);clear a0 a2;go_wp2_with fail
    go_ret;exact⟨by rw[d1.out];show _=Ending.returned (bV (some x));rw[d0.out];rfl,U,by rw[d1.out];exact b7,c4⟩
   | none=>
    have K:bV none = .nilIface:=rfl;have n3:=jZ;rw[K];clear K;have m8:gl<w5.heap.size:=V.blk.lt;go_upto_region 13 with fail
    obtain⟨wa,d3⟩:=je (wsA O J (rec gn toll));obtain⟨wd,b2⟩:=je (wsD O J (rec gn toll));have a5:Hid (gH d h L qs=KI none O L wa wd so gn qs.length):=jz (by rw[d1.out,d3,b2]);have k3:Hid (wd.sec.length=O.sec.length):=jz (by rw[b2];exact lX _ _ _);have d4:=jz (λW (hk:DK W U O)=>rT J h gn W U O hk ⟨by have:=a4.out.2;omega,by have:=a4.out.1;omega⟩ HG4 (by have:=e1.out.2.1;omega));rw[<- d3,<- b2] at d4;have m6:Hid (Blk w5 gl 141 (bU U.g h L)):=jz V.blk;have k1:Hid (∀ W,Blk W gl 141 (bU U.g h L)->W.rangeAt gl (1+so*2) [.int .i64 J,.int .i64 h]):=jz (λW hk=>e4.out W (by rw[<- h8.out];exact hk));have g8:=jz V.ap;clear d3 b2;obtain⟨wU,b1⟩:=je w5.drew;have d7:Hid (Bw w5 wU):=jz (by rw[b1];exact(ji _ _).drew);have c2:=jz (V.keep d7);have h3:Hid (Blk wU gl 141 (bU U.g h L)):=jz c2.blk;refine kZ (n:=13) (λW=>Blk W gl 141 (bU U.g h L)) (by rw[<- b1];exact h3) (h:=λI=>?_);rw[<- b1] at I ⊢;clear b1;refine qM 0 (.pointer (some ⟨gl,0,none⟩)) ?_;refine qT 1 (.pointer (some ⟨gl,0,none⟩)) ?_;refine qT 2 (.pointer (some ⟨gl,0,none⟩)) ?_;refine qC 3 (v:=.pointer (some ⟨U.g,0,none⟩)) (λ_ Z=>(Z.cell 0).trans rfl) ?_;refine qM 4 (.pointer (some ⟨gl,0,none⟩)) ?_;refine qM 5 (.int .i64 so) ?_;refine qT 6 (.pointer (some ⟨gl,0,none⟩)) ?_;refine qT 7 (.pointer (some ⟨gl,1,none⟩)) ?_;refine qT 8 (.pointer (some ⟨gl,1+so*2,none⟩)) ?_;refine qL 9 (cs:=[.int .i64 J,.int .i64 h]) (λ_ Z=>k1.out _ Z) (rfl) ?_;refine qM 10 (.int .u32 gn) ?_;refine kF 11 (some 65) ((d4 wU c2.dk).mono ?_);rintro e w9 ⟨rfl,m9,f6,a8⟩;refine⟨_,rfl,(a8.off I.lt g8.out.1).trans I,λk5=>?_⟩;simp only[jq];refine qT 12 (bV wa) ?_;refine kE (h:=?_);have D:Hid (LK w9 m9 wd gl h L):=jz (c2.disk f6 a8 k3);have e7:Hid (LT gl w m w9 m9):=jz ((e6.trans (LT.of_below d7)).trans (LT.of_dt a8));clear f6 a8 I k5;cases wa with
    | some x=>
     obtain⟨t,u,K⟩:=cH x;have HN:=jz (vG (some x) w9 m9 wd gl h L D);have d0:=jz K;rw[K] at HN ⊢;have k6:=dR t u;clear K;go_wp2_with fail
     refine HN.mono ?_;rintro e w6 ⟨rfl,a0,a2⟩;have b7:=jz a0;have c4:=jz (e7.trans a2);clear a0 a2;go_wp2_with fail
     go_ret;exact⟨by rw[a5.out];show _=Ending.returned (bV (some x));rw[d0.out];rfl,m9,by rw[a5.out];exact b7,c4⟩
    | none=>
     obtain⟨c0,c5,c6,c7,c8,c9⟩:=D.cells;have f5:=D.blk.frozen 5;have f7:=D.blk.frozen 7;have f8:=D.blk.frozen 8;have n0:gl<w9.heap.size:=D.blk.lt;have K:bV none = .nilIface:=rfl;rw[K];clear K;go_wp2_with fail
     go_ret;have HO:=D.ok;refine⟨by rw[a5.out];rfl,m9,?_,((e7.set 5 _).set 7 _).set 8 _⟩;rw[a5.out];exact((D.set (L':={ L with side:=so }) 5 _ rfl ⟨hso2,HO.last,HO.gen,HO.cnt,HO.half⟩).set (L':={ L with side:=so,gen:=gn }) 7 _ rfl ⟨hso2,HO.last,HG4,HO.cnt,HO.half⟩).set 8 _ rfl ⟨hso2,HO.last,HG4,hln,HO.half⟩
  ·obtain rfl:R=4294967295:=by have:=h6.out;omega
   have HV:Hid (gH d h L qs=(some (13,none),d,L)):=jz (by rw[c3.out,jP rfl]);clear c3 e2;go_wp2_with fail
   go_ret;exact⟨by rw[HV.out];rfl,m,by rw[HV.out];exact e3,LT.of_below e8⟩
theorem OI{l:List Wl}{a:Nat}(h:a<l.length):l.getD a []∈l:=by
 rw[jn,List.getElem?_eq_getElem h];exact List.getElem_mem h
theorem OJ{l:List Wl}{s:Wl}(h:s∈l):∃ a,a<l.length/\l.getD a []=s:=by
 obtain⟨a,ha,hs⟩:=List.mem_iff_getElem.1 h;exact⟨a,ha,by rw[jn,List.getElem?_eq_getElem ha];exact hs⟩
theorem OK{l m:List Wl}(I:l.length=m.length)(h:∀ a,a<m.length->l.getD a []=m.getD a []):l=m:=by
 apply List.ext_getElem I;intro a h1 D;have:=h a D;rw[jn,jn,List.getElem?_eq_getElem h1,List.getElem?_eq_getElem D] at this;exact this
def Near(sec:List Wl)(W:List (Int×Wl))(sec':List Wl):Prop:=
 sec'.length=sec.length/\∀ a:Nat,a<sec.length->sec'.getD a []=sec.getD a []\/∃ s,((a:Int),s)∈W/\(sec'.getD a []=s\/jF (sec'.getD a [])=jF (sec.getD a []))
theorem Near.mono{sec D:List Wl}{W V:List (Int×Wl)}(h:Near sec W D)(hs:∀ p∈W,p∈V):Near sec V D:=
 ⟨h.1,λa ha=>(h.2 a ha).imp id (λ⟨s,h1,I⟩=>⟨s,hs _ h1,I⟩)⟩
theorem Near.refl(sec:List Wl)(W:List (Int×Wl)):Near sec W sec:=⟨rfl,λ_ _=>.inl rfl⟩
theorem Near.nil{sec D:List Wl}(h:Near sec [] D):D=sec:=
 OK h.1 λa ha=>(h.2 a ha).elim id (λ⟨_,h1,_⟩=>by cases h1)
structure Live(sec:List Wl)(h s g:Nat)(es:List b8):Prop where
 s2:s<2
 ln:h+h<=sec.length
 fit:es.length+1<=h
 g4:g<4294967296
 hd:sec.getD (bD h s) []=rec g toll
 en:∀ i (hi:i<es.length),sec.getD (bD h s+1+i) []=cG g es[i]
 eo:∀ q∈es,EntOk q/\bG q=true
 nx:∀ i,es.length<=i->i+1<h->jF (sec.getD (bD h s+1+i) [])≠g
 ot:jF (sec.getD (bD h (1-s)) [])<g
theorem KK(sec:List Wl)(f h i:Nat)(hi:i<h)(_:f+h<=sec.length):((sec.drop f).take h).getD i []=sec.getD (f+i) []:=by
 rw[jn,jn,List.getElem?_take_of_lt hi,List.getElem?_drop]
theorem OL{L:List Wl}{g:Nat}(h:(fV (none,[]) L).1=some g):∃ x,L.head? = some x/\nS x=some g:=by
 cases L with
 | nil=>simp[fV] at h
 | cons x L=>
  rw[fV] at h;unfold iY at h;simp only at h;cases hp:nS x with
  | none=>rw[hp] at h;simp at h
  | some g2=>
   rw[hp] at h;simp only[Option.map_some] at h;have I:∀(L:List Wl) (D:List b8),(fV (some g2,D) L).1=some g2:=λL D=>by
    obtain⟨more,J,_⟩:=rV g2 L D;rw[J]
   rw[I] at h;exact⟨x,rfl,hp.trans h⟩
theorem KM{d:DiskD}(hd:d.down=false)(D:d.opn=[])(i:Nat)(hi:i<d.sec.length):rdS d i=d.sec.getD i []:=by
 unfold rdS rdD iR;rw[hd,D];simp;omega
theorem DE{d:DiskD}(hd:d.down=false)(D:d.opn=[])(K:Nat)(ht:∀ s∈d.sec,jF s<=K):∀ k,k<=d.sec.length->cN d k<=K
 | 0,_=>j0 _
 | k+1,hk=>by
  unfold cN;have h1:=DE hd D K ht k (by omega);rw[KM hd D k (by omega)];have I:=ht _ (OI (show k<d.sec.length by omega));omega
def vP(c:Nat):Wl:=(rec 1 toll).take c++zsec.drop c
structure Fresh(sec:List Wl)(h:Nat):Prop where
 h1:1<=h
 ln:h+h<=sec.length
 ex:∃ c,c<64/\sec.getD 0 []=vP c
 zs:∀ a,0<a->a<sec.length->sec.getD a []=zsec
theorem KN:(List.range 64).all (λc=>(nS (vP c)).isNone && (jF (vP c) == 0))=true:=by kernel_rfl
theorem oN{c:Nat}(h:c<64):nS (vP c)=none/\jF (vP c)=0:=by
 have:=List.all_eq_true.1 KN c (List.mem_range.2 h);simpa using this
def Good(P:Nat->List b8->Prop)(h:Nat)(sec:List Wl):Prop:=(∃ s g es,Live sec h s g es/\P g es)\/(Fresh sec h/\P 0 [])
theorem Good.imp{P J:Nat->List b8->Prop}{h:Nat}{sec:List Wl}(k:Good P h sec)(K:∀ g D,P g D->J g D):Good J h sec:=
 Or.imp (λ⟨s,g,D,h1,I⟩=>⟨s,g,D,h1,K _ _ I⟩) (λ⟨h1,I⟩=>⟨h1,K _ _ I⟩) k
structure SA(P:Nat->List b8->Prop)(N K:Nat)(d:DiskD)(L:LogD)(es:List b8):Prop where
 brk:L.brk=false
 opn:d.opn=[]
 len:d.sec.length=N
 lv:Live d.sec (N/2) L.side L.gen es
 cnt:L.cnt=es.length
 p:P L.gen es
 tg:∀ s∈d.sec,jF s<=max L.last L.gen
 k:max L.last L.gen<=K
structure SB(P:Nat->List b8->Prop)(N K:Nat)(d:DiskD):Prop where
 nd:(d.opn.map (·.1)).Nodup
 len:d.sec.length=N
 tg:∀ s∈d.sec,jF s<=K
 tw:∀ p∈d.opn,jF p.2<=K
 gd:∀ cl,Good P (N/2) (kN d.sec d.opn cl)
theorem SB.imp{P I:Nat->List b8->Prop}{N K D:Nat}{d:DiskD}(h:SB P N K d)(R:∀ g J,P g J->I g J)(O:K<=D):SB I N D d:=
 ⟨h.nd,h.len,λs hs=>jm (h.tg s hs) O,λp U=>jm (h.tw p U) O,λcl=>(h.gd cl).imp R⟩
theorem SA.imp{P J:Nat->List b8->Prop}{N K I:Nat}{d:DiskD}{L:LogD}{D:List b8}(h:SA P N K d L D)(R:P L.gen D->J L.gen D)(O:K<=I):SA J N I d L D:=
 ⟨h.brk,h.opn,h.len,h.lv,h.cnt,R h.p,h.tg,jm h.k O⟩
theorem SA.disk{P:Nat->List b8->Prop}{N K:Nat}{d d':DiskD}{L:LogD}{D:List b8}(h:SA P N K d L D)(hs:d'.sec=d.sec)(I:d'.opn=d.opn):SA P N K d' L D:=
 ⟨h.brk,I.trans h.opn,by rw[hs];exact h.len,by rw[hs];exact h.lv,h.cnt,h.p,by rw[hs];exact h.tg,h.k⟩
theorem SB.disk{P:Nat->List b8->Prop}{N K:Nat}{d d':DiskD}(h:SB P N K d)(hs:d'.sec=d.sec)(D:d'.opn=d.opn):SB P N K d':=
 ⟨by rw[D];exact h.nd,by rw[hs];exact h.len,by rw[hs];exact h.tg,by rw[D];exact h.tw,by rw[hs,D];exact h.gd⟩
theorem TN{h s:Nat}(hs:s<2):(bD h s=0/\bD h (1-s)=h)\/(bD h s=h/\bD h (1-s)=0):=by
 have:s=0\/s=1:=by omega
 rcases this with rfl|rfl
 ·exact .inl ⟨rfl,rfl⟩
 ·exact .inr ⟨rfl,rfl⟩
theorem KO{h:Nat}(h1:1<=h):room (h:Int)=(h:Int)-1:=by unfold room;rw[jQ (by omega)]
theorem OM(d:DiskD)(f z p:Int)(g:Nat)(q:b8)(h1:1<=p):(room z<p/\jD d f z p g q=some (13,none)/\lC d f z p g q=d)\/(¬room z<p/\bG q=false/\jD d f z p g q=some (15,none)/\lC d f z p g q=d)\/(¬room z<p/\bG q=true/\jD d f z p g q=wsA d (f+p) (cG g q)/\lC d f z p g q=wsD d (f+p) (cG g q)):=by
 unfold jD lC;have D:¬p<1:=by omega
 simp only[jQ D];by_cases h2:room z<p
 ·simp only[jP h2];exact .inl ⟨h2,trivial,trivial⟩
 ·simp only[jQ h2];cases hr:bG q with
  | false=>exact .inr (.inl ⟨h2,rfl,rfl,rfl⟩)
  | true=>exact .inr (.inr ⟨h2,rfl,rfl,rfl⟩)
theorem vQ:vP 0=zsec:=by unfold vP;simp
theorem ON:jF zsec=0:=by rw[<- vQ];exact(oN (by omega)).2
theorem Fresh.tag{sec:List Wl}{h:Nat}(f:Fresh sec h):∀ s∈sec,jF s<=0:=by
 intro s hs;obtain⟨a,ha,rfl⟩:=OJ hs;obtain⟨c,D,I⟩:=f.ex
 match a with
 | 0=>rw[I,(oN D).2];exact ja _
 | a+1=>rw[f.zs _ (by omega) ha,ON];exact ja _
theorem Fresh.scan{sec:List Wl}{h:Nat}(f:Fresh sec h)(s:Nat)(hs:s<2):(fV (none,[]) ((sec.drop (bD h s)).take h)).1=none:=by
 cases hg:(fV (none,[]) ((sec.drop (bD h s)).take h)).1 with
 | none=>rfl
 | some g=>
  obtain⟨x,U,I⟩:=OL hg;have h1:=f.h1;have R:=f.ln;have J:=TN (h:=h) hs;have D:x=sec.getD (bD h s) []:=by
   have:=KK sec (bD h s) h 0 (by omega) (by omega);rw[Nat.add_zero] at this;rw[<- this,jn,<- List.head?_eq_getElem?,U];rfl
  rcases J with ⟨e,_⟩|⟨e,_⟩
  ·obtain⟨c,K,O⟩:=f.ex;rw[e,O] at D;rw[D,(oN K).1] at I;cases I
  ·rw[e,f.zs h (by omega) (by omega)] at D;rw[D,JT] at I;cases I
theorem FI{d:DiskD}(h:∀ s,s<2->(fV (none,[]) ((d.sec.drop (bD (d.sec.length/2) s)).take (d.sec.length/2))).1=none):(pI d).1=none:=by
 unfold pI;generalize d.sec.length/2=f at *
 show(jY 1 (eN d (bD f 1) f) (jY 0 (eN d (bD f 0) f) (none,_))).1=none;rw[i5 (k:=0) (S:=eN d (bD f 0) f) (h 0 (by omega)),i5 (k:=1) (S:=eN d (bD f 1) f) (h 1 (by omega))]
theorem KP(n:Nat)(D:2<=n):Fresh (List.replicate n zsec) (n/2):=by
 refine⟨by omega,by rw[List.length_replicate];omega,⟨0,by omega,?_⟩,λa _ ha=>?_⟩
 ·rw[vQ];rw[jn,List.getElem?_replicate,jP (by omega)];rfl
 ·rw[List.length_replicate] at ha;rw[jn,List.getElem?_replicate,jP ha];rfl
theorem TO:aI (eY none):=⟨by decide,by decide⟩
theorem rB(c:Int)(o:Option Int)(h:aI c):aI (eY (some (c,o))):=h
theorem rX(d:DiskD)(a:Int):aI (eY (fJ d a)):=by
 unfold fJ;split
 ·exact⟨by decide,by decide⟩
 ·split
  ·exact⟨by decide,by decide⟩
  ·split
   ·exact⟨by decide,by decide⟩
   ·split
    ·exact⟨by decide,by decide⟩
    ·exact rB 15 _ ⟨by decide,by decide⟩
theorem vR(d:DiskD):aI (eY (iU d)):=by
 unfold iU;split
 ·exact⟨by decide,by decide⟩
 ·split
  ·exact⟨by decide,by decide⟩
  ·split
   ·exact⟨by decide,by decide⟩
   ·exact⟨by decide,by decide⟩
theorem DF(d:DiskD)(a:Int)(s:Wl):aI (eY (wsA d a s)):=by
 unfold wsA;split
 ·rename_i x h;rw[<- h];exact rX d a
 ·exact vR _
theorem KQ(d:DiskD)(f z p:Int)(g:Nat)(q:b8):aI (eY (jD d f z p g q)):=by
 unfold jD;split
 ·exact⟨by decide,by decide⟩
 ·split
  ·exact⟨by decide,by decide⟩
  ·split
   ·exact DF _ _ _
   ·exact⟨by decide,by decide⟩
theorem vS:∀(L:List Wl) (d:DiskD) (a:Int),aI (eY (iG d a L).1)
 | [],d,a=>vR d
 | s :: L,d,a=>by
  unfold iG;split
  ·rename_i x h;show aI (eY (some x));rw[<- h];exact rX d a
  ·exact vS L _ _
theorem FJ(d:DiskD)(f z:Int)(g:Nat)(l:List b8):aI (eY (dE d f z g l).1):=by
 unfold dE;split
 ·exact rB 13 _ ⟨by decide,by decide⟩
 ·split
  ·exact vS _ _ _
  ·exact rB 15 _ ⟨by decide,by decide⟩
theorem yL(d:DiskD)(h:Nat)(L:LogD)(q:b8):aI (eY (sM d h L q)):=by
 unfold sM;split
 ·exact rB 11 _ ⟨by decide,by decide⟩
 ·exact KQ _ _ _ _ _ _
theorem KR(d:DiskD)(h:Nat)(L:LogD)(qs:List b8):aI (eY (gH d h L qs).1):=by
 unfold gH;split
 ·exact rB 11 _ ⟨by decide,by decide⟩
 ·split
  ·exact rB 13 _ ⟨by decide,by decide⟩
  ·unfold KJ;have h1:=FJ d (bD h (1-L.side)) h (max L.last L.gen+1) qs;have I:=DF (dE d (bD h (1-L.side)) h (max L.last L.gen+1) qs).2 (bD h (1-L.side)) (rec (max L.last L.gen+1) toll);unfold KI;split
   ·rename_i x D;rw[D] at h1;exact h1
   ·split
    ·rename_i x D;rw[D] at I;exact I
    ·exact TO
section
variable {d : DiskD}
theorem R0{d:DiskD}(h:d.steps<=d.room)(D:Nat)(L:LogD)(q:b8):(oL d D L q).room<=d.room+3:=by
 unfold oL;split
 ·omega
 ·unfold lC;split
  ·omega
  ·split
   ·omega
   ·split
    ·exact(FE h _ _).2.1
    ·omega
theorem R1{d:DiskD}(h:d.steps<=d.room)(D:Nat)(L:LogD)(qs:List b8):(gH d D L qs).2.1.room<=d.room+2*qs.length+4:=by
 unfold gH;split
 ·show d.room<=_;omega
 ·split
  ·show d.room<=_;omega
  ·unfold KJ;have h1:=C0 h (bD D (1-L.side)) D (max L.last L.gen+1) qs;have I:=FE h1.1 (bD D (1-L.side)) (rec (max L.last L.gen+1) toll);have J:=h1.2.1;have K:=I.2.1;unfold KI;split
   ·show(dE d (bD D (1-L.side)) D (max L.last L.gen+1) qs).2.room<=_;omega
   ·split
    ·show(wsD (dE d (bD D (1-L.side)) D (max L.last L.gen+1) qs).2 _ _).room<=_;omega
    ·show(wsD (dE d (bD D (1-L.side)) D (max L.last L.gen+1) qs).2 _ _).room<=_;omega
theorem OO{d:DiskD}(h:d.steps<=d.room):(cO d).2.1.room<=d.room+4:=by
 have h1:=vL h;have I:=h1.2.1;unfold cO;split
 ·show d.room<=_;omega
 ·split
  ·show(cJ d).room<=_;omega
  ·unfold i6;have D:=FE h1.1 0 (rec (cN (cJ d) (cJ d).sec.length+1) toll);have J:=D.2.1;split
   ·show(cJ d).room<=_;omega
   ·split
    ·show(cJ d).room<=_;omega
    ·split
     ·show(wsD (cJ d) 0 _).room<=_;omega
     ·show(wsD (cJ d) 0 _).room<=_;omega
end
theorem OP(d:DiskD)(h:Nat)(L:LogD)(q:b8):(oL d h L q).sec.length=d.sec.length:=by
 unfold oL;split
 ·rfl
 ·exact CW _ _ _ _ _ _
theorem OQ(d:DiskD)(h:Nat)(L:LogD)(qs:List b8):(gH d h L qs).2.1.sec.length=d.sec.length:=by
 unfold gH;split
 ·rfl
 ·split
  ·rfl
  ·unfold KJ KI;split
   ·exact qY _ _ _ _ _
   ·split
    ·show(wsD _ _ _).sec.length=_;rw[lX,qY]
    ·show(wsD _ _ _).sec.length=_;rw[lX,qY]
theorem KS(d:DiskD):(cO d).2.1.sec.length=d.sec.length:=by
 unfold cO;split
 ·rfl
 ·split
  ·exact eU d
  ·unfold i6;split
   ·exact eU d
   ·split
    ·exact eU d
    ·split
     ·show(wsD _ _ _).sec.length=_;rw[lX,eU]
     ·show(wsD _ _ _).sec.length=_;rw[lX,eU]
section
variable {d : DiskD}
end
end
section
open Go.RowKit
attribute [local irreducible] wpQuiet wpAnyH
structure CT(F:List Nat)(w:Wd)(m:DiskM)(w':Wd)(m':DiskM):Prop where
 g:m'.g=m.g
 fo:Fo (F++aZ m) w w'
 sub:∀ k∈aZ m',k∈aZ m\/w.heap.size<=k
 cv:∀ k v,m'.cv k=some v->m.cv k=some v\/∀ b,v.ownBlock=some b->w.heap.size<=b
def Far(m:DiskM)(F:List Nat)(b:Nat):Prop:=Apart m b/\b ∉ F
section
variable {F : List Nat} {w w' w'' : Wd} {m m' m'' : DiskM} {d d' : DiskD}
theorem CT.of_lt{gl:Nat}(h:LT gl w m w' m')(hg:gl∈F\/w.heap.size<=gl):CT F w m w' m':=
 ⟨h.g,⟨h.fo.os,h.fo.tape,h.fo.output,h.fo.size,λk J I=>h.fo.block k J (λK=>by
  rcases List.mem_cons.1 K with h1|h1
  ·rcases hg with D|D
   ·exact I (List.mem_append.2 (.inl (h1 ▸ D)))
   ·omega
  ·exact I (List.mem_append.2 (.inr h1)))⟩,h.sub,h.cv⟩
theorem CT.of_dt(h:DT w m w' m'):CT F w m w' m':=⟨h.g,h.fo.wide (λ_ D=>List.mem_append.2 (.inr D)),h.sub,h.cv⟩
theorem CT.of_below(h:Bw w w'):CT F w m w' m:=CT.of_dt (DT.of_below h)
theorem CT.of_off{b:Nat}(h:Off b w w')(hb:b∈F):CT F w m w' m:=
 ⟨rfl,⟨h.os,h.tape,h.output,h.size,λk D I=>h.block k D (λe=>I (List.mem_append.2 (.inl (e ▸ hb))))⟩,λ_ h=>.inl h,λ_ _ h=>.inl h⟩
theorem CT.trans(h:CT F w m w' m')(k:CT F w' m' w'' m''):CT F w m w'' m'':=
 ⟨k.g.trans h.g,h.fo.trans k.fo (λx D=>by
  rcases List.mem_append.1 D with h1|h1
  ·exact .inl (List.mem_append.2 (.inl h1))
  ·exact(h.sub x h1).imp (λh=>List.mem_append.2 (.inr h)) id),λx D=>by
  rcases k.sub x D with h1|h1
  ·exact h.sub x h1
  ·exact .inr (jm h.fo.size h1),λx v D=>by
  rcases k.cv x v D with h1|h1
  ·exact h.cv x v h1
  ·exact .inr (λb e=>jm h.fo.size (h1 b e))⟩
theorem CT.block(h:CT F w m w' m'){b:Nat}(hb:b<w.heap.size)(D:Far m F b):w'.heap[b]? = w.heap[b]?:=
 h.fo.block b hb (λI=>(List.mem_append.1 I).elim D.2 D.1.1)
theorem CT.apart(h:CT F w m w' m'){b:Nat}(hb:b<w.heap.size)(D:Apart m b):Apart m' b:=
 ⟨λJ=>by
  rcases h.sub b J with h1|h1
  ·exact D.1 h1
  ·omega,λk I v K e=>by
  rcases h.cv k v K with h1|h1
  ·exact D.2 k I v h1 e
  ·have:=h1 b e;omega⟩
theorem CT.far(h:CT F w m w' m'){b:Nat}(hb:b<w.heap.size)(D:Far m F b):Far m' F b:=⟨h.apart hb D.1,D.2⟩
theorem CT.below{B:Nat}(h:CT F w m w' m')(I:∀ k∈aZ m,B<=k)(hg:∀ k∈F,B<=k)(D:B<=w.heap.size):Below B w w':=
 h.fo.below (λk J=>(List.mem_append.1 J).elim (hg k) (I k)) D
theorem CT.le{B:Nat}(h:CT F w m w' m')(D:∀ k∈aZ m,B<=k)(J:B<=w.heap.size):∀ k∈aZ m',B<=k:=λk I=>by
 rcases h.sub k I with h1|h1
 ·exact D k h1
 ·omega
theorem CT.wide{G:List Nat}(h:CT F w m w' m')(hs:∀ x∈F,x∈G\/w.heap.size<=x):CT G w m w' m':=
 ⟨h.g,⟨h.fo.os,h.fo.tape,h.fo.output,h.fo.size,λk J I=>h.fo.block k J (λK=>by
  rcases List.mem_append.1 K with h1|h1
  ·rcases hs k h1 with D|D
   ·exact I (List.mem_append.2 (.inl D))
   ·omega
  ·exact I (List.mem_append.2 (.inr h1)))⟩,h.sub,h.cv⟩
theorem St.ct{w0:Wd}(h:St w0 w m d)(D:DK w' m' d')(ht:CT F w m w' m')(hg:∀ k∈F,w0.heap.size<=k):St w0 w' m' d':=
 ⟨D,ht.le h.ft h.bel.size,h.bel.trans (ht.below h.ft hg h.bel.size)⟩
theorem Blk.ct{g:Nat}{t:TypeId}{cs:Wa}(h:Blk w g t cs)(ht:CT F w m w' m')(D:Far m F g):Blk w' g t cs:=(ht.block h.lt D).trans h
end
theorem DK.offO{w w':Wd}{m:DiskM}{d:DiskD}{b:Nat}(h:DK w m d)(D:Off b w w')(ha:Apart m b):DK w' m d where
 blk:=(D.block m.g h.blk.lt (λe=>ha.1 (e ▸ iB m))).trans h.blk
 sec:=aS h.sec λx J=>D.block x (h.sec.lt x J).2 (λe=>ha.1 (e ▸ oY J))
 opn:=aS h.opn λx J=>D.block x (h.opn.lt x J).2 (λe=>ha.1 (e ▸ sU J))
 last:=h.last.of_block (D.block _ h.last.lt (λe=>ha.1 (e ▸ nD m)))
 fl:=h.fl.of_block (D.block _ h.fl.lt (λe=>ha.1 (e ▸ sR m)))
 cr:=h.cr.of_block (D.block _ h.cr.lt (λe=>ha.1 (e ▸ sS m)))
 nd:=h.nd
 flv:=h.flv
 crv:=λk hi=>by
  have:=h.crv k hi;cases hc:d.cr k with
  | none=>rw[hc] at this;exact this
  | some cs=>
   rw[hc] at this;obtain⟨v,h1,R,O⟩:=this;refine⟨v,h1,?_,λb hb=>⟨(O b hb).1,jp (O b hb).2 D.size⟩⟩;have K:=ha.2 k hi v h1;obtain⟨A,cap,rfl,Z,q2,J⟩:=R;refine⟨A,cap,rfl,Z,q2,λV=>?_⟩;obtain⟨g,o,rfl,I⟩:=J V;exact⟨g,o,rfl,λj u U=>D.cell (I j u U) (λe=>K (by rw[<- e];rfl))⟩
 ok:=h.ok
structure CacheD where
 L:LogD
 E:EL
 til:Int
def cacheC(gl gi:Nat)(t:Int):Wa:=#[.pointer (some ⟨gl,0,none⟩),.pointer (some ⟨gi,0,none⟩),.int .i64 t]
def XK(w:Wd)(gi bi n:Nat)(E:EL):Prop:=∃ f c,IX w gi bi n f c/\Lists f E
theorem XK.keep{w w':Wd}{gi bi n:Nat}{E:EL}(h:XK w gi bi n E)(hb:Bw w w'):XK w' gi bi n E:=by
 obtain⟨f,c,h1,D⟩:=h;exact⟨f,c,h1.keep hb,D⟩
theorem XK.same{w w':Wd}{gi bi n:Nat}{E:EL}(h:XK w gi bi n E)(h1:w'.heap[gi]? = w.heap[gi]?)(D:w'.heap[bi]? = w.heap[bi]?):XK w' gi bi n E:=by
 obtain⟨f,c,⟨a,b,e⟩,I⟩:=h;exact⟨f,c,⟨(World.cell?_of_block (a:=⟨gi,0,none⟩) h1).trans a,b,e.of_block D⟩,I⟩
theorem XK.len{w:Wd}{gi bi n:Nat}{E:EL}(h:XK w gi bi n E):E.length<=n:=by
 obtain⟨f,c,⟨_,_,e⟩,D⟩:=h;have:=D.count e;have:=e.le;omega
theorem XK.lt{w:Wd}{gi bi n:Nat}{E:EL}(h:XK w gi bi n E):gi<w.heap.size/\bi<w.heap.size:=by
 obtain⟨f,c,⟨a,_,e⟩,_⟩:=h;exact⟨eQ a,e.lt⟩
theorem XK.wl{w:Wd}{gi bi n:Nat}{E:EL}(h:XK w gi bi n E):WL E:=by
 obtain⟨f,c,_,h⟩:=h;exact⟨f,h⟩
theorem XK.mono{w:Wd}{gi bi n n':Nat}{E:EL}(h:XK w gi bi n E)(I:n<=n'):XK w gi bi n' E:=by
 obtain⟨f,c,h1,D⟩:=h;exact⟨f,c,h1.mono I,D⟩
structure CK(w:Wd)(m:DiskM)(d:DiskD)(gc gl gi bi h n:Nat)(C:CacheD):Prop where
 lk:LK w m d gl h C.L
 blk:Blk w gc 113 (cacheC gl gi C.til)
 ix:XK w gi bi n C.E
 ac:Apart m gc
 ai:Apart m gi
 ab:Apart m bi
 ne:gc≠gl/\gi≠gl/\bi≠gl/\gc≠bi/\gi≠bi
 i64:aI C.til
theorem CK.keep{w w':Wd}{m:DiskM}{d:DiskD}{gc gl gi bi h n:Nat}{C:CacheD}(k:CK w m d gc gl gi bi h n C)(hb:Bw w w'):CK w' m d gc gl gi bi h n C:=
 ⟨k.lk.keep hb,k.blk.keep hb,k.ix.keep hb,k.ac,k.ai,k.ab,k.ne,k.i64⟩
theorem CK.log{w w':Wd}{m m':DiskM}{d d':DiskD}{gc gl gi bi h n:Nat}{C:CacheD}{L':LogD}(k:CK w m d gc gl gi bi h n C)(J:LK w' m' d' gl h L')(ht:LT gl w m w' m'):CK w' m' d' gc gl gi bi h n ⟨L',C.E,C.til⟩:=
 have D:CT [gl] w m w' m':=CT.of_lt ht (.inl (List.mem_singleton.2 rfl));have I:∀ b,b≠gl->Apart m b->Far m [gl] b:=λb hb ha=>⟨ha,λK=>hb (List.mem_singleton.1 K)⟩
 have lt:=k.ix.lt
 ⟨J,k.blk.ct D (I _ k.ne.1 k.ac),k.ix.same (D.block lt.1 (I _ k.ne.2.1 k.ai)) (D.block lt.2 (I _ k.ne.2.2.1 k.ab)),D.apart k.blk.lt k.ac,D.apart lt.1 k.ai,D.apart lt.2 k.ab,k.ne,k.i64⟩
theorem CK.disk{w w':Wd}{m m':DiskM}{d d':DiskD}{gc gl gi bi h n:Nat}{C:CacheD}(k:CK w m d gc gl gi bi h n C)(D:DK w' m' d')(ht:DT w m w' m')(I:d'.sec.length=d.sec.length):CK w' m' d' gc gl gi bi h n C:=
 k.log (L':=C.L) (k.lk.disk D ht I) (LT.of_dt ht)
theorem CK.index{w w':Wd}{m:DiskM}{d:DiskD}{gc gl gi bi h n n':Nat}{C:CacheD}{I:EL}(k:CK w m d gc gl gi bi h n C)(D:Off bi w w')(R:XK w' gi bi n' I):CK w' m d gc gl gi bi h n' ⟨C.L,I,C.til⟩:=
 have h1:∀ j,j<w.heap.size->j≠bi->w'.heap[j]? = w.heap[j]?:=D.block;have J:Fo [bi] w w':=⟨D.os,D.tape,D.output,D.size,λj K O=>h1 j K (λe=>O (List.mem_singleton.2 e))⟩
 ⟨⟨k.lk.dk.offO D k.ab,(h1 gl k.lk.blk.lt (λe=>k.ne.2.2.1 e.symm)).trans k.lk.blk,k.lk.ap,k.lk.ok⟩,(h1 gc k.blk.lt k.ne.2.2.2.1).trans k.blk,R,k.ac,k.ai,k.ab,k.ne,k.i64⟩
end
section
open Go.RowKit
attribute [local irreducible] wpQuiet wpAnyH
theorem IK(w:Wd)(gi bi n:Nat)(E:EL)(now:Int)(h:XK w gi bi n E)(R:n<=1000):
  Wc 59 #[.pointer (some ⟨gi,0,none⟩),.int .i64 now] w λe w'=>∃ v,e = .returned v/\Sn w' 33 v (bM E now).length ((bM E now).flatMap aO)/\Bw w w'/\∀ b,v.ownBlock=some b->w.heap.size<=b/\b<w'.heap.size:=by
 obtain⟨f,c,U,D⟩:=h;refine(NP gi bi n c f now w U R).mono ?_;rintro e w' ⟨v,L,rfl,h1,I,J,K,_,O⟩;have:L=bM E now:=(Lists.of_live I J D.exp).eq (D.live now);subst this;exact⟨v,rfl,h1,K,O⟩
theorem IL(w:Wd)(gi bi n:Nat)(E:EL)(now:Int)(h:XK w gi bi n E)(J:n<=1000):
  Wc 48 #[.pointer (some ⟨gi,0,none⟩),.int .i64 now] w λe w'=>∃ k:Nat,e = .returned (.int .i64 k)/\XK w' gi bi n (bM E now)/\Off bi w w':=by
 obtain⟨f,c,K,I⟩:=h;refine(M8 gi bi n c f now w K J).mono ?_;rintro e w' ⟨k,O,rfl,_,h1,D⟩;exact⟨k,rfl,⟨_,_,h1,I.live now⟩,D⟩
theorem OR(w:Wd)(gi bi n:Nat)(E:EL)(q:b8)(h:XK w gi bi n E)(D:EntOk q)(O:n<=1000):
  Wc 71 #[.pointer (some ⟨gi,0,none⟩),.agg (aO q).toArray] w λe w'=>∃ b,e = .returned (.bool b)/\XK w' gi bi (n+1) (cR E q).1/\Off bi w w':=by
 obtain⟨f,c,K,J⟩:=h;refine(G9 gi bi n c f q.1 q.2 w K D.dig D.exp (by unfold maxLen;omega)).mono ?_;rintro e w' ⟨rfl,h1,I⟩;exact⟨_,rfl,⟨_,_,h1,(qR J D).1⟩,I⟩
theorem UO(w:Wd)(gi bi n:Nat)(E:EL)(d:Wl)(now:Int)(h:XK w gi bi n E)(hd:DigOk d):
  Wc 80 #[.pointer (some ⟨gi,0,none⟩),.agg (u8s d).toArray,.int .i64 now] w (Rt w (.bool (pF E d now))):=by
 obtain⟨f,c,I,D⟩:=h;rw[D.hasq hd now];exact Q8 gi bi n c f d now w I hd
theorem UP(v:Value)(l:EL)(w:Wd)(hs:Sn w 33 v l.length (l.flatMap aO))(D:∀ p∈l,EntOk p)(O:l.length<=1000):
  Wc 46 #[v] w λe w'=>∃ gi bi,e = .returned (.pointer (some ⟨gi,0,none⟩))/\XK w' gi bi l.length (gW l)/\w.heap.size<=gi/\w.heap.size<=bi/\gi≠bi/\Bw w w':=by
 refine(RB v l w hs D O).mono ?_;rintro e w' ⟨g,b,rfl,h1,I,J,K⟩;exact⟨g,b,rfl,⟨_,_,h1,CM l D⟩,I,J,h1.2.1,K⟩
section
variable {w : Wd} {gc gl gi : Nat} {til : Int}
theorem bT(h:Blk w gc 113 (cacheC gl gi til)):w.cell? ⟨gc,0,none⟩=some (.pointer (some ⟨gl,0,none⟩))/\w.cell? ⟨gc,1,none⟩=some (.pointer (some ⟨gi,0,none⟩))/\w.cell? ⟨gc,2,none⟩=some (.int .i64 til):=
 ⟨(h.cell 0).trans rfl,(h.cell 1).trans rfl,(h.cell 2).trans rfl⟩
end
section
variable {w : Wd} {m : DiskM} {d : DiskD} {gc gl gi bi h n : Nat} {C : CacheD}
theorem UQ(now:Int)(k:CK w m d gc gl gi bi h n C)(U:n<=1000):
  Wc 40 #[.pointer (some ⟨gc,0,none⟩),.int .i64 now] w λe w'=>∃ v,e = .returned v/\Sn w' 33 v (bM C.E now).length ((bM C.E now).flatMap aO)/\Bw w w'/\∀ b,v.ownBlock=some b->w.heap.size<=b/\b<w'.heap.size:=by
 obtain⟨_,c1,_⟩:=bT k.blk;have R:=jz (IK w gi bi n C.E now k.ix U);clear k;go_enter func40,ntmps40
 go_wp2_with fail
 refine R.mono ?_;rintro e w' ⟨v,rfl,h1,D,I⟩;have J:=jz h1;have K:=jz D;have O:=jz I;clear h1 D I;go_wp2_with fail
 go_ret;exact⟨v,rfl,J,K,O⟩
theorem pL(k:CK w m d gc gl gi bi h n C):
  Wc 44 #[.pointer (some ⟨gc,0,none⟩)] w λe w'=>e = .returned (.int .i64 C.til)/\w'=w:=by
 obtain⟨_,_,D⟩:=bT k.blk;clear k;go_enter func44,ntmps44
 go_wp2_with fail
 go_ret;exact⟨rfl,rfl⟩
theorem FK(k:CK w m d gc gl gi bi h n C):
  Wc 82 #[.pointer (some ⟨gc,0,none⟩)] w λe w'=>e = .returned (.int .i64 C.L.cnt)/\w'=w:=by
 obtain⟨c0,_,_⟩:=bT k.blk;have I:=jz (KB w gl m.g h C.L k.lk.blk);clear k;go_enter func82,ntmps82
 go_wp2_with fail
 refine I.mono ?_;rintro e w' ⟨rfl,D⟩;rw[D];clear D w';go_wp2_with fail
 go_ret;exact⟨rfl,rfl⟩
theorem FM(k:CK w m d gc gl gi bi h n C):
  Wc 83 #[.pointer (some ⟨gc,0,none⟩)] w (Rt w (.int .i64 (h-1:Nat))):=by
 obtain⟨c0,_,_⟩:=bT k.blk;have I:=jz (N3 w gl m.g h C.L k.lk.blk k.lk.ok.side (LogOk.h_le k.lk));clear k;go_enter func83,ntmps83
 go_wp2_with fail
 refine I.mono ?_;rintro e w' ⟨rfl,hb⟩;have D:=jz hb;clear hb;go_wp2_with fail
 go_ret;exact⟨rfl,D⟩
theorem OS(k:CK w m d gc gl gi bi h n C):
  Wc 81 #[.pointer (some ⟨gc,0,none⟩)] w λe w'=>e = .returned (.bool C.L.brk)/\w'=w:=by
 obtain⟨c0,_,_⟩:=bT k.blk;have I:=jz (FB w gl m.g h C.L k.lk.blk);clear k;go_enter func81,ntmps81
 go_wp2_with fail
 refine I.mono ?_;rintro e w' ⟨rfl,D⟩;rw[D];clear D w';go_wp2_with fail
 go_ret;exact⟨rfl,rfl⟩
end
def zZ(x:Ans):Int:=if eY x=12 then 0 else 9
theorem vT(x:Ans)(w:Wd)(U:aI (eY x)):Wc 85 #[bV x] w (Rt w (.int .i64 (zZ x))):=by
 obtain⟨v,R⟩:=je (bV x);have J:=jz (BL x w);rw[<- R] at J ⊢;have I:Hid (zZ x=if eY x=12 then 0 else 9):=jz rfl;obtain⟨a,ha⟩:=je (zZ x);rw[<- ha] at I ⊢;obtain⟨c,O⟩:=je (eY x);rw[<- O] at J I U;clear R O ha;rcases jb (c == 12) with D|D
 all_goals
  go_enter func85,ntmps85
  go_wp2_with (go_at_call 140;refine J.mono ?_;rintro e V ⟨rfl,hb⟩;have K:=jz hb;clear hb)
  go_ret;have h1:=I.out;simp only[beq_iff_eq,beq_eq_false_iff_ne,ne_eq] at D
  first
   | (rw[jP D] at h1;rw[h1];exact⟨rfl,K⟩)
   | (rw[jQ D] at h1;rw[h1];exact⟨rfl,K⟩)
end
section
open Go.RowKit
attribute [local irreducible] wpQuiet wpAnyH
def gI(d:DiskD)(h:Nat)(C:CacheD)(now:Int):Ans×DiskD×CacheD:=match (gH d h C.L (bM C.E now)).1 with
 | none=>(none,(gH d h C.L (bM C.E now)).2.1,⟨(gH d h C.L (bM C.E now)).2.2,bM C.E now,C.til⟩)
 | some x=>(some x,(gH d h C.L (bM C.E now)).2.1,⟨(gH d h C.L (bM C.E now)).2.2,C.E,C.til⟩)
def rC(d:DiskD)(h:Nat)(C:CacheD)(q:b8):Int×DiskD×CacheD:=if h-1<=C.L.cnt then (9,d,C) else match sM d h C.L q with
 | none=>(10,oL d h C.L q,⟨vH d h C.L q,(cR C.E q).1,C.til⟩)
 | some x=>(zZ (some x),oL d h C.L q,⟨vH d h C.L q,C.E,C.til⟩)
def mD(d:DiskD)(h:Nat)(C:CacheD)(q:b8)(now:Int):Int×DiskD×CacheD:=
 if pF C.E q.1 now then (8,d,C) else if C.L.brk then (9,d,C) else if q.2<0 then (9,d,C) else if 4611686018427387904<q.2 then (9,d,C) else
 if h-1<=C.L.cnt then (match (gI d h C now).1 with
  | some x=>(zZ (some x),(gI d h C now).2.1,(gI d h C now).2.2)
  | none=>rC (gI d h C now).2.1 h (gI d h C now).2.2 q) else rC d h C q
theorem OT(d:DiskD)(h:Nat)(C:CacheD)(now:Int):aI (eY (gI d h C now).1):=by
 have h1:=KR d h C.L (bM C.E now);unfold gI;split
 ·exact TO
 ·rename_i x D;rw[D] at h1;exact h1
theorem CK.up{w:Wd}{m:DiskM}{d:DiskD}{gc gl gi bi h n n':Nat}{C:CacheD}(k:CK w m d gc gl gi bi h n C)(D:n<=n'):CK w m d gc gl gi bi h n' C:=⟨k.lk,k.blk,k.ix.mono D,k.ac,k.ai,k.ab,k.ne,k.i64⟩
theorem yM(now:Int)(w:Wd)(m:DiskM)(d:DiskD)(gc gl gi bi h n:Nat)(C:CacheD)(k:CK w m d gc gl gi bi h n C)(hn:n<=1000)(hr:d.room+30000<=100000):
  Wc 84 #[.pointer (some ⟨gc,0,none⟩),.int .i64 now] w λe w'=>e = .returned (bV (gI d h C now).1)/\∃ m',CK w' m' (gI d h C now).2.1 gc gl gi bi h n (gI d h C now).2.2/\CT [gl,bi] w m w' m':=by
 have HK:=jz k;have hE:=k.ix.len;have c4:=xY C.E now;have a7:∀ q∈bM C.E now,EntOk q:=(k.ix.wl.live now).ok;obtain⟨til,O⟩:=je C.til;obtain⟨ra,V⟩:=je ((gH d h C.L (bM C.E now)).1);obtain⟨rd,Z⟩:=je ((gH d h C.L (bM C.E now)).2.1);obtain⟨rl,a0⟩:=je ((gH d h C.L (bM C.E now)).2.2);have HV:Hid (gI d h C now=match (generalizing:=false) ra with
  | none=>(none,rd,⟨rl,bM C.E now,C.til⟩)
  | some x=>(some x,rd,⟨rl,C.E,C.til⟩)):=jz (by subst V Z a0;rfl)
 have b7:Hid (∀ W M A cap,LK W M d gl h C.L->Sn W 33 (.slice A (bM C.E now).length cap) (bM C.E now).length ((bM C.E now).flatMap aO)->Wc 139 #[.pointer (some ⟨gl,0,none⟩),.slice A (bM C.E now).length cap] W λe w'=>e = .returned (bV ra)/\∃ m',LK w' m' rd gl h rl/\LT gl W M w' m'):=jz (by rw[V,Z,a0];exact λW M A cap hk hs=>DD _ A cap W M d gl h C.L hk hs a7 (by omega) (by omega));have b3:=jz (λW (kk:XK W gi bi n C.E)=>IK W gi bi n C.E now kk hn);clear V Z a0 k a7 hE c4;have a6:=jz O.symm;go_enter func84,ntmps84
 go_upto_region 3 with fail
 clear O;rw[show C.til=til from a6.out] at HV;have a4:Hid (CK w m d gc gl gi bi h n ⟨C.L,C.E,til⟩):=jz (by rw[<- a6.out];exact HK);replace HK:=a4;clear a4;obtain⟨wS,J⟩:=je w.drew;have HD:Hid (Bw w wS):=jz (by rw[J];exact(ji _ _).drew);have I:=jz (HK.keep HD);refine kZ (n:=12) (λW=>Blk W gc 113 (cacheC gl gi til)) (by rw[<- J];exact I.blk) (h:=λhH=>?_);rw[<- J] at hH ⊢;clear J;refine qM 0 (.pointer (some ⟨gc,0,none⟩)) ?_;refine qT 1 (.pointer (some ⟨gc,0,none⟩)) ?_;refine qT 2 (.pointer (some ⟨gc,0,none⟩)) ?_;refine qC 3 (v:=.pointer (some ⟨gl,0,none⟩)) (λ_ hX=>(bT hX).1) ?_;refine qM 4 (.pointer (some ⟨gc,0,none⟩)) ?_;refine qT 5 (.pointer (some ⟨gc,0,none⟩)) ?_;refine qT 6 (.pointer (some ⟨gc,1,none⟩)) ?_;refine qC 7 (v:=.pointer (some ⟨gi,0,none⟩)) (λ_ hX=>(bT hX).2.1) ?_;refine qM 8 (.int .i64 now) ?_;refine kF 9 (some 18) ((b3 wS I.ix).mono ?_);rintro e w5 ⟨v5,rfl,a1,R,_⟩;obtain⟨A5,c5,rfl,_⟩:=id a1;have a3:=jz (I.keep R);have b9:=jz a1;have b0:=jz (aB HD R);clear a1;refine⟨_,rfl,I.blk.keep R,λhH=>?_⟩;simp only[jq];refine kF 10 (some 19) ((b7 w5 m A5 c5 a3.lk b9).mono ?_);rintro e w6 ⟨rfl,m6,K,a2⟩;have D:=jz (a3.log K a2);have a5:Hid (CT [gl,bi] w m w6 m6):=jz ((CT.of_below b0).trans (CT.of_lt a2 (.inl (by simp))));clear K a2;refine⟨_,rfl,D.blk,λhH=>?_⟩;simp only[jq];refine qT 11 (bV ra) ?_;refine kE (h:=?_);cases ra with
 | some x=>
  obtain⟨t,u,hv⟩:=cH x;have c3:=jz hv;rw[hv];have c6:=dR t u;clear hv;go_wp2_with fail
  go_ret;rw[HV.out];exact⟨by rw[<- c3.out];rfl,m6,D,a5⟩
 | none=>
  have a8:bV none = .nilIface:=rfl;rw[a8];obtain⟨_,c1,_⟩:=bT D.blk;have b1:=jz (IL w6 gi bi n C.E now D.ix hn);clear a8;go_wp2_with fail
  refine b1.mono ?_;rintro e w7 ⟨kd,rfl,a9,U⟩;have b2:=jz (D.index U a9);have c2:=jz (a5.trans (CT.of_off (F:=[gl,bi]) U (by simp)));clear a9 U;go_wp2_with fail
  go_ret;rw[HV.out];exact⟨rfl,m6,b2,c2⟩
theorem IM{d:DiskD}(h:d.steps<=d.room)(D:Nat)(C:CacheD)(now:Int):(gI d D C now).2.1.room<=d.room+2*C.E.length+4/\(gI d D C now).2.1.sec.length=d.sec.length:=by
 have h1:=R1 h D C.L (bM C.E now);have I:=OQ d D C.L (bM C.E now);have J:=xY C.E now;unfold gI;split
 ·exact⟨by show(gH d D C.L (bM C.E now)).2.1.room<=_;omega,I⟩
 ·exact⟨by show(gH d D C.L (bM C.E now)).2.1.room<=_;omega,I⟩
theorem OU(q:b8)(now:Int)(w:Wd)(m:DiskM)(d:DiskD)(gc gl gi bi h n:Nat)(C:CacheD)(k:CK w m d gc gl gi bi h n C)(hq:EntOk q)(hn:n+1<=1000)(hr:d.room+40000<=100000):
  Wc 54 #[.pointer (some ⟨gc,0,none⟩),.agg (aO q).toArray,.int .i64 now] w λe w'=>e = .returned (.int .i64 (mD d h C q now).1)/\∃ m',CK w' m' (mD d h C q now).2.1 gc gl gi bi h (n+1) (mD d h C q now).2.2/\CT [gl,bi] w m w' m':=by
 have HQ:=jz hq;have n3:=bC q hq;have d5:=jz n3;have k7:Hid ((u8s q.1).length=32):=jz (by simp[u8s,hq.dig.len]);obtain⟨w1,e5⟩:=je (w.alloc (.cells (aO q).toArray 26));obtain⟨gq,g2⟩:=je w.heap.size;have f4:Hid (Blk w1 gq 26 (aO q).toArray):=jz (by rw[e5,g2];exact Blk.new _ _ _);have h3:Hid (Bw w w1):=jz (by rw[e5];exact aV _ _);obtain⟨til,U⟩:=je C.til;have p6:=jz U.symm;have m2:Hid (CK w m d gc gl gi bi h n ⟨C.L,C.E,til⟩):=jz (by rw[U];exact k);have f0:=jz (m2.keep h3);have a5:Hid (Far m [gl,bi] gq):=jz ⟨Apart.fresh k.lk.dk (by omega),λhm=>by
  have h1:=k.lk.blk.lt
  have h2:=k.ix.lt.2
  simp at hm
  omega⟩
 have h8:Hid (gq≠bi):=jz (λe=>a5.out.2 (by simp[e]));have h6:=jz (λW (kk:XK W gi bi n C.E)=>UO W gi bi n C.E q.1 now kk hq.dig);obtain⟨hv,g3⟩:=je (pF C.E q.1 now);rw[<- g3] at h6;obtain⟨xa,e6⟩:=je ((gI d h C now).1);obtain⟨xd,e7⟩:=je ((gI d h C now).2.1);obtain⟨xC,h0⟩:=je ((gI d h C now).2.2);have n1:=IM k.lk.dk.ok.st h C now;have n0:=k.ix.len;have m8:Hid (xd.room+3<=100000):=jz (by rw[e7];omega);have m5:Hid (aI (eY xa)):=jz (by rw[e6];exact OT d h C now);have k6:Hid (∀ W M,CK W M d gc gl gi bi h n ⟨C.L,C.E,til⟩->Wc 84 #[.pointer (some ⟨gc,0,none⟩),.int .i64 now] W λe w'=>e = .returned (bV xa)/\∃ m',CK w' m' xd gc gl gi bi h n xC/\CT [gl,bi] W M w' m'):=jz (λW M kk=>by rw[e6,e7,h0];rw[U] at kk;exact yM now W M d gc gl gi bi h n C kk (by omega) (by omega));obtain⟨pa,a1⟩:=je (sM d h C.L q);obtain⟨pd,b0⟩:=je (oL d h C.L q);obtain⟨pl,b1⟩:=je (vH d h C.L q);have d2:Hid (∀ W M,LK W M d gl h C.L->Wc 86 #[.pointer (some ⟨gl,0,none⟩),.agg (aO q).toArray] W λe w'=>e = .returned (bV pa)/\∃ m',LK w' m' pd gl h pl/\LT gl W M w' m'):=jz (by rw[a1,b0,b1];exact λW M kk=>vI q W M d gl h C.L kk hq (by omega));have d1:Hid (aI (eY pa)):=jz (by rw[a1];exact yL d h C.L q);have HV:Hid (mD d h C q now=if hv then (8,d,C) else if C.L.brk then (9,d,C) else if q.2<0 then (9,d,C) else if 4611686018427387904<q.2 then (9,d,C) else
  if h-1<=C.L.cnt then (match (generalizing:=false) xa with
  | some x=>(zZ (some x),xd,xC)
  | none=>rC xd h xC q) else (if h-1<=C.L.cnt then (9,d,C) else match (generalizing:=false) pa with
   | none=>(10,pd,⟨pl,(cR C.E q).1,til⟩)
   | some x=>(zZ (some x),pd,⟨pl,C.E,til⟩))):=jz (by subst e6 e7 h0 g3 a1 b0 b1 U;rfl)
 have d4:Hid (C=⟨C.L,C.E,til⟩):=jz (by rw[U]);clear e6 e7 h0 g3 a1 b0 b1 U n1 n0 k;go_enter func54,ntmps54
 go_upto_region 3 with fail
 rw[<- e5,<- g2];clear e5 g2;obtain⟨wS,J⟩:=je w1.drew;have Z:Hid (Bw w1 wS):=jz (by rw[J];exact(ji _ _).drew);have I:=jz (f0.keep Z);have O:=jz (f4.keep Z);refine kZ (n:=8) (λW=>(Blk W gc 113 (cacheC gl gi til)/\Blk W gq 26 (aO q).toArray)) (by rw[<- J];exact⟨I.blk,O⟩) (h:=λhH=>?_);rw[<- J] at hH ⊢;clear J;refine qM 0 (.pointer (some ⟨gc,0,none⟩)) ?_;refine qT 1 (.pointer (some ⟨gc,0,none⟩)) ?_;refine qT 2 (.pointer (some ⟨gc,1,none⟩)) ?_;refine qC 3 (v:=.pointer (some ⟨gi,0,none⟩)) (λ_ hX=>(bT hX.1).2.1) ?_;refine qT 4 (.pointer (some ⟨gq,0,none⟩)) ?_;refine qL 5 (cs:=u8s q.1) (λ_ hX=>(xX hX.2.range HQ).1) (k7) ?_;refine qM 6 (.int .i64 now) ?_;refine kF 7 (some 18) ((h6 wS I.ix).mono ?_);rintro e w5 ⟨rfl,c7⟩;have V:=jz (I.keep c7);have b9:=jz (O.keep c7);have d3:=jz (aB h3 (aB Z c7));refine⟨_,rfl,⟨I.blk.keep c7,O.keep c7⟩,λhH=>?_⟩;simp only[jq];refine kE (h:=?_);clear I O Z;cases hv with
 | true=>
  go_wp2_with fail
  go_ret;rw[HV.out];exact⟨rfl,m,by show CK _ m d gc gl gi bi h (n+1) C;rw[d4.out];exact V.up (Nat.le_succ _),CT.of_below d3⟩
 | false=>
 have a9:Hid (CT [gl,bi] w m w5 m):=jz (CT.of_below d3);obtain⟨n4,c32⟩:=xX b9.range HQ.out;replace c32:w5.cell? ⟨gq,32,none⟩=some (.int .i64 q.2):=c32;have a3:=jz (OS V);obtain⟨br,k1⟩:=je C.L.brk;rw[<- k1] at HV a3;clear k1 n4;cases br with
 | true=>
  go_wp2_with (refine a3.mono ?_;rintro e wq ⟨rfl,D⟩;rw[D];clear D wq)
  go_ret;rw[HV.out];exact⟨rfl,m,by show CK _ m d gc gl gi bi h (n+1) C;rw[d4.out];exact V.up (Nat.le_succ _),a9⟩
 | false=>
 obtain⟨t,ht⟩:=je q.2;rw[<- ht] at HV c32;clear ht;rcases jb (decide (t<0)) with t1|t1
 ·go_wp2_with (refine a3.mono ?_;rintro e wq ⟨rfl,D⟩;rw[D];clear D wq)
  go_ret;have h1:=of_decide_eq_true t1;rw[HV.out,jQ (by simp),jQ (by simp),jP h1];exact⟨rfl,m,by show CK _ m d gc gl gi bi h (n+1) C;rw[d4.out];exact V.up (Nat.le_succ _),a9⟩
 rcases jb (decide (4611686018427387904<t)) with t2|t2
 ·go_wp2_with (refine a3.mono ?_;rintro e wq ⟨rfl,D⟩;rw[D];clear D wq)
  go_ret;have h1:=of_decide_eq_false t1;have h2:=of_decide_eq_true t2;rw[HV.out,jQ (by simp),jQ (by simp),jQ h1,jP h2];exact⟨rfl,m,by show CK _ m d gc gl gi bi h (n+1) C;rw[d4.out];exact V.up (Nat.le_succ _),a9⟩
 have b7:=HV.out;rw[jQ (by simp),jQ (by simp),jQ (of_decide_eq_false t1),jQ (of_decide_eq_false t2)] at b7;replace HV:=jz b7;clear b7;have c6:=jz (FK V);have c4:=jz (FM V);obtain⟨rm,g8⟩:∃ r:Nat,r=h-1:=⟨_,rfl⟩;obtain⟨cn,g1⟩:∃ c:Nat,c=C.L.cnt:=⟨_,rfl⟩;rw[<- g8] at c4 HV;rw[<- g1] at c6 HV;have e0:=jz g8;have k5:=jz g1;clear g8 g1;rcases jo cn rm with p8|p7
 ·have hi:(cn:Int)<(rm:Int):=by omega
  rw[jQ (by omega),jQ (by omega)] at HV;go_wp2_with fail
  refine a3.mono ?_;rintro e wq ⟨rfl,D⟩;rw[D];clear D wq;go_wp2_with fail
  refine c6.mono ?_;rintro e wq ⟨rfl,D⟩;rw[D];clear D wq;go_wp2_with fail
  refine c4.mono ?_;rintro e w7 ⟨rfl,R⟩;have HK7a:=jz (V.keep R);have HQ7a:=jz (b9.keep R);have HT7a:=jz (a9.trans (CT.of_below R));have f9:=jz (FK HK7a);have f6:=jz (FM HK7a);rw[show C.L.cnt=cn from k5.symm] at f9;rw[<- e0.out] at f6;clear R c6 c4 a3 c32;go_wp2_with fail
  refine f9.mono ?_;rintro e wq ⟨rfl,D⟩;rw[D];clear D wq;go_wp2_with fail
  refine f6.mono ?_;rintro e w8 ⟨rfl,e3⟩;have HK8a:=jz (HK7a.keep e3);have HQ8a:=jz (HQ7a.keep e3);have HT8a:=jz (HT7a.trans (CT.of_below e3));clear e3 f9 f6 V b9 a9 HK7a HQ7a HT7a f0 f4 d3;go_upto_region 13 with fail
  have e8:Hid (Far m [gl] gq):=jz (⟨a5.out.1,λhm=>a5.out.2 (by simp at hm ⊢;exact .inl hm)⟩);obtain⟨wS,J⟩:=je w8.drew;have Z:Hid (Bw w8 wS):=jz (by rw[J];exact(ji _ _).drew);have I:=jz (HK8a.keep Z);have O:=jz (HQ8a.keep Z);refine kZ (n:=7) (λW=>(Blk W gc 113 (cacheC gl gi til)/\Blk W gq 26 (aO q).toArray)) (by rw[<- J];exact⟨I.blk,O⟩) (h:=λhH=>?_);rw[<- J] at hH ⊢;clear J;refine qM 0 (.pointer (some ⟨gc,0,none⟩)) ?_;refine qT 1 (.pointer (some ⟨gc,0,none⟩)) ?_;refine qT 2 (.pointer (some ⟨gc,0,none⟩)) ?_;refine qC 3 (v:=.pointer (some ⟨gl,0,none⟩)) (λ_ hX=>(bT hX.1).1) ?_;refine qL 4 (cs:=aO q) (λ_ hX=>hX.2.range) (d5) ?_;refine kF 5 (some 53) ((d2 wS m I.lk).mono ?_);rintro e w6 ⟨rfl,m6,a7,a2⟩;have a8:=jz (I.log a7 a2);have c5:Hid (CT [gl,bi] w m w6 m6):=jz (HT8a.trans ((CT.of_below Z).trans (CT.of_lt a2 (.inl (by simp)))));have c3:=jz (O.ct (CT.of_lt (F:=[gl]) a2 (.inl (by simp))) e8);clear a7 a2;refine⟨_,rfl,⟨a8.blk,c3⟩,λhH=>?_⟩;simp only[jq];refine qT 6 (bV pa) ?_;refine kE (h:=?_);clear I O Z;cases pa with
  | some x=>
   obtain⟨t,u,hv⟩:=cH x;have a4:=jz (vT (some x) w6 (d1));rw[hv] at a4 ⊢;have k4:=dR t u;clear hv;go_wp2_with fail
   refine a4.mono ?_;rintro e w7 ⟨rfl,R⟩;have f1:=jz (a8.keep R);have b3:=jz (c5.trans (CT.of_below R));clear R;go_wp2_with fail
   go_ret;rw[HV.out];exact⟨rfl,m6,f1.up (Nat.le_succ _),b3⟩
  | none=>
   have c9:bV none = .nilIface:=rfl;rw[c9];go_upto_region 16 with fail
   obtain⟨wS,J⟩:=je w6.drew;have Z:Hid (Bw w6 wS):=jz (by rw[J];exact(ji _ _).drew);have I:=jz (a8.keep Z);have O:=jz (c3.keep Z);refine kZ (n:=6) (λW=>(Blk W gc 113 (cacheC gl gi til)/\Blk W gq 26 (aO q).toArray)) (by rw[<- J];exact⟨I.blk,O⟩) (h:=λhH=>?_);rw[<- J] at hH ⊢;clear J;refine qM 0 (.pointer (some ⟨gc,0,none⟩)) ?_;refine qT 1 (.pointer (some ⟨gc,0,none⟩)) ?_;refine qT 2 (.pointer (some ⟨gc,1,none⟩)) ?_;refine qC 3 (v:=.pointer (some ⟨gi,0,none⟩)) (λ_ hX=>(bT hX.1).2.1) ?_;refine qL 4 (cs:=aO q) (λ_ hX=>hX.2.range) (d5) ?_;refine kF 5 (some 63) ((OR wS gi bi n _ q I.ix HQ (by omega)).mono ?_);rintro e w8 ⟨pb,rfl,d0,a0⟩;have f2:=jz (I.index a0 d0);have f7:=jz (c5.trans ((CT.of_below Z).trans (CT.of_off (F:=[gl,bi]) a0 (by simp))));have a6:=jz a0;clear d0 a0;refine⟨_,rfl,⟨a6.blk I.blk I.ne.2.2.2.1,a6.blk O h8⟩,λhH=>?_⟩;simp only[jq];refine kE (h:=?_);go_wp2_with fail
   go_ret;rw[HV.out];exact⟨rfl,m6,f2,f7⟩
 ·have hi:(rm:Int)<=(cn:Int):=by omega
  rw[jP (by omega)] at HV;go_wp2_with fail
  refine a3.mono ?_;rintro e wq ⟨rfl,D⟩;rw[D];clear D wq;go_wp2_with fail
  refine c6.mono ?_;rintro e wq ⟨rfl,D⟩;rw[D];clear D wq;go_wp2_with fail
  refine c4.mono ?_;rintro e w7 ⟨rfl,R⟩;have h5:=jz (k6 w7 m (V.keep R));have f5:=jz (b9.keep R);have b3:=jz (a9.trans (CT.of_below R));have k2:gq<w7.heap.size:=f5.lt;clear R c6 c4 a3 c32;go_wp2_with fail
  refine h5.mono ?_;rintro e w9 ⟨rfl,m9,k3,e4⟩;have b2:=jz k3;have e1:=jz (b3.trans e4);have h7:=jz (f5.ct e4 (a5));have m1:=jz (e4.far k2 a5);clear k3 e4 V b9 a9 f0 f4 d3 k2 h5 b3 f5;cases xa with
  | some x=>
   obtain⟨ty,u,hv⟩:=cH x;have a4:=jz (vT (some x) w9 m5);rw[hv] at a4 ⊢;have k4:=dR ty u;clear hv;go_wp2_with fail
   refine a4.mono ?_;rintro e p9 ⟨rfl,K⟩;have m3:=jz (b2.keep K);have m4:=jz (e1.trans (CT.of_below K));clear K;go_wp2_with fail
   go_ret;rw[HV.out];exact⟨rfl,m9,m3.up (Nat.le_succ _),m4⟩
  | none=>
   have c9:bV none = .nilIface:=rfl;rw[c9];obtain⟨c2,g0⟩:∃ c:Nat,c=xC.L.cnt:=⟨_,rfl⟩;have e2:=jz (FK b2);have d7:=jz (FM b2);have b7:Hid (mD d h C q now=rC xd h xC q):=jz HV.out;replace HV:=b7;clear b7 d2 d1 pa pd pl;rw[<- g0] at e2;rw[<- e0.out] at d7;have h4:=jz g0;clear g0;rcases jo c2 rm with n7|n6
   ·have n2:(c2:Int)<(rm:Int):=by omega
    obtain⟨pa,a1⟩:=je (sM xd h xC.L q);obtain⟨pd,b0⟩:=je (oL xd h xC.L q);obtain⟨pl,b1⟩:=je (vH xd h xC.L q);obtain⟨til,U⟩:=je xC.til;have d2:Hid (∀ W M,LK W M xd gl h xC.L->Wc 86 #[.pointer (some ⟨gl,0,none⟩),.agg (aO q).toArray] W λe w'=>e = .returned (bV pa)/\∃ m',LK w' m' pd gl h pl/\LT gl W M w' m'):=jz (by rw[a1,b0,b1];exact λW M kk=>vI q W M xd gl h xC.L kk HQ m8);have d1:Hid (aI (eY pa)):=jz (by rw[a1];exact yL xd h xC.L q);have k0:Hid (mD d h C q now=match (generalizing:=false) pa with
     | none=>(10,pd,⟨pl,(cR xC.E q).1,til⟩)
     | some x=>(zZ (some x),pd,⟨pl,xC.E,til⟩)):=jz (by
      rw[HV.out]
      unfold rC
      rw[<- h4.out,<- e0.out,jQ (by omega),a1,b0,b1,U])
    replace HV:=k0;have HKc:Hid (CK w9 m9 xd gc gl gi bi h n ⟨xC.L,xC.E,til⟩):=jz (by rw[U];exact b2);have a5:=m1;clear k0 a1 b0 b1 U;go_wp2_with fail
    refine e2.mono ?_;rintro e wq ⟨rfl,D⟩;rw[D];clear D wq;go_wp2_with fail
    refine d7.mono ?_;rintro e wB ⟨rfl,K⟩;have f3:=jz (HKc.keep K);have h9:=jz (h7.keep K);have f8:=jz (e1.trans (CT.of_below K));clear K e2 d7 b2 HKc h7 e1;go_upto_region 13 with fail
    have e8:Hid (Far m9 [gl] gq):=jz (⟨a5.out.1,λhm=>a5.out.2 (by simp at hm ⊢;exact .inl hm)⟩);obtain⟨wS,J⟩:=je wB.drew;have Z:Hid (Bw wB wS):=jz (by rw[J];exact(ji _ _).drew);have I:=jz (f3.keep Z);have O:=jz (h9.keep Z);refine kZ (n:=7) (λW=>(Blk W gc 113 (cacheC gl gi til)/\Blk W gq 26 (aO q).toArray)) (by rw[<- J];exact⟨I.blk,O⟩) (h:=λhH=>?_);rw[<- J] at hH ⊢;clear J;refine qM 0 (.pointer (some ⟨gc,0,none⟩)) ?_;refine qT 1 (.pointer (some ⟨gc,0,none⟩)) ?_;refine qT 2 (.pointer (some ⟨gc,0,none⟩)) ?_;refine qC 3 (v:=.pointer (some ⟨gl,0,none⟩)) (λ_ hX=>(bT hX.1).1) ?_;refine qL 4 (cs:=aO q) (λ_ hX=>hX.2.range) (d5) ?_;refine kF 5 (some 53) ((d2 wS m9 I.lk).mono ?_);rintro e w6 ⟨rfl,m6,a7,a2⟩;have a8:=jz (I.log a7 a2);have c5:Hid (CT [gl,bi] w m w6 m6):=jz (f8.trans ((CT.of_below Z).trans (CT.of_lt a2 (.inl (by simp)))));have c3:=jz (O.ct (CT.of_lt (F:=[gl]) a2 (.inl (by simp))) e8);clear a7 a2;refine⟨_,rfl,⟨a8.blk,c3⟩,λhH=>?_⟩;simp only[jq];refine qT 6 (bV pa) ?_;refine kE (h:=?_);clear I O Z;cases pa with
    | some x=>
     obtain⟨t,u,hv⟩:=cH x;have a4:=jz (vT (some x) w6 (d1));rw[hv] at a4 ⊢;have k4:=dR t u;clear hv;go_wp2_with fail
     refine a4.mono ?_;rintro e w7 ⟨rfl,R⟩;have f1:=jz (a8.keep R);have b3:=jz (c5.trans (CT.of_below R));clear R;go_wp2_with fail
     go_ret;rw[HV.out];exact⟨rfl,m6,f1.up (Nat.le_succ _),b3⟩
    | none=>
     have c9:bV none = .nilIface:=rfl;rw[c9];go_upto_region 16 with fail
     obtain⟨wS,J⟩:=je w6.drew;have Z:Hid (Bw w6 wS):=jz (by rw[J];exact(ji _ _).drew);have I:=jz (a8.keep Z);have O:=jz (c3.keep Z);refine kZ (n:=6) (λW=>(Blk W gc 113 (cacheC gl gi til)/\Blk W gq 26 (aO q).toArray)) (by rw[<- J];exact⟨I.blk,O⟩) (h:=λhH=>?_);rw[<- J] at hH ⊢;clear J;refine qM 0 (.pointer (some ⟨gc,0,none⟩)) ?_;refine qT 1 (.pointer (some ⟨gc,0,none⟩)) ?_;refine qT 2 (.pointer (some ⟨gc,1,none⟩)) ?_;refine qC 3 (v:=.pointer (some ⟨gi,0,none⟩)) (λ_ hX=>(bT hX.1).2.1) ?_;refine qL 4 (cs:=aO q) (λ_ hX=>hX.2.range) (d5) ?_;refine kF 5 (some 63) ((OR wS gi bi n _ q I.ix HQ (by omega)).mono ?_);rintro e w8 ⟨pb,rfl,d0,a0⟩;have f2:=jz (I.index a0 d0);have f7:=jz (c5.trans ((CT.of_below Z).trans (CT.of_off (F:=[gl,bi]) a0 (by simp))));have a6:=jz a0;clear d0 a0;refine⟨_,rfl,⟨a6.blk I.blk I.ne.2.2.2.1,a6.blk O h8⟩,λhH=>?_⟩;simp only[jq];refine kE (h:=?_);go_wp2_with fail
     go_ret;rw[HV.out];exact⟨rfl,m6,f2,f7⟩
   ·have n2:(rm:Int)<=(c2:Int):=by omega
    go_wp2_with fail
    refine e2.mono ?_;rintro e wq ⟨rfl,D⟩;rw[D];clear D wq;go_wp2_with fail
    refine d7.mono ?_;rintro e wB ⟨rfl,K⟩;have f3:=jz (b2.keep K);have f8:=jz (e1.trans (CT.of_below K));clear K;go_wp2_with fail
    go_ret;rw[HV.out];unfold rC;rw[<- h4.out,<- e0.out,jP (by omega)];exact⟨rfl,m9,f3.up (Nat.le_succ _),f8⟩
end
end Go.Proofs.YtjjlaipkkdncfaaGreatDoor
