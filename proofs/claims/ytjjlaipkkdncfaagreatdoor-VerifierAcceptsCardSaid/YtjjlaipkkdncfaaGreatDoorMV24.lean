import Derived.Test.YtjjlaipkkdncfaaGreatDoorMV22
import Derived.Test.YtjjlaipkkdncfaaGreatDoorMV21
import Derived.Test.YtjjlaipkkdncfaaGreatDoorMV18
set_option linter.unusedVariables false
set_option linter.unusedSimpArgs false
set_option maxRecDepth 100000
set_option maxHeartbeats 40000000
namespace Go.Proofs.YtjjlaipkkdncfaaGreatDoor
open Go.Proofs.Tryz
section
open Go.RowKit
def bsI(xs:Wl):Bs:=xs.map λx=>UInt8.ofNat x.toNat
theorem lY(D:Wl):(bsI D).length=D.length:=List.length_map _
structure Nm where
 realm:Bs
 parts:List Bs
def nm0:Nm:=⟨[],[]⟩
structure NmOk(n:Nm):Prop where
 realm:eD n.realm=true
 parts:∀ p∈n.parts,eD p=true
 few:1<=n.parts.length/\n.parts.length<=8
theorem gG{p:Bs}(h:eD p=true):1<=p.length/\p.length<=100:=by
 unfold eD at h;simp only[Bool.and_eq_true,decide_eq_true_eq] at h;exact⟨h.1,h.2.1⟩
def eV:Nat->RdS->List Bs->Option (List Bs)×RdS
 | 0,s,acc=>(some acc,s)
 | k+1,s,acc=>if eD (bsI (aX 1 s).1) then eV k (aX 1 s).2 (acc++[bsI (aX 1 s).1]) else (none,(aX 1 s).2)
def dW(s:RdS):(Nm×Bool)×RdS:=
 if eD (bsI (aX 1 s).1)=false then ((nm0,false),(aX 1 s).2)
 else if (aF 1 (aX 1 s).2).1<1\/8<(aF 1 (aX 1 s).2).1 then ((nm0,false),(aF 1 (aX 1 s).2).2)
 else match eV (aF 1 (aX 1 s).2).1 (aF 1 (aX 1 s).2).2 [] with
  | (some ps,s')=>((⟨bsI (aX 1 s).1,ps⟩,!s'.2),s')
  | (none,s')=>((nm0,false),s')
theorem vM:∀(k:Nat) (s:RdS) (acc:List Bs),RdOk s->RdOk (eV k s acc).2
 | 0,s,acc,h=>h
 | k+1,s,acc,h=>by
  unfold eV;split
  ·exact vM k _ _ (h.str 1)
  ·exact h.str 1
theorem tD{s:RdS}(h:RdOk s):RdOk (dW s).2:=by
 unfold dW;split
 ·exact h.str 1
 split
 ·exact(h.str 1).num 1
 ·have:=vM (aF 1 (aX 1 s).2).1 (aF 1 (aX 1 s).2).2 [] ((h.str 1).num 1);split
  ·rename_i D;rw[D] at this;exact this
  ·rename_i D;rw[D] at this;exact this
theorem pJ:∀(k:Nat) (s:RdS) (acc ps:List Bs),(eV k s acc).1=some ps->(∀ p∈acc,eD p=true)->ps.length=acc.length+k/\∀ p∈ps,eD p=true
 | 0,s,acc,ps,h,ha=>by
  have:acc=ps:=Option.some.inj h;subst this;exact⟨rfl,ha⟩
 | k+1,s,acc,ps,h,ha=>by
  unfold eV at h;split at h
  ·rename_i I;have:=pJ k _ _ ps h (λp D=>by
    rcases List.mem_append.1 D with h1|h1
    ·exact ha p h1
    ·simp at h1;subst h1;exact I)
   rw[jj,List.length_singleton] at this;exact⟨by omega,this.2⟩
  ·cases h
theorem yI{s:RdS}(h:(dW s).1.2=true):NmOk (dW s).1.1:=by
 unfold dW at h ⊢;split at h
 ·cases h
 rename_i I;rw[jQ I];split at h
 ·cases h
 rename_i J;rw[jQ J];split at h
 ·rename_i ps s' D;have:=pJ _ _ _ ps (by rw[D]) (λp K=>by cases K);exact⟨by simpa using I,this.2,by simp at this;show 1<=ps.length/\ps.length<=8;omega⟩
 ·cases h
def fF(p:Bs):List Nat:=p.length :: p.map (·.toNat)
def nmN(n:Nm):List Nat:=fF n.realm++n.parts.length :: n.parts.flatMap fF
theorem C5{p:Bs}(h:eD p=true):(fF p).length<=101:=by
 have:=gG h;unfold fF;simp;omega
theorem C7{p:Bs}(h:eD p=true):Byn (fF p):=λx D=>by
 have:=gG h;unfold fF at D;rcases List.mem_cons.1 D with h1|h1
 ·omega
 ·obtain⟨b,_,rfl⟩:=List.mem_map.1 h1;exact b.toNat_lt
theorem C8:∀(l:List Bs),(∀ p∈l,eD p=true)->(l.flatMap fF).length<=101*l.length
 | [],_=>by simp
 | p :: l,h=>by
  have h1:=C5 (h p (by simp));have I:=C8 l (λq D=>h q (by simp[D]));rw[List.flatMap_cons,jj,List.length_cons];omega
theorem OA{l:List Bs}(h:∀ p∈l,eD p=true):Byn (l.flatMap fF):=λx I=>by
 obtain⟨p,D,h1⟩:=List.mem_flatMap.1 I;exact C7 (h p D) x h1
theorem tE{n:Nm}(h:NmOk n):(nmN n).length<=1000:=by
 have h1:=C5 h.realm;have D:=C8 n.parts h.parts;have I:=h.few;unfold nmN;rw[jj,List.length_cons];omega
theorem IG{n:Nm}(h:NmOk n):Byn (nmN n):=λx D=>by
 have I:=h.few;unfold nmN at D;rcases List.mem_append.1 D with h1|h1
 ·exact C7 h.realm x h1
 rcases List.mem_cons.1 h1 with h1|h1
 ·omega
 ·exact OA h.parts x h1
end
section
open Go.RowKit
attribute [local irreducible] wpQuiet wpAnyH
theorem WE:SlT prog 49 9 1 16:=SlT.mk' underlying49 (z:=.string ByteArray.empty) (by kernel_rfl) rfl (by decide)
def fG(l:List Bs):Wv:=l.map λp=>.string (bI p)
theorem UK{p:Wl}(h:Bys p)(j:Nat)(D:j<p.length)(I:j<(bsI p).length):(((bsI p)[j]).toNat:Int)=p[j]:=by
 have:=h _ (List.getElem_mem D);have e:(bsI p)[j]=UInt8.ofNat (p[j]).toNat:=by simp[bsI]
 rw[e,UInt8.toNat_ofNat'];omega
theorem IH{w:Wd}{p:Wl}{A:Option Addr}{cap:Nat}(h:Sn w 1 (.slice A p.length cap) p.length (u8s p))(hb:Bys p):(convert 60 9 (.slice A p.length cap)).run prog w = .ok (.string (bI (bsI p))) w:=by
 obtain⟨U,I,hv,_,_,J⟩:=h;injection hv with hA _ _
 subst hA;cases A with
 | none=>
  have R:p=[]:=by
   rcases Nat.eq_zero_or_pos p.length with h|h
   ·exact List.eq_nil_of_length_eq_zero h
   ·obtain⟨b,off,e,_⟩:=J h;cases e
  subst R;rw[run_convert_bytes_nil w 60 5 underlying60 underlying5 _ _ _ underlying9];rfl
 | some a=>
  have:=run_convert_bytes_back w 60 9 5 a cap (bsI p) underlying60 underlying5 underlying9 (λj O=>by
   have D:j<p.length:=by rw[<- lY];exact O
   obtain⟨b,off,e,K⟩:=J (by omega)
   injection e with e
   subst e
   rw[Addr.add_lit,UK hb j D]
   exact K j _ (by simp[u8s,D]))
  rw[lY] at this;exact this
def nmZ:Wa:=#[.string ByteArray.empty,.slice none 0 0]
def NmP(w:Wd)(n:Nm)(ok:Bool)(e:Ending)(w':Wd):Prop:=∃ v,e = .returned (.tuple #[.agg #[.string (bI n.realm),v],.bool ok])/\w'.ownsRow w.heap.size 9 1 v n.parts.length (fG n.parts)
theorem RV{B:Nat}{w:Wd}{r:Nat}{s:RdS}(h:RDB B w r s):Wc 216 #[.pointer (some ⟨r,0,none⟩)] w λe w'=>e = .returned (.bool s.2)/\w'=w:=by
 obtain⟨v,h1,_⟩:=h;have D:=h1.1.cell 1;simp only[jf,jh,jg] at D;clear h1;go_enter func216,ntmps216
 go_wp2_with fail
 go_ret;exact⟨rfl,rfl⟩
theorem Off.put{r g:Nat}{w W:Wd}(h:Off r w W)(hg:w.heap.size<=g)(i:Nat)(u:Value):Off r w (W.setCell ⟨g,i,none⟩ u):=
 ⟨h.os,h.tape,h.output,by simpa using h.size,λk I D=>(Below.heap_setCell W ⟨g,i,none⟩ u k (by show k≠g;omega)).trans (h.block k I D)⟩
theorem RDB.put{B:Nat}{W:Wd}{r g:Nat}{s:RdS}(h:RDB B W r s)(hr:r≠g)(hg:B<=g)(i:Nat)(u:Value):RDB B (W.setCell ⟨g,i,none⟩ u) r s:=h.off ((Off.refl g W).set i u) hr hg
theorem Off.puts{r g:Nat}{w:Wd}:∀(vs:Wv) (o:Nat) {W:Wd},Off r w W->w.heap.size<=g->Off r w (W.setCells g o vs)
 | [],o,W,h,hg=>h
 | u :: vs,o,W,h,hg=>Off.puts vs (o+1) (h.put hg o u) hg
theorem Off.putsR(g:Nat){w:Wd}:∀(vs:Wv) (o:Nat) {W:Wd},Off g w W->Off g w (W.setCells g o vs)
 | [],o,W,h=>h
 | u :: vs,o,W,h=>Off.putsR g vs (o+1) (h.set o u)
theorem lF{w:Wd}{g t n:Nat}{cs:Wa}(h:Blk w g t cs)(I:n<=cs.size):w.there g 0 n:=λj D=>⟨by rw[Nat.zero_add,h.cell,Array.getElem?_eq_getElem (by omega)];rfl,h.frozen _⟩
theorem cQ{w:Wd}{base e s n g t:Nat}{v:Value}{O:Wv}{cs:Wa}(K:w.ownsRow base e s v n O)(I:Blk w g t cs)(D:t≠e):some g≠v.ownBlock:=λh=>by
 obtain⟨_,h1|⟨R,cap,J,rfl,_,hg,_⟩⟩:=K
 ·rw[h1.1] at h;cases h
 ·injection h with h
  subst h;unfold Blk at I;rw[I] at hg;injection hg with hg
  injection hg with _ hg _
  exact D hg
theorem i7{w w':Wd}{base e s n g t:Nat}{v:Value}{K:Wv}{cs:Wa}(hg:w.grownBy w' v.ownBlock)(J:w.ownsRow base e s v n K)(D:Blk w g t cs)(I:t≠e):Blk w' g t cs:=(hg.block g D.lt (cQ J D I)).trans D
theorem Off.grownO{r:Nat}{w W W':Wd}{base e s n:Nat}{v:Value}{K:Wv}(h:Off r w W)(J:W.ownsRow base e s v n K)(hb:w.heap.size<=base)(hg:W.grownBy W' v.ownBlock):Off r w W':=
 ⟨hg.os.trans h.os,hg.tape.trans h.tape,hg.output.trans h.output,jm h.size hg.size,λk I D=>(hg.block k (jp I h.size) (λe=>by have:=(J.lt k e.symm).1;omega)).trans (h.block k I D)⟩
theorem RDB.grown{B:Nat}{W W':Wd}{r:Nat}{s:RdS}{base e I n:Nat}{v:Value}{J:Wv}(h:RDB B W r s)(D:W.ownsRow base e I v n J)(K:B<=base)(O:r<base)(hg:W.grownBy W' v.ownBlock):RDB B W' r s:=by
 cases hv:v.ownBlock with
 | none=>
  rw[hv] at hg;exact h.keep ((ji _ W).grown hg (ja _) (λb h=>by cases h))
 | some g=>
  have h1:=(D.lt g hv).1;rw[hv] at hg;exact h.off (Off.of_grown hg) (by omega) (by omega)
structure NrX(B:Nat)(w wr:Wd)(r gn g2 k N:Nat)(S:ByteArray)(v:Value)(s:RdS)(acc:List Bs)(R:Option (List Bs)×RdS):Prop where
 rd:RDB B wr r s
 ok:RdOk s
 n:Blk wr gn 51 #[.string S,v]
 z:Blk wr g2 51 nmZ
 off:Off r w wr
 own:wr.ownsRow w.heap.size 9 1 v k (fG acc)
 len:acc.length=k
 eq:eV (N-k) s acc=R
theorem mZ:(prog.info? 51).map (·.size)=some 2:=by kernel_rfl
theorem yJ{B:Nat}{w:Wd}{r:Nat}{s:RdS}(h:RDB B w r s)(hB:B<=w.heap.size)(hs:RdOk s):Wc 168 #[.pointer (some ⟨r,0,none⟩)] w λe w'=>Off r w w'/\RDB B w' r (dW s).2/\NmP w (dW s).1.1 (dW s).1.2 e w':=by
 have g0:=h.lt;have HR:=jz h;have c7:=jz hs;have HQ:Hid (dW s=if eD (bsI (aX 1 s).1)=false then ((nm0,false),(aX 1 s).2)
  else if (aF 1 (aX 1 s).2).1<1\/8<(aF 1 (aX 1 s).2).1 then ((nm0,false),(aF 1 (aX 1 s).2).2)
  else match eV (aF 1 (aX 1 s).2).1 (aF 1 (aX 1 s).2).2 [] with
   | (some ps,s')=>((⟨bsI (aX 1 s).1,ps⟩,!s'.2),s')
   | (none,s')=>((nm0,false),s')):=jz (by unfold dW;rfl)
 obtain⟨Z,hZ⟩:=je (dW s);rw[<- hZ] at HQ ⊢;clear hZ h hs;have a8:Hid (r<w.heap.size/\B<=w.heap.size):=jz ⟨g0,hB⟩;clear g0 hB;obtain⟨PQ,f5⟩:∃ q,q=fun(e:Ending) (w':Wd)=>Off r w w'/\RDB B w' r Z.2/\NmP w Z.1.1 Z.1.2 e w':=⟨_,rfl⟩
 have k3:=jz f5;rw[<- f5];clear f5;go_enter func168,ntmps168
 go_upto_region 1 with fail
 obtain⟨w1,c9⟩:=je (w.alloc (.cells nmZ 51));obtain⟨K,f7⟩:=je w.heap.size;have g1:Hid (Bw w w1):=jz (by rw[c9];exact aV _ _);have g8:Hid (Blk w1 K 51 nmZ):=jz (by rw[c9,f7];exact Blk.new _ _ _);have D:Hid (w.heap.size<=K/\r≠K/\B<=K):=jz (by have:=a8.out;exact⟨by omega,by omega,by omega⟩);have n2:w.alloc (.cells #[.string { data:=#[] },.slice none 0 0] 51)=w1:=c9.symm;rw[n2,<- f7];clear c9 n2 f7;have e8:=jz (oH 1 (HR.keep g1) c7 (by omega) (by omega));have e5:=jz (c7.str 1);have e0:=jz (iQ c7 1);obtain⟨x1,n3⟩:=je (aX 1 s);rw[<- n3] at e8 e5 e0 HQ;clear n3;go_wp2_with fail
 refine e8.mono ?_;rintro e w2 ⟨O,m4,y,rfl,a3,f6⟩;obtain⟨A,ca,rfl,_⟩:=id a3;have b9:=IH a3 e0.out.1;have k4:=jz m4;have d7:=jz (O.blk g8 (Ne.symm D.out.2.1));have a9:Hid (Off r w w2):=jz ((Off.of_below g1).trans O);obtain⟨S,hS⟩:=je (bI (bsI x1.1));rw[<- hS] at b9;have k7:=jz hS;clear O m4 a3 f6 e8 hS;go_upto_region 2 with fail
 obtain⟨w3,d0⟩:=je (w2.alloc (.cells #[.string S,.slice none 0 0] 51));obtain⟨gn,f9⟩:=je w2.heap.size;have c3:Hid (Bw w2 w3):=jz (by rw[d0];exact aV _ _);have e1:Hid (Blk w3 gn 51 #[.string S,.slice none 0 0]):=jz (by rw[d0,f9];exact Blk.new _ _ _);have a1:Hid (K≠gn/\r≠gn/\w.heap.size<=gn/\B<=gn):=jz (by have:=d7.lt;have:=a9.size;have:=a8.out;exact⟨by omega,by omega,by omega,by omega⟩);rw[<- d0,<- f9];clear d0 f9 b9;have h0:=jz (d7.keep c3);have k5:=jz (k4.keep c3);have d2:Hid (Off r w w3):=jz (a9.trans (Off.of_below c3));have n0:=e1.cell 0;simp only[jf,jh,jg] at n0;have a2:=jz (nK (bsI x1.1) w3 (by rw[lY];have:=e0.out.2;have:=c7.len;omega));rw[<- k7.out] at a2;go_wp2_with fail
 refine a2.mono ?_;rintro e w4 ⟨rfl,b7⟩;have U:=jz (h0.keep b7);have h5:=jz (e1.keep b7);have e6:=jz (k5.keep b7);have b0:Hid (Off r w w4):=jz (d2.trans (Off.of_below b7));clear b7 n0 a2 g8 d7 h0 k4 k5 e1 a9 d2 c3;have a4:Hid (∀(W:Wd) (s':RdS),Blk W K 51 nmZ->Off r w W->RDB B W r s'->Z=((nm0,false),s') ->
   PQ (.returned (.tuple #[.agg nmZ,.bool false])) ((W.setCell ⟨K,0,none⟩ (.string ByteArray.empty)).setCell ⟨K,1,none⟩ (.slice none 0 0))):=jz (λW s' hk O hr hz=>by
  rw[k3.out,hz]
  exact⟨(O.put D.out.1 _ _).put D.out.1 _ _,(hr.put D.out.2.1 D.out.2.2 _ _).put D.out.2.1 D.out.2.2 _ _,_,rfl,World.ownsRow_nil _ _ _ _⟩)
 have a6:Hid (∀(W:Wd),Blk W K 51 nmZ->((W.setCell ⟨K,0,none⟩ (.string ByteArray.empty)).setCell ⟨K,1,none⟩ (.slice none 0 0)).rangeAt K 0 [.string ByteArray.empty,.slice none 0 0]):=jz (λW hk=>((hk.set_ 0 (.string ByteArray.empty)).set_ 1 (.slice none 0 0)).range);have k0:=U.cell 0;have k1:=U.cell 1;have f0:=U.frozen 0;have f1:=U.frozen 1;simp only[nmZ,jf,jh,jg] at k0 k1;cases hw:eD (bsI x1.1) with
 | false=>
  have HZ:Hid (Z=((nm0,false),x1.2)):=jz (by rw[HQ.out,jP hw]);clear hw;go_wp2_with fail
  refine bodyPost_ret (aD (P:=prog) (cs:=[.string ByteArray.empty,.slice none 0 0]) rfl _ rfl (a6 _ U) underlying51 rfl mZ) rfl ?_;exact a4 _ _ U b0 e6 HZ.out
 | true=>
  rw[jQ (by rw[hw];decide)] at HQ;have e4:=jz (fK 1 e6 e5 (by omega) (by omega));have c6:=jz (e5.num 1);have q4:=jz hw;obtain⟨x2,n4⟩:=je (aF 1 x1.2);rw[<- n4] at e4 c6 HQ;clear n4 hw k0 k1 f0 f1;go_wp2_with fail
  refine e4.mono ?_;rintro e w5 ⟨O,m5,rfl⟩;have I:=jz (O.blk U (Ne.symm D.out.2.1));have h6:=jz (O.blk h5 (Ne.symm a1.out.2.1));have b2:=jz m5;have a5:=jz (b0.trans O);obtain⟨N,s2⟩:=x2;simp only at HQ b2 c6 ⊢;clear O m5 e4 U h5 e6 b0;have k0:=I.cell 0;have k1:=I.cell 1;have f0:=I.frozen 0;have f1:=I.frozen 1;simp only[nmZ,jf,jh,jg] at k0 k1;by_cases hN1:N<1
  ·have HZ:Hid (Z=((nm0,false),s2)):=jz (by rw[HQ.out,jP (.inl hN1)]);have t1:(N:Int)<1:=by omega
   go_wp2_with fail
   refine bodyPost_ret (aD (P:=prog) (cs:=[.string ByteArray.empty,.slice none 0 0]) rfl _ rfl (a6 _ I) underlying51 rfl mZ) rfl ?_;exact a4 _ _ I a5 b2 HZ.out
  by_cases hN8:8<N
  ·have HZ:Hid (Z=((nm0,false),s2)):=jz (by rw[HQ.out,jP (.inr hN8)]);have t1:¬(N:Int)<1:=by omega
   have t2:(8:Int)<N:=by omega
   go_wp2_with fail
   refine bodyPost_ret (aD (P:=prog) (cs:=[.string ByteArray.empty,.slice none 0 0]) rfl _ rfl (a6 _ I) underlying51 rfl mZ) rfl ?_;exact a4 _ _ I a5 b2 HZ.out
  rw[jQ (by omega)] at HQ;have t1:¬(N:Int)<1:=by omega
  have t2:¬(8:Int)<N:=by omega
  obtain⟨R,hR⟩:=je (eV N s2 []);rw[<- hR] at HQ;have m2:Hid (NrX B w w5 r gn K 0 N S (.slice none 0 0) s2 [] R):=jz ⟨b2,c6,h6,I,a5,World.ownsRow_nil _ _ _ _,rfl,hR.symm⟩;clear hR I h6 b2 a5 c6 k0 k1 f0 f1;go_upto_region 7 with fail
  go_wp2_with fail
  clear t1 t2;go_loopw [26] (λi wr=>∃(k:Nat) (v:Value) (s:RdS) (a0:List Bs),k<=N/\i = .int .u64 k/\Hid (NrX B w wr r gn K k N S v s a0 R)) (λi _=>N-(intOf i).toNat)
  case atStart=>exact⟨0,_,_,_,j0 _,rfl,m2⟩
  case round=>
   clear m2;obtain⟨k,v,s,a0,hk,rfl,HX⟩:=hrel;rcases jo k N with g0|q6
   ·have q7:(k:Int)<N:=by omega
    have f2:=jz (oH 1 HX.rd HX.ok (by omega) (by omega));have k2:=jz (HX.ok.str 1);have e3:=jz (iQ HX.ok 1);have c4:Hid ((if eD (bsI (aX 1 s).1) then eV (N-(k+1)) (aX 1 s).2 (a0++[bsI (aX 1 s).1]) else (none,(aX 1 s).2))=R):=jz (by
     have h:=HX.eq
     rw[show N-k=(N-(k+1))+1 from by omega] at h
     exact h)
    obtain⟨xp,n6⟩:=je (aX 1 s);rw[<- n6] at f2 k2 e3 c4;have q1:=jz HX.ok.len;clear n6;go_wp2_with fail
    refine f2.mono ?_;rintro e w6 ⟨O,m6,y,rfl,a3,f6⟩;obtain⟨A,ca,rfl,_⟩:=id a3;have b9:=IH a3 e3.out.1;have k6:=jz m6;have h3:=jz (O.blk HX.z (Ne.symm D.out.2.1));have h7:=jz (O.blk HX.n (Ne.symm a1.out.2.1));have d3:=jz (HX.off.trans O);have m1:Hid (w6.ownsRow w.heap.size 9 1 v k (fG a0)):=jz (aS HX.own (λb hb=>O.block b (HX.own.lt b hb).2 (by have:=(HX.own.lt b hb).1;have:=a8.out;omega)));have n7:=jz HX.len;obtain⟨T,hT⟩:=je (bI (bsI xp.1));rw[<- hT] at b9;have q0:=jz hT;have a2:=jz (nK (bsI xp.1) w6 (by rw[lY];have:=e3.out.2;have:=q1.out;omega));rw[<- hT] at a2;clear O m6 a3 f6 f2 HX hT;go_wp2_with fail
    clear b9;refine a2.mono ?_;rintro e w7 ⟨rfl,a7⟩;have e7:=jz (k6.keep a7);have V:=jz (h3.keep a7);have e2:=jz (h7.keep a7);have b1:=jz (d3.trans (Off.of_below a7));have f3:=jz (aE m1 a7);clear a7 a2 k6 h3 h7 d3 m1;cases hw:eD (bsI xp.1) with
    | false=>
     have HZ:Hid (Z=((nm0,false),xp.2)):=jz (by
      have h:=c4.out
      rw[jQ (by rw[hw];decide)] at h
      rw[HQ.out,<- h])
     have k0:=V.cell 0;have k1:=V.cell 1;have f0:=V.frozen 0;have f1:=V.frozen 1;simp only[nmZ,jf,jh,jg] at k0 k1;clear hw;go_wp2_with fail
     refine bodyPost_ret (aD (P:=prog) (cs:=[.string ByteArray.empty,.slice none 0 0]) rfl _ rfl (a6 _ V) underlying51 rfl mZ) rfl ?_;exact a4 _ _ V b1 e7 HZ.out
    | true=>
     rw[jP hw] at c4;clear hw;obtain⟨VA,vc,rfl,_,_⟩:=bN f3.out;have n1:=e2.cell 1;simp only[jf,jh,jg] at n1;have b3:=jz (aE f3 (aV w7 (.cells #[.string T] 9)));have p8:=jz (e2.keep (aV w7 (.cells #[.string T] 9)));have p6:=jz (V.keep (aV w7 (.cells #[.string T] 9)));have p9:=jz (e7.keep (aV w7 (.cells #[.string T] 9)));have h9:=jz (b1.trans (Off.of_below (aV w7 (.cells #[.string T] 9))));have p7:Hid (w.heap.size<=(w7.alloc (.cells #[.string T] 9)).heap.size):=jz h9.size;clear f3 e2 V e7 b1;have c2:∀ u∈(#[.string T]:Wa).toList,u.oneCell'=true:=λu hu=>by simp at hu;rw[hu];rfl
     have h4:Hid (k<=8):=jz (by omega);go_wp2_with (refine app WE (.tmp 36) (.tmp 38) rfl rfl (by rfl) b3 (by rfl) (Sn.new w7 #[.string T] 9 1 1 rfl) c2 (by have:=h4.out;unfold maxLen;omega) (by have:=h4.out;omega) p7 ?_;intro v2 w8 f4 f8 q3;obtain⟨A8,c8,rfl,_,_⟩:=bN f4;have h8:=jz f4;have d5:=jz f8;have c5:=jz (i7 f8 b3 p8 (by decide));clear f4 f8 q3 n1;have n8:=c5.cell 1;have m8:=c5.frozen 1;simp only[jf,jh,jg] at n8)
     refine⟨⟨k+1,_,xp.2,a0++[bsI xp.1],by omega,by go_num,jz ⟨?_,k2,c5.set_ 1 _,?_,?_,?_,?_,c4⟩⟩,by simp[intOf];omega⟩
     ·exact(p9.grown b3 a8.out.2 a8.out.1 d5).put a1.out.2.1 a1.out.2.2.2 _ _
     ·exact(i7 d5 b3 p6 (by decide)).far a1.out.1 _
     ·exact(h9.grownO b3 (ja _) d5).put a1.out.2.2.1 _ _
     ·have h:=ownsRow_setCell_other h8 (a:=⟨gn,1,none⟩) (λe=>cQ h8 c5 (by decide) e.symm) (Value.slice A8 (k+1) c8);rw[q0.out] at h;unfold fG at h ⊢;rw[List.map_append];exact h
     ·rw[jj,n7.out];rfl
   ·obtain rfl:k=N:=by omega
    have HZ:Hid (Z=((⟨bsI x1.1,a0⟩,!s.2),s)):=jz (by
     have h:=HX.eq
     rw[Nat.sub_self] at h
     have h2:(some a0,s)=R:=h
     rw[HQ.out,<- h2])
    obtain⟨wD,d1⟩:=je wr.drew;have J:Hid (NrX B w wD r gn K k k S v s a0 R):=jz (by
     have h:=HX.out
     have hb:Bw wr wD:=by rw[d1];exact(ji _ _).drew
     exact⟨h.rd.keep hb,h.ok,h.n.keep hb,h.z.keep hb,h.off.trans (Off.of_below hb),aE h.own hb,h.len,h.eq⟩)
    have g3:=jz (RV J.rd);obtain⟨m3,d4⟩:=je s.2;rw[<- d4] at g3 HZ;clear d4 HX;go_upto_region 14 with fail
    refine kZ (n:=6) (λW=>W.rangeAt gn 0 [.string S,v]) (by rw[<- d1];exact J.n.range) (h:=λhH=>?_);rw[<- d1] at hH ⊢;clear d1;refine qL 0 (cs:=[.string S,v]) (λW hW=>hW) rfl ?_;refine qM 1 (.pointer (some ⟨r,0,none⟩)) ?_;refine kF 2 (some 44) (g3.mono ?_);rintro e w8 ⟨rfl,rfl⟩;refine⟨_,rfl,hH,λq5=>?_⟩;simp only[jq];refine qT 3 (.bool (!m3)) ?_;have m9:=lF (n:=2) J.z (by decide);have c2:∀ u∈[Value.string S,v],u.oneCell'=true:=λu hu=>by
     simp only[jl,j8,or_false] at hu;rcases hu with rfl|rfl
     ·rfl
     ·obtain⟨VA,vc,rfl,_,_⟩:=bN J.own;rfl
    have q2:(w8.setCells K 0 [.string S,v]).rangeAt gn 0 [.string S,v]:=((Off.putsR K _ 0 (Off.refl K _)).blk J.n (Ne.symm a1.out.1)).range;refine kR 4 none (n:=2) (cs:=[.string S,v]) m9 rfl c2 q2 (h:=?_);simp only[jq];refine qT 5 (.bool (!m3)) ?_;refine kE (h:=?_);go_wp2_with fail
    refine bodyPost_ret (aD (P:=prog) (cs:=[.string S,v]) rfl _ rfl (World.rangeAt_setCells_same _ K 0 _ m9) underlying51 rfl mZ) rfl ?_;rw[k3.out,HZ.out];have O:=Off.putsR K [Value.string S,v] 0 (Off.refl K w8);refine⟨Off.puts _ _ J.off D.out.1,J.rd.off O D.out.2.1 D.out.2.2,v,?_,?_⟩
    ·rw[k7.out];rfl
    ·have h:=J.own;rw[<- J.len] at h;exact aS h (λb hb=>O.block b (h.lt b hb).2 (λe=>cQ h J.z (by decide) (by rw[hb,e])))
def RW:ByteArray:={ data:=#[112,114,111,116,101,99,116] }
def UL:ByteArray:={ data:=#[101,110,99,114,121,112,116] }
def mkE(key:Nat->Nat):List Nat:=wO (arr 16 key) UL
def mkM(key:Nat->Nat):List Nat:=(d6 (arr 16 key) (1 :: bn RW)).take 32
theorem i8(key:Nat->Nat):(mkM key).length=32:=by
 unfold mkM;rw[jv,show(d6 (arr 16 key) (1 :: bn RW)).length=32 from bL _];rfl
theorem mA{P:Program}{w:Wd}{fn:Func}{p u:Tmp}{ty D:TypeId}(h:fn.results=#[.cell p ty,.cell u D])(tmps:Wa){b I:Nat}{cs J:Wv}{d d':TypeDesc}(hp:tmps.getD p undef = .pointer (some ⟨b,0,none⟩))(U:tmps.getD u undef = .pointer (some ⟨I,0,none⟩))(hc:w.rangeAt b 0 cs)(K:w.rangeAt I 0 J)
  (hu:P.underlying ty=some d) (hd:d.isRow=true) (hi:(P.info? ty).map (·.size)=some cs.length) (V:P.underlying D=some d') (O:d'.isRow=true) (R:(P.info? D).map (·.size)=some J.length):(results fn tmps).run P w = .ok (.tuple #[.agg cs.toArray,.agg J.toArray]) w:=by
 have h1:tmps[p]?.getD undef = .pointer (some ⟨b,0,none⟩):=by simpa using hp
 have Z:tmps[u]?.getD undef = .pointer (some ⟨I,0,none⟩):=by simpa using U
 simp[results,h,h1,Z,asAddr,Sem.run_bind,Result.andThen,run_loadVar_mid w b 0 ty cs d hc hu hd hi,run_loadVar_mid w I 0 D J d' K V O R]
theorem II(n:Nat)(f:Nat->Nat):n8 (arr n f)=arr n (c8 f):=by
 unfold n8 arr;rw[List.map_map];rfl
structure SXk(w W:Wd)(g:Nat)(key f:Nat->Nat):Prop where
 be:Bw w W
 lo:w.heap.size<=g
 k:AB W g 41 16 (c8 key)
 e:AB W (g+1) 41 16 (c8 λ_=>0)
 r:AB W (g+1+1) 23 32 (c8 λ_=>0)
 m:AB W (g+1+1+1) 23 32 (c8 f)
theorem SXk.drew{w W:Wd}{g:Nat}{key f:Nat->Nat}(h:SXk w W g key f):SXk w W.drew g key f:=⟨h.be.drew,h.lo,h.k,h.e,h.r,h.m⟩
theorem SXk.keep{w W W':Wd}{g:Nat}{key f:Nat->Nat}(h:SXk w W g key f)(hb:Bw W W'):SXk w W' g key f:=⟨h.be.trans (hb.mono h.be.size),h.lo,h.k.keep hb,h.e.keep hb,h.r.keep hb,h.m.keep hb⟩
theorem SXk.sn{w W:Wd}{g:Nat}{key f:Nat->Nat}(h:SXk w W g key f):Sn W 1 (.slice (some ⟨g,0,none⟩) (arr 16 key).length 16) (arr 16 key).length (n8 (arr 16 key)):=by
 rw[II,aA];exact⟨_,16,rfl,ja _,by rw[aA],λ_=>⟨g,0,rfl,h.k.range⟩⟩
theorem zU(key:Nat->Nat)(w:Wd)(V:aQ key)(hk:TabK w):Wc 165 #[.agg (arr 16 (c8 key)).toArray] w (Rt w (.tuple #[.agg (n8 (mkE key)).toArray,.agg (n8 (mkM key)).toArray])):=by
 have a9:Hid (Byn (arr 16 key)):=jz (λx hx=>by obtain⟨q,_,rfl⟩:=List.mem_map.1 hx;exact V q);have HK:=jz hk;clear V hk;go_enter func165,ntmps165
 go_upto_region 2 with (first
  | (refine al 41 _ rfl rfl cK ?_)
  | (refine al 23 _ rfl rfl zS ?_))
 obtain⟨g,hg⟩:=je w.heap.size;obtain⟨w1,a7⟩:=je ((((w.alloc (.cells (arr 16 (c8 key)).toArray 41)).alloc (.cells z8x16 41)).alloc (.cells zC32 23)).alloc (.cells zC32 23));have b0:Hid (SXk w w1 g key (λ_=>0)):=jz (by
  rw[a7,hg]
  exact⟨((((ji _ w).alloc (ja _) _).alloc (by simp) _).alloc (by simp;omega) _).alloc (by simp;omega) _,ja _,(((Blk.new _ _ _).alloc _).alloc _).alloc _,((Blk.newAt _ _ _ _ (by simp)).alloc _).alloc _,(Blk.newAt _ _ _ _ (by simp)).alloc _,Blk.newAt _ _ _ _ (by simp)⟩)
 rw[<- a7];simp only[World.size_alloc,<- hg];clear a7 hg;have d3:prog.arrayLen 41=16:=by kernel_rfl
 have b3:prog.arrayLen 23=32:=by kernel_rfl
 obtain⟨wS,J⟩:=je w1.drew;have D:Hid (SXk w wS g key (λ_=>0)):=jz (by rw[J];exact b0.drew);have K:(arr 16 key).length=16:=aA _ _;have a1:=jz (uJ (.slice (some ⟨g,0,none⟩) (arr 16 key).length 16) (arr 16 key) RW 32 wS D.sn a9 (by rw[K];omega) (by decide) (by omega) (by omega) (HK.below D.be));rw[K] at a1;refine kZ (n:=4) (λW=>True) trivial (h:=λhH=>?_);rw[<- J];clear J b0;refine qT 0 (.slice (some ⟨g+1+1+1,0,none⟩) 32 32) ?_;refine qT 1 (.slice (some ⟨g,0,none⟩) 16 16) ?_;refine kF 2 (some 7) ((a1).mono ?_) (hent:=by unfold execOp;go_simp;rfl);rintro e w2 ⟨v,rfl,Z,b7⟩;refine⟨_,rfl,trivial,λhH=>?_⟩;simp only[jq];have a4:=jz (D.keep b7);refine kCp 3 (some 8) (dn:=32) (dc:=32) underlying60 (by kernel_rfl) (Sn.own Z) (ja _) (a4.m.there (o:=0) (m:=32) (by omega)) (bK _) trivial (h:=?_);simp only[jq];refine kE (h:=?_);obtain⟨w3,a8⟩:=je (w2.setCells (g+1+1+1) 0 (n8 ((d6 (arr 16 key) (1 :: bn RW)).take 32)));have b2:Hid (SXk w w3 g key (nth (mkM key))):=jz (by
  have h:=a4.out
  have d4:=h.lo
  rw[a8]
  refine⟨Below.setS (by omega) _ _ h.be,h.lo,h.k.farS (by omega) _ _,h.e.farS (by omega) _ _,h.r.farS (by omega) _ _,(h.m.setL (mkM key)).ext (λq hq=>?_)⟩
  show Value.int .u8 ((if 0<=q/\q<0+(mkM key).length then nth (mkM key) (q-0) else 0:Nat):Int)=Value.int .u8 ((nth (mkM key) q:Nat):Int)
  rw[jP (by rw[i8];omega),Nat.sub_zero])
 rw[<- a8];clear a8 Z b7 a4 D a1 hH b3;go_upto_region 3 with fail
 obtain⟨wS,J⟩:=je w3.drew;have D:Hid (SXk w wS g key (nth (mkM key))):=jz (by rw[J];exact b2.drew);have O:=jz (QZ (.slice (some ⟨g,0,none⟩) (arr 16 key).length 16) (arr 16 key) UL wS D.sn a9 (by rw[K];omega) (by decide) (HK.below D.be));rw[K] at O;have a5:n8 (mkM key)=arr 32 (c8 (nth (mkM key))):=zG (i8 key);have U:(n8 (mkE key)).length=16:=by rw[aJ];exact fO _ _
 have R:(n8 (mkM key)).length=32:=by rw[aJ];exact i8 _
 have b1:Hid (n8 (wO (arr 16 key) UL)=n8 (mkE key)):=jz rfl;rw[b1.out] at O;obtain⟨E,hE⟩:=je (n8 (mkE key));obtain⟨M,hM⟩:=je (n8 (mkM key));have d1:∀ u∈E,u.oneCell'=true:=by rw[hE];exact bK _
 have d2:∀ u∈M,u.oneCell'=true:=by rw[hM];exact bK _
 rw[<- hE] at O U;rw[<- hM] at a5 R;have c7:=jz hE;have d0:=jz hM;have c9:=jz a5;clear hE hM a5 b2 b1;refine kZ (n:=5) (λW=>AB W (g+1+1+1) 23 32 (c8 (nth (mkM key)))) (by rw[<- J];exact D.m) (h:=λhH=>?_);rw[<- J] at hH ⊢;clear J;refine qT 0 (.slice (some ⟨g,0,none⟩) 16 16) ?_;refine qL 2 (cs:=M) (λW hX=>by rw[c9.out];exact AB.range hX) R ?_;refine kF 1 (some 10) ((O).mono ?_) (hent:=by unfold execOp;go_simp;rfl);rintro e w5 ⟨rfl,b9⟩;have I:=jz (D.keep b9);clear b9;refine⟨_,rfl,I.m,λhH=>?_⟩;simp only[jq];have a3:=jz (I.m.farS (show g+1+1+1≠g+1 by omega) 0 E);have a2:=jz (I.r.farS (show g+1+1≠g+1 by omega) 0 E);refine kR 3 none (n:=16) (cs:=E) (I.e.there (o:=0) (m:=16) (by omega)) U d1 a3 (h:=?_);simp only[jq];refine kR 4 none (n:=32) (cs:=M) (a2.there (o:=0) (m:=32) (by omega)) R d2 (a3.farS (show g+1+1+1≠g+1+1 by omega) _ _) (h:=?_);simp only[jq];refine kE (h:=?_);have c4:w5.there (g+1) 0 E.length:=by rw[U];exact I.e.there (by omega)
 have a0:(w5.setCells (g+1) 0 E).there (g+1+1) 0 M.length:=by rw[R];exact a2.there (by omega)
 have c2:=World.rangeAt_setCells_apart (World.rangeAt_setCells_same w5 (g+1) 0 E c4) (g+1+1) 0 M (.inl (by omega));have c3:=World.rangeAt_setCells_same (w5.setCells (g+1) 0 E) (g+1+1) 0 M a0;have a6:Bw w ((w5.setCells (g+1) 0 E).setCells (g+1+1) 0 M):=by
  have:=I.lo;exact Below.setS (by omega) _ _ (Below.setS (by omega) _ _ I.be)
 obtain⟨w9,c5⟩:=je ((w5.setCells (g+1) 0 E).setCells (g+1+1) 0 M);rw[<- c5] at c2 c3 a6 ⊢;have c6:=jz a6;clear c5 a6 c4 a0 a2 a3 I O D;go_wp2_with fail
 exact bodyPost_ret (mA rfl _ rfl rfl c2 c3 underlying41 rfl (by rw[U];kernel_rfl) underlying23 rfl (by rw[R];kernel_rfl)) rfl ⟨by rw[c7.out,d0.out],c6⟩
def tkZ:Wa:=([Value.string ByteArray.empty,.slice none 0 0,.int .i64 0,.int .i64 0]++arr 16 (c8 λ_=>0)).toArray
def auZ:Wa:=#[.string ByteArray.empty,.slice none 0 0,.int .i64 0,.int .u32 0,.int .u32 0]
theorem iE:∀ w,(zeroValue 53).run prog w = .ok (.agg tkZ) w:=λw=>by unfold tkZ;kernel_rfl
theorem lZ:∀ w,(zeroValue 55).run prog w = .ok (.agg auZ) w:=λw=>by unfold auZ;kernel_rfl
theorem kD:prog.built 53 []=some tkZ:=by unfold tkZ;kernel_rfl
theorem kG:prog.built 55 []=some auZ:=by unfold auZ;kernel_rfl
theorem eE:tkZ.size=20:=by unfold tkZ;rw[js];rfl
theorem tkI:(prog.info? 53).map (·.size)=some 20:=by kernel_rfl
theorem auI:(prog.info? 55).map (·.size)=some 5:=by kernel_rfl
theorem fW:tkZ.all (·.oneCell')=true:=by unfold tkZ;exact all_oneCell_toArray (λu D=>by
 rcases List.mem_append.1 D with h|h
 ·simp at h
  rcases h with rfl|rfl|rfl <;> rfl
 ·unfold arr at h
  obtain⟨k,_,rfl⟩:=List.mem_map.1 h
  rfl)
theorem fX:auZ.all (·.oneCell')=true:=by unfold auZ;rw[List.all_toArray];rfl
theorem gX{P:Program}{w:Wd}{fn:Func}{p q x:Tmp}{ty I:TypeId}(h:fn.results=#[.cell p ty,.cell q I,.tmp x])(tmps:Wa){b off J D:Nat}{cs cs2:Wv}{d K:TypeDesc}(hp:tmps.getD p undef = .pointer (some ⟨b,off,none⟩))(hc:w.rangeAt b off cs)
  (hu:P.underlying ty=some d) (hd:d.isRow=true) (hi:(P.info? ty).map (·.size)=some cs.length) (hq:tmps.getD q undef = .pointer (some ⟨J,D,none⟩)) (O:w.rangeAt J D cs2)
  (V:P.underlying I=some K) (R:K.isRow=true) (U:(P.info? I).map (·.size)=some cs2.length):(results fn tmps).run P w = .ok (.tuple #[.agg cs.toArray,.agg cs2.toArray,tmps.getD x undef]) w:=by
 have h1:tmps[p]?.getD undef = .pointer (some ⟨b,off,none⟩):=by simpa using hp
 have Z:tmps[q]?.getD undef = .pointer (some ⟨J,D,none⟩):=by simpa using hq
 simp[results,h,h1,Z,asAddr,Sem.run_bind,Result.andThen,run_loadVar_mid w b off ty cs d hc hu hd hi,run_loadVar_mid w J D I cs2 K O V R U]
theorem qZ(c:Int)(w:Wd):Wc 73 #[.int .i64 c] w (Rt w (.tuple #[.agg tkZ,.agg auZ,.int .i64 c])):=by
 go_enter func73,ntmps73
 go_upto_region 1 with (first
  | (refine al 53 tkZ rfl rfl iE ?_)
  | (refine al 55 auZ rfl rfl lZ ?_))
 obtain⟨g,hg⟩:=je w.heap.size;obtain⟨w2,D⟩:=je ((w.alloc (.cells tkZ 53)).alloc (.cells auZ 55));have O:Hid (Bw w w2):=jz (by rw[D];exact((ji _ w).alloc (ja _) _).alloc (by simp) _);have HT:Hid (Blk w2 g 53 tkZ):=jz (by rw[D,hg];exact(Blk.new _ _ _).alloc _);have HA:Hid (Blk w2 (g+1) 55 auZ):=jz (by rw[D,hg];exact Blk.newAt _ _ _ _ (by simp));have HG:Hid (w.heap.size<=g):=jz (by omega);rw[<- D];simp only[World.size_alloc,<- hg];clear D hg;have I:(prog.info? 53).map (·.size)=some tkZ.size:=by rw[eE];exact tkI
 have J:(prog.info? 55).map (·.size)=some auZ.size:=auI;go_wp2_with (first
  | (refine gF 53 _ rfl rfl rfl kD ?_)
  | (refine gF 55 _ rfl rfl rfl kG ?_)
  | (refine aN 53 (.tmp 2) (.tmp 5) rfl rfl (by rfl) (by rfl) HT I rfl fW ?_;intro w3 U Z a2 a4;have K:Hid (Blk w3 (g+1) 55 auZ):=jz ((a2 (g+1) (by omega)).trans HA))
  | (refine aN 55 (.tmp 3) (.tmp 6) rfl rfl (by rfl) (by rfl) K J rfl fX ?_;intro w4 R a0 a3 a5))
 have V:Blk w4 g 53 tkZ:=(a3 g (by omega)).trans U;have a1:Bw w w4:=O.trans ((Z.mono HG).trans (a0.mono (by have:=HG.out;omega)));refine bodyPost_ret (gX (P:=prog) rfl _ rfl V.range underlying53 rfl (by rw[jk];exact I) rfl R.range underlying55 rfl (by rw[jk];exact J)) rfl ?_;exact⟨rfl,a1⟩
theorem KD(key:Nat->Nat)(b:Wl)(A:Option Addr)(cap:Nat)(w:Wd)(hs:Sn w 1 (.slice A b.length cap) b.length (u8s b))(hb:Bys b)(hl:b.length<=1000000)(Z:(dK b).2.2=false):
  Wc 50 #[.agg (arr 16 (c8 key)).toArray,.slice A b.length cap] w (Rt w (.tuple #[.agg tkZ,.agg auZ,.int .i64 1])):=by
 have HP:=jz (λW (h:Sn W 1 (.slice A b.length cap) b.length (u8s b))=>vC b A cap W h hb hl);have HS:=jz hs;have HQ:=jz Z;obtain⟨n,hn⟩:=je b.length;rw[<- hn] at HP HS ⊢;clear hs hb hl Z hn;go_enter func50,ntmps50
 go_upto_region 1 with (first
  | (refine al 53 tkZ rfl rfl iE ?_)
  | (refine al 55 auZ rfl rfl lZ ?_))
 obtain⟨g,hg⟩:=je w.heap.size;obtain⟨w2,D⟩:=je (((w.alloc (.cells (arr 16 (c8 key)).toArray 41)).alloc (.cells tkZ 53)).alloc (.cells auZ 55));have K:Hid (Bw w w2):=jz (by rw[D];exact(((ji _ w).alloc (ja _) _).alloc (by simp) _).alloc (by simp;omega) _);have HT:Hid (Blk w2 (g+1) 53 tkZ):=jz (by rw[D,hg];exact(Blk.newAt _ _ _ _ (by simp)).alloc _);have HA:Hid (Blk w2 (g+1+1) 55 auZ):=jz (by rw[D,hg];exact Blk.newAt _ _ _ _ (by simp));have HG:Hid (w.heap.size<=g):=jz (by omega);rw[<- D];simp only[World.size_alloc,<- hg];clear D hg;have a0:(prog.info? 53).map (·.size)=some tkZ.size:=by rw[eE];exact tkI
 have a1:(prog.info? 55).map (·.size)=some auZ.size:=auI;have HH:Hid (∀ {W1 W2:Wd} {r e},RQ W1 r e W2->Bw W1 W2):=jz (λh=>by obtain⟨_,_,_,_,_,_,_,h,_⟩:=h;exact h);go_wp2_with fail
 refine(HP w2 (HS.below K)).mono ?_;rintro e w3 ⟨A1,c1,A2,c2,rfl,_,_,I,_,_⟩;have a7:=jz (HT.keep I);have a2:=jz (HA.keep I);have a5:=jz (aB K I);have Z:=HQ.out;obtain⟨n1,U⟩:=je ((dK b).1.length);obtain⟨n2,V⟩:=je ((dK b).2.1.length);rw[Z,<- U,<- V];clear I Z U V HP HT HA K;go_upto_region 4 with fail
 obtain⟨w4,R⟩:=je (w3.alloc (.cells #[.slice A1 n1 c1,.slice A2 n2 c2] 156));have O:Hid (Bw w3 w4):=jz (by rw[R];exact(ji _ _).alloc (ja _) _);rw[<- R];clear R;go_wp2_with fail
 refine(qZ 1 w4).mono ?_;rintro e w5 ⟨rfl,J⟩;have a8:=jz ((a7.keep O).keep J);have a3:=jz ((a2.keep O).keep J);have a6:=jz (aB a5 (aB O J));clear J;go_wp2_with (first
  | (refine aN 53 (.tmp 4) (.tmp 19) rfl rfl (by rfl) (by rfl) a8 a0 rfl fW ?_;intro w6 b0 b2 b9 c4;have a4:Hid (Blk w6 (g+1+1) 55 auZ):=jz ((b9 (g+1+1) (by omega)).trans a3))
  | (refine aN 55 (.tmp 5) (.tmp 20) rfl rfl (by rfl) (by rfl) a4 a1 rfl fX ?_;intro w7 a9 b3 c3 c5))
 have b1:Blk w7 (g+1) 53 tkZ:=(c3 (g+1) (by omega)).trans b0;have b7:Bw w w7:=a6.trans ((b2.mono (by have:=HG.out;omega)).trans (b3.mono (by have:=HG.out;omega)));refine bodyPost_ret (gX (P:=prog) rfl _ rfl b1.range underlying53 rfl (by rw[jk];exact a0) rfl a9.range underlying55 rfl (by rw[jk];exact a1)) rfl ?_;exact⟨rfl,b7⟩
section
variable {P : Program} {ops : Array Oper} {Q : Exit -> Act -> Wd -> Prop} {S : Wd -> Prop} {a : Act} {w : Wd} {listed : Array Bool} {fuel : Nat}
theorem kAr(i:Nat)(dst:Option Tmp){A:Option Addr}{n cap m:Nat}{e arr:TypeId}(U:P.underlying arr=some (.array m e))(R:m<=n){o:Oper}{x:Operand}(J:ops[i]? = some o:=by rfl)(D:o.dst=dst:=by rfl)(I:o.op = .sliceToArrayPointer arr x:=by rfl)(V:a.eval x = .slice A n cap:=by kernel_rfl)(O:kOk ops listed a i true=true:=by kernel_rfl)
  (K:∀ c a w,Q (.panic c) (a.put dst (.pointer A)) w->Q (.panic c) a w:=by exact λ_ _ _ h=>h) (hS:S w:=by assumption)
  (h:wpAnyH P .any ops Q S fuel (listed.setIfInBounds i true) (a.put dst (.pointer A)) w):wpAnyH P .any ops Q S (fuel+1) listed a w:=by
 subst D;exact
  have k:=kOk.out J O
  wpAnyH_take J k.1 k.2.1 k.2.2.1 K (.inl ⟨k.2.2.2,λw _=>by
   unfold execOp
   simp only[I,V,Instr.arrayAt]
   simp only[Sem.run_bind,Sem.run_pure,Result.andThen_ok,run_underlying U,jQ (Nat.not_lt.2 R)]⟩) hS h
theorem kLo(i:Nat)(dst:Option Tmp){cs:Wv}{b off n:Nat}(U:w.rangeAt b off cs)(O:cs.length=n){o:Oper}{ty:TypeId}{x:Operand}(R:ops[i]? = some o:=by rfl)(D:o.dst=dst:=by rfl)(J:o.op = .load ty x:=by rfl)(V:a.eval x = .pointer (some ⟨b,off,none⟩):=by kernel_rfl)(I:((P.underlying ty).map (·.isRow))=some true:=by kernel_rfl)(hi:(P.info? ty).map (·.size)=some n:=by kernel_rfl)(K:kOne ops listed a i=true:=by kernel_rfl)(hS:S w:=by assumption)
  (h:wpAnyH P .any ops Q S fuel (listed.setIfInBounds i true) (a.put dst (.agg cs.toArray)) w):wpAnyH P .any ops Q S (fuel+1) listed a w:=by
 cases hd:P.underlying ty with
 | none=>rw[hd] at I;cases I
 | some d=>
  rw[hd] at I;refine kS i dst (.agg cs.toArray) w R D K ?_ hS h;unfold execOp;simp only[J,V,Instr.loadAt,Instr.sureAddr,Sem.run_bind,Sem.run_pure,Result.andThen_ok,run_loadVar_mid w b off ty cs d U hd (by simpa using I) (by rw[O];exact hi)]
end
structure RSk7(w0 W:Wd)(gz gs gt:Nat)(v:Value)(X:List Nat)(st:Nat->Nat):Prop where
 be:Bw w0 W
 z:AB W gz 23 32 (c8 λ_=>0)
 s:AB W gs 231 8 (c32 st)
 t:AB W gt 276 64 (c32 lN)
 a:Sn W 1 v X.length (n8 X)
 ap:∀ b,v.ownBlock=some b->b≠gs
 lo:w0.heap.size<=gz
 ls:w0.heap.size<=gs
 zs:gz≠gs
 ts:gt≠gs
theorem RSk7.drew{w0 W:Wd}{gz D I:Nat}{v:Value}{X:List Nat}{st:Nat->Nat}(h:RSk7 w0 W gz D I v X st):RSk7 w0 W.drew gz D I v X st:=⟨h.be.drew,h.z,h.s,h.t,h.a,h.ap,h.lo,h.ls,h.zs,h.ts⟩
theorem RSk7.keep{w0 W W':Wd}{gz D I:Nat}{v:Value}{X:List Nat}{st:Nat->Nat}(h:RSk7 w0 W gz D I v X st)(hb:Bw W W'):RSk7 w0 W' gz D I v X st:=⟨aB h.be hb,h.z.keep hb,h.s.keep hb,h.t.keep hb,h.a.below hb,h.ap,h.lo,h.ls,h.zs,h.ts⟩
theorem yK{b k:Nat}(D:k≠b):∀(vs:Wv) (W:Wd) (o:Nat),(W.setCells b o vs).heap[k]? = W.heap[k]?
 | [],_,_=>rfl
 | v :: r,W,o=>by
  rw[World.setCells,yK D r _ (o+1)];exact Below.heap_setCell W _ v k D
theorem AB.lay32{W:Wd}{g n:Nat}{t:TypeId}{f a:Nat->Nat}(h:AB W g t n (c32 f)):AB (W.setCells g 0 (arr n (c32 a))) g t n (c32 a):=
 (AB.setCells (arr n (c32 a)) (.bool false) 0 h).ext (λq D=>by
  unfold lay
  rw[aA,jP (by omega)]
  show(arr n λk=>Value.int .u32 (a k:Nat)).getD (q-0) (.bool false)=_
  rw[jn,dC _ (by omega)]
  rfl)
theorem RSk7.put{w0 W:Wd}{gz I J:Nat}{v:Value}{X:List Nat}{st D:Nat->Nat}(h:RSk7 w0 W gz I J v X st):RSk7 w0 (W.setCells I 0 (arr 8 (c32 D))) gz I J v X D:=
 ⟨Below.setS h.ls _ 0 h.be,h.z.farS h.zs _ _,h.s.lay32,h.t.farS h.ts _ _,h.a.sameC (λ_ b hb=>yK (h.ap b hb) _ _ _),h.ap,h.lo,h.ls,h.zs,h.ts⟩
theorem Sn.mid{w:Wd}{b off cap p m:Nat}{l:List Nat}(h:Sn w 1 (.slice (some ⟨b,off,none⟩) l.length cap) l.length (n8 l))(V:p+m<=l.length)(I:0<l.length):w.rangeAt b (off+p) (arr m (c8 λk=>nth l (p+k))):=λj v D=>by
 obtain⟨A,c,e,_,_,R⟩:=h;obtain⟨U,Z,J,K⟩:=R I;injection e with e1 _ _
 rw[J] at e1;injection e1 with e1
 injection e1 with e1 e2 _
 have O:j<m:=by obtain⟨h1,_⟩:=List.getElem?_eq_some_iff.1 D;rw[aA] at h1;exact h1
 rw[dC _ O] at D;have:=K (p+j) v (by rw[oE l (p+j) (by omega)];exact D);rw[e1,e2,Nat.add_assoc];exact this
theorem DA(v:Value)(l:List Nat)(w:Wd)(h:Sn w 1 v l.length (n8 l))(hb:Byn l)(hn:l.length<=900000000):
  Wc 144 #[v] w (Rt w (.agg (n8 (iD l)).toArray)):=by
 obtain⟨A,cap,rfl,r6,_,_⟩:=id h;have q1:cap<=cap:=ja _;have HP:=jz h;have g2:=jz hb;clear h hb;go_enter func144,ntmps144
 go_upto_region 1 with (refine al 23 _ rfl rfl eB ?_)
 obtain⟨gz,c9⟩:=je w.heap.size;obtain⟨w1,f7⟩:=je (w.alloc (.cells z8x32 23));have b7:Hid (AB w1 gz 23 32 (c8 λ_=>0)/\Bw w w1/\w1.heap.size=gz+1):=jz (by
  rw[f7,c9]
  exact⟨Blk.new _ _ _,(ji _ w).alloc (ja _) _,by simp⟩)
 rw[<- f7];simp only[<- c9];have g8:=jz c9;clear f7 c9;have hown0:(w1.alloc (.cells #[] 5)).ownsRow w1.heap.size 5 1 (.slice (some ⟨w1.heap.size,0,none⟩) 0 0) 0 []:=nC w1 #[] _ 1 0 _ _ (ja _) rfl (by decide) rfl;have hsn0:Sn (w1.alloc (.cells #[] 5)) 1 (.slice A l.length cap) l.length (n8 l):=(HP.below b7.out.2.1).alloc _;have h8:=jz (λW=>zH l.length W (by omega));have v0:(l.length:Nat)<=900000000:=hn;go_upto_region 2 with (first
  | (at_builtin;refine app fQ (.tmp 9) (.tmp 10) rfl (by rfl) (base:=w1.heap.size) (by rfl) hown0 (by rfl) hsn0 (bK l) (by unfold maxLen;omega) (by omega) (by simp) ?_;intro v1 w2 hown1 hg1 hat1;have hB2:Bw w1 w2:=((ji _ w1).alloc (ja _) _).grown hg1 (by simp) (λg e=>by cases e;exact ja _))
  | (go_at_call 183;refine(h8 w2).mono ?_;rintro e w3 ⟨vp,rfl,m8,a6⟩)
  | (at_builtin;refine app fQ (.tmp 11) (.tmp 14) rfl (by rfl) (base:=w1.heap.size) (by rfl) (aE hown1 a6) (by rfl) (Sn.own m8) (bK _) (by unfold maxLen dY iC;omega) (by unfold dY iC;omega) (by have:=hB2.size;have:=a6.size;omega) ?_;intro v2 w4 a8 f3 k4))
 have HX:Hid (∃ X,X=l++arr (dY l.length) (sK l.length)/\w4.ownsRow w1.heap.size 5 1 v2 X.length (n8 X)/\Bw w1 w4/\Byn X/\X.length=l.length+dY l.length):=jz (by
  have hl:(l++arr (dY l.length) (sK l.length)).length=l.length+dY l.length:=by rw[jj,aA]
  refine⟨_,rfl,?_,?_,?_,hl⟩
  ·rw[hl,dD]
   have:=a8
   rw[List.nil_append,Nat.zero_add] at this
   exact this
  ·exact(aB hB2 a6).grown f3 (by have:=hB2.size;have:=a6.size;omega) (λb e=>(hown1.lt b e).1)
  ·intro x hx
   rcases List.mem_append.1 hx with hx|hx
   ·exact g2 x hx
   ·unfold arr at hx
    obtain⟨q,_,rfl⟩:=List.mem_map.1 hx
    exact GX _ _ _)
 clear hown0 hsn0 hown1 hg1 hat1 hB2 m8 a6 a8 f3 k4 h8;obtain⟨X,hX,d5,f1,k2,c7⟩:=HX.out;have p9:Hid (X=l++arr (dY l.length) (sK l.length)):=jz hX;have p8:=jz k2;have r7:X.length % 64=0:=by rw[c7];unfold dY iC;omega
 have r5:X.length<=900000100:=by rw[c7];unfold dY iC;omega
 have f9:0<X.length:=by rw[c7];unfold dY;omega
 obtain⟨A2,D,rfl,d7,d3⟩:=aM d5;have K:Hid (AB w4 gz 23 32 (c8 λ_=>0)/\Bw w w4/\Sn w4 1 (.slice A2 X.length D) X.length (n8 X)/\∀ b off,A2=some ⟨b,off,none⟩->b<w4.heap.size):=jz ⟨b7.out.1.keep f1,aB b7.out.2.1 f1,d7,λb off e=>(d3 b off e).2⟩;have m5:gz<w4.heap.size:=K.out.1.lt;clear HX hX d5 f1 k2 c7 d7 d3 b7 HP g2;go_wp2_with fail
 refine(EU w4).mono ?_;rintro e w5 ⟨rfl,a4⟩;obtain⟨O,hO⟩:=je ((arr 8 (c32 lB)).toArray);have U:(prog.info? 231).map (·.size)=some O.size:=by rw[hO,aC];kernel_rfl
 have Z:z32x8.size=O.size:=by rw[hO,aC];exact aC 8 _
 have a0:O.all (·.oneCell')=true:=by rw[hO];exact aP (λ_=>rfl)
 have HO:=jz hO;rw[<- hO];clear hO;go_upto_region 3 with (first
  | (refine al 231 _ rfl rfl iV ?_)
  | (refine bQ (cells:=O) 231 (.tmp 4) (.tmp 16) rfl rfl (by rfl) (by rfl) U Z a0 ?_;intro w6 c2 k5 f6))
 obtain⟨J,m2⟩:=je w5.heap.size;rw[<- m2] at c2 f6 ⊢;have a2:Hid (AB w6 J 231 8 (c32 lB)/\Bw w4 w6/\w4.heap.size<=J/\w6.heap.size=J+1):=jz ⟨by rw[HO.out] at c2;exact c2,aB a4 k5,by have:=a4.size;omega,f6⟩;clear c2 k5 f6 U Z a0 m2 a4 HO;go_wp2_with fail
 refine(EV w6).mono ?_;rintro e w7 ⟨rfl,f0⟩;obtain⟨O,hO⟩:=je ((arr 64 (c32 lN)).toArray);have U:(prog.info? 276).map (·.size)=some O.size:=by rw[hO,aC];kernel_rfl
 have Z:z32x64.size=O.size:=by rw[hO,aC];exact aC 64 _
 have a0:O.all (·.oneCell')=true:=by rw[hO];exact aP (λ_=>rfl)
 have HO:=jz hO;rw[<- hO];clear hO;go_upto_region 4 with (first
  | (refine al 276 _ rfl rfl k9 ?_)
  | (refine bQ (cells:=O) 276 (.tmp 5) (.tmp 17) rfl rfl (by rfl) (by rfl) U Z a0 ?_;intro w8 c4 k6 r4))
 obtain⟨gt,m3⟩:=je w7.heap.size;rw[<- m3] at c4 ⊢;have b0:Hid (RSk7 w w8 gz J gt (.slice A2 X.length D) X (o8 lB X 0)):=jz (by
  have d2:Bw w6 w8:=aB f0 k6
  have a7:Bw w4 w8:=a2.out.2.1.trans (d2.mono a2.out.2.1.size)
  have hg1:=a2.out.2.2.1
  have f3:=a2.out.2.2.2
  have t0:=f0.size
  have t1:=g8.out
  refine⟨K.out.2.1.trans (a7.mono K.out.2.1.size),K.out.1.keep a7,a2.out.1.keep d2,by rw[HO.out] at c4;exact c4,K.out.2.2.1.below a7,?_,by omega,by have:=K.out.2.1.size;omega,by omega,by omega⟩
  intro b hb e
  cases A2 with
  | none=>cases hb
  | some ad=>
   obtain⟨b1,o1,s1⟩:=ad
   obtain⟨A3,c3,e3,_,_,g0⟩:=K.out.2.2.1
   injection e3 with e3 _ _
   obtain⟨b3,o3,e4,_⟩:=g0 f9
   rw[<- e3] at e4
   have h5:=K.out.2.2.2 b3 o3 e4
   injection e4 with e4
   injection hb with hb
   have h6:b1=b3:=congrArg Addr.block e4
   have h7:b1=b:=hb
   omega)
 clear c4 k6 r4 U Z a0 m3 f0 HO a2 K m5;obtain⟨b2,I,q0⟩:∃ b off,A2=some ⟨b,off,none⟩:=by
  obtain⟨A3,c3,e3,_,_,g0⟩:=b0.a;injection e3 with e3 _ _
  obtain⟨b3,o3,e4,_⟩:=g0 f9;exact⟨b3,o3,e3.trans e4⟩
 subst q0;have q2:X.length<=D:=by obtain⟨A3,c3,e3,h3,_⟩:=b0.a;injection e3 with _ _ e3;rw[e3];exact h3
 go_wp2_with fail
 go_loopw [6] (λi wr=>∃ k:Nat,64*k<=X.length/\i = .int .i64 (64*(k:Int))/\Hid (RSk7 w wr gz J gt (.slice (some ⟨b2,I,none⟩) X.length D) X (o8 lB X k))) (λi _=>X.length-(intOf i).toNat)
 case atStart=>exact⟨0,by omega,rfl,b0⟩
 case round=>
  clear b0;obtain⟨k,hk,rfl,HR⟩:=hrel;obtain⟨p,hp⟩:∃ p,p=64*k:=⟨_,rfl⟩;have f5:64*(k:Int)=(p:Int):=by omega
  rw[f5];have h9:=jz hp;rcases jo (64*k) X.length with m6|m1
  ·have v3:(0:Int)<=p:=by omega
   have v4:(p:Int)<X.length:=by omega
   have q5:p+64<=X.length:=by omega
   have e0:Hid (64*(k+1)<=X.length/\64*((k+1:Nat):Int)=(p:Int)+64):=jz (by omega);clear hp f5 hk m6;go_upto_region 7 with fail
   obtain⟨q,hq⟩:=je (p+64);have q6:IntKind.i64.wrap ((p:Int)+64)=(q:Int):=by rw[hq];simp[IntKind.wrap,IntKind.bits,IntKind.signed];omega
   have q7:(q:Int)<=D:=by omega
   have q8:(p:Int)<=q:=by omega
   have r0:q-p=64:=by omega
   have r1:¬D=p:=by omega
   have r2:p<=q:=by omega
   have r3:q<=D:=by omega
   have HQ:=jz hq;obtain⟨wS,d1⟩:=je wr.drew;obtain⟨st,R⟩:=je (o8 lB X k);have n6:Hid (WsF st):=jz (by rw[R];exact GY GZ X k);rw[<- R] at HR;have V:Hid (RSk7 w wS gz J gt (.slice (some ⟨b2,I,none⟩) X.length D) X st):=jz (by rw[d1];exact HR.drew);have e6:Hid (∃ st,RSk7 w wS gz J gt (.slice (some ⟨b2,I,none⟩) X.length D) X st):=jz ⟨_,V⟩;have k0:Hid (∀ W,(∃ st,RSk7 w W gz J gt (.slice (some ⟨b2,I,none⟩) X.length D) X st)->W.there J 0 8):=jz (λW hW=>by obtain⟨st,hW⟩:=hW;exact hW.s.there (by omega));obtain⟨M,hM⟩:=je (arr 64 (c8 λj=>nth X (p+j)));have h0:Hid (M.length=64):=jz (by rw[hM];exact aA _ _);have h4:Hid (∀ W,(∃ st,RSk7 w W gz J gt (.slice (some ⟨b2,I,none⟩) X.length D) X st)->W.rangeAt b2 (I+p) M):=jz (λW hW=>by obtain⟨st,hW⟩:=hW;rw[hM];exact hW.a.mid q5 f9);obtain⟨S8,c6⟩:=je (arr 8 (c32 st));obtain⟨b9,a1⟩:=je (arr 64 (c32 lN));have e8:Hid (b9.length=64/\∀ W,(∃ st,RSk7 w W gz J gt (.slice (some ⟨b2,I,none⟩) X.length D) X st)->W.rangeAt gt 0 b9):=jz ⟨by rw[a1];exact aA _ _,λW hW=>by obtain⟨st,hW⟩:=hW;rw[a1];exact hW.t.range⟩;have e7:Hid (S8.length=8/\wS.rangeAt J 0 S8):=jz ⟨by rw[c6];exact aA _ _,by rw[c6];exact V.s.range⟩;obtain⟨N8,c5⟩:=je (arr 8 (c32 (cZ st λj=>nth X (p+j))));have e5:Hid (N8.length=8/\∀ u∈N8,u.oneCell'=true):=jz (by
    rw[c5]
    refine⟨aA _ _,λu hu=>?_⟩
    unfold arr at hu
    obtain⟨z,_,rfl⟩:=List.mem_map.1 hu
    rfl)
   have g1:Hid (∀ W,Wc 186 #[.agg S8.toArray,.agg M.toArray,.agg b9.toArray] W (Rt W (.agg N8.toArray))):=jz (λW=>by rw[c6,hM,a1,c5];exact E4 st _ W n6 (λj=>dI p8 _));have e2:=jz c5;have n7:=jz R;clear HR R hM c6 a1 c5 hq;refine kZ (n:=11) (λW=>∃ st,RSk7 w W gz J gt (.slice (some ⟨b2,I,none⟩) X.length D) X st) (by rw[<- d1];exact e6) (h:=λhH=>?_);simp only[p0];dsimp only [List.replicate];rw[<- d1] at hH ⊢;clear d1;refine qM 1 (.slice (some ⟨b2,I,none⟩) X.length D) ?_;refine qM 2 (.int .i64 (p:Int)) ?_;refine qM 3 (.int .i64 (p:Int)) ?_;refine qT 4 (.int .i64 (q:Int)) ?_;refine qT 5 (.slice (some ⟨b2,I+p,none⟩) 64 (D-p)) ?_;refine kAr 6 (some 30) (A:=some ⟨b2,I+p,none⟩) (n:=64) (cap:=D-p) underlying195 (ja _) (h:=?_);simp only[pe,p5,p2];dsimp only [List.set];refine qL 7 (cs:=M) (h4) h0 ?_;refine qL 8 (cs:=b9) (e8.out.2) e8.out.1 ?_;refine kLo 0 (some 24) e7.out.2 e7.out.1 (hS:=e6.out) (h:=?_);simp only[pe,p5,p2];dsimp only [List.set];refine kF 9 (some 33) ((g1 wS).mono ?_);rintro e w5 ⟨rfl,a4⟩;have a5:=jz a4;clear a4;refine⟨_,rfl,⟨_,V.keep a5⟩,λhH=>?_⟩;simp only[pe,p5,p2];dsimp only [List.set];refine kR 10 none (k0 _ ⟨_,V.keep a5⟩) e5.out.1 e5.out.2 (⟨_,by rw[e2.out];exact(V.keep a5).put⟩) (h:=?_);simp only[pe,p5,p2];dsimp only [List.set];refine kE (h:=?_);obtain⟨wz,f8⟩:=je (w5.setCells J 0 N8);have p7:Hid (RSk7 w wz gz J gt (.slice (some ⟨b2,I,none⟩) X.length D) X (o8 lB X (k+1))):=jz (by
    rw[f8,e2.out]
    have e:o8 lB X (k+1)=cZ st λj=>nth X (p+j):=by
     rw[n7.out,h9.out]
     rfl
    rw[e]
    exact(V.keep a5).put)
   rw[<- f8];clear f8 hH V e6 k0 h4 e8 e7 e5 g1 e2 h0 a5 q6 q7 q8 r0 r1 r2 r3;go_wp2_with fail
   exact⟨⟨k+1,e0.out.1,by rw[e0.out.2],p7⟩,by have:=e0.out;have:=h9.out;simp[intOf];omega⟩
  ·have q4:64*k=X.length:=by omega
   have v5:¬(p:Int)<X.length:=by omega
   have a3:Hid (RSk7 w wr gz J gt (.slice (some ⟨b2,I,none⟩) X.length D) X (gU X)):=jz (by
    have e:gU X=o8 lB X k:=by
     rw[gU]
     rw[show X.length/64=k from by omega]
    rw[e]
    exact HR)
   clear HR hp f5 hk m1 q4;go_upto_region 9 with (refine al 23 _ rfl rfl eB ?_)
   obtain⟨gd,f4⟩:=je wr.heap.size;obtain⟨w8,d0⟩:=je (wr.alloc (.cells z8x32 23));obtain⟨S,hS⟩:=je (gU X);rw[<- hS] at a3;have e1:Hid (gz≠gd/\J≠gd/\w.heap.size<=gd):=jz (by
    have h1:=a3.z.lt
    have h2:=a3.s.lt
    have h3:=a3.be.size
    omega)
   have g3:Hid (AB w8 gd 23 32 (c8 λq=>if q<0 then fB S q else 0)/\AB w8 J 231 8 (c32 S)/\AB w8 gz 23 32 (c8 λ_=>0)/\Bw w w8):=jz (by
    have hb:Bw wr w8:=by rw[d0];exact(ji _ wr).alloc (ja _) _
    have f2:=a3.keep hb
    refine⟨?_,f2.s,f2.z,f2.be⟩
    have hB:AB w8 gd 23 32 (c8 λ_=>0):=by rw[d0,f4];exact Blk.new _ _ _
    exact hB.ext (λq _=>by show _=Value.int .u8 ((if q<0 then fB S q else 0:Nat):Int);rw[jQ (by omega)];rfl))
   have p6:=jz hS;rw[<- d0];simp only[<- f4];clear d0 f4 a3 hS;go_wp2_with fail
   go_loopw [8] (λi wr=>∃ k:Nat,k<=32/\i = .int .i64 (k:Int)/\Hid (AB wr gd 23 32 (c8 λq=>if q<k then fB S q else 0)/\AB wr J 231 8 (c32 S)/\AB wr gz 23 32 (c8 λ_=>0)/\Bw w wr)) (λi _=>32-(intOf i).toNat)
   case atStart=>exact⟨0,j0 _,rfl,g3⟩
   case round=>
    clear g3;obtain⟨k,hk,rfl,HD⟩:=hrel;rcases jo k 32 with m6|m1
    ·have t2:(0:Int)<=k:=by omega
     have t3:(k:Int)<32:=by omega
     obtain⟨a,j,k3,q3⟩:∃ a j,k=4*a+j/\j<4:=⟨k/4,k % 4,by omega,by omega⟩;have d4:(k:Int)/4=(a:Int):=by omega
     have m4:(k:Int) % 4=(j:Int):=by omega
     have s0:Int.tdiv (k:Int) 4=(a:Int):=by rw[Int.tdiv_eq_ediv_of_nonneg (by omega)];omega
     have v6:Int.tmod (k:Int) 4=(j:Int):=by rw[Int.tmod_eq_emod_of_nonneg (by omega)];omega
     have s3:(a:Int)<8:=by omega
     have t4:(0:Int)<=j:=by omega
     have t5:(j:Int)<4:=by omega
     have s5:wr.cell? ⟨J,a,none⟩=some (.int .u32 (S a:Nat)):=HD.out.2.1.cell (i:=a) (by omega);have s4:wr.cell? ⟨gd,k,none⟩=some (.int .u8 0):=by
      rw[HD.out.1.cell (i:=k) (by omega)];show some (Value.int .u8 ((if k<k then fB S k else 0:Nat):Int))=_;rw[jQ (Nat.lt_irrefl _)];rfl
     have s8:=HD.out.1.frozen k;have R:=HD.out.1.set k (.int .u8 (fB S k:Nat));rw[cY,uU (fB S) k 0] at R;have a9:=BZ S a j q3;rw[<- k3] at a9;rw[<- a9] at R;have n3:Hid (AB (wr.setCell ⟨gd,k,none⟩ (.int .u8 (((S a:Nat):Int)/2 ^ (24-8*j) % 256))) gd 23 32 (c8 λq=>if q<k+1 then fB S q else 0)/\AB (wr.setCell ⟨gd,k,none⟩ (.int .u8 (((S a:Nat):Int)/2 ^ (24-8*j) % 256))) J 231 8 (c32 S)/\AB (wr.setCell ⟨gd,k,none⟩ (.int .u8 (((S a:Nat):Int)/2 ^ (24-8*j) % 256))) gz 23 32 (c8 λ_=>0)/\Bw w (wr.setCell ⟨gd,k,none⟩ (.int .u8 (((S a:Nat):Int)/2 ^ (24-8*j) % 256)))):=jz ⟨R,HD.out.2.1.far (by have:=e1.out.2.1;exact this) _,HD.out.2.2.1.far (by have:=e1.out.1;exact this) _,HD.out.2.2.2.setCell (by have:=e1.out.2.2;exact this) _⟩;clear R HD a9 k3;go_wp2_with fail
     exact⟨⟨k+1,by omega,by go_num,n3⟩,by simp[intOf];omega⟩
    ·have t7:k=32:=by omega
     have t9:¬(k:Int)<32:=by omega
     have hD:AB wr gd 23 32 (c8 (fB S)):=HD.out.1.ext (λq hq=>by
      show Value.int .u8 ((if q<k then fB S q else 0:Nat):Int)=Value.int .u8 (fB S q:Nat)
      rw[jP (by omega)])
     have m9:=hD.range;have n2:Blk wr gz 23 z8x32:=HD.out.2.2.1;have n1:=jz HD.out.2.2.2;have hI:(prog.info? 23).map (·.size)=some (arr 32 (c8 (fB S))).length:=by rw[aA];kernel_rfl
     obtain⟨M,hM⟩:=je (arr 32 (c8 (fB S)));rw[<- hM] at m9 hI;have U:(prog.info? 23).map (·.size)=some M.toArray.size:=by rw[js];exact hI
     have Z:z8x32.size=M.toArray.size:=by rw[hM,aC];exact aC 32 _
     have a0:M.toArray.all (·.oneCell')=true:=by rw[hM];exact aP (λ_=>rfl)
     have HM:Hid (M=n8 (iD l)):=jz (by
      rw[hM,p6.out,p9.out]
      unfold iD
      rw[lO])
     clear hM HD hD;go_wp2_with (first
      | (refine ld 23 _ rfl rfl rfl m9 underlying23 rfl hI ?_)
      | (refine aN 23 (.tmp 2) (.tmp 51) rfl rfl rfl rfl n2 U Z a0 ?_;intro w9 k1 k7 _ _;have n0:=jz k1;have n4:=jz k7;clear k1 k7))
     exact bodyPost_ret (results_cell_row rfl _ _ gz 23 _ (0,0) _ rfl n0 underlying23 rfl U) rfl ⟨by rw[<- HM.out],n1.trans (n4.mono (by rw[g8.out];exact ja _))⟩
end
end Go.Proofs.YtjjlaipkkdncfaaGreatDoor
