import Derived.Test.YtombncedfleljaaGreatMC39
set_option linter.unusedVariables false
set_option linter.unusedSimpArgs false
set_option maxRecDepth 100000
set_option maxHeartbeats 40000000
namespace Go.Proofs.YtombncedfleljaaGreat
section
open Go.RowKit
attribute [local irreducible] wpQuiet wpAnyH
theorem oS(d:DiskD)(f z:Int)(g:Nat)(l:List aW):(room z<l.length∧fillR d f z g l=(some (13,none),d))∨(¬room z<l.length∧fillR d f z g l=(some (15,none),d))∨(¬room z<l.length∧(∀ q∈l,aS q=true)∧fillR d f z g l=fillW d (f+1) (l.map (aD g))):=by
 unfold fillR;by_cases h2:room z<l.length
 ·rw[if_pos h2];exact .inl ⟨h2,rfl⟩
 ·rw[if_neg h2];by_cases h3:l.all aS=true
  ·rw[if_pos h3];exact .inr (.inr ⟨h2,List.all_eq_true.1 h3,rfl⟩)
  ·rw[if_neg h3];exact .inr (.inl ⟨h2,rfl⟩)
theorem lR{d:DiskD}{h:Nat}{L:LogD}{qs:List aW}(hb:L.brk=false)(hg:max L.last L.gen<4294967295):rewR d h L qs=p7 d h L qs (max L.last L.gen+1):=by
 unfold rewR;rw[if_neg (by rw[hb];simp),if_neg (by omega)]
theorem sX{sec:List (List Int)}{b:Nat}{L:List (List Int)}(hb:b+L.length≤sec.length):∀ s∈setAll sec (wrs (b:Int) L),s∈sec∨s∈L:=by
 intro s hs;obtain⟨a,ha,rfl⟩:=nQ hs;rw[gI] at ha;rw[sV hb];split
 ·exact .inr (eQ (by omega))
 ·exact .inl (eQ ha)
theorem IA{d:DiskD}{h:Nat}{L:LogD}{qs:List aW}(hb:L.brk=false)(ho:d.opn=[])(hh:h=d.sec.length/2)(h1:1≤h)(hs:L.side<2)(tg:∀ s∈d.sec,bW s≤max L.last L.gen)(hm:max L.last L.gen<4294967296)(hq:∀ q∈qs,EntOk q)(hr:(rewR d h L qs).1=none):
  max L.last L.gen+1<4294967296∧(rewR d h L qs).2.2={ L with side:=1-L.side,gen:=max L.last L.gen+1,cnt:=qs.length }∧(rewR d h L qs).2.1.opn=[]∧(rewR d h L qs).2.1.down=false∧(rewR d h L qs).2.1.sec.length=d.sec.length ∧
   Live (rewR d h L qs).2.1.sec h (1-L.side) (max L.last L.gen+1) qs∧∀ s∈(rewR d h L qs).2.1.sec,bW s≤max L.last L.gen+1:=by
 have hg:max L.last L.gen<4294967295:=by
  rcases Nat.lt_or_ge (max L.last L.gen) 4294967295 with h|h
  ·exact h
  ·unfold rewR at hr;rw[hb,if_neg (by simp),if_pos (by omega)] at hr;cases hr
 rw[lR hb hg] at hr ⊢;obtain⟨g,hgg⟩:=je (max L.last L.gen+1);rw[← hgg] at hr ⊢;obtain⟨o,hoo⟩:∃ o,o=1-L.side:=⟨_,rfl⟩;have hsd:=pO (h:=h) (s:=o) (by omega);have hos:1-o=L.side:=by omega
 rw[hos] at hsd;obtain⟨f,hf⟩:=je (aY h o);have hln:h+h≤d.sec.length:=by omega
 unfold p7 at hr ⊢;rw[← hoo,← hf] at hr ⊢;rcases oS d (f:Int) h g qs with ⟨_,e⟩|⟨_,e⟩|⟨hrm,hrt,e⟩
 ·rw[e] at hr;cases hr
 ·rw[e] at hr;cases hr
 ·rw[gC h1] at hrm;rw[e] at hr ⊢;cases hfw:fillW d ((f:Int)+1) (qs.map (aD g)) with
  | mk fa fd=>
   rw[hfw] at hr;cases fa with
   | some x=>cases hr
   | none=>
    simp only at hr ⊢;unfold p6 at hr ⊢;simp only at hr ⊢;cases hw:wsA fd (f:Int) (rec g toll) with
    | some x=>rw[hw] at hr;cases hr
    | none=>
     simp only;obtain⟨_,f2,f3⟩:=mR _ _ _ _ hfw;obtain⟨c1,c2,c3⟩:=sM hw;rw[f2,List.nil_append] at c3;rw[ho,List.nil_append] at f3;have hfi:(f:Int)+1=((f+1:Nat):Int):=by omega
     rw[hfi] at f3;have hlr:f+1+(qs.map (aD g)).length≤d.sec.length:=by rw[List.length_map];omega
     have hfl:fd.sec.length=d.sec.length:=by rw[f3,gI]
     have hset:(wsD fd (f:Int) (rec g toll)).sec=fd.sec.set f (rec g toll):=c3;have hflt:f<fd.sec.length:=by omega
     have hgd:∀ a,(wsD fd (f:Int) (rec g toll)).sec.getD a []=if a=f then rec g toll else if f+1≤a∧a<f+1+qs.length then (qs.map (aD g)).getD (a-(f+1)) [] else d.sec.getD a []:=fun a=>by
      rw[hset,fO _ _ _ _ hflt,f3,sV hlr,List.length_map]
     have hg4:g<4294967296:=by omega
     have htag:∀ a,a<d.sec.length→bW (d.sec.getD a [])<g:=fun a ha=>by have:=tg _ (eQ ha);omega
     refine⟨hg4,trivial,c2,c1,by rw[hset,List.length_set,hfl],⟨by omega,by rw[hset,List.length_set,hfl];exact hln,by omega,hg4,?_,?_,fun q hm=>⟨hq q hm,hrt q hm⟩,?_,?_⟩,?_⟩
     ·rw[hgd,if_pos hf.symm]
     ·intro i hi;rw[hgd,if_neg (by omega),if_pos (by omega),List.getD_eq_getElem?_getD,show aY h o+1+i-(f+1)=i by omega];simp[hi]
     ·intro i hi hh2;rw[hgd,if_neg (by omega),if_neg (by omega)];have:=htag (aY h o+1+i) (by omega);omega
     ·rw[hos,hgd,if_neg (by omega),if_neg (by omega)];exact htag _ (by omega)
     ·intro s hsm;rw[hset] at hsm;rcases List.mem_or_eq_of_mem_set hsm with h2|h2
      ·rw[f3] at h2;rcases sX hlr s h2 with h3|h3
       ·have:=tg s h3;omega
       ·rw[List.mem_map] at h3;obtain⟨q,hqm,rfl⟩:=h3;rw[lP g (hq q hqm) hg4];exact Nat.le_refl _
      ·rw[h2,jG g hg4];exact Nat.le_refl _
theorem sY{P P':Nat→List aW→Prop}{N K:Nat}{d:DiskD}{L:LogD}{es:List aW}(h:SA P N K d L es)(hk:DOk d)(hK:K+1<256){qs:List aW}(hq:∀ q∈qs,EntOk q)(hP:P' L.gen es)(hP2:∀ g,L.gen<g→P' g qs):
  ((rewR d (N/2) L qs).1=none∧SA P' N (K+1) (rewR d (N/2) L qs).2.1 (rewR d (N/2) L qs).2.2 qs∧L.gen<(rewR d (N/2) L qs).2.2.gen) ∨
  (∃ x,(rewR d (N/2) L qs).1=some x∧(x.1=11∨x.1=12)∧SB P' N (K+1) (rewR d (N/2) L qs).2.1∧(rewR d (N/2) L qs).2.2={ L with brk:=true }) ∨
  (∃ x,(rewR d (N/2) L qs).1=some x∧x.1≠11∧x.1≠12∧(rewR d (N/2) L qs).2.1=d∧(rewR d (N/2) L qs).2.2=L):=by
 have hlv:=h.lv;have hfit:=hlv.fit;have hln:=hlv.ln;have hs2:=hlv.s2;have hmk:=h.k;have hlen:=h.len;cases hr:(rewR d (N/2) L qs).1 with
 | none=>
  obtain⟨k1,k2,k3,_,k5,k6,k7⟩:=IA h.brk h.opn (by rw[hlen]) (by omega) hs2 h.tg (by omega) hq hr;refine .inl ⟨rfl,⟨by rw[k2];exact h.brk,k3,k5.trans hlen,by rw[k2];exact k6,by rw[k2],by rw[k2];exact hP2 _ (by show L.gen<max L.last L.gen+1;omega),fun s hs=>?_,by rw[k2];show max L.last (max L.last L.gen+1)≤K+1;omega⟩,by rw[k2];show L.gen<max L.last L.gen+1;omega⟩;rw[k2];have:=k7 s hs;show bW s≤max L.last (max L.last L.gen+1);omega
 | some x=>
  refine .inr ?_;rw[lR h.brk (by omega)] at hr ⊢;obtain⟨g,hgg⟩:=je (max L.last L.gen+1);rw[← hgg] at hr ⊢;have hg4:g<4294967296:=by omega
  have hgK:g≤K+1:=by omega
  obtain⟨o,hoo⟩:∃ o,o=1-L.side:=⟨_,rfl⟩;have hos:1-o=L.side:=by omega
  have hsd:=pO (h:=N/2) hs2;rw[← hoo] at hsd;obtain⟨f,hf⟩:=je (aY (N/2) o);rw[← hf] at hsd;have htg:∀ s∈d.sec,bW s≤K+1:=fun s hs=>by have:=h.tg s hs;omega
  unfold p7 at hr ⊢;rw[← hoo,← hf] at hr ⊢;rcases oS d (f:Int) (N/2:Nat) g qs with ⟨_,e⟩|⟨_,e⟩|⟨hrm,hrt,e⟩
  ·rw[e] at hr ⊢;unfold p6 at hr ⊢;simp only[Option.some.injEq] at hr ⊢;subst hr;exact .inr ⟨_,by first|rfl|trivial,by decide,by decide,by first|rfl|trivial,kG ⟨by decide,by decide⟩⟩
  ·rw[e] at hr ⊢;unfold p6 at hr ⊢;simp only[Option.some.injEq] at hr ⊢;subst hr;exact .inr ⟨_,by first|rfl|trivial,by decide,by decide,by first|rfl|trivial,kG ⟨by decide,by decide⟩⟩
  ·rw[gC (by omega)] at hrm;rw[e] at hr ⊢;have hlr:f+1+(qs.map (aD g)).length≤d.sec.length:=by rw[List.length_map];omega
   have hfi:(f:Int)+1=((f+1:Nat):Int):=by omega
   rw[hfi] at hr ⊢;have hmm:∀ p∈wrs ((f+1:Nat):Int) (qs.map (aD g)),((f+1:Nat):Int)≤p.1∧p.1<d.sec.length∧p.1<((f+1:Nat):Int)+qs.length∧Sec p.2∧bW p.2=g:=fun p hp=>by
    obtain⟨m1,m2,m3⟩:=xQ _ _ p hp;rw[List.length_map] at m2 hlr;rw[List.mem_map] at m3;obtain⟨q,hqm,hqe⟩:=m3;exact⟨m1,by omega,m2,by rw[← hqe];exact dX g (hq q hqm),by rw[← hqe];exact lP g (hq q hqm) hg4⟩
   cases hfw:fillW d ((f+1:Nat):Int) (qs.map (aD g)) with
   | mk fa fd=>
    rw[hfw] at hr;cases fa with
    | some y=>
     unfold p6 at hr ⊢;simp only[Option.some.injEq] at hr ⊢;subst hr;obtain⟨hc,hrst⟩:=sU _ _ _ _ _ hfw (by omega) (by rw[Int.toNat_natCast];exact hlr);rw[h.opn,List.nil_append] at hrst;refine .inl ⟨y,rfl,hc,?_,oR hc⟩;refine SB.of_rst hrst hlen hk.sec (fun p hp=>⟨by have:=(hmm p hp).1;omega,(hmm p hp).2.1,(hmm p hp).2.2.2.1⟩) (oQ _ _) htg (fun p hp=>by rw[(hmm p hp).2.2.2.2];exact hgK) (by omega) (fun j cl=>?_);have hnear:Near d.sec (wrs ((f+1:Nat):Int) (qs.map (aD g))) (bK d.sec ((wrs ((f+1:Nat):Int) (qs.map (aD g))).take j) cl):=by
      refine(iM hk.sec (fun p hp=>?_) ?_ (fun s hs=>by have:=htg s hs;omega) (fun p hp=>?_) cl).mono (fun y hy=>List.mem_of_mem_take hy)
      ·have hp:=List.mem_of_mem_take hp;exact⟨by have:=(hmm p hp).1;omega,(hmm p hp).2.1,(hmm p hp).2.2.2.1⟩
      ·rw[List.map_take];exact List.Nodup.sublist (List.take_sublist _ _) (oQ _ _)
      ·have hp:=List.mem_of_mem_take hp;rw[(hmm p hp).2.2.2.2];omega
     generalize bK d.sec _ cl=sec' at hnear;have hoth:∀ a,a<d.sec.length→(a<f+1∨f+1+qs.length≤a)→sec'.getD a []=d.sec.getD a []:=fun a ha hne=>(hnear.2 a ha).elim id (fun⟨s,h1,_⟩=>by
      have h2:=hmm _ h1
      have h3:((f+1:Nat):Int)≤(a:Int):=h2.1
      have h4:(a:Int)<((f+1:Nat):Int)+qs.length:=h2.2.2.1
      omega)
     exact .inl ⟨_,_,_,lQ hlv hnear.1 (fun a h1 h2=>hoth a (by omega) (by omega)) (fun a h1 h2=>by rw[hoth a (by omega) (by omega)]) (by rw[← hoo,← hf,hoth f (by omega) (by omega)]),hP⟩
    | none=>
     unfold p6 at hr ⊢;simp only at hr ⊢;obtain⟨_,f2,f3⟩:=mR _ _ _ _ hfw;rw[h.opn,List.nil_append] at f3;have hfl:fd.sec.length=d.sec.length:=by rw[f3,gI]
     have hflt:f<fd.sec.length:=by omega
     cases hw:wsA fd (f:Int) (rec g toll) with
     | none=>rw[hw] at hr;cases hr
     | some y=>
      rw[hw] at hr;simp only[Option.some.injEq] at hr;subst hr;simp only;obtain⟨hc,hrst⟩:=xP f2 (sW hflt) hw;have hfsec:∀ s∈fd.sec,Sec s∧bW s≤K+1:=fun s hs=>by
       rw[f3] at hs;rcases sX hlr s hs with h3|h3
       ·exact⟨hk.sec s h3,htg s h3⟩
       ·rw[List.mem_map] at h3;obtain⟨q,hqm,rfl⟩:=h3;exact⟨dX g (hq q hqm),by rw[lP g (hq q hqm) hg4];exact hgK⟩
      have hgd:∀ a,fd.sec.getD a []=if f+1≤a∧a<f+1+qs.length then (qs.map (aD g)).getD (a-(f+1)) [] else d.sec.getD a []:=fun a=>by
       rw[f3,sV hlr,List.length_map]
      have hlv2:Live fd.sec (N/2) L.side L.gen es:=lQ hlv hfl (fun a h1 h2=>by rw[hgd,if_neg (by omega)]) (fun a h1 h2=>by rw[hgd,if_neg (by omega)]) (by rw[← hoo,← hf,hgd,if_neg (by omega)]);refine .inl ⟨y,rfl,hc,?_,oR hc⟩;refine SB.of_rst hrst (hfl.trans hlen) (fun s hs=>(hfsec s hs).1) (fun p hp=>?_) (by simp) (fun s hs=>(hfsec s hs).2) (fun p hp=>?_) (by omega) (fun j cl=>?_)
      ·rw[List.mem_singleton] at hp;rw[hp];exact⟨by show(0:Int)≤f;omega,by show(f:Int)<_;omega,xR g⟩
      ·rw[List.mem_singleton] at hp;rw[hp];show bW (rec g toll)≤_;rw[jG g hg4];exact hgK
      ·have hnear:Near fd.sec [((f:Int),rec g toll)] (bK fd.sec (([((f:Int),rec g toll)]).take j) cl):=by
        refine(iM (fun s hs=>(hfsec s hs).1) (fun p hp=>?_) ?_ (fun s hs=>by have:=(hfsec s hs).2;omega) (fun p hp=>?_) cl).mono (fun y hy=>List.mem_of_mem_take hy)
        ·have hp:=List.mem_of_mem_take hp;rw[List.mem_singleton] at hp;rw[hp];exact⟨by show(0:Int)≤f;omega,by show(f:Int)<_;omega,xR g⟩
        ·rw[List.map_take];exact List.Nodup.sublist (List.take_sublist _ _) (by simp)
        ·have hp:=List.mem_of_mem_take hp;rw[List.mem_singleton] at hp;rw[hp];show bW (rec g toll)<_;rw[jG g hg4];omega
       generalize bK fd.sec _ cl=sec' at hnear;have hoth:∀ a,a<fd.sec.length→a≠f→sec'.getD a []=fd.sec.getD a []:=fun a ha hne=>(hnear.2 a ha).elim id (fun⟨s,h1,_⟩=>by
        rw[List.mem_singleton] at h1
        injection h1 with h1 _
        omega)
       have hsame:bW (sec'.getD f [])=bW (fd.sec.getD f [])∨sec'.getD f []=rec g toll:=(hnear.2 f hflt).elim (fun e=>.inl (by rw[e])) (fun⟨s,h1,h2⟩=>by
        rw[List.mem_singleton] at h1
        injection h1 with _ h1
        subst h1
        exact h2.symm)
       rcases hsame with hsm|hsm
       ·exact .inl ⟨_,_,_,lQ hlv2 hnear.1 (fun a h1 h2=>hoth a (by omega) (by omega)) (fun a h1 h2=>by rw[hoth a (by omega) (by omega)]) (by rw[← hoo,← hf];exact hsm),hP⟩
       ·have htag:∀ a,a<d.sec.length→bW (d.sec.getD a [])<g:=fun a ha=>by have:=h.tg _ (eQ ha);omega
        refine .inl ⟨o,g,qs,⟨by omega,by rw[hnear.1,hfl];exact hln,by omega,hg4,by rw[← hf];exact hsm,?_,fun q hm=>⟨hq q hm,hrt q hm⟩,?_,?_⟩,hP2 g (by omega)⟩
        ·intro i hi;rw[← hf,hoth _ (by omega) (by omega),hgd,if_pos (by omega),List.getD_eq_getElem?_getD,show f+1+i-(f+1)=i by omega];simp[hi]
        ·intro i hi hh2;rw[← hf,hoth _ (by omega) (by omega),hgd,if_neg (by omega)];have:=htag (f+1+i) (by omega);omega
        ·rw[hos,hoth _ (by omega) (by omega),hgd,if_neg (by omega)];exact htag _ (by omega)
theorem sZ:iN 0=zsec:=by unfold iN;simp
theorem s8:bW zsec=0:=by rw[← sZ];exact(mT (by omega)).2
theorem Fresh.tag{sec:List (List Int)}{h:Nat}(f:Fresh sec h):∀ s∈sec,bW s≤0:=by
 intro s hs;obtain⟨a,ha,rfl⟩:=nQ hs;obtain⟨c,hc,he⟩:=f.ex
 match a with
 | 0=>rw[he,(mT hc).2];exact Nat.le_refl _
 | a+1=>rw[f.zs _ (by omega) ha,s8];exact Nat.le_refl _
theorem Fresh.scan{sec:List (List Int)}{h:Nat}(f:Fresh sec h)(s:Nat)(hs:s<2):(bT (none,[]) ((sec.drop (aY h s)).take h)).1=none:=by
 cases hg:(bT (none,[]) ((sec.drop (aY h s)).take h)).1 with
 | none=>rfl
 | some g=>
  obtain⟨x,hx,hp⟩:=zI hg;have h1:=f.h1;have hln:=f.ln;have hsd:=pO (h:=h) hs;have hx2:x=sec.getD (aY h s) []:=by
   have:=jH sec (aY h s) h 0 (by omega) (by omega);rw[Nat.add_zero] at this;rw[← this,List.getD_eq_getElem?_getD,← List.head?_eq_getElem?,hx];rfl
  rcases hsd with ⟨e,_⟩|⟨e,_⟩
  ·obtain⟨c,hc,he⟩:=f.ex;rw[e,he] at hx2;rw[hx2,(mT hc).1] at hp;cases hp
  ·rw[e,f.zs h (by omega) (by omega)] at hx2;rw[hx2,EG] at hp;cases hp
theorem s9{d:DiskD}(h:∀ s,s<2→(bT (none,[]) ((d.sec.drop (aY (d.sec.length/2) s)).take (d.sec.length/2))).1=none):(kK d).1=none:=by
 unfold kK;generalize d.sec.length/2=f at *
 show(fA 1 (dD d (aY f 1) f) (fA 0 (dD d (aY f 0) f) (none,_))).1=none;rw[eP (k:=0) (S:=dD d (aY f 0) f) (h 0 (by omega)),eP (k:=1) (S:=dD d (aY f 1) f) (h 1 (by omega))]
theorem tC{sec sec':List (List Int)}{h:Nat}(f:Fresh sec h)(hl:sec'.length=sec.length)(h0:sec'.getD 0 []=rec 1 toll)(ho:∀ a,0<a→a<sec.length→sec'.getD a []=sec.getD a []):Live sec' h 0 1 []:=by
 have h1:=f.h1;have hln:=f.ln;refine⟨by omega,by rw[hl];exact hln,by simp;omega,by omega,h0,(fun i hi=>by simp at hi),(fun q hq=>by cases hq),?_,?_⟩
 ·intro i _ hh;show bW (sec'.getD (0+1+i) [])≠1;rw[ho _ (by omega) (by omega),f.zs _ (by omega) (by omega),s8];omega
 ·show bW (sec'.getD h [])<1;rw[ho _ (by omega) (by omega),f.zs _ (by omega) (by omega),s8];omega
theorem BL{sec sec':List (List Int)}{h:Nat}(f:Fresh sec h)(hl:sec'.length=sec.length){c:Nat}(hc:c<64)(h0:sec'.getD 0 []=iN c)(ho:∀ a,0<a→a<sec.length→sec'.getD a []=sec.getD a []):Fresh sec' h:=
 ⟨f.h1,by rw[hl];exact f.ln,⟨c,hc,h0⟩,fun a h1 h2=>by rw[hl] at h2;rw[ho a h1 h2];exact f.zs a h1 h2⟩
theorem BM{d:DiskD}{es:List aW}{L:LogD}(h:kK d=(some es,L)):fF d=(none,d,some (L,es)):=by
 unfold fF;rw[h]
theorem J7{P:Nat→List aW→Prop}{N K:Nat}{d:DiskD}(hmono:P 0 []→P 1 [])(h:SB P N K d)(hk:DOk d)(hN:2≤N)(hK:K+1<256):
  (∃ x,(openR d).1=some x∧(openR d).2.2=none∧SB P N (K+1) (openR d).2.1)∨(∃ L es,(openR d).1=none∧(openR d).2.2=some (L,es)∧SA P N (K+1) (openR d).2.1 L es):=by
 have hlen:=h.len;unfold openR;rw[if_neg (by omega)];cases hs:syncA d with
 | some x=>
  refine .inl ⟨x,rfl,rfl,?_⟩;obtain⟨_,hr⟩:=oP hs;show SB P N (K+1) (syncS d);rcases hr with ⟨h1,h2⟩|⟨h1,cl,h2⟩
  ·exact(h.disk h1 h2).imp (fun _ _ h=>h) (by omega)
  ·have hc:=h.crash hk (by omega) cl;exact(hc.disk h2 h1).imp (fun _ _ h=>h) (by omega)
 | none=>
  simp only;obtain⟨hd,ho⟩:=sA hs;obtain⟨d1,hd1⟩:=je (syncS d);have hsec:∃ cl,d1.sec=bK d.sec d.opn cl:=by
   obtain⟨cl,hcl⟩:=xO d.sec d.opn hk.sec hk.opn;refine⟨cl,?_⟩;rw[hd1,(mQ hs).2,hcl];rfl
  rw[← hd1] at hd ho ⊢;obtain⟨cl,hcl⟩:=hsec;have hg:=h.gd cl;have hct:=h.crash hk (by omega) cl;have htg:∀ s∈d1.sec,bW s≤K:=by rw[hcl];exact hct.tg
  have hlen1:d1.sec.length=N:=by rw[hcl,cU];exact hlen
  have hsc1:∀ s∈d1.sec,Sec s:=by rw[hcl];exact mG cl hk.sec hk.opn
  rw[← hcl] at hg;rw[← hlen1] at hg;rcases hg with ⟨s,g,es,hlv,hp⟩|⟨hf,hp⟩
  ·have hop:=BI hlv;rw[BM hop];refine .inr ⟨_,_,rfl,rfl,⟨rfl,ho,hlen1,by rw[← hlen1];exact hlv,rfl,hp,fun x hx=>?_,?_⟩⟩
   ·obtain⟨a,ha,rfl⟩:=nQ hx;have:=zJ hd ho d1.sec.length (Nat.le_refl _) a ha;exact Nat.le_trans this (Nat.le_max_left _ _)
   ·have h1:=nR hd ho K htg d1.sec.length (Nat.le_refl _);have hsd:=pO (h:=d1.sec.length/2) hlv.s2;have hfit:=hlv.fit;have hln:=hlv.ln;have h2:=htg _ (eQ (show aY (d1.sec.length/2) s<d1.sec.length by omega));rw[hlv.hd,jG g hlv.g4] at h2;show max (bV d1 d1.sec.length) g≤K+1;omega
  ·have hof:=s9 (fun s hs=>hf.scan s hs);have hla:bV d1 d1.sec.length=0:=by
    have:=nR hd ho 0 hf.tag d1.sec.length (Nat.le_refl _);omega
   have hpos:0<d1.sec.length:=by omega
   obtain⟨c,hc,he⟩:=hf.ex;unfold fF;rw[hof,hla];simp only[show ¬((0:Nat)=4294967295) by omega,if_false,Nat.zero_add];cases hw:wsA d1 0 (rec 1 toll) with
   | some x=>
    obtain⟨_,hr⟩:=xP ho (sW hpos) hw;refine .inl ⟨x,rfl,rfl,?_⟩;show SB P N (K+1) (wsD d1 0 (rec 1 toll));refine SB.of_rst hr hlen1 hsc1 (fun p hp=>?_) (by simp) (fun s hs=>by have:=htg s hs;omega) (fun p hp=>?_) hK (fun j cl'=>?_)
    ·rw[List.mem_singleton] at hp;rw[hp];exact⟨by show(0:Int)≤0;omega,by show(0:Int)<_;omega,xR 1⟩
    ·rw[List.mem_singleton] at hp;rw[hp];show bW (rec 1 toll)≤_;rw[jG 1 (by omega)];omega
    ·rw[← hlen1]
     match j with
     | 0=>rw[List.take_zero,iD];exact .inr ⟨hf,hp⟩
     | j+1=>
      have e1:bK d1.sec (([(((0:Nat):Int),rec 1 toll)]).take (j+1)) cl'=d1.sec.set 0 (bM (d1.sec.getD 0 []) (rec 1 toll) (cl'.getD 0 0)):=by rw[List.take_succ_cons,List.take_nil];exact BK d1.sec 0 (rec 1 toll) cl'
      rw[e1,he];have ho1:∀ X,∀ a,0<a→a<d1.sec.length→(d1.sec.set 0 X).getD a []=d1.sec.getD a []:=fun X a h1 _=>by rw[fO _ _ _ _ hpos,if_neg (by omega)]
      rcases BJ c hc (cl'.getD 0 0) with h2|⟨c',hc',h2⟩
      ·rw[h2];exact .inl ⟨0,1,[],tC hf (List.length_set ..) (by rw[fO _ _ _ _ hpos,if_pos rfl]) (ho1 _),hmono hp⟩
      ·rw[h2];exact .inr ⟨BL hf (List.length_set ..) hc' (by rw[fO _ _ _ _ hpos,if_pos rfl]) (ho1 _),hp⟩
   | none=>
    obtain⟨k1,k2,k3⟩:=sM hw;rw[ho,List.nil_append] at k3;have hset:(wsD d1 0 (rec 1 toll)).sec=d1.sec.set 0 (rec 1 toll):=k3;refine .inr ⟨_,_,rfl,rfl,?_⟩;show SA P N (K+1) (wsD d1 0 (rec 1 toll)) ⟨0,0,1,0,false⟩ [];refine⟨rfl,k2,by rw[hset,List.length_set];exact hlen1,?_,rfl,hmono hp,fun s hs=>?_,by show max 0 1≤K+1;omega⟩
    ·rw[← hlen1];exact tC hf (by rw[hset,List.length_set]) (by rw[hset,fO _ _ _ _ hpos,if_pos rfl]) (fun a h1 _=>by rw[hset,fO _ _ _ _ hpos,if_neg (by omega)])
    ·rw[hset] at hs;show bW s≤max 0 1;rcases List.mem_or_eq_of_mem_set hs with h1|h1
     ·have:=hf.tag s h1;omega
     ·rw[h1,jG 1 (by omega)];omega
theorem oT(n:Nat)(hn:2≤n):Fresh (List.replicate n zsec) (n/2):=by
 refine⟨by omega,by rw[List.length_replicate];omega,⟨0,by omega,?_⟩,fun a _ ha=>?_⟩
 ·rw[sZ];rw[List.getD_eq_getElem?_getD,List.getElem?_replicate,if_pos (by omega)];rfl
 ·rw[List.length_replicate] at ha;rw[List.getD_eq_getElem?_getD,List.getElem?_replicate,if_pos ha];rfl
theorem K3{P:Nat→List aW→Prop}(n:Nat)(hn:2≤n)(hp:P 0 []):SB P n 0 (fV n):=
 ⟨List.nodup_nil,List.length_replicate,(oT n hn).tag,(fun p hp=>by cases hp),fun cl=>by show Good P (n/2) (bK (List.replicate n zsec) [] cl);rw[iD];exact .inr ⟨oT n hn,hp⟩⟩
section
variable {d : DiskD}
theorem J8{d:DiskD}(h:d.steps≤d.room)(hh:Nat)(L:LogD)(q:aW):(appD d hh L q).room≤d.room+3:=by
 unfold appD;split
 ·omega
 ·unfold putD;split
  ·omega
  ·split
   ·omega
   ·split
    ·exact(BC h _ _).2.1
    ·omega
theorem J9{d:DiskD}(h:d.steps≤d.room)(hh:Nat)(L:LogD)(qs:List aW):(rewR d hh L qs).2.1.room≤d.room+2*qs.length+4:=by
 unfold rewR;split
 ·show d.room≤_;omega
 ·split
  ·show d.room≤_;omega
  ·unfold p7;have h1:=zF h (aY hh (1-L.side)) hh (max L.last L.gen+1) qs;have h2:=BC h1.1 (aY hh (1-L.side)) (rec (max L.last L.gen+1) toll);have h3:=h1.2.1;have h4:=h2.2.1;unfold p6;split
   ·show(fillR d (aY hh (1-L.side)) hh (max L.last L.gen+1) qs).2.room≤_;omega
   ·split
    ·show(wsD (fillR d (aY hh (1-L.side)) hh (max L.last L.gen+1) qs).2 _ _).room≤_;omega
    ·show(wsD (fillR d (aY hh (1-L.side)) hh (max L.last L.gen+1) qs).2 _ _).room≤_;omega
theorem zM{d:DiskD}(h:d.steps≤d.room):(openR d).2.1.room≤d.room+4:=by
 have h1:=sL h;have h2:=h1.2.1;unfold openR;split
 ·show d.room≤_;omega
 ·split
  ·show(syncS d).room≤_;omega
  ·unfold fF;have h3:=BC h1.1 0 (rec (bV (syncS d) (syncS d).sec.length+1) toll);have h4:=h3.2.1;split
   ·show(syncS d).room≤_;omega
   ·split
    ·show(syncS d).room≤_;omega
    ·split
     ·show(wsD (syncS d) 0 _).room≤_;omega
     ·show(wsD (syncS d) 0 _).room≤_;omega
end
theorem IB(d:DiskD)(h:Nat)(L:LogD)(q:aW):(appD d h L q).sec.length=d.sec.length:=by
 unfold appD;split
 ·rfl
 ·exact y3 _ _ _ _ _ _
theorem ID(d:DiskD)(h:Nat)(L:LogD)(qs:List aW):(rewR d h L qs).2.1.sec.length=d.sec.length:=by
 unfold rewR;split
 ·rfl
 ·split
  ·rfl
  ·unfold p7 p6;split
   ·exact oG _ _ _ _ _
   ·split
    ·show(wsD _ _ _).sec.length=_;rw[j7,oG]
    ·show(wsD _ _ _).sec.length=_;rw[j7,oG]
theorem oU(d:DiskD):(openR d).2.1.sec.length=d.sec.length:=by
 unfold openR;split
 ·rfl
 ·split
  ·exact eV d
  ·unfold fF;split
   ·exact eV d
   ·split
    ·exact eV d
    ·split
     ·show(wsD _ _ _).sec.length=_;rw[j7,eV]
     ·show(wsD _ _ _).sec.length=_;rw[j7,eV]
section
variable {d : DiskD}
theorem qJ(d:DiskD)(n:Int)(cl:List Int):((planF d n).room≤d.room+1∧(planF d n).sec.length=d.sec.length)∧(planC d n cl).room≤d.room+1∧(planC d n cl).sec.length=d.sec.length:=by
 unfold planF planC;constructor
 ·split
  ·exact⟨by omega,rfl⟩
  ·exact⟨Nat.le_refl _,rfl⟩
 ·split
  ·exact⟨by omega,rfl⟩
  ·exact⟨Nat.le_refl _,rfl⟩
end
end
section
open Go.RowKit
attribute [local irreducible] wpQuiet wpAnyH
def cmpR(d:DiskD)(h:Nat)(C:CacheD)(now:Int):Ans×DiskD×CacheD:=match (rewR d h C.L (aE C.E now)).1 with
 | none=>(none,(rewR d h C.L (aE C.E now)).2.1,⟨(rewR d h C.L (aE C.E now)).2.2,aE C.E now,C.til⟩)
 | some x=>(some x,(rewR d h C.L (aE C.E now)).2.1,⟨(rewR d h C.L (aE C.E now)).2.2,C.E,C.til⟩)
def insT(d:DiskD)(h:Nat)(C:CacheD)(q:aW):Int×DiskD×CacheD:=if h-1≤C.L.cnt then (9,d,C) else match lW d h C.L q with
 | none=>(10,appD d h C.L q,⟨iI d h C.L q,(aM C.E q).1,C.til⟩)
 | some x=>(xN (some x),appD d h C.L q,⟨iI d h C.L q,C.E,C.til⟩)
def insR(d:DiskD)(h:Nat)(C:CacheD)(q:aW)(now:Int):Int×DiskD×CacheD:=
 if fI C.E q.1 now then (8,d,C) else if C.L.brk then (9,d,C) else if q.2<0 then (9,d,C) else if 4611686018427387904<q.2 then (9,d,C) else
 if h-1≤C.L.cnt then (match (cmpR d h C now).1 with
  | some x=>(xN (some x),(cmpR d h C now).2.1,(cmpR d h C now).2.2)
  | none=>insT (cmpR d h C now).2.1 h (cmpR d h C now).2.2 q) else insT d h C q
theorem zN(d:DiskD)(h:Nat)(C:CacheD)(now:Int):aK (cQ (cmpR d h C now).1):=by
 have h1:=E0 d h C.L (aE C.E now);unfold cmpR;split
 ·exact DA
 ·rename_i x hx;rw[hx] at h1;exact h1
theorem CK.up{w:World}{m:DiskM}{d:DiskD}{gc gl gi bi h n n':Nat}{C:CacheD}(k:CK w m d gc gl gi bi h n C)(hn:n≤n'):CK w m d gc gl gi bi h n' C:=⟨k.lk,k.blk,k.ix.mono hn,k.ac,k.ai,k.ab,k.ne,k.i64⟩
theorem oV(now:Int)(w:World)(m:DiskM)(d:DiskD)(gc gl gi bi h n:Nat)(C:CacheD)(k:CK w m d gc gl gi bi h n C)(hn:n≤1000)(hr:d.room+30000≤100000):
  Calls Tryz.prog 13 #[.pointer (some ⟨gc,0,none⟩),.int .i64 now] w fun e w'=>e = .returned (cC (cmpR d h C now).1)∧∃ m',CK w' m' (cmpR d h C now).2.1 gc gl gi bi h n (cmpR d h C now).2.2∧CT [gl,bi] w m w' m':=by
 have HK:=jz k;have hE:=k.ix.len;have hll:=eX C.E now;have hok:∀ q∈aE C.E now,EntOk q:=(k.ix.wl.live now).ok;obtain⟨til,htil⟩:=je C.til;obtain⟨ra,hra⟩:=je ((rewR d h C.L (aE C.E now)).1);obtain⟨rd,hrd⟩:=je ((rewR d h C.L (aE C.E now)).2.1);obtain⟨rl,hrl⟩:=je ((rewR d h C.L (aE C.E now)).2.2);have HV:Hid (cmpR d h C now=match (generalizing:=false) ra with
  | none=>(none,rd,⟨rl,aE C.E now,C.til⟩)
  | some x=>(some x,rd,⟨rl,C.E,C.til⟩)):=jz (by subst hra hrd hrl;rfl)
 have HRW:Hid (∀ W M A cap,LK W M d gl h C.L→Sn W 33 (.slice A (aE C.E now).length cap) (aE C.E now).length ((aE C.E now).flatMap aC)→Calls Tryz.prog 36 #[.pointer (some ⟨gl,0,none⟩),.slice A (aE C.E now).length cap] W fun e w'=>e = .returned (cC ra)∧∃ m',LK w' m' rd gl h rl∧LT gl W M w' m'):=jz (by rw[hra,hrd,hrl];exact fun W M A cap hk hs=>zG _ A cap W M d gl h C.L hk hs hok (by omega) (by omega));have HLV:=jz (fun W (kk:XK W gi bi n C.E)=>DB W gi bi n C.E now kk hn);clear hra hrd hrl k hok hE hll;have HTL:=jz htil.symm;go_enter Tryz.func13,Tryz.ntmps13
 go_upto_region 3 with fail
 clear htil;rw[show C.til=til from HTL.out] at HV;have HKB:Hid (CK w m d gc gl gi bi h n ⟨C.L,C.E,til⟩):=jz (by rw[← HTL.out];exact HK.out);replace HK:=HKB;clear HKB;obtain⟨wS,hwS⟩:=je w.drew;have HD:Hid (Below w.heap.size w wS):=jz (by rw[hwS];exact(Below.refl _ _).drew);have HKS:=jz (HK.keep HD.out);refine kZ (n:=12) (fun W=>Blk W gc 84 (gP gl gi til)) (by rw[← hwS];exact HKS.blk) (h:=fun hH=>?_);rw[← hwS] at hH ⊢;clear hwS;refine kM 0 (some 9) (.pointer (some ⟨gc,0,none⟩)) (h:=?_);simp only[jq];refine kT 1 (some 10) (.pointer (some ⟨gc,0,none⟩)) (h:=?_);simp only[jq];refine kT 2 (some 11) (.pointer (some ⟨gc,0,none⟩)) (h:=?_);simp only[jq];refine kC 3 (some 12) (v:=.pointer (some ⟨gl,0,none⟩)) (fun _ hX=>(cF hX).1) (h:=?_);simp only[jq];refine kM 4 (some 13) (.pointer (some ⟨gc,0,none⟩)) (h:=?_);simp only[jq];refine kT 5 (some 14) (.pointer (some ⟨gc,0,none⟩)) (h:=?_);simp only[jq];refine kT 6 (some 15) (.pointer (some ⟨gc,1,none⟩)) (h:=?_);simp only[jq];refine kC 7 (some 16) (v:=.pointer (some ⟨gi,0,none⟩)) (fun _ hX=>(cF hX).2.1) (h:=?_);simp only[jq];refine kM 8 (some 17) (.int .i64 now) (h:=?_);simp only[jq];refine kF 9 (some 18) ((HLV.out wS HKS.ix).mono ?_);rintro e w5 ⟨v5,rfl,hs5,hb5,_⟩;obtain⟨A5,c5,rfl,_⟩:=id hs5;have HK5:=jz (HKS.keep hb5);have HS5:=jz hs5;have HB5:=jz (aB HD.out hb5);clear hs5;refine⟨_,rfl,HKS.blk.keep hb5,fun hH=>?_⟩;simp only[jq];refine kF 10 (some 19) ((HRW.out w5 m A5 c5 HK5.lk HS5.out).mono ?_);rintro e w6 ⟨rfl,m6,hlk6,ht6⟩;have HK6:=jz (HK5.log hlk6 ht6);have HT6:Hid (CT [gl,bi] w m w6 m6):=jz ((CT.of_below HB5.out).trans (CT.of_lt ht6 (.inl (by simp))));clear hlk6 ht6;refine⟨_,rfl,HK6.blk,fun hH=>?_⟩;simp only[jq];refine kT 11 (some 5) (cC ra) (h:=?_);simp only[jq];refine kE (h:=?_);cases ra with
 | some x=>
  obtain⟨t,u,hv⟩:=cV x;have HVE:=jz hv;rw[hv];have hne:=dS t u;clear hv;go_wp2_with fail
  go_ret;rw[HV.out];exact⟨by rw[← HVE.out];rfl,m6,HK6.out,HT6.out⟩
 | none=>
  have hvn:cC none = .nilIface:=rfl;rw[hvn];obtain⟨_,c1,_⟩:=cF HK6.blk;have HDR:=jz (DC w6 gi bi n C.E now HK6.ix hn);clear hvn;go_wp2_with fail
  refine HDR.mono ?_;rintro e w7 ⟨kd,rfl,hx7,ho7⟩;have HK7:=jz (HK6.index ho7 hx7);have HT7:=jz (HT6.trans (CT.of_off (F:=[gl,bi]) ho7 (by simp)));clear hx7 ho7;go_wp2_with fail
  go_ret;rw[HV.out];exact⟨rfl,m6,HK7.out,HT7.out⟩
theorem lS{d:DiskD}(h:d.steps≤d.room)(hh:Nat)(C:CacheD)(now:Int):(cmpR d hh C now).2.1.room≤d.room+2*C.E.length+4∧(cmpR d hh C now).2.1.sec.length=d.sec.length:=by
 have h1:=J9 h hh C.L (aE C.E now);have h2:=ID d hh C.L (aE C.E now);have h3:=eX C.E now;unfold cmpR;split
 ·exact⟨by show(rewR d hh C.L (aE C.E now)).2.1.room≤_;omega,h2⟩
 ·exact⟨by show(rewR d hh C.L (aE C.E now)).2.1.room≤_;omega,h2⟩
theorem zO(q:aW)(now:Int)(w:World)(m:DiskM)(d:DiskD)(gc gl gi bi h n:Nat)(C:CacheD)(k:CK w m d gc gl gi bi h n C)(hq:EntOk q)(hn:n+1≤1000)(hr:d.room+40000≤100000):
  Calls Tryz.prog 11 #[.pointer (some ⟨gc,0,none⟩),.agg (aC q).toArray,.int .i64 now] w fun e w'=>e = .returned (.int .i64 (insR d h C q now).1)∧∃ m',CK w' m' (insR d h C q now).2.1 gc gl gi bi h (n+1) (insR d h C q now).2.2∧CT [gl,bi] w m w' m':=by
 have HQ:=jz hq;have hql:=aH q hq;have HQL:=jz hql;have HDL:Hid ((u8s q.1).length=32):=jz (by simp[u8s,hq.dig.len]);obtain⟨w1,hw1⟩:=je (w.alloc (.cells (aC q).toArray 35));obtain⟨gq,hgq⟩:=je w.heap.size;have HQ1:Hid (Blk w1 gq 35 (aC q).toArray):=jz (by rw[hw1,hgq];exact Blk.new _ _ _);have HB1:Hid (Below w.heap.size w w1):=jz (by rw[hw1];exact aN _ _);obtain⟨til,htil⟩:=je C.til;have HTL:=jz htil.symm;have HK0:Hid (CK w m d gc gl gi bi h n ⟨C.L,C.E,til⟩):=jz (by rw[htil];exact k);have HK1:=jz (HK0.keep HB1.out);have HFG:Hid (Far m [gl,bi] gq):=jz ⟨Apart.fresh k.lk.dk (by omega),fun hm=>by
  have h1:=k.lk.blk.lt
  have h2:=k.ix.lt.2
  simp at hm
  omega⟩
 have HQB:Hid (gq≠bi):=jz (fun e=>HFG.out.2 (by simp[e]));have HHS:=jz (fun W (kk:XK W gi bi n C.E)=>G6 W gi bi n C.E q.1 now kk hq.dig);obtain⟨hv,hhv⟩:=je (fI C.E q.1 now);rw[← hhv] at HHS;obtain⟨xa,hxa⟩:=je ((cmpR d h C now).1);obtain⟨xd,hxd⟩:=je ((cmpR d h C now).2.1);obtain⟨xC,hxC⟩:=je ((cmpR d h C now).2.2);have hbd:=lS k.lk.dk.ok.st h C now;have hEl:=k.ix.len;have HXR:Hid (xd.room+3≤100000):=jz (by rw[hxd];omega);have HXC:Hid (aK (cQ xa)):=jz (by rw[hxa];exact zN d h C now);have HCP:Hid (∀ W M,CK W M d gc gl gi bi h n ⟨C.L,C.E,til⟩→Calls Tryz.prog 13 #[.pointer (some ⟨gc,0,none⟩),.int .i64 now] W fun e w'=>e = .returned (cC xa)∧∃ m',CK w' m' xd gc gl gi bi h n xC∧CT [gl,bi] W M w' m'):=jz (fun W M kk=>by rw[hxa,hxd,hxC];rw[htil] at kk;exact oV now W M d gc gl gi bi h n C kk (by omega) (by omega));obtain⟨pa,hpa⟩:=je (lW d h C.L q);obtain⟨pd,hpd⟩:=je (appD d h C.L q);obtain⟨pl,hpl⟩:=je (iI d h C.L q);have HAP:Hid (∀ W M,LK W M d gl h C.L→Calls Tryz.prog 33 #[.pointer (some ⟨gl,0,none⟩),.agg (aC q).toArray] W fun e w'=>e = .returned (cC pa)∧∃ m',LK w' m' pd gl h pl∧LT gl W M w' m'):=jz (by rw[hpa,hpd,hpl];exact fun W M kk=>r8 q W M d gl h C.L kk hq (by omega));have HAC:Hid (aK (cQ pa)):=jz (by rw[hpa];exact uY d h C.L q);have HV:Hid (insR d h C q now=if hv then (8,d,C) else if C.L.brk then (9,d,C) else if q.2<0 then (9,d,C) else if 4611686018427387904<q.2 then (9,d,C) else
  if h-1≤C.L.cnt then (match (generalizing:=false) xa with
  | some x=>(xN (some x),xd,xC)
  | none=>insT xd h xC q) else (if h-1≤C.L.cnt then (9,d,C) else match (generalizing:=false) pa with
   | none=>(10,pd,⟨pl,(aM C.E q).1,til⟩)
   | some x=>(xN (some x),pd,⟨pl,C.E,til⟩))):=jz (by subst hxa hxd hxC hhv hpa hpd hpl htil;rfl)
 have HCU:Hid (C=⟨C.L,C.E,til⟩):=jz (by rw[htil]);clear hxa hxd hxC hhv hpa hpd hpl htil hbd hEl k;go_enter Tryz.func11,Tryz.ntmps11
 go_upto_region 3 with fail
 rw[← hw1,← hgq];clear hw1 hgq;obtain⟨wS,hwS⟩:=je w1.drew;have HD:Hid (Below w1.heap.size w1 wS):=jz (by rw[hwS];exact(Below.refl _ _).drew);have HKS:=jz (HK1.keep HD.out);have HQS:=jz (HQ1.keep HD.out);refine kZ (n:=8) (fun W=>(Blk W gc 84 (gP gl gi til)∧Blk W gq 35 (aC q).toArray)) (by rw[← hwS];exact⟨HKS.blk,HQS.out⟩) (h:=fun hH=>?_);rw[← hwS] at hH ⊢;clear hwS;refine kM 0 (some 11) (.pointer (some ⟨gc,0,none⟩)) (h:=?_);simp only[jq];refine kT 1 (some 12) (.pointer (some ⟨gc,0,none⟩)) (h:=?_);simp only[jq];refine kT 2 (some 13) (.pointer (some ⟨gc,1,none⟩)) (h:=?_);simp only[jq];refine kC 3 (some 14) (v:=.pointer (some ⟨gi,0,none⟩)) (fun _ hX=>(cF hX.1).2.1) (h:=?_);simp only[jq];refine kT 4 (some 15) (.pointer (some ⟨gq,0,none⟩)) (h:=?_);simp only[jq];refine kL 5 (some 16) (cs:=u8s q.1) (fun _ hX=>(dP hX.2.range HQ.out).1) (HDL.out) (h:=?_);simp only[jq];refine kM 6 (some 17) (.int .i64 now) (h:=?_);simp only[jq];refine kF 7 (some 18) ((HHS.out wS HKS.ix).mono ?_);rintro e w5 ⟨rfl,hb5⟩;have HK5:=jz (HKS.keep hb5);have HQ5:=jz (HQS.keep hb5);have HB5:=jz (aB HB1.out (aB HD.out hb5));refine⟨_,rfl,⟨HKS.blk.keep hb5,HQS.keep hb5⟩,fun hH=>?_⟩;simp only[jq];refine kE (h:=?_);clear HKS HQS HD;cases hv with
 | true=>
  go_wp2_with fail
  go_ret;rw[HV.out];exact⟨rfl,m,by show CK _ m d gc gl gi bi h (n+1) C;rw[HCU.out];exact HK5.up (Nat.le_succ _),CT.of_below HB5.out⟩
 | false=>
 have HT5:Hid (CT [gl,bi] w m w5 m):=jz (CT.of_below HB5.out);obtain⟨hr5,c32⟩:=dP HQ5.range HQ.out;replace c32:w5.cell? ⟨gq,32,none⟩=some (.int .i64 q.2):=c32;have HBR:=jz (sQ HK5.out);obtain⟨br,hbr⟩:=je C.L.brk;rw[← hbr] at HV HBR;clear hbr hr5;cases br with
 | true=>
  go_wp2_with (refine HBR.mono ?_;rintro e wq ⟨rfl,hwq⟩;rw[hwq];clear hwq wq)
  go_ret;rw[HV.out];exact⟨rfl,m,by show CK _ m d gc gl gi bi h (n+1) C;rw[HCU.out];exact HK5.up (Nat.le_succ _),HT5.out⟩
 | false=>
 obtain⟨t,ht⟩:=je q.2;rw[← ht] at HV c32;clear ht;rcases jb (decide (t<0)) with t1|t1
 ·go_wp2_with (refine HBR.mono ?_;rintro e wq ⟨rfl,hwq⟩;rw[hwq];clear hwq wq)
  go_ret;have h1:=of_decide_eq_true t1;rw[HV.out,if_neg (by simp),if_neg (by simp),if_pos h1];exact⟨rfl,m,by show CK _ m d gc gl gi bi h (n+1) C;rw[HCU.out];exact HK5.up (Nat.le_succ _),HT5.out⟩
 rcases jb (decide (4611686018427387904<t)) with t2|t2
 ·go_wp2_with (refine HBR.mono ?_;rintro e wq ⟨rfl,hwq⟩;rw[hwq];clear hwq wq)
  go_ret;have h1:=of_decide_eq_false t1;have h2:=of_decide_eq_true t2;rw[HV.out,if_neg (by simp),if_neg (by simp),if_neg h1,if_pos h2];exact⟨rfl,m,by show CK _ m d gc gl gi bi h (n+1) C;rw[HCU.out];exact HK5.up (Nat.le_succ _),HT5.out⟩
 have HV2:=HV.out;rw[if_neg (by simp),if_neg (by simp),if_neg (of_decide_eq_false t1),if_neg (of_decide_eq_false t2)] at HV2;replace HV:=jz HV2;clear HV2;have HU5:=jz (sP HK5.out);have HR5:=jz (BG HK5.out);obtain⟨rm,hrm⟩:∃ r:Nat,r=h-1:=⟨_,rfl⟩;obtain⟨cn,hcn⟩:∃ c:Nat,c=C.L.cnt:=⟨_,rfl⟩;rw[← hrm] at HR5 HV;rw[← hcn] at HU5 HV;have HRM:=jz hrm;have HCN:=jz hcn;clear hrm hcn;rcases Nat.lt_or_ge cn rm with hlt|hge
 ·have hi:(cn:Int)<(rm:Int):=by omega
  rw[if_neg (by omega),if_neg (by omega)] at HV;go_wp2_with fail
  refine HBR.mono ?_;rintro e wq ⟨rfl,hwq⟩;rw[hwq];clear hwq wq;go_wp2_with fail
  refine HU5.mono ?_;rintro e wq ⟨rfl,hwq⟩;rw[hwq];clear hwq wq;go_wp2_with fail
  refine HR5.mono ?_;rintro e w7 ⟨rfl,hb7⟩;have HK7a:=jz (HK5.keep hb7);have HQ7a:=jz (HQ5.keep hb7);have HT7a:=jz (HT5.trans (CT.of_below hb7));have HU7:=jz (sP HK7a.out);have HR7:=jz (BG HK7a.out);rw[show C.L.cnt=cn from HCN.symm] at HU7;rw[← HRM.out] at HR7;clear hb7 HU5 HR5 HBR c32;go_wp2_with fail
  refine HU7.mono ?_;rintro e wq ⟨rfl,hwq⟩;rw[hwq];clear hwq wq;go_wp2_with fail
  refine HR7.mono ?_;rintro e w8 ⟨rfl,hb8⟩;have HK8a:=jz (HK7a.keep hb8);have HQ8a:=jz (HQ7a.keep hb8);have HT8a:=jz (HT7a.trans (CT.of_below hb8));clear hb8 HU7 HR7 HK5 HQ5 HT5 HK7a HQ7a HT7a HK1 HQ1 HB5;go_upto_region 13 with fail
  have HFQ:Hid (Far m [gl] gq):=jz (⟨HFG.out.1,fun hm=>HFG.out.2 (by simp at hm ⊢;exact .inl hm)⟩);obtain⟨wS,hwS⟩:=je w8.drew;have HD:Hid (Below w8.heap.size w8 wS):=jz (by rw[hwS];exact(Below.refl _ _).drew);have HKS:=jz (HK8a.keep HD.out);have HQS:=jz (HQ8a.keep HD.out);refine kZ (n:=7) (fun W=>(Blk W gc 84 (gP gl gi til)∧Blk W gq 35 (aC q).toArray)) (by rw[← hwS];exact⟨HKS.blk,HQS.out⟩) (h:=fun hH=>?_);rw[← hwS] at hH ⊢;clear hwS;refine kM 0 (some 48) (.pointer (some ⟨gc,0,none⟩)) (h:=?_);simp only[jq];refine kT 1 (some 49) (.pointer (some ⟨gc,0,none⟩)) (h:=?_);simp only[jq];refine kT 2 (some 50) (.pointer (some ⟨gc,0,none⟩)) (h:=?_);simp only[jq];refine kC 3 (some 51) (v:=.pointer (some ⟨gl,0,none⟩)) (fun _ hX=>(cF hX.1).1) (h:=?_);simp only[jq];refine kL 4 (some 52) (cs:=aC q) (fun _ hX=>hX.2.range) (HQL.out) (h:=?_);simp only[jq];refine kF 5 (some 53) ((HAP.out wS m HKS.lk).mono ?_);rintro e w6 ⟨rfl,m6,hlk6,ht6⟩;have HK6:=jz (HKS.log hlk6 ht6);have HT6:Hid (CT [gl,bi] w m w6 m6):=jz (HT8a.trans ((CT.of_below HD.out).trans (CT.of_lt ht6 (.inl (by simp)))));have HQ6:=jz (HQS.ct (CT.of_lt (F:=[gl]) ht6 (.inl (by simp))) HFQ.out);clear hlk6 ht6;refine⟨_,rfl,⟨HK6.blk,HQ6.out⟩,fun hH=>?_⟩;simp only[jq];refine kT 6 (some 8) (cC pa) (h:=?_);simp only[jq];refine kE (h:=?_);clear HKS HQS HD;cases pa with
  | some x=>
   obtain⟨t,u,hv⟩:=cV x;have HCA:=jz (sR (some x) w6 (HAC.out));rw[hv] at HCA ⊢;have hne:=dS t u;clear hv;go_wp2_with fail
   refine HCA.mono ?_;rintro e w7 ⟨rfl,hb7⟩;have HK7:=jz (HK6.keep hb7);have HT7:=jz (HT6.trans (CT.of_below hb7));clear hb7;go_wp2_with fail
   go_ret;rw[HV.out];exact⟨rfl,m6,HK7.up (Nat.le_succ _),HT7.out⟩
  | none=>
   have hvn:cC none = .nilIface:=rfl;rw[hvn];go_upto_region 16 with fail
   obtain⟨wS,hwS⟩:=je w6.drew;have HD:Hid (Below w6.heap.size w6 wS):=jz (by rw[hwS];exact(Below.refl _ _).drew);have HKS:=jz (HK6.keep HD.out);have HQS:=jz (HQ6.keep HD.out);refine kZ (n:=6) (fun W=>(Blk W gc 84 (gP gl gi til)∧Blk W gq 35 (aC q).toArray)) (by rw[← hwS];exact⟨HKS.blk,HQS.out⟩) (h:=fun hH=>?_);rw[← hwS] at hH ⊢;clear hwS;refine kM 0 (some 58) (.pointer (some ⟨gc,0,none⟩)) (h:=?_);simp only[jq];refine kT 1 (some 59) (.pointer (some ⟨gc,0,none⟩)) (h:=?_);simp only[jq];refine kT 2 (some 60) (.pointer (some ⟨gc,1,none⟩)) (h:=?_);simp only[jq];refine kC 3 (some 61) (v:=.pointer (some ⟨gi,0,none⟩)) (fun _ hX=>(cF hX.1).2.1) (h:=?_);simp only[jq];refine kL 4 (some 62) (cs:=aC q) (fun _ hX=>hX.2.range) (HQL.out) (h:=?_);simp only[jq];refine kF 5 (some 63) ((G5 wS gi bi n _ q HKS.ix HQ.out (by omega)).mono ?_);rintro e w8 ⟨pb,rfl,hx8,ho8⟩;have HK8:=jz (HKS.index ho8 hx8);have HT8:=jz (HT6.trans ((CT.of_below HD.out).trans (CT.of_off (F:=[gl,bi]) ho8 (by simp))));have HQB8:=jz ho8;clear hx8 ho8;refine⟨_,rfl,⟨HQB8.blk HKS.blk HKS.ne.2.2.2.1,HQB8.blk HQS.out HQB.out⟩,fun hH=>?_⟩;simp only[jq];refine kE (h:=?_);go_wp2_with fail
   go_ret;rw[HV.out];exact⟨rfl,m6,HK8.out,HT8.out⟩
 ·have hi:(rm:Int)≤(cn:Int):=by omega
  rw[if_pos (by omega)] at HV;go_wp2_with fail
  refine HBR.mono ?_;rintro e wq ⟨rfl,hwq⟩;rw[hwq];clear hwq wq;go_wp2_with fail
  refine HU5.mono ?_;rintro e wq ⟨rfl,hwq⟩;rw[hwq];clear hwq wq;go_wp2_with fail
  refine HR5.mono ?_;rintro e w7 ⟨rfl,hb7⟩;have HC7:=jz (HCP.out w7 m (HK5.keep hb7));have HQ7:=jz (HQ5.keep hb7);have HT7:=jz (HT5.trans (CT.of_below hb7));have hg7:gq<w7.heap.size:=HQ7.lt;clear hb7 HU5 HR5 HBR c32;go_wp2_with fail
  refine HC7.mono ?_;rintro e w9 ⟨rfl,m9,hk9,ht9⟩;have HK9:=jz hk9;have HT9:=jz (HT7.trans ht9);have HQ9:=jz (HQ7.ct ht9 (HFG.out));have HF9:=jz (ht9.far hg7 HFG.out);clear hk9 ht9 HK5 HQ5 HT5 HK1 HQ1 HB5 hg7 HC7 HT7 HQ7;cases xa with
  | some x=>
   obtain⟨ty,u,hv⟩:=cV x;have HCA:=jz (sR (some x) w9 HXC.out);rw[hv] at HCA ⊢;have hne:=dS ty u;clear hv;go_wp2_with fail
   refine HCA.mono ?_;rintro e w10 ⟨rfl,hb10⟩;have HKA:=jz (HK9.keep hb10);have HTA:=jz (HT9.trans (CT.of_below hb10));clear hb10;go_wp2_with fail
   go_ret;rw[HV.out];exact⟨rfl,m9,HKA.up (Nat.le_succ _),HTA.out⟩
  | none=>
   have hvn:cC none = .nilIface:=rfl;rw[hvn];obtain⟨c2,hc2⟩:∃ c:Nat,c=xC.L.cnt:=⟨_,rfl⟩;have HU9:=jz (sP HK9.out);have HR9:=jz (BG HK9.out);have HV2:Hid (insR d h C q now=insT xd h xC q):=jz HV.out;replace HV:=HV2;clear HV2 HAP HAC pa pd pl;rw[← hc2] at HU9;rw[← HRM.out] at HR9;have HC2:=jz hc2;clear hc2;rcases Nat.lt_or_ge c2 rm with hlt2|hge2
   ·have hi2:(c2:Int)<(rm:Int):=by omega
    obtain⟨pa,hpa⟩:=je (lW xd h xC.L q);obtain⟨pd,hpd⟩:=je (appD xd h xC.L q);obtain⟨pl,hpl⟩:=je (iI xd h xC.L q);obtain⟨til,htil⟩:=je xC.til;have HAP:Hid (∀ W M,LK W M xd gl h xC.L→Calls Tryz.prog 33 #[.pointer (some ⟨gl,0,none⟩),.agg (aC q).toArray] W fun e w'=>e = .returned (cC pa)∧∃ m',LK w' m' pd gl h pl∧LT gl W M w' m'):=jz (by rw[hpa,hpd,hpl];exact fun W M kk=>r8 q W M xd gl h xC.L kk HQ.out HXR.out);have HAC:Hid (aK (cQ pa)):=jz (by rw[hpa];exact uY xd h xC.L q);have HV3:Hid (insR d h C q now=match (generalizing:=false) pa with
     | none=>(10,pd,⟨pl,(aM xC.E q).1,til⟩)
     | some x=>(xN (some x),pd,⟨pl,xC.E,til⟩)):=jz (by
      rw[HV.out]
      unfold insT
      rw[← HC2.out,← HRM.out,if_neg (by omega),hpa,hpd,hpl,htil])
    replace HV:=HV3;have HKc:Hid (CK w9 m9 xd gc gl gi bi h n ⟨xC.L,xC.E,til⟩):=jz (by rw[htil];exact HK9.out);have HFG:=HF9;clear HV3 hpa hpd hpl htil;go_wp2_with fail
    refine HU9.mono ?_;rintro e wq ⟨rfl,hwq⟩;rw[hwq];clear hwq wq;go_wp2_with fail
    refine HR9.mono ?_;rintro e wB ⟨rfl,hb10⟩;have HKB:=jz (HKc.keep hb10);have HQB2:=jz (HQ9.keep hb10);have HTB:=jz (HT9.trans (CT.of_below hb10));clear hb10 HU9 HR9 HK9 HKc HQ9 HT9;go_upto_region 13 with fail
    have HFQ:Hid (Far m9 [gl] gq):=jz (⟨HFG.out.1,fun hm=>HFG.out.2 (by simp at hm ⊢;exact .inl hm)⟩);obtain⟨wS,hwS⟩:=je wB.drew;have HD:Hid (Below wB.heap.size wB wS):=jz (by rw[hwS];exact(Below.refl _ _).drew);have HKS:=jz (HKB.keep HD.out);have HQS:=jz (HQB2.keep HD.out);refine kZ (n:=7) (fun W=>(Blk W gc 84 (gP gl gi til)∧Blk W gq 35 (aC q).toArray)) (by rw[← hwS];exact⟨HKS.blk,HQS.out⟩) (h:=fun hH=>?_);rw[← hwS] at hH ⊢;clear hwS;refine kM 0 (some 48) (.pointer (some ⟨gc,0,none⟩)) (h:=?_);simp only[jq];refine kT 1 (some 49) (.pointer (some ⟨gc,0,none⟩)) (h:=?_);simp only[jq];refine kT 2 (some 50) (.pointer (some ⟨gc,0,none⟩)) (h:=?_);simp only[jq];refine kC 3 (some 51) (v:=.pointer (some ⟨gl,0,none⟩)) (fun _ hX=>(cF hX.1).1) (h:=?_);simp only[jq];refine kL 4 (some 52) (cs:=aC q) (fun _ hX=>hX.2.range) (HQL.out) (h:=?_);simp only[jq];refine kF 5 (some 53) ((HAP.out wS m9 HKS.lk).mono ?_);rintro e w6 ⟨rfl,m6,hlk6,ht6⟩;have HK6:=jz (HKS.log hlk6 ht6);have HT6:Hid (CT [gl,bi] w m w6 m6):=jz (HTB.trans ((CT.of_below HD.out).trans (CT.of_lt ht6 (.inl (by simp)))));have HQ6:=jz (HQS.ct (CT.of_lt (F:=[gl]) ht6 (.inl (by simp))) HFQ.out);clear hlk6 ht6;refine⟨_,rfl,⟨HK6.blk,HQ6.out⟩,fun hH=>?_⟩;simp only[jq];refine kT 6 (some 8) (cC pa) (h:=?_);simp only[jq];refine kE (h:=?_);clear HKS HQS HD;cases pa with
    | some x=>
     obtain⟨t,u,hv⟩:=cV x;have HCA:=jz (sR (some x) w6 (HAC.out));rw[hv] at HCA ⊢;have hne:=dS t u;clear hv;go_wp2_with fail
     refine HCA.mono ?_;rintro e w7 ⟨rfl,hb7⟩;have HK7:=jz (HK6.keep hb7);have HT7:=jz (HT6.trans (CT.of_below hb7));clear hb7;go_wp2_with fail
     go_ret;rw[HV.out];exact⟨rfl,m6,HK7.up (Nat.le_succ _),HT7.out⟩
    | none=>
     have hvn:cC none = .nilIface:=rfl;rw[hvn];go_upto_region 16 with fail
     obtain⟨wS,hwS⟩:=je w6.drew;have HD:Hid (Below w6.heap.size w6 wS):=jz (by rw[hwS];exact(Below.refl _ _).drew);have HKS:=jz (HK6.keep HD.out);have HQS:=jz (HQ6.keep HD.out);refine kZ (n:=6) (fun W=>(Blk W gc 84 (gP gl gi til)∧Blk W gq 35 (aC q).toArray)) (by rw[← hwS];exact⟨HKS.blk,HQS.out⟩) (h:=fun hH=>?_);rw[← hwS] at hH ⊢;clear hwS;refine kM 0 (some 58) (.pointer (some ⟨gc,0,none⟩)) (h:=?_);simp only[jq];refine kT 1 (some 59) (.pointer (some ⟨gc,0,none⟩)) (h:=?_);simp only[jq];refine kT 2 (some 60) (.pointer (some ⟨gc,1,none⟩)) (h:=?_);simp only[jq];refine kC 3 (some 61) (v:=.pointer (some ⟨gi,0,none⟩)) (fun _ hX=>(cF hX.1).2.1) (h:=?_);simp only[jq];refine kL 4 (some 62) (cs:=aC q) (fun _ hX=>hX.2.range) (HQL.out) (h:=?_);simp only[jq];refine kF 5 (some 63) ((G5 wS gi bi n _ q HKS.ix HQ.out (by omega)).mono ?_);rintro e w8 ⟨pb,rfl,hx8,ho8⟩;have HK8:=jz (HKS.index ho8 hx8);have HT8:=jz (HT6.trans ((CT.of_below HD.out).trans (CT.of_off (F:=[gl,bi]) ho8 (by simp))));have HQB8:=jz ho8;clear hx8 ho8;refine⟨_,rfl,⟨HQB8.blk HKS.blk HKS.ne.2.2.2.1,HQB8.blk HQS.out HQB.out⟩,fun hH=>?_⟩;simp only[jq];refine kE (h:=?_);go_wp2_with fail
     go_ret;rw[HV.out];exact⟨rfl,m6,HK8.out,HT8.out⟩
   ·have hi2:(rm:Int)≤(c2:Int):=by omega
    go_wp2_with fail
    refine HU9.mono ?_;rintro e wq ⟨rfl,hwq⟩;rw[hwq];clear hwq wq;go_wp2_with fail
    refine HR9.mono ?_;rintro e wB ⟨rfl,hb10⟩;have HKB:=jz (HK9.keep hb10);have HTB:=jz (HT9.trans (CT.of_below hb10));clear hb10;go_wp2_with fail
    go_ret;rw[HV.out];unfold insT;rw[← HC2.out,← HRM.out,if_pos (by omega)];exact⟨rfl,m9,HKB.up (Nat.le_succ _),HTB.out⟩
end
end Go.Proofs.YtombncedfleljaaGreat
