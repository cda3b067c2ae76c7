import Derived.Test.YtombncedfleljaaGreatMC27
import Derived.Test.YtombncedfleljaaGreatMC30
set_option linter.unusedSimpArgs false
set_option maxRecDepth 100000
set_option maxHeartbeats 40000000
namespace Go.Proofs.YtombncedfleljaaGreat
open Go.RowKit
attribute [local irreducible] wpQuiet wpAnyH
def pL(a b:SSt):Bool:=b.1.isSome && (!a.1.isSome || decide (a.1.getD 0<b.1.getD 0))
def dN(r:RefD)(f:Int)(n:Nat):SSt:=bT (none,[]) (dC r f n)
def iJ(r:RefD)(x:SSt)(sd last:Nat):RefD×RLog×Int:=
 if x.1.isSome then (r,⟨true,sd,x.1.getD 0,last,x.2,false⟩,0)
 else if last=4294967295 then (r,rl0,13)
 else if eU r 0 (rec (last+1) toll)=0 then (cX r 0 (rec (last+1) toll),⟨true,sd,last+1,last,x.2,false⟩,0)
 else (cX r 0 (rec (last+1) toll),rl0,eU r 0 (rec (last+1) toll))
def oI(r:RefD)(n:Nat):RefD×RLog×Int:=
 iJ r (if pL (dN r 0 n) (dN r n n) then dN r n n else dN r 0 n) (if pL (dN r 0 n) (dN r n n) then 1 else 0) (fY r r.sec.length)
def cM(r:RefD):RefD×RLog×Int:=
 if r.sec.length/2<1 then (r,rl0,15) else if bX r=0 then oI (bL r) (r.sec.length/2) else (bL r,rl0,bX r)
theorem uM{r:RefD}(h:ROk r):∀(n:Nat) (f:Int),∀ s∈dC r f n,Sec s
 | 0,_,s,hs=>by cases hs
 | n+1,f,s,hs=>by
  rw[dC,List.mem_cons] at hs;rcases hs with rfl|hs
  ·exact qF h f
  ·exact uM h n (f+1) s hs
theorem uN{r:RefD}(h:ROk r)(f:Int)(n:Nat)(hn:n≤2048):(dN r f n).1.getD 0<4294967296∧(dN r f n).2.length≤2048:=by
 have h1:=iB (dC r f n) (none,[]);rw[gW] at h1;have h2:(dN r f n).2.length≤0+n:=h1;refine⟨?_,by omega⟩;cases hg:(dN r f n).1 with
 | none=>show 0<_;omega
 | some g=>exact oH (dC r f n) (none,[]) (uM h n f) (fun g hg=>by cases hg) g hg
theorem sB(r:RefD):0≤bX r∧bX r≤15:=by
 unfold bX
 repeat' split
 all_goals omega
structure D19(w W:World)(m0:RM)(r0:RefD)(m:RM)(r:RefD)(gd za zb:Nat):Prop where
 d:Blk W gd 57 (aA m r)
 a:Blk W za 57 refZ
 b:Blk W zb 61 rlZ
 k:RK W m r
 bel:Below w.heap.size w W
 sub:∀ b∈aL m r,b∈aL m0 r0∨w.heap.size≤b
 nd:∀ g,(g=gd∨g=za∨g=zb)→g ∉ aL m r
 p:w.heap.size≤gd∧w.heap.size≤za∧w.heap.size≤zb∧gd≠za∧gd≠zb∧za≠zb
section
variable {w W W2 W3 : World} {m0 m m2 : RM} {r0 r r2 : RefD} {gd za zb : Nat}
theorem D19.keep(x:D19 w W m0 r0 m r gd za zb)(hb:Below W.heap.size W W2):D19 w W2 m0 r0 m r gd za zb:=
 ⟨x.d.keep hb,x.a.keep hb,x.b.keep hb,x.k.keep hb,aB x.bel hb,x.sub,x.nd,x.p⟩
theorem D19.disk(x:D19 w W m0 r0 m r gd za zb)(hk:RK W2 m2 r2)(hb:Below W.heap.size W W2)(hsub:∀ b∈aL m2 r2,b∈aL m r∨W.heap.size≤b)(hB:Blk W3 gd 57 (aA m2 r2))(hb3:Below gd W2 W3)(ho:∀ k,k≠gd→W3.heap[k]? = W2.heap[k]?):D19 w W3 m0 r0 m2 r2 gd za zb:=by
 have y:=x.keep hb;have p:=x.p;have hnd:∀ g,(g=gd∨g=za∨g=zb)→g ∉ aL m2 r2:=fun g hg hm=>by
  rcases hsub g hm with h|h
  ·exact x.nd g hg h
  ·have h1:=x.d.lt;have h2:=x.a.lt;have h3:=x.b.lt;rcases hg with rfl|rfl|rfl <;> omega
 exact⟨hB,(ho za (fun e=>p.2.2.2.1 e.symm)).trans y.a,(ho zb (fun e=>p.2.2.2.2.1 e.symm)).trans y.b,hk.offK ho hb3.size (hnd gd (.inl rfl)),y.bel.trans (hb3.mono p.1),fun b hm=>(hsub b hm).elim (x.sub b) (fun h=>.inr (Nat.le_trans x.bel.size h)),hnd,p⟩
theorem D19.ret(x:D19 w W m0 r0 m r gd za zb)(h1:Blk W2 za 57 (aA m r))(h2:Below za W W2)(h3:∀ k,k≠za→W2.heap[k]? = W.heap[k]?)(h5:Below zb W2 W3)(h6:∀ k,k≠zb→W3.heap[k]? = W2.heap[k]?):Blk W3 za 57 (aA m r)∧RK W3 m r∧Below w.heap.size w W3∧∀ b∈aL m r,b∈aL m0 r0∨w.heap.size≤b:=
 ⟨(h6 za x.p.2.2.2.2.2).trans h1,(x.k.offK h3 h2.size (x.nd za (.inr (.inl rfl)))).offK h6 h5.size (x.nd zb (.inr (.inr rfl))),(x.bel.trans (h2.mono x.p.2.1)).trans (h5.mono x.p.2.2.1),x.sub⟩
theorem X19.d19{v0 v:Value}{L:RLog}{gl:Nat}(x:X19 w W m0 r0 v0 m r v L gd gl za zb):D19 w W m0 r0 m r gd za zb:=
 ⟨x.d,x.a,x.b,x.k,x.bel,x.sub,fun g hg=>(x.nd g (hg.elim .inl (fun h=>h.elim (fun h=>.inr (.inr (.inl h))) (fun h=>.inr (.inr (.inr h)))))).1,x.p.lo.1,x.p.lo.2.2.1,x.p.lo.2.2.2,x.p.n1.2.1,x.p.n1.2.2,x.p.n2.2.2⟩
theorem D19.log(x:D19 w W m0 r0 m r gd za zb){v0 v:Value}{L:RLog}{gl:Nat}(hB:Blk W2 gl 61 (rlC v L))(hb:Below W.heap.size W W2)(hg:W.heap.size≤gl)(hk:RLK W2 v L)(hv:∀ b,v.ownBlock=some b→w.heap.size≤b∧b≠gd∧b≠gl∧b≠za∧b≠zb):X19 w W2 m0 r0 v0 m r v L gd gl za zb:=by
 have y:=x.keep hb;have h1:=x.d.lt;have h2:=x.a.lt;have h3:=x.b.lt;have hs:=x.bel.size;refine⟨y.d,hB,y.a,y.b,y.k,hk,y.bel,y.sub,fun b e=>.inr (hv b e).1,fun g hg=>⟨?_,fun e=>?_⟩,⟨⟨x.p.1,by omega,x.p.2.1,x.p.2.2.1⟩,⟨by omega,x.p.2.2.2.1,x.p.2.2.2.2.1⟩,⟨by omega,by omega,x.p.2.2.2.2.2⟩⟩⟩
 ·rcases hg with rfl|rfl|rfl|rfl
  ·exact x.nd _ (.inl rfl)
  ·exact fun hm=>by have:=x.k.bl _ hm;omega
  ·exact x.nd _ (.inr (.inl rfl))
  ·exact x.nd _ (.inr (.inr rfl))
 ·have h:=hv g e;rcases hg with rfl|rfl|rfl|rfl
  ·exact h.2.1 rfl
  ·exact h.2.2.1 rfl
  ·exact h.2.2.2.1 rfl
  ·exact h.2.2.2.2 rfl
end
theorem oJ(st:SSt){w:World}{v:Value}{n:Nat}{xs:List Value}(h:Sn w 33 v n xs):(stC st v).all (·.oneCell')=true:=by
 obtain⟨_,_,e,_⟩:=h;rw[e];exact nG st _ _ _
structure S19(w W:World)(gS:Nat)(x:SSt)(v:Value):Prop where
 b:Blk W gS 209 (stC x v)
 sn:Sn W 33 v x.2.length (x.2.flatMap aC)
 ok:∀ q∈x.2,EntOk q
 lt:∀ b,v.ownBlock=some b→w.heap.size≤b∧b<gS
theorem S19.keep{w W W2:World}{gS:Nat}{x:SSt}{v:Value}(h:S19 w W gS x v)(hb:Below W.heap.size W W2):S19 w W2 gS x v:=⟨h.b.keep hb,h.sn.below hb,h.ok,h.lt⟩
theorem S19.off{w W W2:World}{gS g:Nat}{x:SSt}{v:Value}(h:S19 w W gS x v)(ho:∀ k,k≠g→W2.heap[k]? = W.heap[k]?)(h1:gS≠g)(h2:v.ownBlock≠some g):S19 w W2 gS x v:=⟨(ho gS h1).trans h.b,h.sn.offK ho h2,h.ok,h.lt⟩
structure T19(W:World)(ga gl n3:Nat)(x:SSt)(v:Value):Prop where
 b:Blk W ga 209 (stC x v)
 sn:Sn W 33 v x.2.length (x.2.flatMap aC)
 ok:∀ q∈x.2,EntOk q
 lt:∀ b,v.ownBlock=some b→n3≤b∧b≠ga∧b≠gl∧b<W.heap.size
 ne:ga≠gl
theorem T19.cell{W:World}{ga gl n3:Nat}{x:SSt}{v:Value}(h:T19 W ga gl n3 x v)(i:Nat)(u:Value):T19 (W.setCell ⟨gl,i,none⟩ u) ga gl n3 x v:=
 have ho:∀ k,k≠gl→(W.setCell ⟨gl,i,none⟩ u).heap[k]? = W.heap[k]?:=fun k hk=>Below.heap_setCell W ⟨gl,i,none⟩ _ k hk
 ⟨(ho ga h.ne).trans h.b,h.sn.offK ho (fun e=>(h.lt gl e).2.2.1 rfl),h.ok,fun b e=>⟨(h.lt b e).1,(h.lt b e).2.1,(h.lt b e).2.2.1,Nat.lt_of_lt_of_le (h.lt b e).2.2.2 ((Below.refl gl W).setCell (p:=⟨gl,i,none⟩) (Nat.le_refl _) u).size⟩,h.ne⟩
theorem X19.off{w W W2:World}{m0 m:RM}{r0 r:RefD}{v0 v:Value}{L:RLog}{gd gl za zb g:Nat}(x:X19 w W m0 r0 v0 m r v L gd gl za zb)(hb:Below g W W2)(ho:∀ k,k≠g→W2.heap[k]? = W.heap[k]?)(hg:w.heap.size≤g)(hne:∀ h,(h=gd∨h=gl∨h=za∨h=zb)→h≠g)(hr:g ∉ aL m r)(hv:v.ownBlock≠some g):X19 w W2 m0 r0 v0 m r v L gd gl za zb:=
 ⟨(ho gd (hne _ (.inl rfl))).trans x.d,(ho gl (hne _ (.inr (.inl rfl)))).trans x.l,(ho za (hne _ (.inr (.inr (.inl rfl))))).trans x.a,(ho zb (hne _ (.inr (.inr (.inr rfl))))).trans x.b,x.k.offK ho hb.size hr,x.lk.same (fun b e=>ho b (fun e2=>hv (e2 ▸ e))) hb.size,x.bel.trans (hb.mono hg),x.sub,x.vsub,x.nd,x.p⟩
theorem AX(m:RM)(r:RefD)(w:World)(h:RK w m r)(hst:r.steps+10≤1000000000)(ho:r.opn.length+10≤50000):
  Calls Tryz.prog 97 #[.agg (aA m r)] w fun e w'=>∃ m' v',e = .returned (.tuple #[.agg (aA m' (cM r).1),.agg (rlC v' (cM r).2.1),.int .i64 (cM r).2.2])∧RK w' m' (cM r).1∧RLK w' v' (cM r).2.1∧Below w.heap.size w w'∧(∀ b∈aL m' (cM r).1,b∈aL m r∨w.heap.size≤b)∧∀ b,v'.ownBlock=some b→(Value.slice none 0 0).ownBlock=some b∨w.heap.size≤b:=by
 have hlenD:∀ m r,(Tryz.prog.info? 57).map (·.size)=some (aA m r).toList.length:=fun _ _=>bG
 have hlenL:∀ v L,(Tryz.prog.info? 61).map (·.size)=some (rlC v L).toList.length:=fun _ _=>rlI
 have hlenS:∀ x v,(Tryz.prog.info? 209).map (·.size)=some (stC x v).toList.length:=fun x v=>stI x v
 obtain⟨As,cs,es⟩:=h.sec.slc;obtain⟨w1,hw1⟩:=je (((w.alloc (.cells (aA m r) 57)).alloc (.cells refZ 57)).alloc (.cells rlZ 61));have HX1:Hid (D19 w w1 m r m r w.heap.size (w.heap.size+1) (w.heap.size+2)):=jz (by
  have hb:Below w.heap.size w w1:=by rw[hw1];exact aB (aB (aN _ _) (aN _ _)) (aN _ _)
  exact⟨by rw[hw1];exact((Blk.new _ _ _).alloc _).alloc _,by rw[hw1];exact(Blk.newAt _ _ _ _ (by simp)).alloc _,by rw[hw1];exact Blk.newAt _ _ _ _ (by simp),h.keep hb,hb,fun b hm=>.inl hm,fun g hg hm=>by have:=h.bl g hm;omega,by omega,by omega,by omega,by omega,by omega,by omega⟩)
 have hsl:r.sec.length≤4096:=h.ok.few;have c0:w1.cell? ⟨w.heap.size,0,none⟩=some (.slice As r.sec.length cs):=by
  have h0:w1.cell? ⟨w.heap.size,0,none⟩=some m.sv:=(HX1.d.cell 0).trans rfl;rw[h0,es]
 obtain⟨n,hn⟩:∃ n:Nat,n=r.sec.length/2:=⟨_,rfl⟩;have HQN:Hid ((r.sec.length:Int)/2=(n:Int)):=jz (by omega);have HNN:=jz hn;have hn2:n≤2048:=by omega
 obtain⟨N,hN⟩:=je w.heap.size;have HN:=jz hN;have hzone:=dB (RLK.zero w);rw[MA] at hzone;clear h hn es;go_enter Tryz.func97,Tryz.ntmps97
 go_upto_region 1 with (first|(refine al 57 refZ rfl rfl cJ ?_)|(refine al 61 rlZ rfl rfl jY ?_))
 rw[← hw1];clear hw1;rw[← hN] at HX1 c0;simp only[← hN];clear hN;go_upto_region 2 with fail
 rw[HQN.out];have hr1:=HX1.d.range;rcases Nat.lt_or_ge n 1 with h1|h1
 ·have HF:Hid (cM r=(r,rl0,15)):=jz (by unfold cM;rw[if_pos (by have:=HNN.out;omega)]);have h1i:(n:Int)<1:=by omega
  have hrz:=HX1.d.range;go_wp2_with (first
   | (refine ld 57 _ rfl rfl rfl hrz Tryz.underlying57 rfl (hlenD _ _) ?_)
   | (refine bld 61 _ rfl rfl rfl nI ?_)
   | (refine bC (cells:=aA m r) 57 (.tmp 2) (.tmp 16) rfl rfl rfl rfl HX1.a bG rfl (aR HX1.k) ?_;intro wy hBy hby hoy hsy;have HBy:=jz hBy;have Hby:=jz hby;have Hoy:=jz hoy;clear hBy hby hoy hsy)
   | (refine bC (cells:=rlZ) 61 (.tmp 3) (.tmp 17) rfl rfl rfl rfl ((Hoy.out _ (fun e=>HX1.p.2.2.2.2.2 e.symm)).trans HX1.b) rlI rfl hzone ?_;intro wz hBz hbz hoz hsz;have HBz:=jz hBz;have Hbz:=jz hbz;have Hoz:=jz hoz;clear hBz hbz hoz hsz))
  have hfin:=HX1.ret HBy.out Hby.out Hoy.out Hbz.out Hoz.out;exact bodyPost_ret (aT rfl _ rfl hfin.1.range Tryz.underlying57 rfl bG rfl HBz.range Tryz.underlying61 rfl rlI) rfl ⟨m,.slice none 0 0,by rw[HF.out];rfl,by rw[HF.out];exact hfin.2.1,by rw[HF.out];exact RLK.zero wz,hfin.2.2.1,by rw[HF.out];exact hfin.2.2.2,fun b e=>by cases e⟩
 ·have h1i:(1:Int)≤n:=by omega
  have HP:=jz (rN m r w1 HX1.k (by omega));obtain⟨hc0,hc15⟩:=sB r;have HRR:Hid (cM r=if bX r=0 then oI (bL r) n else (bL r,rl0,bX r)):=jz (by unfold cM;rw[if_neg (by have:=HNN.out;omega),← HNN.out]);have hrb:=qI r;have hsl2:=j0 r;obtain⟨c,hc⟩:=je (bX r);obtain⟨r2,hr2⟩:=je (bL r);rw[← hc,← hr2] at HP HRR;rw[← hc] at hc0 hc15;rw[← hr2] at hrb hsl2;have hst2:r2.steps≤r.steps+(1:Nat):=hrb.1;have hop2:r2.opn.length≤r.opn.length+1:=hrb.2.1;have HSL:=jz hsl2;clear hc hr2 hrb hsl2;go_upto_region 5 with (first
   | (refine ld 57 _ rfl rfl rfl hr1 Tryz.underlying57 rfl (hlenD _ _) ?_)
   | (go_at_call 129;refine HP.mono ?_;rintro e w2 ⟨m2,rfl,hk2,hb2,hs2'⟩)
   | (refine bC (cells:=aA m2 r2) 57 (.tmp 1) (.tmp 21) rfl rfl rfl rfl (HX1.d.keep hb2) bG rfl (aR hk2) ?_;intro w3 hB3 hb3 ho3 hs3))
  have HX3:=jz (HX1.disk hk2 hb2 hs2' hB3 hb3 ho3);clear hk2 hb2 hs2' hB3 hb3 ho3 hs3 HP hr1 c0;have hr3:=HX3.d.range;rcases jb (c == 0) with t0|t0
  ·obtain rfl:c=0:=by simpa using t0
   have HR2:Hid (cM r=oI r2 n):=jz (by rw[HRR.out,if_pos rfl]);clear t0 HRR hc0 hc15;have HSA:=jz (rS m2 r2 0 n w3 HX3.k ⟨by omega,by omega⟩ h1 (by omega));have hiA:=uN HX3.k.ok 0 n hn2;have hiB:=uN HX3.k.ok n n hn2;have HSV:Hid (oI r2 n=iJ r2 (if pL (dN r2 0 n) (dN r2 n n) then dN r2 n n else dN r2 0 n) (if pL (dN r2 0 n) (dN r2 n n) then 1 else 0) (fY r2 r2.sec.length)):=jz rfl;have hla:=oF HX3.k.ok r2.sec.length;have HSB:=jz (fun W (k:RK W m2 r2)=>rS m2 r2 n n W k ⟨by omega,by omega⟩ h1 (by omega));have HLA:=jz (fun W (k:RK W m2 r2)=>AQ m2 r2 W k);obtain⟨SA,hSA⟩:=je (dN r2 0 n);obtain⟨SB,hSB⟩:=je (dN r2 n n);obtain⟨la,hla'⟩:∃ x,x=fY r2 r2.sec.length:=⟨_,rfl⟩;have e1:bT (none,[]) (dC r2 0 n)=SA:=hSA.symm;have e2:bT (none,[]) (dC r2 n n)=SB:=hSB.symm;rw[e1] at HSA;rw[e2] at HSB;rw[← hSA,← hSB,← hla'] at HSV;rw[← hSA] at hiA;rw[← hSB] at hiB;rw[← hla'] at hla HLA;clear hSA hSB hla' e1 e2;go_upto_region 8 with (first
    | (refine ld 57 _ rfl rfl rfl hr3 Tryz.underlying57 rfl (hlenD _ _) ?_)
    | (go_at_call 130;refine HSA.mono ?_;rintro e w4 ⟨hb4,vA,rfl,hoA,hokA⟩)
    | (refine al 209 stZ rfl rfl qH ?_)
    | (refine cR (cells:=stC SA vA) 209 (.tmp 7) (.tmp 30) rfl rfl rfl rfl (stI _ _) rfl (oJ SA (Sn.own hoA)) ?_;intro w5 hB5 hb5 hs5))
   have HX5:=jz (HX3.keep (aB hb4 hb5));have HSA5:Hid (S19 w3 w5 w4.heap.size SA vA):=jz ⟨hB5,(Sn.own hoA).below hb5,hokA,fun b e=>(hoA.lt b e)⟩;have HGA:Hid (w3.heap.size≤w4.heap.size∧w4.heap.size<w5.heap.size):=jz ⟨hb4.size,by omega⟩;obtain⟨ga,hga⟩:=je w4.heap.size;rw[← hga] at HSA5 HGA ⊢;have hr5:=HX5.d.range;clear hb4 hoA hokA hB5 hb5 hs5 hga HSA hr3;go_upto_region 9 with (first
    | (refine ld 57 _ rfl rfl rfl hr5 Tryz.underlying57 rfl (hlenD _ _) ?_)
    | (go_at_call 130;refine(HSB.out w5 HX5.k).mono ?_;rintro e w6 ⟨hb6,vB,rfl,hoB,hokB⟩)
    | (refine al 209 stZ rfl rfl qH ?_)
    | (refine cR (cells:=stC SB vB) 209 (.tmp 8) (.tmp 34) rfl rfl rfl rfl (stI _ _) rfl (oJ SB (Sn.own hoB)) ?_;intro w7 hB7 hb7 hs7))
   have HX7:=jz (HX5.keep (aB hb6 hb7));have HSA7:=jz (HSA5.keep (aB hb6 hb7));have HSB7:Hid (S19 w5 w7 w6.heap.size SB vB):=jz ⟨hB7,(Sn.own hoB).below hb7,hokB,fun b e=>(hoB.lt b e)⟩;have HGB:Hid (w5.heap.size≤w6.heap.size∧w6.heap.size<w7.heap.size):=jz ⟨hb6.size,by omega⟩;obtain⟨gb,hgb⟩:=je w6.heap.size;rw[← hgb] at HSB7 HGB ⊢;have hr7:=HX7.d.range;clear hb6 hoB hokB hB7 hb7 hs7 hgb HSB hr5 HX5 HSA5;have hone9:(rlC (.slice none 0 0) ⟨true,0,0,la,[],false⟩).all (·.oneCell')=true:=dB (w:=w3) ⟨⟨none,0,rfl,Nat.le_refl _,rfl,fun h=>absurd h (by simp)⟩,(fun q hq=>by cases hq),Nat.zero_le _,(by show 0<2;omega),(by show 0<4294967296;omega),hla,fun b e=>by cases e⟩;go_upto_region 10 with (first
    | (refine ld 57 _ rfl rfl rfl hr7 Tryz.underlying57 rfl (hlenD _ _) ?_)
    | (go_at_call 131;refine(HLA.out w7 HX7.k).mono ?_;rintro e w8 ⟨rfl,hb8⟩)
    | (refine bld 61 _ rfl rfl rfl (JY la) ?_)
    | (refine al 61 rlZ rfl rfl jY ?_)
    | (refine cR (cells:=rlC (.slice none 0 0) ⟨true,0,0,la,[],false⟩) 61 (.tmp 9) (.tmp 37) rfl rfl rfl rfl rlI rfl hone9 ?_;intro w9 hB9 hb9 hs9))
   have hb79:=aB hb8 hb9;have HX9:Hid (X19 w w9 m r (.slice none 0 0) m2 r2 (.slice none 0 0) ⟨true,0,0,la,[],false⟩ N w8.heap.size (N+1) (N+2)):=jz (HX7.log hB9 hb79 hb8.size ⟨⟨none,0,rfl,Nat.le_refl _,rfl,fun h=>absurd h (by simp)⟩,(fun q hq=>by cases hq),Nat.zero_le _,(by show 0<2;omega),(by show 0<4294967296;omega),hla,fun b e=>by cases e⟩ (fun b e=>by cases e));have HSA9:=jz (HSA7.keep hb79);have HSB9:=jz (HSB7.keep hb79);obtain⟨gl,hgl⟩:=je w8.heap.size;have HGL:Hid (w7.heap.size≤gl):=jz (by rw[hgl];exact hb8.size);rw[← hgl] at HX9 ⊢;have HRL:Hid (∀ b∈aL m2 r2,b<w3.heap.size):=jz HX3.k.bl;have HWS:Hid (w.heap.size≤w3.heap.size):=jz HX3.bel.size;have HN3:Hid (N+2<w3.heap.size):=jz HX3.b.lt;clear hb8 hB9 hb9 hs9 hb79 hgl HLA hr7 HX7 HSA7 HSB7 hone9 HX3;have a0:w9.cell? ⟨ga,0,none⟩=some (.bool SA.1.isSome):=(HSA9.b.cell 0).trans rfl;have a1:w9.cell? ⟨ga,1,none⟩=some (.int .u32 (SA.1.getD 0:Nat)):=(HSA9.b.cell 1).trans rfl;have b0:w9.cell? ⟨gb,0,none⟩=some (.bool SB.1.isSome):=(HSB9.b.cell 0).trans rfl;have b1:w9.cell? ⟨gb,1,none⟩=some (.int .u32 (SB.1.getD 0:Nat)):=(HSB9.b.cell 1).trans rfl;obtain⟨pk,hpk⟩:∃ b:Bool,b=pL SA SB:=⟨_,rfl⟩;rw[← hpk] at HSV;have HPK:=jz hpk;clear hpk;simp only[jq];go_cut [51] from 38 to 51 (fun x W=>x = .bool pk∧W=w9)
   case first=>
    obtain⟨va,hva⟩:∃ b:Bool,b=SA.1.isSome:=⟨_,rfl⟩;obtain⟨vb,hvb⟩:∃ b:Bool,b=SB.1.isSome:=⟨_,rfl⟩;obtain⟨na,hna⟩:∃ b:Nat,b=SA.1.getD 0:=⟨_,rfl⟩;obtain⟨nb,hnb⟩:∃ b:Nat,b=SB.1.getD 0:=⟨_,rfl⟩;have HPV:Hid (pk=(vb && (!va || decide (na<nb)))):=jz (by rw[HPK.out,hva,hvb,hna,hnb];rfl);rw[← hva] at a0;rw[← hvb] at b0;rw[← hna] at a1;rw[← hnb] at b1;clear hva hvb hna hnb hiA hiB;cases vb with
    | false=>
     go_wp2_with fail
     go_meet
     exact⟨by rw[HPV.out];rfl,rfl⟩
    | true=>
     cases va with
     | false=>
      go_wp2_with fail
      go_meet
      exact⟨by rw[HPV.out];rfl,rfl⟩
     | true=>
      rcases Nat.lt_or_ge na nb with hlt|hge
      ·have hi:(na:Int)<nb:=by omega
       go_wp2_with fail
       go_meet
       exact⟨by rw[HPV.out,decide_eq_true hlt];rfl,rfl⟩
      ·have hi:(nb:Int)≤na:=by omega
       go_wp2_with fail
       go_meet
       exact⟨by rw[HPV.out,decide_eq_false (Nat.not_lt.2 hge)];rfl,rfl⟩
   case rest=>
   obtain⟨rfl,hwc⟩:=hcut;rw[hwc];clear hwc a0 a1 b0 b1;obtain⟨SX,hSX⟩:∃ x,x=if pk then SB else SA:=⟨_,rfl⟩
   obtain⟨sd,hsd⟩:∃ x:Nat,x=if pk then 1 else 0:=⟨_,rfl⟩
   rw[← hSX,← hsd] at HSV;have HSX:=jz hSX;have HSD:=jz hsd;have hsd2:sd<2:=by rw[hsd];split <;> omega
   have hiX:SX.1.getD 0<4294967296∧SX.2.length≤2048:=by rw[hSX];split <;> assumption
   clear hSX hsd;go_upto_if 51 with fail
   go_cut [] from 52 to 53 (fun W=>∃ vX,Hid (X19 w W m r (.slice none 0 0) m2 r2 (.slice none 0 0) ⟨true,sd,0,la,[],false⟩ N gl (N+1) (N+2)∧T19 W ga gl w3.heap.size SX vX))
   case first=>
    have hgagl:ga≠gl:=by have h2:=HGA.out;have h3:=HGB.out;have h4:=HGL.out;omega
    cases pk with
    | false=>
     have e1:SX=SA:=HSX.out;have e2:sd=0:=HSD.out;subst e1 e2;go_wp2_with fail
     go_meet
     exact⟨vA,jz ⟨HX9.out,HSA9.b,HSA9.sn,HSA9.ok,fun b e=>⟨(HSA9.lt b e).1,fun e2=>by have:=(HSA9.lt b e).2;omega,fun e2=>by have h1:=(HSA9.lt b e).2;have h2:=HGA.out;have h3:=HGB.out;have h4:=HGL.out;omega,by have h1:=(HSA9.lt b e).2;have h5:=HSA9.b.lt;omega⟩,hgagl⟩⟩
    | true=>
     have e1:SX=SB:=HSX.out;have e2:sd=1:=HSD.out;subst e1 e2;have c1:w9.cell? ⟨gl,1,none⟩=some (.int .i64 0):=(HX9.l.cell 1).trans rfl;have f1:=HX9.l.frozen 1;have hgl9:=HX9.l.lt;go_upto_region 12 with fail
     obtain⟨wa,hwa⟩:=je (w9.setCell ⟨gl,1,none⟩ (.int .i64 1));have hoa:∀ k,k≠gl→wa.heap[k]? = w9.heap[k]?:=fun k hk=>by rw[hwa];exact Below.heap_setCell w9 ⟨gl,1,none⟩ _ k hk
     have hXa:X19 w wa m r (.slice none 0 0) m2 r2 (.slice none 0 0) ⟨true,1,0,la,[],false⟩ N gl (N+1) (N+2):=by rw[hwa];exact HX9.cell 1 _ ⟨HX9.lk.sn,HX9.lk.ok,HX9.lk.ln,(by show 1<2;omega),(by show 0<4294967296;omega),HX9.lk.last,HX9.lk.lt⟩ (fun _ e=>.inl e) rfl
     have hAa:S19 w3 wa ga SA vA:=HSA9.off hoa hgagl (fun e=>by have h1:=(HSA9.lt _ e).2;have h2:=HGA.out;have h3:=HGB.out;have h4:=HGL.out;omega);have hBa:S19 w5 wa gb SX vB:=HSB9.off hoa (by have h3:=HGB.out;have h4:=HGL.out;omega) (fun e=>by have h1:=(HSB9.lt _ e).2;have h3:=HGB.out;have h4:=HGL.out;omega);rw[← hwa];have HXa:=jz hXa;have HAa:=jz hAa;have HBa:=jz hBa;have hrb:=hBa.b.range;clear hwa c1 f1 hgl9 hoa hXa hAa hBa;go_wp2_with (first
      | (refine ld 209 _ rfl rfl rfl hrb Tryz.underlying209 rfl (hlenS _ _) ?_)
      | (refine bC (cells:=stC SX vB) 209 (.tmp 7) (.tmp 53) rfl rfl rfl rfl HAa.b (stI _ _) rfl (oJ SX HBa.sn) ?_;intro wb hBb hbb hob hsb;have HBb:=jz hBb;have Hbb:=jz hbb;have Hob:=jz hob;clear hBb hbb hob hsb))
     go_meet
     have hne:∀ g,(g=N∨g=gl∨g=N+1∨g=N+2)→g≠ga:=fun g hg e=>by
      have h2:=HGA.out;have h3:=HGB.out;have h4:=HGL.out;have h5:=HN3.out;rcases hg with h|h|h|h <;> omega
     refine⟨vB,jz ⟨HXa.off Hbb.out Hob.out (by have:=HGA.out;have:=HWS.out;omega) hne (fun hm=>by have h1:=HRL.out _ hm;have h2:=HGA.out;omega) (fun e=>by cases e),HBb.out,HBa.sn.offK Hob.out (fun e=>by have h1:=(HBa.lt _ e).1;have h2:=HGA.out;omega),HBa.ok,fun b e=>?_,hgagl⟩⟩;have h1:=HBa.lt b e;have h2:=HGA.out;have h3:=HGB.out;have h4:=HGL.out;have h5:=HBa.b.lt;have h6:=Hbb.out.size;exact⟨by omega,by omega,by omega,by omega⟩
   case rest=>
   obtain⟨vX,HQ⟩:=hcut
   rename World=>wb
   obtain⟨Ax,cx,evx⟩:=HQ.out.2.sn.slc;subst evx;have HXb:=jz HQ.out.1;have HTb:=jz HQ.out.2;obtain⟨gX,hgX⟩:∃ g:Nat,g=SX.1.getD 0:=⟨_,rfl⟩;have HGX:=jz hgX;have hgX4:gX<4294967296:=by rw[hgX];exact hiX.1
   have hl2048:SX.2.length≤2048:=hiX.2;have a1:wb.cell? ⟨ga,1,none⟩=some (.int .u32 (gX:Int)):=(HTb.b.cell 1).trans (by rw[hgX];rfl);have c2:wb.cell? ⟨gl,2,none⟩=some (.int .u32 0):=(HXb.l.cell 2).trans rfl;have f2:=HXb.l.frozen 2;have hglb:=HXb.l.lt;clear HQ HSA9 HSB9 HX9 HPK hiX hiA hiB hgX;go_upto_region 14 with fail
   obtain⟨wc',hwc⟩:∃ W,W=wb.setCell ⟨gl,2,none⟩ (.int .u32 (gX:Int)):=⟨_,rfl⟩;have HXc:Hid (X19 w wc' m r (.slice none 0 0) m2 r2 (.slice none 0 0) ⟨true,sd,gX,la,[],false⟩ N gl (N+1) (N+2)):=jz (by rw[hwc];exact HXb.cell 2 _ ⟨HXb.lk.sn,HXb.lk.ok,HXb.lk.ln,HXb.lk.side,hgX4,HXb.lk.last,HXb.lk.lt⟩ (fun _ e=>.inl e) rfl);have HTc:Hid (T19 wc' ga gl w3.heap.size SX (.slice Ax SX.2.length cx)):=jz (by rw[hwc];exact HTb.cell 2 _);rw[← hwc];have a2:wc'.cell? ⟨ga,2,none⟩=some (.slice Ax SX.2.length cx):=(HTc.b.cell 2).trans rfl;have c4:wc'.cell? ⟨gl,4,none⟩=some (.slice none 0 0):=(HXc.l.cell 4).trans rfl;have f4:=HXc.l.frozen 4;have hglc:=HXc.l.lt;clear hwc a1 c2 f2 hglb HXb HTb;go_upto_region 15 with fail
   obtain⟨wd,hwd⟩:=je (wc'.setCell ⟨gl,4,none⟩ (.slice Ax SX.2.length cx));have HXd:Hid (X19 w wd m r (.slice none 0 0) m2 r2 (.slice Ax SX.2.length cx) ⟨true,sd,gX,la,SX.2,false⟩ N gl (N+1) (N+2)):=jz (by
    rw[hwd]
    exact HXc.cell 4 (.slice Ax SX.2.length cx) ⟨HTc.sn,HTc.ok,by show SX.2.length≤10000;omega,HXc.lk.side,hgX4,HXc.lk.last,fun b e=>(HTc.lt b e).2.2.2⟩ (fun b e=>.inr (by
     have h1:=HTc.lt b e
     have h2:=HWS.out
     have h3:=HN3.out
     exact⟨by omega,by omega,h1.2.2.1,by omega,by omega⟩)) rfl)
   have HTd:Hid (T19 wd ga gl w3.heap.size SX (.slice Ax SX.2.length cx)):=jz (by rw[hwd];exact HTc.cell 4 _);rw[← hwd];have a0:wd.cell? ⟨ga,0,none⟩=some (.bool SX.1.isSome):=(HTd.b.cell 0).trans rfl;clear hwd a2 c4 f4 hglc HXc HTc;cases hsome:SX.1.isSome with
   | true=>
    rw[hsome] at a0;have HF:Hid ((cM r).2.2=0∧(cM r).1=r2∧(cM r).2.1=⟨true,sd,gX,la,SX.2,false⟩):=jz (by rw[HR2.out,HSV.out];unfold iJ;rw[hsome,HGX.out];exact⟨rfl,rfl,rfl⟩);clear hsome;go_upto_region 16 with fail
    go_cut [4] from 62 to 63 (fun x W=>x = .int .i64 0∧Hid (R2 w.heap.size wd W (N+1) (N+2) 57 61 (aA m2 r2) (rlC (.slice Ax SX.2.length cx) (⟨true,sd,gX,la,SX.2,false⟩))))
    case first=>
     obtain⟨wS,hwS⟩:=je wd.drew;have hbS:Below wd.heap.size wd wS:=by rw[hwS];exact(Below.refl _ _).drew
     have HRS:Hid (R2 w.heap.size wd wS (N+1) (N+2) 57 61 refZ rlZ):=jz ((R2.start HXd.a HXd.b HXd.p.n2.2.2 ⟨HXd.p.lo.2.2.1,HXd.p.lo.2.2.2⟩).keep hbS);have HDO:Hid (∀ xA xB W,R2 w.heap.size wd W (N+1) (N+2) 57 61 xA xB→Blk W (N) 57 (aA m2 r2)∧Blk W (gl) 61 (rlC (.slice Ax SX.2.length cx) ⟨true,sd,gX,la,SX.2,false⟩)):=jz (fun xA xB W k=>⟨k.old HXd.d HXd.p.n1.2.1 HXd.p.n1.2.2,k.old HXd.l HXd.p.n2.1 HXd.p.n2.2.1⟩);have HOD:Hid (∀ u∈(aA m2 r2).toList,u.oneCell'=true):=jz (fun u hu=>by have:=aR HXd.k;rw[Array.all_eq_true_iff_forall_mem] at this;exact this u (by simpa using hu));have HOL:Hid (∀ u∈(rlC (.slice Ax SX.2.length cx) (⟨true,sd,gX,la,SX.2,false⟩)).toList,u.oneCell'=true):=jz (fun u hu=>by have:=dB (L:=⟨true,sd,gX,la,SX.2,false⟩) (HXd.lk);rw[Array.all_eq_true_iff_forall_mem] at this;exact this u (by simpa using hu));clear hbS;refine aQ 5 (fun W=>Blk W (N) 57 (aA m2 r2)∧Blk W (gl) 61 (rlC (.slice Ax SX.2.length cx) ⟨true,sd,gX,la,SX.2,false⟩)) (by kernel_rfl) (by kernel_rfl) (by rw[← hwS];exact HDO.out _ _ _ HRS.out) (fun hH=>?_);rw[← hwS] at hH ⊢;clear hwS;refine jL 0 57 (.tmp 1) (some 62) (cs:=(aA m2 r2).toList) (fun _ hX=>hX.1.range) Tryz.underlying57 rfl (hlenD _ _) hH ?_;simp only[jq];refine jL 1 61 (.tmp 9) (some 63) (cs:=(rlC (.slice Ax SX.2.length cx) ⟨true,sd,gX,la,SX.2,false⟩).toList) (fun _ hX=>hX.2.range) Tryz.underlying61 rfl (hlenL _ _) hH ?_;simp only[jq];refine jW [2] ?_;refine jR 2 57 (.tmp 2) (.tmp 62) none (cs:=(aA m2 r2).toList) (aF HRS.a rfl) (hlenD _ _) (HOD.out) (HDO.out _ _ _ (jz (HRS.stA ((aA m2 r2).toList) rfl)).out) ?_ jN;simp only[jq];obtain⟨wk1,hwk1⟩:=je ((wS.setCells (N+1) 0 ((aA m2 r2).toList)));have HR1:=jz (HRS.stA ((aA m2 r2).toList) rfl);rw[← hwk1] at HR1 ⊢;clear hwk1;refine jW [3] ?_;refine jR 3 61 (.tmp 3) (.tmp 63) none (cs:=(rlC (.slice Ax SX.2.length cx) (⟨true,sd,gX,la,SX.2,false⟩)).toList) (aF HR1.b rfl) (hlenL _ _) (HOL.out) (HDO.out _ _ _ (jz (HR1.stB ((rlC (.slice Ax SX.2.length cx) (⟨true,sd,gX,la,SX.2,false⟩)).toList) rfl)).out) ?_ jN;simp only[jq];obtain⟨wk2,hwk2⟩:=je ((wk1.setCells (N+2) 0 ((rlC (.slice Ax SX.2.length cx) (⟨true,sd,gX,la,SX.2,false⟩)).toList)));have HR2:=jz (HR1.stB ((rlC (.slice Ax SX.2.length cx) (⟨true,sd,gX,la,SX.2,false⟩)).toList) rfl);rw[← hwk2] at HR2 ⊢;clear hwk2;refine jT 4 (.assign (.const (.int .i64 0))) (some 4) (.int .i64 0) (HDO.out _ _ _ HR2.out) ?_;simp only[jq];refine wpAnyH_done (by kernel_rfl) ?_ _;go_wp2_with fail
     go_meet
     exact⟨rfl,HR2⟩
    case rest=>
     obtain⟨rfl,HRR⟩:=hcut
     rename World=>wz
     have hfin:=HXd.ret HRR.out (HXd.lk) (fun _ e=>e);go_wp2_with fail
     exact bodyPost_ret (aT rfl _ rfl HRR.a.range Tryz.underlying57 rfl bG rfl HRR.b.range Tryz.underlying61 rfl rlI) rfl ⟨m2,(.slice Ax SX.2.length cx),by rw[HF.out.1,HF.out.2.1,HF.out.2.2];rfl,by rw[HF.out.2.1];exact hfin.1,by rw[HF.out.2.2];exact hfin.2.1,hfin.2.2.1,by rw[HF.out.2.1];exact hfin.2.2.2.1,hfin.2.2.2.2⟩
   | false=>
   rw[hsome] at a0;have c3:wd.cell? ⟨gl,3,none⟩=some (.int .u32 la):=(HXd.l.cell 3).trans rfl;rcases Nat.lt_or_ge la 4294967295 with hlt|hge
   ·have hlai:(la:Int)<4294967295:=by omega
    have HR3:Hid (cM r=if eU r2 0 (rec (la+1) toll)=0 then (cX r2 0 (rec (la+1) toll),⟨true,sd,la+1,la,SX.2,false⟩,0) else (cX r2 0 (rec (la+1) toll),rl0,eU r2 0 (rec (la+1) toll))):=jz (by rw[HR2.out,HSV.out];unfold iJ;rw[hsome];simp only[Bool.false_eq_true,if_false];rw[if_neg (by omega)]);have c2:wd.cell? ⟨gl,2,none⟩=some (.int .u32 (gX:Int)):=(HXd.l.cell 2).trans rfl;have f2:=HXd.l.frozen 2;have hgld:=HXd.l.lt;have hlae:((la:Int) == 4294967295)=false:=by rw[beq_eq_false_iff_ne];omega
    have HLT:=jz hlt;have HHL:=jz hla;clear hsome hlt hla;go_upto_region 20 with fail
    have hla:=HHL.out;obtain⟨we,hwe⟩:=je (wd.setCell ⟨gl,2,none⟩ (.int .u32 ((la:Int)+1)));have HXe:Hid (X19 w we m r (.slice none 0 0) m2 r2 (.slice Ax SX.2.length cx) ⟨true,sd,la+1,la,SX.2,false⟩ N gl (N+1) (N+2)):=jz (by rw[hwe];exact HXd.cell 2 _ ⟨HXd.lk.sn,HXd.lk.ok,HXd.lk.ln,HXd.lk.side,by show la+1<4294967296;omega,HXd.lk.last,HXd.lk.lt⟩ (fun _ e=>.inl e) rfl);rw[← hwe];clear hwe c2 f2 hgld c3 a0 HXd HTd;have e2:we.cell? ⟨gl,2,none⟩=some (.int .u32 ((la:Int)+1)):=(HXe.l.cell 2).trans rfl;have HP:=jz (rQ m2 r2 0 (la+1) we HXe.k ⟨by omega,by omega⟩ (by omega) (by omega));obtain⟨hd0,hd15⟩:=nK r2 0 (rec (la+1) toll);obtain⟨c2,hc2⟩:=je (eU r2 0 (rec (la+1) toll));obtain⟨r4,hr4⟩:=je (cX r2 0 (rec (la+1) toll));rw[← hc2,← hr4] at HP HR3;rw[← hc2] at hd0 hd15;have hre:=HXe.d.range;have hgn:((la:Int)+1)=((la+1:Nat):Int):=by omega
    rw[← hgn] at HP;clear hc2 hr4 hgn;go_upto_region 21 with (first
     | (refine ld 57 _ rfl rfl rfl hre Tryz.underlying57 rfl (hlenD _ _) ?_)
     | (go_at_call 96;refine HP.mono ?_;rintro e w4 ⟨m4,rfl,hk4,hb4,hs4'⟩)
     | (refine bC (cells:=aA m4 r4) 57 (.tmp 1) (.tmp 78) rfl rfl rfl rfl (HXe.d.keep hb4) bG rfl (aR hk4) ?_;intro wf hBf hbf hof hsf))
    have HXf:=jz (HXe.disk hk4 hb4 hs4' hBf hbf hof);clear hk4 hb4 hs4' hBf hbf hof hsf HP hre e2 HXe;rcases jb (c2 == 0) with t2|t2
    ·obtain rfl:c2=0:=by simpa using t2
     have HF:Hid ((cM r).2.2=0∧(cM r).1=r4∧(cM r).2.1=⟨true,sd,la+1,la,SX.2,false⟩):=jz (by rw[HR3.out,if_pos rfl];exact⟨rfl,rfl,rfl⟩);clear t2 HR3;go_upto_region 23 with fail
     go_cut [4] from 85 to 86 (fun x W=>x = .int .i64 0∧Hid (R2 w.heap.size wf W (N+1) (N+2) 57 61 (aA m4 r4) (rlC (.slice Ax SX.2.length cx) (⟨true,sd,la+1,la,SX.2,false⟩))))
     case first=>
      obtain⟨wS,hwS⟩:=je wf.drew;have hbS:Below wf.heap.size wf wS:=by rw[hwS];exact(Below.refl _ _).drew
      have HRS:Hid (R2 w.heap.size wf wS (N+1) (N+2) 57 61 refZ rlZ):=jz ((R2.start HXf.a HXf.b HXf.p.n2.2.2 ⟨HXf.p.lo.2.2.1,HXf.p.lo.2.2.2⟩).keep hbS);have HDO:Hid (∀ xA xB W,R2 w.heap.size wf W (N+1) (N+2) 57 61 xA xB→Blk W (N) 57 (aA m4 r4)∧Blk W (gl) 61 (rlC (.slice Ax SX.2.length cx) ⟨true,sd,la+1,la,SX.2,false⟩)):=jz (fun xA xB W k=>⟨k.old HXf.d HXf.p.n1.2.1 HXf.p.n1.2.2,k.old HXf.l HXf.p.n2.1 HXf.p.n2.2.1⟩);have HOD:Hid (∀ u∈(aA m4 r4).toList,u.oneCell'=true):=jz (fun u hu=>by have:=aR HXf.k;rw[Array.all_eq_true_iff_forall_mem] at this;exact this u (by simpa using hu));have HOL:Hid (∀ u∈(rlC (.slice Ax SX.2.length cx) (⟨true,sd,la+1,la,SX.2,false⟩)).toList,u.oneCell'=true):=jz (fun u hu=>by have:=dB (L:=⟨true,sd,la+1,la,SX.2,false⟩) (HXf.lk);rw[Array.all_eq_true_iff_forall_mem] at this;exact this u (by simpa using hu));clear hbS;refine aQ 5 (fun W=>Blk W (N) 57 (aA m4 r4)∧Blk W (gl) 61 (rlC (.slice Ax SX.2.length cx) ⟨true,sd,la+1,la,SX.2,false⟩)) (by kernel_rfl) (by kernel_rfl) (by rw[← hwS];exact HDO.out _ _ _ HRS.out) (fun hH=>?_);rw[← hwS] at hH ⊢;clear hwS;refine jL 0 57 (.tmp 1) (some 85) (cs:=(aA m4 r4).toList) (fun _ hX=>hX.1.range) Tryz.underlying57 rfl (hlenD _ _) hH ?_;simp only[jq];refine jL 1 61 (.tmp 9) (some 86) (cs:=(rlC (.slice Ax SX.2.length cx) ⟨true,sd,la+1,la,SX.2,false⟩).toList) (fun _ hX=>hX.2.range) Tryz.underlying61 rfl (hlenL _ _) hH ?_;simp only[jq];refine jW [2] ?_;refine jR 2 57 (.tmp 2) (.tmp 85) none (cs:=(aA m4 r4).toList) (aF HRS.a rfl) (hlenD _ _) (HOD.out) (HDO.out _ _ _ (jz (HRS.stA ((aA m4 r4).toList) rfl)).out) ?_ jN;simp only[jq];obtain⟨wk1,hwk1⟩:=je ((wS.setCells (N+1) 0 ((aA m4 r4).toList)));have HR1:=jz (HRS.stA ((aA m4 r4).toList) rfl);rw[← hwk1] at HR1 ⊢;clear hwk1;refine jW [3] ?_;refine jR 3 61 (.tmp 3) (.tmp 86) none (cs:=(rlC (.slice Ax SX.2.length cx) (⟨true,sd,la+1,la,SX.2,false⟩)).toList) (aF HR1.b rfl) (hlenL _ _) (HOL.out) (HDO.out _ _ _ (jz (HR1.stB ((rlC (.slice Ax SX.2.length cx) (⟨true,sd,la+1,la,SX.2,false⟩)).toList) rfl)).out) ?_ jN;simp only[jq];obtain⟨wk2,hwk2⟩:=je ((wk1.setCells (N+2) 0 ((rlC (.slice Ax SX.2.length cx) (⟨true,sd,la+1,la,SX.2,false⟩)).toList)));have HR2:=jz (HR1.stB ((rlC (.slice Ax SX.2.length cx) (⟨true,sd,la+1,la,SX.2,false⟩)).toList) rfl);rw[← hwk2] at HR2 ⊢;clear hwk2;refine jT 4 (.assign (.const (.int .i64 0))) (some 4) (.int .i64 0) (HDO.out _ _ _ HR2.out) ?_;simp only[jq];refine wpAnyH_done (by kernel_rfl) ?_ _;go_wp2_with fail
      go_meet
      exact⟨rfl,HR2⟩
     case rest=>
      obtain⟨rfl,HRR⟩:=hcut
      rename World=>wz
      have hfin:=HXf.ret HRR.out (HXf.lk) (fun _ e=>e);go_wp2_with fail
      exact bodyPost_ret (aT rfl _ rfl HRR.a.range Tryz.underlying57 rfl bG rfl HRR.b.range Tryz.underlying61 rfl rlI) rfl ⟨m4,(.slice Ax SX.2.length cx),by rw[HF.out.1,HF.out.2.1,HF.out.2.2];rfl,by rw[HF.out.2.1];exact hfin.1,by rw[HF.out.2.2];exact hfin.2.1,hfin.2.2.1,by rw[HF.out.2.1];exact hfin.2.2.2.1,hfin.2.2.2.2⟩
    ·have hcn:¬c2=0:=by simpa using t2
     have HF:Hid (cM r=(r4,rl0,c2)):=jz (by rw[HR3.out,if_neg hcn]);have hne0:(c2 != 0)=true:=by simp[hcn]
     have HD:=jz (HXf.d19);clear hcn t2 HR3;have hrz:=HD.d.range;go_wp2_with (first
      | (refine ld 57 _ rfl rfl rfl hrz Tryz.underlying57 rfl (hlenD _ _) ?_)
      | (refine bld 61 _ rfl rfl rfl nI ?_)
      | (refine bC (cells:=aA m4 r4) 57 (.tmp 2) (.tmp 82) rfl rfl rfl rfl HD.a bG rfl (aR HD.k) ?_;intro wy hBy hby hoy hsy;have HBy:=jz hBy;have Hby:=jz hby;have Hoy:=jz hoy;clear hBy hby hoy hsy)
      | (refine bC (cells:=rlZ) 61 (.tmp 3) (.tmp 83) rfl rfl rfl rfl ((Hoy.out _ (fun e=>HD.p.2.2.2.2.2 e.symm)).trans HD.b) rlI rfl hzone ?_;intro wz hBz hbz hoz hsz;have HBz:=jz hBz;have Hbz:=jz hbz;have Hoz:=jz hoz;clear hBz hbz hoz hsz))
     have hfin:=HD.ret HBy.out Hby.out Hoy.out Hbz.out Hoz.out;exact bodyPost_ret (aT rfl _ rfl hfin.1.range Tryz.underlying57 rfl bG rfl HBz.range Tryz.underlying61 rfl rlI) rfl ⟨m4,.slice none 0 0,by rw[HF.out];rfl,by rw[HF.out];exact hfin.2.1,by rw[HF.out];exact RLK.zero wz,hfin.2.2.1,by rw[HF.out];exact hfin.2.2.2,fun b e=>by cases e⟩
   ·obtain rfl:la=4294967295:=by omega
    have HF:Hid (cM r=(r2,rl0,13)):=jz (by rw[HR2.out,HSV.out];unfold iJ;rw[hsome];rfl);have HD:=jz (HXd.d19);clear hsome;have hrz:=HD.d.range;go_wp2_with (first
     | (refine ld 57 _ rfl rfl rfl hrz Tryz.underlying57 rfl (hlenD _ _) ?_)
     | (refine bld 61 _ rfl rfl rfl nI ?_)
     | (refine bC (cells:=aA m2 r2) 57 (.tmp 2) (.tmp 67) rfl rfl rfl rfl HD.a bG rfl (aR HD.k) ?_;intro wy hBy hby hoy hsy;have HBy:=jz hBy;have Hby:=jz hby;have Hoy:=jz hoy;clear hBy hby hoy hsy)
     | (refine bC (cells:=rlZ) 61 (.tmp 3) (.tmp 68) rfl rfl rfl rfl ((Hoy.out _ (fun e=>HD.p.2.2.2.2.2 e.symm)).trans HD.b) rlI rfl hzone ?_;intro wz hBz hbz hoz hsz;have HBz:=jz hBz;have Hbz:=jz hbz;have Hoz:=jz hoz;clear hBz hbz hoz hsz))
    have hfin:=HD.ret HBy.out Hby.out Hoy.out Hbz.out Hoz.out;exact bodyPost_ret (aT rfl _ rfl hfin.1.range Tryz.underlying57 rfl bG rfl HBz.range Tryz.underlying61 rfl rlI) rfl ⟨m2,.slice none 0 0,by rw[HF.out];rfl,by rw[HF.out];exact hfin.2.1,by rw[HF.out];exact RLK.zero wz,hfin.2.2.1,by rw[HF.out];exact hfin.2.2.2,fun b e=>by cases e⟩
  ·have hcn:¬c=0:=by simpa using t0
   have HF:Hid (cM r=(r2,rl0,c)):=jz (by rw[HRR.out,if_neg hcn]);have hne0:(c != 0)=true:=by simp[hcn]
   clear hcn t0 HRR;have hrz:=HX3.d.range;go_wp2_with (first
    | (refine ld 57 _ rfl rfl rfl hrz Tryz.underlying57 rfl (hlenD _ _) ?_)
    | (refine bld 61 _ rfl rfl rfl nI ?_)
    | (refine bC (cells:=aA m2 r2) 57 (.tmp 2) (.tmp 25) rfl rfl rfl rfl HX3.a bG rfl (aR HX3.k) ?_;intro wy hBy hby hoy hsy;have HBy:=jz hBy;have Hby:=jz hby;have Hoy:=jz hoy;clear hBy hby hoy hsy)
    | (refine bC (cells:=rlZ) 61 (.tmp 3) (.tmp 26) rfl rfl rfl rfl ((Hoy.out _ (fun e=>HX3.p.2.2.2.2.2 e.symm)).trans HX3.b) rlI rfl hzone ?_;intro wz hBz hbz hoz hsz;have HBz:=jz hBz;have Hbz:=jz hbz;have Hoz:=jz hoz;clear hBz hbz hoz hsz))
   have hfin:=HX3.ret HBy.out Hby.out Hoy.out Hbz.out Hoz.out;exact bodyPost_ret (aT rfl _ rfl hfin.1.range Tryz.underlying57 rfl bG rfl HBz.range Tryz.underlying61 rfl rlI) rfl ⟨m2,.slice none 0 0,by rw[HF.out];rfl,by rw[HF.out];exact hfin.2.1,by rw[HF.out];exact RLK.zero wz,hfin.2.2.1,by rw[HF.out];exact hfin.2.2.2,fun b e=>by cases e⟩
end Go.Proofs.YtombncedfleljaaGreat
