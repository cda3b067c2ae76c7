import Derived.Test.YtombncedfleljaaGreatMC25
import Derived.Test.YtombncedfleljaaGreatMC26
set_option linter.unusedSimpArgs false
set_option maxRecDepth 100000
set_option maxHeartbeats 40000000
namespace Go.Proofs.YtombncedfleljaaGreat
open Go.RowKit
attribute [local irreducible] wpQuiet wpAnyH
def y2(L:RLog)(qs:List aW)(g:Nat)(fr:RefD×Int)(wd:RefD)(wa:Int):RefD×RLog×Int:=
 if fr.2=0 then (if wa=0 then (wd,{ L with side:=1-L.side,gen:=g,es:=qs },0) else (wd,bY L wa,wa)) else (fr.1,bY L fr.2,fr.2)
def CV(r:RefD)(L:RLog)(qs:List aW)(g:Nat)(f:Int):RefD×RLog×Int:=
 y2 L qs g (bP r f (r.sec.length/2:Nat) g qs) (cX (bP r f (r.sec.length/2:Nat) g qs).1 f (rec g toll)) (eU (bP r f (r.sec.length/2:Nat) g qs).1 f (rec g toll))
def cW(r:RefD)(L:RLog)(qs:List aW):RefD×RLog×Int:=
 if L.has then (if L.brk then (r,L,11) else if max L.last L.gen=4294967295 then (r,L,13) else CV r L qs (max L.last L.gen+1) (((r.sec.length/2:Nat):Int)*(1-(L.side:Int)))) else (r,L,12)
theorem AR{n s:Nat}(hn:n≤2048)(hs:s<2):0≤(n:Int)*(1-(s:Int))∧(n:Int)*(1-(s:Int))≤2048:=by
 have:s=0∨s=1:=by omega
 rcases this with rfl|rfl
 ·simp;omega
 ·simp
theorem nK(r:RefD)(a:Int)(s:List Int):0≤eU r a s∧eU r a s≤15:=by
 have hw:∀ a,0≤aV r a∧aV r a≤15:=fun a=>by unfold aV;repeat' split;all_goals omega
 have hs:∀ r:RefD,0≤bX r∧bX r≤15:=fun r=>by unfold bX;repeat' split;all_goals omega
 unfold eU;have h1:=hw a;have h2:=hs (aI r a s);split <;> omega
theorem pI:∀(L:List (List Int)) (r:RefD) (a:Int),0≤(dO r a L).2∧(dO r a L).2≤15
 | [],r,a=>by
  show 0≤bX r∧bX r≤15;unfold bX
  repeat' split
  all_goals omega
 | s :: L,r,a=>by
  unfold dO;split
  ·exact pI L _ _
  ·show 0≤aV r a∧aV r a≤15;unfold aV
   repeat' split
   all_goals omega
theorem rZ(r:RefD)(f z:Int)(g:Nat)(l:List aW):0≤(bP r f z g l).2∧(bP r f z g l).2≤15:=by
 unfold bP;split
 ·exact⟨by show(0:Int)≤13;omega,by show(13:Int)≤15;omega⟩
 ·split
  ·exact pI _ _ _
  ·exact⟨by show(0:Int)≤15;omega,by show(15:Int)≤15;omega⟩
theorem iV(r:RefD)(a:Int)(s:List Int):(aI r a s).sec.length=r.sec.length:=by
 unfold aI;split
 ·rfl
 split
 ·show(bK _ _ _).length=_;rw[cU];unfold eZ;split <;> rfl
 split
 ·rfl
 ·unfold eZ;split <;> rfl
theorem j0(r:RefD):(bL r).sec.length=r.sec.length:=by
 unfold bL;split
 ·rfl
 split
 ·show(bK _ _ _).length=_;rw[cU];rfl
 split
 ·rfl
 ·show(dJ _ _ _).length=_;rw[fE];rfl
theorem kW(r:RefD)(a:Int)(s:List Int):(cX r a s).sec.length=r.sec.length:=by
 unfold cX;split
 ·rw[j0,iV]
 ·exact iV r a s
theorem r7:∀(L:List (List Int)) (r:RefD) (a:Int),(dO r a L).1.sec.length=r.sec.length
 | [],r,a=>j0 r
 | s :: L,r,a=>by
  unfold dO;split
  ·rw[r7 L,iV]
  ·exact iV r a s
theorem AS(r:RefD)(f z:Int)(g:Nat)(l:List aW):(bP r f z g l).1.sec.length=r.sec.length:=by
 unfold bP;split
 ·rfl
 ·split
  ·exact r7 _ _ _
  ·rfl
theorem tN(m:RM)(r:RefD)(v:Value)(L:RLog)(qs:List aW)(Aq:Option Addr)(cq:Nat)(w:World)(h:RK w m r)(hL:RLK w v L)(hq:Sn w 33 (.slice Aq qs.length cq) qs.length (qs.flatMap aC))(hok:∀ q∈qs,EntOk q)(hln:qs.length≤10000)(hst:r.steps+50000≤1000000000)(ho:r.opn.length+2*qs.length+2≤50000)(ho2:r.opn.length+20000≤50000):
  Calls Tryz.prog 74 #[.agg (aA m r),.agg (rlC v L),.slice Aq qs.length cq] w fun e w'=>∃ m' v',e = .returned (.tuple #[.agg (aA m' (cW r L qs).1),.agg (rlC v' (cW r L qs).2.1),.int .i64 (cW r L qs).2.2])∧RK w' m' (cW r L qs).1∧RLK w' v' (cW r L qs).2.1∧Below w.heap.size w w'∧(∀ b∈aL m' (cW r L qs).1,b∈aL m r∨w.heap.size≤b)∧∀ b,v'.ownBlock=some b→v.ownBlock=some b∨w.heap.size≤b:=by
 have hlenD:∀ m r,(Tryz.prog.info? 57).map (·.size)=some (aA m r).toList.length:=fun _ _=>bG
 have hlenL:∀ v L,(Tryz.prog.info? 61).map (·.size)=some (rlC v L).toList.length:=fun _ _=>rlI
 obtain⟨As,cs,es⟩:=h.sec.slc;obtain⟨w1,hw1⟩:=je ((((w.alloc (.cells (aA m r) 57)).alloc (.cells (rlC v L) 61)).alloc (.cells refZ 57)).alloc (.cells rlZ 61));have HX1:Hid (X19 w w1 m r v m r v L w.heap.size (w.heap.size+1) (w.heap.size+2) (w.heap.size+3)):=jz (by
  have hb:Below w.heap.size w w1:=by rw[hw1];exact aB (aB (aB (aN _ _) (aN _ _)) (aN _ _)) (aN _ _)
  refine⟨by rw[hw1];exact(((Blk.new _ _ _).alloc _).alloc _).alloc _,by rw[hw1];exact((Blk.newAt _ _ _ _ (by simp)).alloc _).alloc _,by rw[hw1];exact(Blk.newAt _ _ _ _ (by simp)).alloc _,by rw[hw1];exact Blk.newAt _ _ _ _ (by simp),h.keep hb,hL.keep hb,hb,fun b hm=>.inl hm,fun b e=>.inl e,fun g hg=>⟨fun hm=>by have:=h.bl g hm;omega,fun e=>by have:=hL.lt g e;omega⟩,⟨⟨by omega,by omega,by omega,by omega⟩,⟨by omega,by omega,by omega⟩,⟨by omega,by omega,by omega⟩⟩⟩)
 have HQ:=jz hq;have HOK:=jz hok;have hsl:r.sec.length≤4096:=h.ok.few;have hcell:∀ W gd,Blk W gd 57 (aA m r)→W.cell? ⟨gd,0,none⟩=some (.slice As r.sec.length cs):=fun W gd hB=>by
  have h0:W.cell? ⟨gd,0,none⟩=some m.sv:=(hB.cell 0).trans rfl;rw[h0,es]
 obtain⟨n,hn⟩:∃ n:Nat,n=r.sec.length/2:=⟨_,rfl⟩;have HQN:Hid ((r.sec.length:Int)/2=(n:Int)):=jz (by omega);have HNN:=jz hn;have hn2:n≤2048:=by omega
 have hn2i:(n:Int)≤2048:=by omega
 have c0:=hcell w1 w.heap.size HX1.d;have l0:w1.cell? ⟨w.heap.size+1,0,none⟩=some (.bool L.has):=(HX1.l.cell 0).trans rfl;have l5:w1.cell? ⟨w.heap.size+1,5,none⟩=some (.bool L.brk):=(HX1.l.cell 5).trans rfl;obtain⟨N,hN⟩:=je w.heap.size;have HN:=jz hN;clear h hL hq hok hn es hcell;go_enter Tryz.func74,Tryz.ntmps74
 go_upto_region 1 with (first|(refine al 57 refZ rfl rfl cJ ?_)|(refine al 61 rlZ rfl rfl jY ?_))
 rw[← hw1];clear hw1;rw[← hN] at HX1 c0 l0 l5;simp only[← hN];clear hN;go_upto_region 2 with fail
 rw[HQN.out];cases hhas:L.has with
 | false=>
  rw[hhas] at l0;have HF:Hid ((cW r L qs).2.2=12∧(cW r L qs).1=r∧(cW r L qs).2.1=L):=jz (by unfold cW;rw[hhas];exact⟨rfl,rfl,rfl⟩);clear hhas;go_upto_region 3 with fail
  go_cut [8] from 20 to 21 (fun x W=>x = .int .i64 12∧Hid (R2 w.heap.size w1 W (N+2) (N+3) 57 61 (aA m r) (rlC v (L))))
  case first=>
   obtain⟨wS,hwS⟩:=je w1.drew;have hbS:Below w1.heap.size w1 wS:=by rw[hwS];exact(Below.refl _ _).drew
   have HRS:Hid (R2 w.heap.size w1 wS (N+2) (N+3) 57 61 refZ rlZ):=jz ((R2.start HX1.a HX1.b HX1.p.n2.2.2 ⟨HX1.p.lo.2.2.1,HX1.p.lo.2.2.2⟩).keep hbS);have HDO:Hid (∀ xA xB W,R2 w.heap.size w1 W (N+2) (N+3) 57 61 xA xB→Blk W (N) 57 (aA m r)∧Blk W (N+1) 61 (rlC v L)):=jz (fun xA xB W k=>⟨k.old HX1.d HX1.p.n1.2.1 HX1.p.n1.2.2,k.old HX1.l HX1.p.n2.1 HX1.p.n2.2.1⟩);have HOD:Hid (∀ u∈(aA m r).toList,u.oneCell'=true):=jz (fun u hu=>by have:=aR HX1.k;rw[Array.all_eq_true_iff_forall_mem] at this;exact this u (by simpa using hu));have HOL:Hid (∀ u∈(rlC v (L)).toList,u.oneCell'=true):=jz (fun u hu=>by have:=dB (L:=L) (HX1.lk);rw[Array.all_eq_true_iff_forall_mem] at this;exact this u (by simpa using hu));clear hbS;refine aQ 5 (fun W=>Blk W (N) 57 (aA m r)∧Blk W (N+1) 61 (rlC v L)) (by kernel_rfl) (by kernel_rfl) (by rw[← hwS];exact HDO.out _ _ _ HRS.out) (fun hH=>?_);rw[← hwS] at hH ⊢;clear hwS;refine jL 0 57 (.tmp 3) (some 20) (cs:=(aA m r).toList) (fun _ hX=>hX.1.range) Tryz.underlying57 rfl (hlenD _ _) hH ?_;simp only[jq];refine jL 1 61 (.tmp 4) (some 21) (cs:=(rlC v L).toList) (fun _ hX=>hX.2.range) Tryz.underlying61 rfl (hlenL _ _) hH ?_;simp only[jq];refine jW [2] ?_;refine jR 2 57 (.tmp 6) (.tmp 20) none (cs:=(aA m r).toList) (aF HRS.a rfl) (hlenD _ _) (HOD.out) (HDO.out _ _ _ (jz (HRS.stA ((aA m r).toList) rfl)).out) ?_ jN;simp only[jq];obtain⟨wk1,hwk1⟩:=je ((wS.setCells (N+2) 0 ((aA m r).toList)));have HR1:=jz (HRS.stA ((aA m r).toList) rfl);rw[← hwk1] at HR1 ⊢;clear hwk1;refine jW [3] ?_;refine jR 3 61 (.tmp 7) (.tmp 21) none (cs:=(rlC v (L)).toList) (aF HR1.b rfl) (hlenL _ _) (HOL.out) (HDO.out _ _ _ (jz (HR1.stB ((rlC v (L)).toList) rfl)).out) ?_ jN;simp only[jq];obtain⟨wk2,hwk2⟩:=je ((wk1.setCells (N+3) 0 ((rlC v (L)).toList)));have HR2:=jz (HR1.stB ((rlC v (L)).toList) rfl);rw[← hwk2] at HR2 ⊢;clear hwk2;refine jT 4 (.assign (.const (.int .i64 12))) (some 8) (.int .i64 12) (HDO.out _ _ _ HR2.out) ?_;simp only[jq];refine wpAnyH_done (by kernel_rfl) ?_ _;go_wp2_with fail
   go_meet
   exact⟨rfl,HR2⟩
  case rest=>
   obtain⟨rfl,HRR⟩:=hcut
   rename World=>wz
   have hfin:=HX1.ret HRR.out (HX1.lk) (fun _ e=>e);go_wp2_with fail
   exact bodyPost_ret (aT rfl _ rfl HRR.a.range Tryz.underlying57 rfl bG rfl HRR.b.range Tryz.underlying61 rfl rlI) rfl ⟨m,v,by rw[HF.out.1,HF.out.2.1,HF.out.2.2];rfl,by rw[HF.out.2.1];exact hfin.1,by rw[HF.out.2.2];exact hfin.2.1,hfin.2.2.1,by rw[HF.out.2.1];exact hfin.2.2.2.1,hfin.2.2.2.2⟩
 | true=>
 rw[hhas] at l0;cases hbrk:L.brk with
 | true=>
  rw[hbrk] at l5;have HF:Hid ((cW r L qs).2.2=11∧(cW r L qs).1=r∧(cW r L qs).2.1=L):=jz (by unfold cW;rw[hhas,hbrk];exact⟨rfl,rfl,rfl⟩);clear hhas hbrk;go_upto_region 5 with fail
  go_cut [8] from 24 to 25 (fun x W=>x = .int .i64 11∧Hid (R2 w.heap.size w1 W (N+2) (N+3) 57 61 (aA m r) (rlC v (L))))
  case first=>
   obtain⟨wS,hwS⟩:=je w1.drew;have hbS:Below w1.heap.size w1 wS:=by rw[hwS];exact(Below.refl _ _).drew
   have HRS:Hid (R2 w.heap.size w1 wS (N+2) (N+3) 57 61 refZ rlZ):=jz ((R2.start HX1.a HX1.b HX1.p.n2.2.2 ⟨HX1.p.lo.2.2.1,HX1.p.lo.2.2.2⟩).keep hbS);have HDO:Hid (∀ xA xB W,R2 w.heap.size w1 W (N+2) (N+3) 57 61 xA xB→Blk W (N) 57 (aA m r)∧Blk W (N+1) 61 (rlC v L)):=jz (fun xA xB W k=>⟨k.old HX1.d HX1.p.n1.2.1 HX1.p.n1.2.2,k.old HX1.l HX1.p.n2.1 HX1.p.n2.2.1⟩);have HOD:Hid (∀ u∈(aA m r).toList,u.oneCell'=true):=jz (fun u hu=>by have:=aR HX1.k;rw[Array.all_eq_true_iff_forall_mem] at this;exact this u (by simpa using hu));have HOL:Hid (∀ u∈(rlC v (L)).toList,u.oneCell'=true):=jz (fun u hu=>by have:=dB (L:=L) (HX1.lk);rw[Array.all_eq_true_iff_forall_mem] at this;exact this u (by simpa using hu));clear hbS;refine aQ 5 (fun W=>Blk W (N) 57 (aA m r)∧Blk W (N+1) 61 (rlC v L)) (by kernel_rfl) (by kernel_rfl) (by rw[← hwS];exact HDO.out _ _ _ HRS.out) (fun hH=>?_);rw[← hwS] at hH ⊢;clear hwS;refine jL 0 57 (.tmp 3) (some 24) (cs:=(aA m r).toList) (fun _ hX=>hX.1.range) Tryz.underlying57 rfl (hlenD _ _) hH ?_;simp only[jq];refine jL 1 61 (.tmp 4) (some 25) (cs:=(rlC v L).toList) (fun _ hX=>hX.2.range) Tryz.underlying61 rfl (hlenL _ _) hH ?_;simp only[jq];refine jW [2] ?_;refine jR 2 57 (.tmp 6) (.tmp 24) none (cs:=(aA m r).toList) (aF HRS.a rfl) (hlenD _ _) (HOD.out) (HDO.out _ _ _ (jz (HRS.stA ((aA m r).toList) rfl)).out) ?_ jN;simp only[jq];obtain⟨wk1,hwk1⟩:=je ((wS.setCells (N+2) 0 ((aA m r).toList)));have HR1:=jz (HRS.stA ((aA m r).toList) rfl);rw[← hwk1] at HR1 ⊢;clear hwk1;refine jW [3] ?_;refine jR 3 61 (.tmp 7) (.tmp 25) none (cs:=(rlC v (L)).toList) (aF HR1.b rfl) (hlenL _ _) (HOL.out) (HDO.out _ _ _ (jz (HR1.stB ((rlC v (L)).toList) rfl)).out) ?_ jN;simp only[jq];obtain⟨wk2,hwk2⟩:=je ((wk1.setCells (N+3) 0 ((rlC v (L)).toList)));have HR2:=jz (HR1.stB ((rlC v (L)).toList) rfl);rw[← hwk2] at HR2 ⊢;clear hwk2;refine jT 4 (.assign (.const (.int .i64 11))) (some 8) (.int .i64 11) (HDO.out _ _ _ HR2.out) ?_;simp only[jq];refine wpAnyH_done (by kernel_rfl) ?_ _;go_wp2_with fail
   go_meet
   exact⟨rfl,HR2⟩
  case rest=>
   obtain⟨rfl,HRR⟩:=hcut
   rename World=>wz
   have hfin:=HX1.ret HRR.out (HX1.lk) (fun _ e=>e);go_wp2_with fail
   exact bodyPost_ret (aT rfl _ rfl HRR.a.range Tryz.underlying57 rfl bG rfl HRR.b.range Tryz.underlying61 rfl rlI) rfl ⟨m,v,by rw[HF.out.1,HF.out.2.1,HF.out.2.2];rfl,by rw[HF.out.2.1];exact hfin.1,by rw[HF.out.2.2];exact hfin.2.1,hfin.2.2.1,by rw[HF.out.2.1];exact hfin.2.2.2.1,hfin.2.2.2.2⟩
 | false=>
 rw[hbrk] at l5;have hs2:=HX1.lk.side;have hg4:=HX1.lk.gen;have hl4:=HX1.lk.last;have l1:w1.cell? ⟨N+1,1,none⟩=some (.int .i64 L.side):=(HX1.l.cell 1).trans rfl;have l2:w1.cell? ⟨N+1,2,none⟩=some (.int .u32 L.gen):=(HX1.l.cell 2).trans rfl;have l3:w1.cell? ⟨N+1,3,none⟩=some (.int .u32 L.last):=(HX1.l.cell 3).trans rfl;obtain⟨G,hG⟩:=je (max L.last L.gen);have HGI:Hid (max (L.last:Int) (L.gen:Int)=(G:Int)):=jz (by omega);have hG4:G<4294967296:=by omega
 have HGG:=jz hG;clear hG;go_upto_region 7 with fail
 rw[HGI.out];rcases Nat.lt_or_ge G 4294967295 with hlt|hge
 ·have hGi:(G:Int)<4294967295:=by omega
  obtain⟨hm0,hm1⟩:=AR hn2 hs2;obtain⟨f,hf⟩:∃ f:Int,f=(n:Int)*(1-(L.side:Int)):=⟨_,rfl⟩;have HFE:=jz hf.symm;have HRR:Hid (cW r L qs=y2 L qs (G+1) (bP r f n (G+1) qs) (cX (bP r f n (G+1) qs).1 f (rec (G+1) toll)) (eU (bP r f n (G+1) qs).1 f (rec (G+1) toll))):=jz (by unfold cW CV;rw[hhas,hbrk,← HNN.out,← hf,← HGG.out];simp only[if_true,Bool.false_eq_true,if_false];rw[if_neg (by omega)]);have hf0:0≤f:=by omega
  have hf1:f≤2048:=by omega
  have hGe:((G:Int) == 4294967295)=false:=by rw[beq_eq_false_iff_ne];omega
  have HLT:=jz hlt;have HBR:=jz hbrk;have HHA:=jz hhas;clear hf hlt hbrk hhas;go_upto_region 10 with fail
  rw[HFE.out];have HP:=jz (GE m r f n (G+1) qs Aq cq w1 HX1.k (HQ.below HX1.bel) HOK.out ⟨hf0,by omega⟩ ⟨by omega,by omega⟩ hln (by omega) ho2);obtain⟨hc0,hc15⟩:=rZ r f n (G+1) qs;have hrb:=CS r f n (G+1) qs;obtain⟨⟨r2,c⟩,hfr⟩:∃ x,x=bP r f n (G+1) qs:=⟨_,rfl⟩;rw[← hfr] at HP HRR hc0 hc15 hrb;simp only at HP HRR hc0 hc15 hrb;have hst2:r2.steps≤r.steps+(2*qs.length+1:Nat):=hrb.1;have hop2:r2.opn.length≤r.opn.length+(2*qs.length+1):=hrb.2.1;have hr0:=HX1.d.range;have hgn:((G:Int)+1)=((G+1:Nat):Int):=by omega
  rw[← hgn] at HP;clear hfr l0 l5 c0 hm0 hm1 hrb hgn;go_upto_region 11 with (first
   | (refine ld 57 _ rfl rfl rfl hr0 Tryz.underlying57 rfl (hlenD _ _) ?_)
   | (go_at_call 95;refine HP.mono ?_;rintro e w2 ⟨m2,rfl,hk2,hb2,hs2'⟩)
   | (refine bC (cells:=aA m2 r2) 57 (.tmp 3) (.tmp 48) rfl rfl rfl rfl (HX1.d.keep hb2) bG rfl (aR hk2) ?_;intro w3 hB3 hb3 ho3 hs3))
  have HX3:=jz (HX1.disk hk2 hb2 hs2' hB3 hb3 ho3);clear hk2 hb2 hs2' hB3 hb3 ho3 hs3 HP hr0 l1 l2 l3;rcases jb (c == 0) with t0|t0
  ·obtain rfl:c=0:=by simpa using t0
   have HR2:Hid (cW r L qs=if eU r2 f (rec (G+1) toll)=0 then (cX r2 f (rec (G+1) toll),{ L with side:=1-L.side,gen:=G+1,es:=qs },0) else (cX r2 f (rec (G+1) toll),bY L (eU r2 f (rec (G+1) toll)),eU r2 f (rec (G+1) toll))):=jz (by rw[HRR.out];rfl);have HP:=jz (rQ m2 r2 f (G+1) w3 HX3.k ⟨by omega,by omega⟩ (by omega) (by omega));obtain⟨hd0,hd15⟩:=nK r2 f (rec (G+1) toll);obtain⟨c2,hc2⟩:=je (eU r2 f (rec (G+1) toll));obtain⟨r4,hr4⟩:=je (cX r2 f (rec (G+1) toll));rw[← hc2,← hr4] at HP HR2;rw[← hc2] at hd0 hd15;have hr3:=HX3.d.range;have hgn:((G:Int)+1)=((G+1:Nat):Int):=by omega
   rw[← hgn] at HP;clear hc2 hr4 t0 hgn HRR;go_upto_region 14 with (first
    | (refine ld 57 _ rfl rfl rfl hr3 Tryz.underlying57 rfl (hlenD _ _) ?_)
    | (go_at_call 96;refine HP.mono ?_;rintro e w4 ⟨m4,rfl,hk4,hb4,hs4'⟩)
    | (refine bC (cells:=aA m4 r4) 57 (.tmp 3) (.tmp 63) rfl rfl rfl rfl (HX3.d.keep hb4) bG rfl (aR hk4) ?_;intro w5 hB5 hb5 ho5 hs5))
   have HX5:=jz (HX3.disk hk4 hb4 hs4' hB5 hb5 ho5);clear hk4 hb4 hs4' hB5 hb5 ho5 hs5 HP hr3;rcases jb (c2 == 0) with t2|t2
   ·obtain rfl:c2=0:=by simpa using t2
    obtain⟨s1,hs1⟩:∃ s1,s1=1-L.side:=⟨_,rfl⟩;have hs1i:(1:Int)-(L.side:Int)=(s1:Int):=by omega
    have HS1:=jz hs1i;have HF:Hid ((cW r L qs).2.2=0∧(cW r L qs).1=r4∧(cW r L qs).2.1={ L with side:=s1,gen:=G+1,es:=qs }):=jz (by rw[HR2.out,if_pos rfl,hs1];exact⟨rfl,rfl,rfl⟩);have HS12:Hid (s1<2):=jz (by omega);have l1:w5.cell? ⟨N+1,1,none⟩=some (.int .i64 L.side):=(HX5.l.cell 1).trans rfl;have f1:=HX5.l.frozen 1;have hgl:=HX5.l.lt;clear t2 HR2 hs1 hs1i;go_upto_region 17 with fail
    rw[HS1.out];obtain⟨w6,hw6⟩:=je (w5.setCell ⟨N+1,1,none⟩ (.int .i64 s1));have HX6:Hid (X19 w w6 m r v m4 r4 v { L with side:=s1 } N (N+1) (N+2) (N+3)):=jz (by rw[hw6];exact HX5.cell 1 _ ⟨HX5.lk.sn,HX5.lk.ok,HX5.lk.ln,HS12.out,HX5.lk.gen,HX5.lk.last,HX5.lk.lt⟩ (fun _ e=>.inl e) rfl);rw[← hw6];have f2:=HX6.l.frozen 2;have c2:w6.cell? ⟨N+1,2,none⟩=some (.int .u32 L.gen):=(HX6.l.cell 2).trans rfl;have hgl6:=HX6.l.lt;clear hw6 l1 f1 hgl;go_upto_region 18 with fail
    obtain⟨w7,hw7⟩:=je (w6.setCell ⟨N+1,2,none⟩ (.int .u32 ((G:Int)+1)));have HX7:Hid (X19 w w7 m r v m4 r4 v { L with side:=s1,gen:=G+1 } N (N+1) (N+2) (N+3)):=jz (by rw[hw7];exact HX6.cell 2 _ ⟨HX6.lk.sn,HX6.lk.ok,HX6.lk.ln,HX6.lk.side,by show G+1<4294967296;omega,HX6.lk.last,HX6.lk.lt⟩ (fun _ e=>.inl e) rfl);rw[← hw7];clear hw7 f2 c2 hgl6;have hbl:Below w7.heap.size w7 (w7.alloc (.cells #[] 35)):=aN _ _;have HBL:=jz hbl;have HOW:Hid ((w7.alloc (.cells #[] 35)).ownsRow w7.heap.size 35 33 (.slice (some ⟨w7.heap.size,0,none⟩) 0 0) 0 []):=jz (cI w7 #[] 35 33 0 w7.heap.size w7.heap.size (Nat.le_refl _) rfl (by decide) rfl);have HMW:=jz (HQ.below (HX7.keep hbl).bel);have HLE:Hid (w7.heap.size≤(w7.alloc (.cells #[] 35)).heap.size):=jz hbl.size;have HON:Hid (∀ u∈qs.flatMap aC,u.oneCell'=true):=jz (fun u hu=>by obtain⟨q,_,hu⟩:=List.mem_flatMap.1 hu;exact eN q u hu);clear hbl;go_cut [] from 79 to 82 (fun W=>∃ v9,Hid (X19 w W m r v m4 r4 v9 { L with side:=s1,gen:=G+1,es:=qs } N (N+1) (N+2) (N+3)))
    case first=>
     go_wp2_with (at_builtin;refine app fQ (.tmp 79) (.tmp 80) rfl rfl (by rfl) HOW.out (by rfl) HMW.out HON.out (by unfold maxLen;omega) (by omega) HLE.out ?_;intro v8 w8 hown hgrow hblk;rw[List.nil_append,Nat.zero_add] at hown;obtain⟨a8,c8,hv8,_,_⟩:=aU hown;subst hv8;have HB8:Hid (Below w7.heap.size w7 w8):=jz (HBL.grown hgrow HBL.size (fun b e=>(HOW.lt b e).1));have HX8:=jz (HX7.keep HB8.out);have HO8:=jz hown;clear hown hgrow hblk;have f4:=HX8.l.frozen 4;have c4:=(HX8.l.cell 4).trans (gY _ _);have hgl8:=HX8.l.lt)
     go_meet
     exact⟨.slice a8 qs.length c8,jz (HX8.cell 4 (.slice a8 qs.length c8) ⟨Sn.own HO8.out,HOK.out,hln,HX8.lk.side,HX8.lk.gen,HX8.lk.last,fun b e=>(HO8.lt b e).2⟩ (fun b e=>.inr (HX7.far (HO8.lt b e).1)) rfl)⟩
    case rest=>
     obtain⟨v9,HX9⟩:=hcut
     rename World=>w9
     go_upto_region 19 with fail
     go_cut [8] from 83 to 84 (fun x W=>x = .int .i64 0∧Hid (R2 w.heap.size w9 W (N+2) (N+3) 57 61 (aA m4 r4) (rlC v9 ({ L with side:=s1,gen:=G+1,es:=qs }))))
     case first=>
      obtain⟨wS,hwS⟩:=je w9.drew;have hbS:Below w9.heap.size w9 wS:=by rw[hwS];exact(Below.refl _ _).drew
      have HRS:Hid (R2 w.heap.size w9 wS (N+2) (N+3) 57 61 refZ rlZ):=jz ((R2.start HX9.a HX9.b HX9.p.n2.2.2 ⟨HX9.p.lo.2.2.1,HX9.p.lo.2.2.2⟩).keep hbS);have HDO:Hid (∀ xA xB W,R2 w.heap.size w9 W (N+2) (N+3) 57 61 xA xB→Blk W (N) 57 (aA m4 r4)∧Blk W (N+1) 61 (rlC v9 { L with side:=s1,gen:=G+1,es:=qs })):=jz (fun xA xB W k=>⟨k.old HX9.d HX9.p.n1.2.1 HX9.p.n1.2.2,k.old HX9.l HX9.p.n2.1 HX9.p.n2.2.1⟩);have HOD:Hid (∀ u∈(aA m4 r4).toList,u.oneCell'=true):=jz (fun u hu=>by have:=aR HX9.k;rw[Array.all_eq_true_iff_forall_mem] at this;exact this u (by simpa using hu));have HOL:Hid (∀ u∈(rlC v9 ({ L with side:=s1,gen:=G+1,es:=qs })).toList,u.oneCell'=true):=jz (fun u hu=>by have:=dB (L:={ L with side:=s1,gen:=G+1,es:=qs }) (HX9.lk);rw[Array.all_eq_true_iff_forall_mem] at this;exact this u (by simpa using hu));clear hbS;refine aQ 5 (fun W=>Blk W (N) 57 (aA m4 r4)∧Blk W (N+1) 61 (rlC v9 { L with side:=s1,gen:=G+1,es:=qs })) (by kernel_rfl) (by kernel_rfl) (by rw[← hwS];exact HDO.out _ _ _ HRS.out) (fun hH=>?_);rw[← hwS] at hH ⊢;clear hwS;refine jL 0 57 (.tmp 3) (some 83) (cs:=(aA m4 r4).toList) (fun _ hX=>hX.1.range) Tryz.underlying57 rfl (hlenD _ _) hH ?_;simp only[jq];refine jL 1 61 (.tmp 4) (some 84) (cs:=(rlC v9 { L with side:=s1,gen:=G+1,es:=qs }).toList) (fun _ hX=>hX.2.range) Tryz.underlying61 rfl (hlenL _ _) hH ?_;simp only[jq];refine jW [2] ?_;refine jR 2 57 (.tmp 6) (.tmp 83) none (cs:=(aA m4 r4).toList) (aF HRS.a rfl) (hlenD _ _) (HOD.out) (HDO.out _ _ _ (jz (HRS.stA ((aA m4 r4).toList) rfl)).out) ?_ jN;simp only[jq];obtain⟨wk1,hwk1⟩:=je ((wS.setCells (N+2) 0 ((aA m4 r4).toList)));have HR1:=jz (HRS.stA ((aA m4 r4).toList) rfl);rw[← hwk1] at HR1 ⊢;clear hwk1;refine jW [3] ?_;refine jR 3 61 (.tmp 7) (.tmp 84) none (cs:=(rlC v9 ({ L with side:=s1,gen:=G+1,es:=qs })).toList) (aF HR1.b rfl) (hlenL _ _) (HOL.out) (HDO.out _ _ _ (jz (HR1.stB ((rlC v9 ({ L with side:=s1,gen:=G+1,es:=qs })).toList) rfl)).out) ?_ jN;simp only[jq];obtain⟨wk2,hwk2⟩:=je ((wk1.setCells (N+3) 0 ((rlC v9 ({ L with side:=s1,gen:=G+1,es:=qs })).toList)));have HR2:=jz (HR1.stB ((rlC v9 ({ L with side:=s1,gen:=G+1,es:=qs })).toList) rfl);rw[← hwk2] at HR2 ⊢;clear hwk2;refine jT 4 (.assign (.const (.int .i64 0))) (some 8) (.int .i64 0) (HDO.out _ _ _ HR2.out) ?_;simp only[jq];refine wpAnyH_done (by kernel_rfl) ?_ _;go_wp2_with fail
      go_meet
      exact⟨rfl,HR2⟩
     case rest=>
      obtain⟨rfl,HRR⟩:=hcut
      rename World=>wz
      have hfin:=HX9.ret HRR.out (HX9.lk) (fun _ e=>e);go_wp2_with fail
      exact bodyPost_ret (aT rfl _ rfl HRR.a.range Tryz.underlying57 rfl bG rfl HRR.b.range Tryz.underlying61 rfl rlI) rfl ⟨m4,v9,by rw[HF.out.1,HF.out.2.1,HF.out.2.2];rfl,by rw[HF.out.2.1];exact hfin.1,by rw[HF.out.2.2];exact hfin.2.1,hfin.2.2.1,by rw[HF.out.2.1];exact hfin.2.2.2.1,hfin.2.2.2.2⟩
   ·have hcn:¬c2=0:=by simpa using t2
    have HF:Hid ((cW r L qs).2.2=c2∧(cW r L qs).1=r4∧(cW r L qs).2.1=bY L c2):=jz (by rw[HR2.out,if_neg hcn];exact⟨rfl,rfl,rfl⟩);have hne0:(c2 != 0)=true:=by simp[hcn]
    clear hcn t2 HR2;go_upto_region 15 with fail
    go_cut [8] from 67 to 71 (fun x W=>x = .int .i64 c2∧Hid (R2 w.heap.size w5 W (N+2) (N+3) 57 61 (aA m4 r4) (rlC v (bY L c2))))
    case first=>
     obtain⟨wS,hwS⟩:=je w5.drew;have hbS:Below w5.heap.size w5 wS:=by rw[hwS];exact(Below.refl _ _).drew
     have HRS:Hid (R2 w.heap.size w5 wS (N+2) (N+3) 57 61 refZ rlZ):=jz ((R2.start HX5.a HX5.b HX5.p.n2.2.2 ⟨HX5.p.lo.2.2.1,HX5.p.lo.2.2.2⟩).keep hbS);have HDO:Hid (∀ xA xB W,R2 w.heap.size w5 W (N+2) (N+3) 57 61 xA xB→Blk W (N) 57 (aA m4 r4)∧Blk W (N+1) 61 (rlC v L)):=jz (fun xA xB W k=>⟨k.old HX5.d HX5.p.n1.2.1 HX5.p.n1.2.2,k.old HX5.l HX5.p.n2.1 HX5.p.n2.2.1⟩);have HOD:Hid (∀ u∈(aA m4 r4).toList,u.oneCell'=true):=jz (fun u hu=>by have:=aR HX5.k;rw[Array.all_eq_true_iff_forall_mem] at this;exact this u (by simpa using hu));have HOL:Hid (∀ u∈(rlC v (bY L c2)).toList,u.oneCell'=true):=jz (fun u hu=>by have:=dB (L:=bY L c2) (⟨HX5.lk.sn,HX5.lk.ok,HX5.lk.ln,HX5.lk.side,HX5.lk.gen,HX5.lk.last,HX5.lk.lt⟩);rw[Array.all_eq_true_iff_forall_mem] at this;exact this u (by simpa using hu));have HXS:=jz (HX5.keep hbS);clear hbS;refine aQ 8 (fun W=>Blk W (N) 57 (aA m4 r4)∧Blk W (N+1) 61 (rlC v L)) (by kernel_rfl) (by kernel_rfl) (by rw[← hwS];exact HDO.out _ _ _ HRS.out) (fun hH=>?_);rw[← hwS] at hH ⊢;clear hwS;refine jL 0 57 (.tmp 3) (some 67) (cs:=(aA m4 r4).toList) (fun _ hX=>hX.1.range) Tryz.underlying57 rfl (hlenD _ _) hH ?_;simp only[jq];refine jL 1 61 (.tmp 4) (some 68) (cs:=(rlC v L).toList) (fun _ hX=>hX.2.range) Tryz.underlying61 rfl (hlenL _ _) hH ?_;simp only[jq];refine jM 2 (.tmp 12) (some 69) (.int .i64 c2) hH ?_;simp only[jq];refine jM 4 (.tmp 12) (some 71) (.int .i64 c2) hH ?_;simp only[jq];refine jW [3] ?_;refine jC 3 (.call { callee:=.value (.func 94),args:=#[.tmp 68,.tmp 69],argTypes:=#[61,3] }) (some 70) 94 (#[.agg (rlC v L),.int .i64 c2]) ?_ jN;refine(iU v L c2 wS (HRS.rlk HX5.lk (HX5.nd _ (.inr (.inr (.inl rfl)))).2 (HX5.nd _ (.inr (.inr (.inr rfl)))).2)).mono ?_;rintro e wk1 ⟨rfl,hk1⟩;have HR1:=jz (HRS.keep hk1);clear hk1;refine⟨_,rfl,HDO.out _ _ _ HR1.out,fun _=>?_⟩;simp only[jq];refine jW [5] ?_;refine jR 5 57 (.tmp 6) (.tmp 67) none (cs:=(aA m4 r4).toList) (aF HR1.a rfl) (hlenD _ _) (HOD.out) (HDO.out _ _ _ (jz (HR1.stA ((aA m4 r4).toList) rfl)).out) ?_ jN;simp only[jq];obtain⟨wk2,hwk2⟩:=je ((wk1.setCells (N+2) 0 ((aA m4 r4).toList)));have HR2:=jz (HR1.stA ((aA m4 r4).toList) rfl);rw[← hwk2] at HR2 ⊢;clear hwk2;refine jW [6] ?_;refine jR 6 61 (.tmp 7) (.tmp 70) none (cs:=(rlC v (bY L c2)).toList) (aF HR2.b rfl) (hlenL _ _) (HOL.out) (HDO.out _ _ _ (jz (HR2.stB ((rlC v (bY L c2)).toList) rfl)).out) ?_ jN;simp only[jq];obtain⟨wk3,hwk3⟩:=je ((wk2.setCells (N+3) 0 ((rlC v (bY L c2)).toList)));have HR3:=jz (HR2.stB ((rlC v (bY L c2)).toList) rfl);rw[← hwk3] at HR3 ⊢;clear hwk3;refine jT 7 (.assign (.tmp 71)) (some 8) (.int .i64 c2) (HDO.out _ _ _ HR3.out) ?_;simp only[jq];refine wpAnyH_done (by kernel_rfl) ?_ _;go_wp2_with fail
     go_meet
     exact⟨rfl,HR3⟩
    case rest=>
     obtain⟨rfl,HRR⟩:=hcut
     rename World=>wz
     have hfin:=HX5.ret HRR.out (⟨HX5.lk.sn,HX5.lk.ok,HX5.lk.ln,HX5.lk.side,HX5.lk.gen,HX5.lk.last,HX5.lk.lt⟩) (fun _ e=>e);go_wp2_with fail
     exact bodyPost_ret (aT rfl _ rfl HRR.a.range Tryz.underlying57 rfl bG rfl HRR.b.range Tryz.underlying61 rfl rlI) rfl ⟨m4,v,by rw[HF.out.1,HF.out.2.1,HF.out.2.2];rfl,by rw[HF.out.2.1];exact hfin.1,by rw[HF.out.2.2];exact hfin.2.1,hfin.2.2.1,by rw[HF.out.2.1];exact hfin.2.2.2.1,hfin.2.2.2.2⟩
  ·have hcn:¬c=0:=by simpa using t0
   have HF:Hid ((cW r L qs).2.2=c∧(cW r L qs).1=r2∧(cW r L qs).2.1=bY L c):=jz (by rw[HRR.out];unfold y2;simp only[if_neg hcn];refine⟨?_,?_,?_⟩ <;> first|rfl|trivial);have hne0:(c != 0)=true:=by simp[hcn]
   clear hcn t0 HRR;go_upto_region 12 with fail
   go_cut [8] from 52 to 56 (fun x W=>x = .int .i64 c∧Hid (R2 w.heap.size w3 W (N+2) (N+3) 57 61 (aA m2 r2) (rlC v (bY L c))))
   case first=>
    obtain⟨wS,hwS⟩:=je w3.drew;have hbS:Below w3.heap.size w3 wS:=by rw[hwS];exact(Below.refl _ _).drew
    have HRS:Hid (R2 w.heap.size w3 wS (N+2) (N+3) 57 61 refZ rlZ):=jz ((R2.start HX3.a HX3.b HX3.p.n2.2.2 ⟨HX3.p.lo.2.2.1,HX3.p.lo.2.2.2⟩).keep hbS);have HDO:Hid (∀ xA xB W,R2 w.heap.size w3 W (N+2) (N+3) 57 61 xA xB→Blk W (N) 57 (aA m2 r2)∧Blk W (N+1) 61 (rlC v L)):=jz (fun xA xB W k=>⟨k.old HX3.d HX3.p.n1.2.1 HX3.p.n1.2.2,k.old HX3.l HX3.p.n2.1 HX3.p.n2.2.1⟩);have HOD:Hid (∀ u∈(aA m2 r2).toList,u.oneCell'=true):=jz (fun u hu=>by have:=aR HX3.k;rw[Array.all_eq_true_iff_forall_mem] at this;exact this u (by simpa using hu));have HOL:Hid (∀ u∈(rlC v (bY L c)).toList,u.oneCell'=true):=jz (fun u hu=>by have:=dB (L:=bY L c) (⟨HX3.lk.sn,HX3.lk.ok,HX3.lk.ln,HX3.lk.side,HX3.lk.gen,HX3.lk.last,HX3.lk.lt⟩);rw[Array.all_eq_true_iff_forall_mem] at this;exact this u (by simpa using hu));have HXS:=jz (HX3.keep hbS);clear hbS;refine aQ 8 (fun W=>Blk W (N) 57 (aA m2 r2)∧Blk W (N+1) 61 (rlC v L)) (by kernel_rfl) (by kernel_rfl) (by rw[← hwS];exact HDO.out _ _ _ HRS.out) (fun hH=>?_);rw[← hwS] at hH ⊢;clear hwS;refine jL 0 57 (.tmp 3) (some 52) (cs:=(aA m2 r2).toList) (fun _ hX=>hX.1.range) Tryz.underlying57 rfl (hlenD _ _) hH ?_;simp only[jq];refine jL 1 61 (.tmp 4) (some 53) (cs:=(rlC v L).toList) (fun _ hX=>hX.2.range) Tryz.underlying61 rfl (hlenL _ _) hH ?_;simp only[jq];refine jM 2 (.tmp 12) (some 54) (.int .i64 c) hH ?_;simp only[jq];refine jM 4 (.tmp 12) (some 56) (.int .i64 c) hH ?_;simp only[jq];refine jW [3] ?_;refine jC 3 (.call { callee:=.value (.func 94),args:=#[.tmp 53,.tmp 54],argTypes:=#[61,3] }) (some 55) 94 (#[.agg (rlC v L),.int .i64 c]) ?_ jN;refine(iU v L c wS (HRS.rlk HX3.lk (HX3.nd _ (.inr (.inr (.inl rfl)))).2 (HX3.nd _ (.inr (.inr (.inr rfl)))).2)).mono ?_;rintro e wk1 ⟨rfl,hk1⟩;have HR1:=jz (HRS.keep hk1);clear hk1;refine⟨_,rfl,HDO.out _ _ _ HR1.out,fun _=>?_⟩;simp only[jq];refine jW [5] ?_;refine jR 5 57 (.tmp 6) (.tmp 52) none (cs:=(aA m2 r2).toList) (aF HR1.a rfl) (hlenD _ _) (HOD.out) (HDO.out _ _ _ (jz (HR1.stA ((aA m2 r2).toList) rfl)).out) ?_ jN;simp only[jq];obtain⟨wk2,hwk2⟩:=je ((wk1.setCells (N+2) 0 ((aA m2 r2).toList)));have HR2:=jz (HR1.stA ((aA m2 r2).toList) rfl);rw[← hwk2] at HR2 ⊢;clear hwk2;refine jW [6] ?_;refine jR 6 61 (.tmp 7) (.tmp 55) none (cs:=(rlC v (bY L c)).toList) (aF HR2.b rfl) (hlenL _ _) (HOL.out) (HDO.out _ _ _ (jz (HR2.stB ((rlC v (bY L c)).toList) rfl)).out) ?_ jN;simp only[jq];obtain⟨wk3,hwk3⟩:=je ((wk2.setCells (N+3) 0 ((rlC v (bY L c)).toList)));have HR3:=jz (HR2.stB ((rlC v (bY L c)).toList) rfl);rw[← hwk3] at HR3 ⊢;clear hwk3;refine jT 7 (.assign (.tmp 56)) (some 8) (.int .i64 c) (HDO.out _ _ _ HR3.out) ?_;simp only[jq];refine wpAnyH_done (by kernel_rfl) ?_ _;go_wp2_with fail
    go_meet
    exact⟨rfl,HR3⟩
   case rest=>
    obtain⟨rfl,HRR⟩:=hcut
    rename World=>wz
    have hfin:=HX3.ret HRR.out (⟨HX3.lk.sn,HX3.lk.ok,HX3.lk.ln,HX3.lk.side,HX3.lk.gen,HX3.lk.last,HX3.lk.lt⟩) (fun _ e=>e);go_wp2_with fail
    exact bodyPost_ret (aT rfl _ rfl HRR.a.range Tryz.underlying57 rfl bG rfl HRR.b.range Tryz.underlying61 rfl rlI) rfl ⟨m2,v,by rw[HF.out.1,HF.out.2.1,HF.out.2.2];rfl,by rw[HF.out.2.1];exact hfin.1,by rw[HF.out.2.2];exact hfin.2.1,hfin.2.2.1,by rw[HF.out.2.1];exact hfin.2.2.2.1,hfin.2.2.2.2⟩
 ·obtain rfl:G=4294967295:=by omega
  have HF:Hid ((cW r L qs).2.2=13∧(cW r L qs).1=r∧(cW r L qs).2.1=L):=jz (by unfold cW;rw[hhas,hbrk,← HGG.out];exact⟨rfl,rfl,rfl⟩);clear hhas hbrk;go_upto_region 8 with fail
  go_cut [8] from 33 to 34 (fun x W=>x = .int .i64 13∧Hid (R2 w.heap.size w1 W (N+2) (N+3) 57 61 (aA m r) (rlC v (L))))
  case first=>
   obtain⟨wS,hwS⟩:=je w1.drew;have hbS:Below w1.heap.size w1 wS:=by rw[hwS];exact(Below.refl _ _).drew
   have HRS:Hid (R2 w.heap.size w1 wS (N+2) (N+3) 57 61 refZ rlZ):=jz ((R2.start HX1.a HX1.b HX1.p.n2.2.2 ⟨HX1.p.lo.2.2.1,HX1.p.lo.2.2.2⟩).keep hbS);have HDO:Hid (∀ xA xB W,R2 w.heap.size w1 W (N+2) (N+3) 57 61 xA xB→Blk W (N) 57 (aA m r)∧Blk W (N+1) 61 (rlC v L)):=jz (fun xA xB W k=>⟨k.old HX1.d HX1.p.n1.2.1 HX1.p.n1.2.2,k.old HX1.l HX1.p.n2.1 HX1.p.n2.2.1⟩);have HOD:Hid (∀ u∈(aA m r).toList,u.oneCell'=true):=jz (fun u hu=>by have:=aR HX1.k;rw[Array.all_eq_true_iff_forall_mem] at this;exact this u (by simpa using hu));have HOL:Hid (∀ u∈(rlC v (L)).toList,u.oneCell'=true):=jz (fun u hu=>by have:=dB (L:=L) (HX1.lk);rw[Array.all_eq_true_iff_forall_mem] at this;exact this u (by simpa using hu));clear hbS;refine aQ 5 (fun W=>Blk W (N) 57 (aA m r)∧Blk W (N+1) 61 (rlC v L)) (by kernel_rfl) (by kernel_rfl) (by rw[← hwS];exact HDO.out _ _ _ HRS.out) (fun hH=>?_);rw[← hwS] at hH ⊢;clear hwS;refine jL 0 57 (.tmp 3) (some 33) (cs:=(aA m r).toList) (fun _ hX=>hX.1.range) Tryz.underlying57 rfl (hlenD _ _) hH ?_;simp only[jq];refine jL 1 61 (.tmp 4) (some 34) (cs:=(rlC v L).toList) (fun _ hX=>hX.2.range) Tryz.underlying61 rfl (hlenL _ _) hH ?_;simp only[jq];refine jW [2] ?_;refine jR 2 57 (.tmp 6) (.tmp 33) none (cs:=(aA m r).toList) (aF HRS.a rfl) (hlenD _ _) (HOD.out) (HDO.out _ _ _ (jz (HRS.stA ((aA m r).toList) rfl)).out) ?_ jN;simp only[jq];obtain⟨wk1,hwk1⟩:=je ((wS.setCells (N+2) 0 ((aA m r).toList)));have HR1:=jz (HRS.stA ((aA m r).toList) rfl);rw[← hwk1] at HR1 ⊢;clear hwk1;refine jW [3] ?_;refine jR 3 61 (.tmp 7) (.tmp 34) none (cs:=(rlC v (L)).toList) (aF HR1.b rfl) (hlenL _ _) (HOL.out) (HDO.out _ _ _ (jz (HR1.stB ((rlC v (L)).toList) rfl)).out) ?_ jN;simp only[jq];obtain⟨wk2,hwk2⟩:=je ((wk1.setCells (N+3) 0 ((rlC v (L)).toList)));have HR2:=jz (HR1.stB ((rlC v (L)).toList) rfl);rw[← hwk2] at HR2 ⊢;clear hwk2;refine jT 4 (.assign (.const (.int .i64 13))) (some 8) (.int .i64 13) (HDO.out _ _ _ HR2.out) ?_;simp only[jq];refine wpAnyH_done (by kernel_rfl) ?_ _;go_wp2_with fail
   go_meet
   exact⟨rfl,HR2⟩
  case rest=>
   obtain⟨rfl,HRR⟩:=hcut
   rename World=>wz
   have hfin:=HX1.ret HRR.out (HX1.lk) (fun _ e=>e);go_wp2_with fail
   exact bodyPost_ret (aT rfl _ rfl HRR.a.range Tryz.underlying57 rfl bG rfl HRR.b.range Tryz.underlying61 rfl rlI) rfl ⟨m,v,by rw[HF.out.1,HF.out.2.1,HF.out.2.2];rfl,by rw[HF.out.2.1];exact hfin.1,by rw[HF.out.2.2];exact hfin.2.1,hfin.2.2.1,by rw[HF.out.2.1];exact hfin.2.2.2.1,hfin.2.2.2.2⟩
end Go.Proofs.YtombncedfleljaaGreat
