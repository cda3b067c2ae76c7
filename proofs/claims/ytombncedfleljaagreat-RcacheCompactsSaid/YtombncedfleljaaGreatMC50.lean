import Derived.Test.YtombncedfleljaaGreatMC49
set_option linter.unusedVariables false
set_option linter.unusedSimpArgs false
set_option maxRecDepth 100000
set_option maxHeartbeats 40000000
namespace Go.Proofs.YtombncedfleljaaGreat
open Go.RowKit
attribute [local irreducible] wpQuiet wpAnyH
theorem xY(n:Nat)(hn:n≤255)(A:Option Addr)(cap:Nat)(l:List Op21)(p:Op21)(w:World)(hs:Sn w 5 (.slice A l.length cap) l.length (l.flatMap aZ))(hok:∀ o∈l,Op21Ok w o)(hl:l.length≤9223372036854775807)(hp:Op21Ok w p):
  Calls Tryz.prog 4 #[.int .u8 n,.slice A l.length cap,.agg (aZ p).toArray] w fun e w'=>e = .returned (.bool true)∧Below w.heap.size w w':=by
 have HS:=jz hs;have HOK:=jz hok;have HP:=jz hp;clear hs hok hp;have hni:(n:Int)≤255:=by omega
 have hn0:(0:Int)≤n:=by omega
 obtain⟨w0,hw0⟩:=je (w.alloc (.cells (aZ p).toArray 31));obtain⟨go,hgo⟩:=je w.heap.size;have HB0:Hid (Below w.heap.size w w0):=jz (by rw[hw0];exact aN _ _);have HO0:Hid (Blk w0 go 31 (aZ p).toArray):=jz (by rw[hw0,hgo];exact Blk.new _ _ _);go_enter Tryz.func4,Tryz.ntmps4
 go_upto_region 1 with fail
 rw[← hw0];simp only[← hgo];clear hw0 hgo;go_wp2_with fail
 refine(lT w0).mono ?_;rintro e w1 ⟨rfl,hb1⟩;have HB1:=jz (aB HB0.out hb1);have HO1:=jz (HO0.keep hb1);have HF:=jz (DF A cap l w1 (HS.below HB1.out) (fun o ho=>(HOK.out o ho).keep HB1.out) hl);clear hb1 HB0 HO0;go_wp2_with fail
 refine HF.mono ?_;rintro e wf ⟨fb,rfl,hbf,hfw⟩;have HBF:=jz (aB HB1.out hbf);have HOF:=jz (HO1.keep hbf);have HFW:=jz hfw;clear hbf HF hfw HB1 HO1;cases fb with
 | false=>
  go_wp2_with fail
  refine(lT wf).mono ?_;rintro e w3 ⟨rfl,hb3⟩;go_wp2_with fail
  go_ret;exact⟨rfl,aB HBF.out hb3⟩
 | true=>
 have HFE:=jz (HFW.out rfl);have hl40:=HFE.out.1;clear HFW;have hro:=HOF.range;rw[jt] at hro;have hlo:=fP p;have HFP:Hid (Calls Tryz.prog 7 #[.slice (some ⟨wf.heap.size,0,none⟩) 1 1] (wf.alloc (.cells (aZ p).toArray 31)) fun e w'=>∃ b:Bool,e = .returned (.int .i64 (if b then 1 else 0))∧Below (wf.alloc (.cells (aZ p).toArray 31)).heap.size (wf.alloc (.cells (aZ p).toArray 31)) w'∧(b=true→[p].length≤40∧∀ o∈[p],l9 o)):=jz (by
  have hnew:Sn (wf.alloc (.cells (aZ p).toArray 31)) 5 (.slice (some ⟨wf.heap.size,0,none⟩) 1 1) [p].length ([p].flatMap aZ):=by
   have:=Sn.new wf (aZ p).toArray 31 5 1 (by simp[aZ])
   rw[List.flatMap_singleton]
   exact this
  exact DF (some ⟨wf.heap.size,0,none⟩) 1 [p] _ hnew (fun o ho=>by rw[List.mem_singleton.1 ho];exact HP.keep (aB HBF.out (aN _ _))) (by simp))
 obtain⟨wg,hwg⟩:=je (wf.alloc (.cells (aZ p).toArray 31));have HBG:Hid (Below w.heap.size w wg):=jz (by rw[hwg];exact aB HBF.out (aN _ _));have HOG:Hid (Blk wg go 31 (aZ p).toArray):=jz (by rw[hwg];exact HOF.keep (aN _ _));rw[← hwg] at HFP;go_wp2_with (first
  | (refine ld 31 _ rfl rfl rfl hro Tryz.underlying31 rfl (DE p) ?_)
  | (refine KL KM _ rfl rfl (by rfl) hlo (by omega) ?_))
 rw[← hwg];clear hwg hro HOF HBF;refine HFP.mono ?_;rintro e w2 ⟨fb,rfl,hb2,hfw⟩;have HB2:=jz (aB HBG.out hb2);have HO2:=jz (HOG.keep hb2);have HFW:=jz hfw;clear hb2 HFP hfw HBG HOG;cases fb with
 | false=>
  go_wp2_with fail
  refine(lT w2).mono ?_;rintro e w3 ⟨rfl,hb3⟩;go_wp2_with fail
  go_ret;exact⟨rfl,aB HB2.out hb3⟩
 | true=>
 have HFP:Hid (l9 p):=jz ((HFW.out rfl).2 p (List.mem_singleton.2 rfl));clear HFW;obtain⟨N,hN⟩:∃ N:Nat,N=2+n % 10:=⟨_,rfl⟩;have hN11:N≤11:=by omega
 have HN2:Hid (2≤N):=jz (by omega);have HNI:Hid (2+(n:Int) % 10=(N:Int)):=jz (by omega);have HND:=jz (fun W=>qX N W (by omega) (by omega));have HNR:=jz (fun W=>CJ N W (by omega));obtain⟨r0,hr0⟩:=je (iG N);have HR0:=jz hr0;clear hN hr0;go_upto_region 4 with fail
 rw[HNI.out];go_wp2_with fail
 refine(HND.out w2).mono ?_;rintro e w3 ⟨m,rfl,hk3,hb3,hf3⟩;have HST3:Hid (St w2 w3 m (fV N)):=jz ⟨hk3,hf3,hb3⟩;clear hk3 hb3 hf3;go_wp2_with fail
 refine(HNR.out w3).mono ?_;rintro e w4 ⟨mr,rfl,hk4,hb4,hf4⟩;have HPB4:=jz (BR HST3.out hb4 hk4 hf4);rw[← HR0.out] at HPB4 ⊢;obtain⟨C0,hC0⟩:=je (ppC m.g (.pointer none) mr r0 (.slice none 0 0) (.slice none 0 0) rc0 0);have HC0:=jz hC0;obtain⟨X0,hX0⟩:=je (aA mr r0);have hblt:=xX m.g mr r0;rw[← hX0,← hC0] at hblt;have HBLT:=jz hblt;rw[← hX0];have hone4:C0.all (·.oneCell')=true:=by rw[hC0];exact hU HPB4.out 0 m.g
 have hsz1:(Tryz.prog.info? 65).map (·.size)=some C0.size:=by rw[hC0];exact ppI
 have hsz2:ppZ.size=C0.size:=by rw[hC0];rfl
 clear hk4 hb4 hf4 hC0 hX0 hblt;go_upto_region 5 with (first
  | (refine bld 65 _ rfl rfl rfl HBLT.out ?_)
  | (refine al 65 ppZ rfl rfl tE ?_)
  | (refine cR (cells:=C0) 65 (.tmp 8) (.tmp 37) rfl rfl (by rfl) (by rfl) hsz1 hsz2 hone4 ?_;intro w5 hB5 hb5 hs5))
 rw[HC0.out] at hB5;obtain⟨gz,hgz⟩:=je w4.heap.size;have HX5:Hid (BY w2 w5 gz N 0 m (fV N) (.pointer none) [] none mr r0 (.slice none 0 0) (.slice none 0 0) rc0 0):=jz (by
  have hpb:=HPB4.out
  exact⟨hpb.keep hb5,by rw[hgz];exact hB5,hpb.far_new (by omega),fun hr=>by have:=hpb.rv.bl _ hr;omega,by have:=hpb.st.bel.size;omega,Nat.zero_le _,List.length_replicate,by rw[HR0.out];exact List.length_replicate,by rw[HR0.out];show(0:Int)≤_;omega,by rw[HR0.out];exact Nat.zero_le _,by rw[HR0.out];exact Nat.zero_le _,Nat.zero_le _,Int.le_refl _,by omega⟩)
 rw[← hgz];clear hB5 hb5 hs5 hgz HST3 HPB4 hone4 hsz1 hsz2 HBLT HC0;go_wp2_with fail
 refine(HND.out w5).mono ?_;rintro e w6 ⟨m2,rfl,hk6,hb6,hf6⟩;have HST6:Hid (St w5 w6 m2 (fV N)):=jz ⟨hk6,hf6,hb6⟩;clear hk6 hb6 hf6;go_wp2_with fail
 refine(HNR.out w6).mono ?_;rintro e w7 ⟨mr2,rfl,hk7,hb7,hf7⟩;have HPB7:=jz (BR (w2:=w2) ⟨HST6.dk,fun k hk=>Nat.le_trans HX5.pp.st.bel.size (HST6.ft k hk),aB HX5.pp.st.bel HST6.bel⟩ hb7 hk7 hf7);rw[← HR0.out] at HPB7 hf7 ⊢;have HF7:=jz hf7;obtain⟨C0,hC0⟩:=je (ppC m2.g (.pointer none) mr2 r0 (.slice none 0 0) (.slice none 0 0) rc0 0);have HC0:=jz hC0;obtain⟨X0,hX0⟩:=je (aA mr2 r0);have hblt:=xX m2.g mr2 r0;rw[← hX0,← hC0] at hblt;have HBLT:=jz hblt;rw[← hX0];have hone4:C0.all (·.oneCell')=true:=by rw[hC0];exact hU HPB7.out 0 m2.g
 have hsz1:(Tryz.prog.info? 65).map (·.size)=some C0.size:=by rw[hC0];exact ppI
 have hsz2:ppZ.size=C0.size:=by rw[hC0];rfl
 have HB57:Hid (Below w5.heap.size w5 w7):=jz (aB HST6.bel hb7);have HL67:Hid (w6.heap.size≤w7.heap.size):=jz hb7.size;clear hk7 hb7 hf7 hC0 hX0 hblt;go_upto_region 6 with (first
  | (refine bld 65 _ rfl rfl rfl HBLT.out ?_)
  | (refine al 65 ppZ rfl rfl tE ?_)
  | (refine cR (cells:=C0) 65 (.tmp 9) (.tmp 42) rfl rfl (by rfl) (by rfl) hsz1 hsz2 hone4 ?_;intro w8 hB8 hb8 hs8))
 rw[HC0.out] at hB8;obtain⟨g2,hg2⟩:=je w7.heap.size;have HQ8:Hid (BY w2 w8 g2 N 0 m2 (fV N) (.pointer none) [] none mr2 r0 (.slice none 0 0) (.slice none 0 0) rc0 0):=jz (by
  have hpb:=HPB7.out
  exact⟨hpb.keep hb8,by rw[hg2];exact hB8,hpb.far_new (by omega),fun hr=>by have:=hpb.rv.bl _ hr;omega,by have:=hpb.st.bel.size;omega,Nat.zero_le _,List.length_replicate,by rw[HR0.out];exact List.length_replicate,by rw[HR0.out];show(0:Int)≤_;omega,by rw[HR0.out];exact Nat.zero_le _,by rw[HR0.out];exact Nat.zero_le _,Nat.zero_le _,Int.le_refl _,by omega⟩)
 have HX8:=jz (HX5.keep (aB HB57.out hb8));have HT8:Hid (TW w8 m [] (bF mr r0 (.slice none 0 0) (.slice none 0 0)) gz m2 [] (bF mr2 r0 (.slice none 0 0) (.slice none 0 0)) g2):=jz (K9 HX5.pp HX5.b.lt HST6.out HF7.out (by have:=HL67.out;omega) HQ8.nr);have HRR:Hid (R2y w2 w8 gz g2 N 0):=jz ⟨m,fV N,_,_,none,mr,r0,_,_,rc0,0,m2,_,_,mr2,r0,_,_,rc0,⟨HX8.out,HQ8.out,HT8.out,⟨NP.new N,K3 N HN2.out trivial,fun C e=>by cases e⟩⟩⟩;have hc0:w8.cell? ⟨gz,0,none⟩=some (.pointer (some ⟨m.g,0,none⟩)):=(HX8.b.cell 0).trans rfl;have hd0:w8.cell? ⟨g2,0,none⟩=some (.pointer (some ⟨m2.g,0,none⟩)):=(HQ8.b.cell 0).trans rfl;rw[← hg2];clear hB8 hb8 hs8 hg2 HST6 HPB7 HND HNR hone4 hsz1 hsz2 HBLT HC0 HX5 HX8 HQ8 HT8 HF7 HB57 HL67 HR0;go_wp2_with fail
 clear hc0 hd0;go_loopw [10] (fun i wr=>∃ k:Nat,k≤l.length∧i = .int .i64 k∧Hid (R2y w2 wr gz g2 N k)) (fun i _=>l.length-(intOf i).toNat)
 case atStart=>exact⟨0,Nat.zero_le _,rfl,HRR⟩
 case round=>
  clear HRR;obtain⟨k,hk,rfl,HR⟩:=hrel;obtain⟨m,d,cv,F,co,mr,r,v,x,C,now,m2,cv2,F2,mr2,r2,v2,x2,C2,hx⟩:=HR.out;have hbw:Below w.heap.size w wr:=aB HB2.out hx.a.pp.st.bel;have HBW:=jz hbw;rcases Nat.lt_or_ge k l.length with hlt|hge
  ·have ho:=HOK.out _ (List.getElem_mem hlt);obtain⟨b,off,hA,hr⟩:=qK (HS.below hbw) k hlt;have hob:∀ W,Below w.heap.size w W→W.rangeAt b (off+k*5) (aZ l[k]):=fun W hb=>DI (HS.below hb) hlt hA
   subst hA;have hfe:=HFE.out.2 _ (List.getElem_mem hlt);obtain⟨o,hoe⟩:=je (l[k]);rw[← hoe] at ho hfe hob hr;have HOI:=jz (DE o);have HO:=jz ho;have HFO:=jz hfe;have HOB:=jz hob;have hi0:(0:Int)≤k:=by omega
   have hi1:(k:Int)<l.length:=by omega
   have hk39:k≤39:=by omega
   have c0:wr.cell? ⟨b,off+k*5,none⟩=some (.int .i64 o.kind):=hr 0 _ rfl;have HX:=jz hx;clear ho hfe hob hr hbw hoe hx HR;rcases jb (o.kind == 4) with t4|t4
   ·have HRN:Hid (R2y w2 wr gz g2 N (k+1)):=jz HX.more;go_wp2_with fail
    exact⟨⟨k+1,by omega,by go_num,HRN⟩,by simp[intOf];omega⟩
   rcases jb (o.kind == 5) with t5|t5
   ·have HRN:Hid (R2y w2 wr gz g2 N (k+1)):=jz HX.more;go_wp2_with fail
    exact⟨⟨k+1,by omega,by go_num,HRN⟩,by simp[intOf];omega⟩
   have HK45:Hid (¬o.kind=4∧¬o.kind=5):=jz ⟨by simpa using t4,by simpa using t5⟩;have HIC:Hid (IC N (k+1) (opI d co o now).1 (opI d co o now).2):=jz (KF HX.i HX.a.pp.st HX.a.pp.co (by omega) (by have:=HX.a.rm;omega) HN2.out (by omega) o now HK45.out.1 HK45.out.2 (by
    obtain⟨f1,f2,f3,f4,f5⟩:=HFO.out
    have:=HX.a.n0
    have:=HX.a.n1
    exact⟨by omega,by omega⟩))
   go_upto_region 12 with fail
   clear c0 t4 t5;obtain⟨wS,hwS⟩:=je wr.drew;have hbS:Below wr.heap.size wr wS:=by rw[hwS];exact(Below.refl _ _).drew
   have HXS:=jz (HX.a.keep hbS);have HYS:=jz (HX.b.keep hbS);have HTS:Hid (TW wS m F (bF mr r v x) gz m2 F2 (bF mr2 r2 v2 x2) g2):=jz (HX.t.keep HX.a.pp);have HBS:=jz (aB HBW.out hbS);have hlenP:(Tryz.prog.info? 65).map (·.size)=some (ppC m.g cv mr r v x C now).toList.length:=ppI;have HPL:=jz (BQ o now HXS.pp (HO.keep HB2.out) HFO.out (by have:=HXS.rm;omega) (by have:=HXS.dl;omega) (by have:=HXS.dl;omega) (by omega) (by have:=HXS.rs;have:=nW hk39;omega) (by have:=HXS.ro;have:=nW hk39;omega) (by have:=HXS.rp;have:=nW hk39;omega) (by have:=HXS.el;omega) (by have:=HXS.rl;omega) HXS.n0 (by have:=HXS.n1;omega));clear HX hbS;refine aQ 10 (fun W=>Below w.heap.size w W) (by kernel_rfl) (by kernel_rfl) (by rw[← hwS];exact HBS.out) (fun hH=>?_);rw[← hwS] at hH ⊢;clear hwS;refine jM 1 (.tmp 1) (some 73) (.slice (some ⟨b,off,none⟩) l.length cap) hH ?_;simp only[jq];refine jM 2 (.tmp 10) (some 74) (.int .i64 k) hH ?_;simp only[jq];refine jT 3 (.indexAddr 22 (.tmp 73) (.tmp 74)) (some 75) (.pointer (some ⟨b,off+k*5,none⟩)) hH ?_;simp only[jq];refine jL 4 31 (.tmp 75) (some 76) (cs:=aZ o) (fun _ hX=>HOB.out _ hX) Tryz.underlying31 rfl HOI.out hH ?_;simp only[jq];refine jW [0] ?_;refine i0 0 65 (.tmp 8) (some 72) (cs:=(ppC m.g cv mr r v x C now).toList) (by kernel_rfl) (by kernel_rfl) (by exact rfl) HXS.b.range Tryz.underlying65 rfl hlenP HBS.out ?_ jN;simp only[jq];refine jW [5] ?_;refine jC 5 (.call { callee:=.value (.func 23),args:=#[.tmp 72,.tmp 76],argTypes:=#[65,31] }) (some 77) 23 (#[.agg (ppC m.g cv mr r v x C now),.agg (aZ o).toArray]) ?_ jN;refine HPL.mono ?_;rintro e w6 ⟨mA,cvA,FA,mrA,rA,vA,xA,CA,bb,rfl,hg6,hp6,hx6,hs6,hrb6,hrl6,hre6⟩;have HB6:Hid (Blk w6 gz 65 (ppC m.g cv mr r v x C now)):=jz ((hx6.2 gz HXS.b.lt HXS.f).1.trans HXS.b);have HP1:Hid (∀ u∈(ppC m.g cvA mrA rA vA xA CA (b9 o now)).toList,u.oneCell'=true):=jz (by have:=lU hp6 (b9 o now);rwa [hg6] at this);have HXN:=jz (HXS.step hk39 hN11 HFO.out hg6 hp6 hx6 hs6 hrb6 hrl6 hre6);have HTN:=jz (HTS.step HYS.out hx6 hp6.st.bel hs6);have HH0:=jz HXS.h0;have HW6:Hid (Below w.heap.size w w6):=jz (aB HB2.out hp6.st.bel);clear hg6 hp6 hx6 hs6 hrb6 hrl6 hre6;refine⟨_,rfl,HW6.out,fun hH=>?_⟩;simp only[jq];refine jM 6 (.tmp 77) (some 71) (.tuple #[.agg (ppC m.g cvA mrA rA vA xA CA (b9 o now)),.bool bb]) hH ?_;simp only[jq];refine jT 7 (.extract (.tmp 71) 0) (some 78) (.agg (ppC m.g cvA mrA rA vA xA CA (b9 o now))) hH ?_;simp only[jq];refine jT 8 (.extract (.tmp 71) 1) (some 79) (.bool bb) hH ?_;simp only[jq];have hSS:Below w.heap.size w (w6.setCells gz 0 (ppC m.g cvA mrA rA vA xA CA (b9 o now)).toList):=aB HB2.out HXN.pp.st.bel;refine jW [9] ?_;refine jR 9 65 (.tmp 8) (.tmp 78) none (cs:=(ppC m.g cvA mrA rA vA xA CA (b9 o now)).toList) (aF HB6.out rfl) ppI HP1.out hSS ?_ jN;simp only[jq];refine wpAnyH_done (by kernel_rfl) ?_ _;have hst:=HTN.out.2.store HTN.out.1 (dA gz (ppC m.g cvA mrA rA vA xA CA (b9 o now)).toList 0 w6) HH0.out;have hsz:(w6.setCells gz 0 (ppC m.g cvA mrA rA vA xA CA (b9 o now)).toList).heap.size=w6.heap.size:=(aO (Nat.le_refl gz) _ 0 w6).2;have HYZ:=jz hst.1;have HTZ:=jz (hst.2 hsz);obtain⟨wz,hwz⟩:=je ((w6.setCells gz 0 (ppC m.g cvA mrA rA vA xA CA (b9 o now)).toList));rw[← hwz] at HXN HYZ HTZ ⊢;have HXZ:=HXN;clear hwz hSS hst hsz HXN HTN HH0 HPL hlenP;go_upto_region 13 with fail
   obtain⟨wr,hwr⟩:=je wz;rw[← hwr] at HXZ HYZ HTZ ⊢;clear hwr wz;obtain⟨wS,hwS⟩:=je wr.drew;have hbS:Below wr.heap.size wr wS:=by rw[hwS];exact(Below.refl _ _).drew
   have HXS:=jz (HYZ.keep hbS);have HYS:=jz (HXZ.keep hbS);have HTS:Hid (TW wS m2 F2 (bF mr2 r2 v2 x2) g2 mA FA (bF mrA rA vA xA) gz):=jz ((HTZ.keep HXZ.pp).symm);have HBS:=jz (aB HB2.out HXS.pp.st.bel);have hlenP:(Tryz.prog.info? 65).map (·.size)=some (ppC m2.g cv2 mr2 r2 v2 x2 C2 now).toList.length:=ppI;have HPL:=jz (BQ o now HXS.pp (HO.keep HB2.out) HFO.out (by have:=HXS.rm;omega) (by have:=HXS.dl;omega) (by have:=HXS.dl;omega) (by omega) (by have:=HXS.rs;have:=nW hk39;omega) (by have:=HXS.ro;have:=nW hk39;omega) (by have:=HXS.rp;have:=nW hk39;omega) (by have:=HXS.el;omega) (by have:=HXS.rl;omega) HXS.n0 (by have:=HXS.n1;omega));clear HXZ HYZ HTZ hbS;refine aQ 10 (fun W=>Below w.heap.size w W) (by kernel_rfl) (by kernel_rfl) (by rw[← hwS];exact HBS.out) (fun hH=>?_);rw[← hwS] at hH ⊢;clear hwS;refine jM 1 (.tmp 1) (some 82) (.slice (some ⟨b,off,none⟩) l.length cap) hH ?_;simp only[jq];refine jM 2 (.tmp 10) (some 83) (.int .i64 k) hH ?_;simp only[jq];refine jT 3 (.indexAddr 22 (.tmp 82) (.tmp 83)) (some 84) (.pointer (some ⟨b,off+k*5,none⟩)) hH ?_;simp only[jq];refine jL 4 31 (.tmp 84) (some 85) (cs:=aZ o) (fun _ hX=>HOB.out _ hX) Tryz.underlying31 rfl HOI.out hH ?_;simp only[jq];refine jW [0] ?_;refine i0 0 65 (.tmp 9) (some 81) (cs:=(ppC m2.g cv2 mr2 r2 v2 x2 C2 now).toList) (by kernel_rfl) (by kernel_rfl) (by exact rfl) HXS.b.range Tryz.underlying65 rfl hlenP HBS.out ?_ jN;simp only[jq];refine jW [5] ?_;refine jC 5 (.call { callee:=.value (.func 23),args:=#[.tmp 81,.tmp 85],argTypes:=#[65,31] }) (some 86) 23 (#[.agg (ppC m2.g cv2 mr2 r2 v2 x2 C2 now),.agg (aZ o).toArray]) ?_ jN;refine HPL.mono ?_;rintro e w6 ⟨mB,cvB,FB,mrB,rB,vB,xB,CB,bb,rfl,hg6,hp6,hx6,hs6,hrb6,hrl6,hre6⟩;have HB6:Hid (Blk w6 g2 65 (ppC m2.g cv2 mr2 r2 v2 x2 C2 now)):=jz ((hx6.2 g2 HXS.b.lt HXS.f).1.trans HXS.b);have HP1:Hid (∀ u∈(ppC m2.g cvB mrB rB vB xB CB (b9 o now)).toList,u.oneCell'=true):=jz (by have:=lU hp6 (b9 o now);rwa [hg6] at this);have HXN:=jz (HXS.step hk39 hN11 HFO.out hg6 hp6 hx6 hs6 hrb6 hrl6 hre6);have HTN:=jz (HTS.step HYS.out hx6 hp6.st.bel hs6);have HH0:=jz HXS.h0;have HW6:Hid (Below w.heap.size w w6):=jz (aB HB2.out hp6.st.bel);clear hg6 hp6 hx6 hs6 hrb6 hrl6 hre6;refine⟨_,rfl,HW6.out,fun hH=>?_⟩;simp only[jq];refine jM 6 (.tmp 86) (some 80) (.tuple #[.agg (ppC m2.g cvB mrB rB vB xB CB (b9 o now)),.bool bb]) hH ?_;simp only[jq];refine jT 7 (.extract (.tmp 80) 0) (some 87) (.agg (ppC m2.g cvB mrB rB vB xB CB (b9 o now))) hH ?_;simp only[jq];refine jT 8 (.extract (.tmp 80) 1) (some 88) (.bool bb) hH ?_;simp only[jq];have hSS:Below w.heap.size w (w6.setCells g2 0 (ppC m2.g cvB mrB rB vB xB CB (b9 o now)).toList):=aB HB2.out HXN.pp.st.bel;refine jW [9] ?_;refine jR 9 65 (.tmp 9) (.tmp 87) none (cs:=(ppC m2.g cvB mrB rB vB xB CB (b9 o now)).toList) (aF HB6.out rfl) ppI HP1.out hSS ?_ jN;simp only[jq];refine wpAnyH_done (by kernel_rfl) ?_ _;have hst:=HTN.out.2.store HTN.out.1 (dA g2 (ppC m2.g cvB mrB rB vB xB CB (b9 o now)).toList 0 w6) HH0.out;have hsz:(w6.setCells g2 0 (ppC m2.g cvB mrB rB vB xB CB (b9 o now)).toList).heap.size=w6.heap.size:=(aO (Nat.le_refl g2) _ 0 w6).2;have HYZ:=jz hst.1;have HTZ:=jz (hst.2 hsz);obtain⟨wz,hwz⟩:=je ((w6.setCells g2 0 (ppC m2.g cvB mrB rB vB xB CB (b9 o now)).toList));rw[← hwz] at HXN HYZ HTZ ⊢;have HXZ:=HXN;clear hwz hSS hst hsz HXN HTN HH0 HPL hlenP;have HRN:Hid (R2y w2 wz gz g2 N (k+1)):=jz ⟨_,_,_,_,_,_,_,_,_,_,_,_,_,_,_,_,_,_,_,⟨HYZ.out,HXZ.out,HTZ.symm,HIC.out⟩⟩;go_wp2_with fail
   exact⟨⟨k+1,by omega,by go_num,HRN⟩,by simp[intOf];omega⟩
  ·obtain rfl:k=l.length:=by omega
   have HX:Hid (EE w2 wr gz m.g g2 N l.length (20+l.length) m d cv F co mr r v x C now m2 d cv2 F2 co mr2 r2 v2 x2 C2):=jz ⟨⟨hx.a.pp,hx.a.b,hx.a.f,rfl⟩,hx.b,hx.t⟩;have HRM:=jz hx.a.rm;have HDL:=jz hx.a.dl;have HIC:=jz hx.i;have HGO:Hid (Blk wr go 31 (aZ p).toArray):=jz ((hx.a.pp.st.bel.block go HO2.lt).trans HO2.out);have hnow0:(0:Int)≤now:=hx.a.n0;have hnow1:now≤1048576*((l.length:Nat):Int):=hx.a.n1;clear hx HR hge hbw;have hc1:wr.cell? ⟨gz,1,none⟩=some cv:=(HX.p.b.cell 1).trans rfl;have hc16:wr.cell? ⟨gz,16,none⟩=some (.int .i64 now):=(HX.p.b.cell 16).trans rfl;have HLV:=jz (DN now HX.p.pp.co (by omega));have HOKL:=jz (IU HX.p.pp.co now);go_wp2_with fail
   refine HLV.mono ?_;rintro e w3 ⟨vl,rfl,hsn,hb3,how⟩;obtain⟨LL,hLL⟩:=je (nX co now);rw[← hLL] at hsn HOKL;obtain⟨Al,cl,rfl⟩:=hsn.slc21;have HVF:Hid (VF w3 m F (.slice Al LL.length cl) LL):=jz (VF.new HX.p.pp.st.dk (fun b hb=>(HX.p.pp.co.far b hb).2) hsn how);have HX3:=jz (HX.keep hb3);have HGO3:=jz (HGO.keep hb3);have HLL:=jz hLL;clear hsn hb3 how hLL HX HGO HLV hc1 hc16;have hc1:w3.cell? ⟨gz,1,none⟩=some cv:=(HX3.p.b.cell 1).trans rfl;have hc16:w3.cell? ⟨gz,16,none⟩=some (.int .i64 now):=(HX3.p.b.cell 16).trans rfl;have HCM:=jz (mW now HX3.p.pp.co HX3.p.pp.st (by omega) (by have:=HRM.out;omega));rcases IV HIC.out HX3.p.pp.st (by omega) (by omega) (by have:=HRM.out;omega) now with ⟨xe,hxe,hbk⟩|⟨C1,hA,hO,hcnt,hlv,hins⟩
   ·obtain⟨te,ue,hve⟩:=cV xe;rw[hxe,hve] at HCM;have hneq:=dS te ue;have HBK:=jz hbk;clear hxe hve hbk;go_wp2_with fail
    refine HCM.mono ?_;rintro e w4 ⟨rfl,m4,hg4,ht4,hs4,hcc⟩;have HX4:=jz (HX3.op hg4 ht4 hs4 hcc);clear hg4 ht4 hs4 hcc hc1 hc16 HCM;have hc1:w4.cell? ⟨gz,1,none⟩=some cv:=(HX4.p.b.cell 1).trans rfl;have HBR:=jz (oX HX4.p.pp.co);rw[HBK.out] at HBR;go_wp2_with fail
    refine HBR.mono ?_;rintro e wq ⟨rfl,hwq⟩;rw[hwq];clear hwq wq HBR;go_wp2_with fail
    go_ret;exact⟨rfl,aB HB2.out HX4.p.pp.st.bel⟩
   have hnil:cC none = .nilIface:=rfl;rw[hA,hO,hnil] at HCM;rw[← HLL.out] at hcnt hlv;obtain⟨d1,hd1⟩:=je ((mV d co now).1);rw[← hd1] at HCM hins;have HROOM:Hid (d1.room≤d.room+2000∧d1.sec.length=d.sec.length):=jz (by
    rw[hd1]
    cases co with
    | none=>exact⟨by show d.room≤_;omega,rfl⟩
    | some Cq=>
     have h1:=lS HX3.p.pp.st.dk.ok.st (d.sec.length/2) Cq now
     have h2:Cq.E.length≤20+l.length:=by
      rcases HX3.p.pp.co with ⟨_,_,h⟩|⟨_,_,_,_,C',_,_,h,h4,_⟩
      ·cases h
      ·injection h with h;subst h;exact h4.ix.len
     exact⟨by have:=h1.1;show(cmpR _ _ _ _).2.1.room≤_;omega,h1.2⟩)
   have HINS:=jz hins;have HLV2:=jz hlv;clear hA hO hnil hd1 hins hlv;go_wp2_with fail
   refine HCM.mono ?_;rintro e w4 ⟨rfl,m4,hg4,ht4,hs4,hcc⟩;have HV4:=jz (HVF.ct ht4);have HX4:=jz (HX3.op hg4 ht4 hs4 hcc);have HGO4:Hid (Blk w4 go 31 (aZ p).toArray):=jz ((hs4.bel.block go HO2.lt).trans HO2.out);clear hg4 ht4 hs4 hcc hc1 hc16 HCM HX3 HVF HGO3;have hc1:w4.cell? ⟨gz,1,none⟩=some cv:=(HX4.p.b.cell 1).trans rfl;have hc16:w4.cell? ⟨gz,16,none⟩=some (.int .i64 now):=(HX4.p.b.cell 16).trans rfl;have HLV:=jz (DN now HX4.p.pp.co (by omega));rw[HLV2.out] at HLV;go_wp2_with fail
   refine HLV.mono ?_;rintro e w5 ⟨vm,rfl,hsn,hb5,how⟩;have HX5:=jz (HX4.keep hb5);have HGO5:=jz (HGO4.keep hb5);have HSM:=jz (IH vm (.slice Al LL.length cl) LL LL w5 hsn HOKL.out.1 (HV4.keep hb5).sn HOKL.out.1 (by have:=HOKL.out.2;omega) (by have:=HOKL.out.2;omega));have hdec:decide (LL=LL)=true:=decide_eq_true rfl;rw[hdec] at HSM;clear hsn hb5 how hdec HX4 HGO4 HV4 HLV hc1 hc16;go_wp2_with fail
   refine HSM.mono ?_;rintro e w6 ⟨rfl,hb6⟩;have HX6:=jz (HX5.keep hb6);have HGO6:=jz (HGO5.keep hb6);clear hb6 HSM HX5 HGO5;have hc1:w6.cell? ⟨gz,1,none⟩=some cv:=(HX6.p.b.cell 1).trans rfl;have HUS:=jz (KH HX6.p.pp.co);rw[hcnt] at HUS;clear hcnt;go_wp2_with fail
   refine HUS.mono ?_;rintro e wq ⟨rfl,hwq⟩;rw[hwq];clear hwq wq HUS hc1;obtain⟨f1,f2,f3,f4,f5⟩:=HFP.out;have ht64:aK (now+p.more):=⟨by omega,by omega⟩;have hta : -9223372036854775808≤now+p.more:=ht64.1;have htb:now+p.more≤9223372036854775807:=ht64.2;obtain⟨c0,c1,c2,c3,cc⟩:=gD HGO6.out;have hc16:w6.cell? ⟨gz,16,none⟩=some (.int .i64 now):=(HX6.p.b.cell 16).trans rfl;have HNU:=jz (nS p.ent (now+p.more) w6 ht64);have hq:=g5 p.ent (now+p.more) ht64;obtain⟨q,hqe⟩:=je (gZ p.ent (now+p.more));rw[← hqe] at hq HNU;clear c0 c1 cc hqe;go_wp2_with fail
   refine HNU.mono ?_;rintro e w7 ⟨rfl,hb7⟩;have HX7:=jz (HX6.keep hb7);have HQ:=jz hq;have hql:=aH q hq;have HQI:Hid ((Tryz.prog.info? 35).map (·.size)=some (aC q).length):=jz (by rw[hql];kernel_rfl);have hsz1:(Tryz.prog.info? 35).map (·.size)=some (aC q).toArray.size:=by rw[js];exact HQI.out
   have hsz2:zE.size=(aC q).toArray.size:=by rw[dR,js,hql]
   have hone:(aC q).toArray.all (·.oneCell')=true:=dK _ _;obtain⟨E,hE⟩:=je ((aC q).toArray);rw[← hE] at hsz1 hsz2 hone ⊢;have HE:=jz hE;clear hE hql hq hb7 hta htb ht64 HNU HX6 c2 c3 hc16 HGO6;go_upto_region 20 with (first
    | (refine al 35 _ rfl rfl iE ?_)
    | (refine cR (cells:=E) 35 (.tmp 12) (.tmp 126) rfl rfl (by rfl) (by rfl) hsz1 hsz2 hone ?_;intro w8 hB8 hb8 hs8))
   obtain⟨gE,hgE⟩:=je w7.heap.size;rw[← hgE] at hB8 ⊢;have HX8:=jz (HX7.keep hb8);have HBE:Hid (Blk w8 gE 35 (aC q).toArray):=jz (by rw[← HE.out];exact hB8);have HFE8:Hid (Far m4 F gE):=jz (HX7.p.pp.far_new (by omega));clear hB8 hb8 hs8 hsz1 hsz2 hone HE hgE HX7;have hc1:w8.cell? ⟨gz,1,none⟩=some cv:=(HX8.p.b.cell 1).trans rfl;have hc16:w8.cell? ⟨gz,16,none⟩=some (.int .i64 now):=(HX8.p.b.cell 16).trans rfl;have hre:=HBE.range;rw[jt] at hre;have HIN:=jz (lV q now HX8.p.pp.co HX8.p.pp.st HQ.out (by omega) (by have:=HRM.out;have:=HROOM.out.1;omega));have HIQ:=HINS.out q HQ.out;rw[HIQ] at HIN;obtain⟨z,hz⟩:=je (E5 d co q now);rw[← hz] at HIN;have HZ:=jz hz;clear HIQ hz;go_wp2_with (refine ld 35 _ rfl rfl rfl hre Tryz.underlying35 rfl HQI.out ?_)
   refine HIN.mono ?_;rintro e w9 ⟨rfl,m9,hg9,ht9,hs9,hcc⟩;have HX9:=jz (HX8.op hg9 ht9 hs9 hcc);have HBE9:Hid (Blk w9 gE 35 (aC q).toArray):=jz (HBE.ct ht9 HFE8.out);clear hg9 ht9 hs9 hcc hre hc1 hc16 HIN HX8 HBE HFE8;have hd1:w9.cell? ⟨g2,1,none⟩=some cv2:=(HX9.q.b.cell 1).trans rfl;have hc16:w9.cell? ⟨gz,16,none⟩=some (.int .i64 now):=(HX9.p.b.cell 16).trans rfl;have hre:=HBE9.range;rw[jt] at hre;have HIN:=jz (lV q now HX9.q.pp.co HX9.q.pp.st HQ.out (by omega) (by have:=HRM.out;omega));rw[← HZ.out] at HIN;go_wp2_with (refine ld 35 _ rfl rfl rfl hre Tryz.underlying35 rfl HQI.out ?_)
   refine HIN.mono ?_;rintro e w10 ⟨rfl,m10,hg10,ht10,hs10,hcc⟩;have HB10:Hid (Below w2.heap.size w2 w10):=jz hs10.bel;clear hg10 ht10 hs10 hcc hre hd1 hc16 HIN;go_wp2_with fail
   go_ret;exact⟨rfl,aB HB2.out HB10.out⟩
end Go.Proofs.YtombncedfleljaaGreat
