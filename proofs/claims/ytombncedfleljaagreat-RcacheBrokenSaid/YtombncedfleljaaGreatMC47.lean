import Derived.Test.YtombncedfleljaaGreatMC46
set_option linter.unusedVariables false
set_option linter.unusedSimpArgs false
set_option maxRecDepth 100000
set_option maxHeartbeats 40000000
namespace Go.Proofs.YtombncedfleljaaGreat
open Go.RowKit
attribute [local irreducible] wpQuiet wpAnyH
theorem BS(n:Nat)(hn:n≤255)(A:Option Addr)(cap:Nat)(l:List Op21)(p:Op21)(w:World)(hs:Sn w 5 (.slice A l.length cap) l.length (l.flatMap aZ))(hok:∀ o∈l,Op21Ok w o)(hl:l.length≤9223372036854775807)(hp:Op21Ok w p):
  Calls Tryz.prog 5 #[.int .u8 n,.slice A l.length cap,.agg (aZ p).toArray] w fun e w'=>e = .returned (.bool true)∧Below w.heap.size w w':=by
 have HS:=jz hs;have HOK:=jz hok;have HP:=jz hp;clear hs hok hp;have hni:(n:Int)≤255:=by omega
 have hn0:(0:Int)≤n:=by omega
 obtain⟨w0,hw0⟩:=je (w.alloc (.cells (aZ p).toArray 31));obtain⟨go,hgo⟩:=je w.heap.size;have HB0:Hid (Below w.heap.size w w0):=jz (by rw[hw0];exact aN _ _);have HO0:Hid (Blk w0 go 31 (aZ p).toArray):=jz (by rw[hw0,hgo];exact Blk.new _ _ _);go_enter Tryz.func5,Tryz.ntmps5
 go_upto_region 1 with fail
 rw[← hw0];simp only[← hgo];clear hw0 hgo;go_wp2_with fail
 refine(lT w0).mono ?_;rintro e w1 ⟨rfl,hb1⟩;have HB1:=jz (aB HB0.out hb1);have HO1:=jz (HO0.keep hb1);have HF:=jz (DF A cap l w1 (HS.below HB1.out) (fun o ho=>(HOK.out o ho).keep HB1.out) hl);clear hb1 HB0 HO0;go_wp2_with fail
 refine HF.mono ?_;rintro e wf ⟨fb,rfl,hbf,hfw⟩;have HBF:=jz (aB HB1.out hbf);have HOF:=jz (HO1.keep hbf);have HFW:=jz hfw;clear hbf HF hfw HB1 HO1;cases fb with
 | false=>
  go_wp2_with fail
  refine(lT wf).mono ?_;rintro e w3 ⟨rfl,hb3⟩;go_wp2_with fail
  go_ret;exact⟨rfl,aB HBF.out hb3⟩
 | true=>
 have HFE:=jz (HFW.out rfl);have hl40:=HFE.out.1;clear HFW;have hro:=HOF.range;rw[jt] at hro;have hlo:=fP p;have HFP:Hid (Calls Tryz.prog 7 #[.slice (some ⟨wf.heap.size,0,none⟩) 1 1] (wf.alloc (.cells (aZ p).toArray 31)) fun e w'=>∃ b:Bool,e = .returned (.int .i64 (if b then 1 else 0))∧Below (wf.alloc (.cells (aZ p).toArray 31)).heap.size (wf.alloc (.cells (aZ p).toArray 31)) w'∧(b=true→[p].length≤40∧∀ o∈[p],l9 o)):=jz (by
  have hnew:Sn (wf.alloc (.cells (aZ p).toArray 31)) 5 (.slice (some ⟨wf.heap.size,0,none⟩) 1 1) [p].length ([p].flatMap aZ):=by
   have:=Sn.new wf (aZ p).toArray 31 5 1 (by simp[aZ])
   rw[List.flatMap_singleton]
   exact this
  exact DF (some ⟨wf.heap.size,0,none⟩) 1 [p] _ hnew (fun o ho=>by rw[List.mem_singleton.1 ho];exact HP.keep (aB HBF.out (aN _ _))) (by simp))
 obtain⟨wg,hwg⟩:=je (wf.alloc (.cells (aZ p).toArray 31));have HBG:Hid (Below w.heap.size w wg):=jz (by rw[hwg];exact aB HBF.out (aN _ _));have HOG:Hid (Blk wg go 31 (aZ p).toArray):=jz (by rw[hwg];exact HOF.keep (aN _ _));rw[← hwg] at HFP;go_wp2_with (first
  | (refine ld 31 _ rfl rfl rfl hro Tryz.underlying31 rfl (DE p) ?_)
  | (refine KL KM _ rfl rfl (by rfl) hlo (by omega) ?_))
 rw[← hwg];clear hwg hro HOF HBF;refine HFP.mono ?_;rintro e w2 ⟨fb,rfl,hb2,hfw⟩;have HB2:=jz (aB HBG.out hb2);have HO2:=jz (HOG.keep hb2);have HFW:=jz hfw;clear hb2 HFP hfw HBG HOG;cases fb with
 | false=>
  go_wp2_with fail
  refine(lT w2).mono ?_;rintro e w3 ⟨rfl,hb3⟩;go_wp2_with fail
  go_ret;exact⟨rfl,aB HB2.out hb3⟩
 | true=>
 have HFP:Hid (l9 p):=jz ((HFW.out rfl).2 p (List.mem_singleton.2 rfl));clear HFW;obtain⟨N,hN⟩:∃ N:Nat,N=2+n % 10:=⟨_,rfl⟩;have hN11:N≤11:=by omega
 have HNI:Hid (2+(n:Int) % 10=(N:Int)):=jz (by omega);have HND:=jz (qX N w2 (by omega) (by omega));have HNR:=jz (fun W=>CJ N W (by omega));clear hN;go_upto_region 4 with fail
 rw[HNI.out];go_wp2_with fail
 refine HND.mono ?_;rintro e w3 ⟨m,rfl,hk3,hb3,hf3⟩;have HST3:Hid (St w2 w3 m (fV N)):=jz ⟨hk3,hf3,hb3⟩;clear hk3 hb3 hf3;go_wp2_with fail
 refine(HNR.out w3).mono ?_;rintro e w4 ⟨mr,rfl,hk4,hb4,hf4⟩;have HPB4:=jz (BR HST3.out hb4 hk4 hf4);obtain⟨r0,hr0⟩:=je (iG N);rw[← hr0] at HPB4 ⊢;have HR0:=jz hr0;obtain⟨C0,hC0⟩:=je (ppC m.g (.pointer none) mr r0 (.slice none 0 0) (.slice none 0 0) rc0 0);have HC0:=jz hC0;obtain⟨X0,hX0⟩:=je (aA mr r0);have hblt:=xX m.g mr r0;rw[← hX0,← hC0] at hblt;have HBLT:=jz hblt;rw[← hX0];have hone4:C0.all (·.oneCell')=true:=by rw[hC0];exact hU HPB4.out 0 m.g
 have hsz1:(Tryz.prog.info? 65).map (·.size)=some C0.size:=by rw[hC0];exact ppI
 have hsz2:ppZ.size=C0.size:=by rw[hC0];rfl
 clear hk4 hb4 hf4 hr0 hC0 hX0 hblt;go_upto_region 5 with (first
  | (refine bld 65 _ rfl rfl rfl HBLT.out ?_)
  | (refine al 65 ppZ rfl rfl tE ?_)
  | (refine cR (cells:=C0) 65 (.tmp 8) (.tmp 36) rfl rfl (by rfl) (by rfl) hsz1 hsz2 hone4 ?_;intro w5 hB5 hb5 hs5))
 rw[HC0.out] at hB5;obtain⟨gz,hgz⟩:=je w4.heap.size;have HRR:Hid (RBy w2 w5 gz N 0):=jz (by
  have hpb:=HPB4.out
  exact⟨m,fV N,_,_,none,mr,r0,_,_,rc0,0,⟨hpb.keep hb5,by rw[hgz];exact hB5,hpb.far_new (by omega),fun hr=>by have:=hpb.rv.bl _ hr;omega,by have:=hpb.st.bel.size;omega,Nat.zero_le _,List.length_replicate,by rw[HR0.out];exact List.length_replicate,by rw[HR0.out];show(0:Int)≤_;omega,by rw[HR0.out];exact Nat.zero_le _,by rw[HR0.out];exact Nat.zero_le _,Nat.zero_le _,Int.le_refl _,by omega⟩⟩)
 have hc0:w5.cell? ⟨gz,0,none⟩=some (.pointer (some ⟨m.g,0,none⟩)):=by rw[hgz];exact(Blk.cell hB5 0).trans rfl
 rw[← hgz];clear hB5 hb5 hs5 hgz HST3 HPB4 HND HNR hone4 hsz1 hsz2;go_wp2_with fail
 clear hc0;go_loopw [9] (fun i wr=>∃ k:Nat,k≤l.length∧i = .int .i64 k∧Hid (RBy w2 wr gz N k)) (fun i _=>l.length-(intOf i).toNat)
 case atStart=>exact⟨0,Nat.zero_le _,rfl,HRR⟩
 case round=>
  clear HRR;obtain⟨k,hk,rfl,HR⟩:=hrel;obtain⟨m,d,cv,F,co,mr,r,v,x,C,now,hx⟩:=HR.out;have hbw:Below w.heap.size w wr:=aB HB2.out hx.pp.st.bel;have HBW:=jz hbw;rcases Nat.lt_or_ge k l.length with hlt|hge
  ·have ho:=HOK.out _ (List.getElem_mem hlt);obtain⟨b,off,hA,hr⟩:=qK (HS.below hbw) k hlt;have hob:∀ W,Below w.heap.size w W→W.rangeAt b (off+k*5) (aZ l[k]):=fun W hb=>DI (HS.below hb) hlt hA
   subst hA;have hfe:=HFE.out.2 _ (List.getElem_mem hlt);obtain⟨o,hoe⟩:=je (l[k]);rw[← hoe] at ho hfe hob;have HOI:=jz (DE o);have HO:=jz ho;have HFO:=jz hfe;have HOB:=jz hob;have hi0:(0:Int)≤k:=by omega
   have hi1:(k:Int)<l.length:=by omega
   have hk39:k≤39:=by omega
   clear ho hfe hob hr hbw hoe;go_upto_region 10 with fail
   obtain⟨wS,hwS⟩:=je wr.drew;have hbS:Below wr.heap.size wr wS:=by rw[hwS];exact(Below.refl _ _).drew
   have HXS:=jz (hx.keep hbS);have HBS:=jz (aB HBW.out hbS);have hlenP:(Tryz.prog.info? 65).map (·.size)=some (ppC m.g cv mr r v x C now).toList.length:=ppI;have HPL:=jz (BQ o now HXS.pp (HO.keep HB2.out) HFO.out (by have:=HXS.rm;omega) (by have:=HXS.dl;omega) (by have:=HXS.dl;omega) (by omega) (by have:=HXS.rs;have:=nW hk39;omega) (by have:=HXS.ro;have:=nW hk39;omega) (by have:=HXS.rp;have:=nW hk39;omega) (by have:=HXS.el;omega) (by have:=HXS.rl;omega) HXS.n0 (by have:=HXS.n1;omega));clear hx hbS;refine aQ 10 (fun W=>Below w.heap.size w W) (by kernel_rfl) (by kernel_rfl) (by rw[← hwS];exact HBS.out) (fun hH=>?_);rw[← hwS] at hH ⊢;clear hwS;refine jM 1 (.tmp 1) (some 48) (.slice (some ⟨b,off,none⟩) l.length cap) hH ?_;simp only[jq];refine jM 2 (.tmp 9) (some 49) (.int .i64 k) hH ?_;simp only[jq];refine jT 3 (.indexAddr 22 (.tmp 48) (.tmp 49)) (some 50) (.pointer (some ⟨b,off+k*5,none⟩)) hH ?_;simp only[jq];refine jL 4 31 (.tmp 50) (some 51) (cs:=aZ o) (fun _ hX=>HOB.out _ hX) Tryz.underlying31 rfl HOI.out hH ?_;simp only[jq];refine jW [0] ?_;refine i0 0 65 (.tmp 8) (some 47) (cs:=(ppC m.g cv mr r v x C now).toList) (by kernel_rfl) (by kernel_rfl) (by exact rfl) HXS.b.range Tryz.underlying65 rfl hlenP HBS.out ?_ jN;simp only[jq];refine jW [5] ?_;refine jC 5 (.call { callee:=.value (.func 23),args:=#[.tmp 47,.tmp 51],argTypes:=#[65,31] }) (some 52) 23 (#[.agg (ppC m.g cv mr r v x C now),.agg (aZ o).toArray]) ?_ jN;refine HPL.mono ?_;rintro e w6 ⟨m',cv',F',mr',r',v',x',C',bb,rfl,hg6,hp6,hx6,hs6,hrb6,hrl6,hre6⟩;have HB6:Hid (Blk w6 gz 65 (ppC m.g cv mr r v x C now)):=jz ((hx6.2 gz HXS.b.lt HXS.f).1.trans HXS.b);have HP1:Hid (∀ u∈(ppC m.g cv' mr' r' v' x' C' (b9 o now)).toList,u.oneCell'=true):=jz (by have:=lU hp6 (b9 o now);rwa [hg6] at this);have HXN:=jz (HXS.step hk39 hN11 HFO.out hg6 hp6 hx6 hs6 hrb6 hrl6 hre6);have HW6:Hid (Below w.heap.size w w6):=jz (aB HB2.out hp6.st.bel);clear hg6 hp6 hx6 hs6 hrb6 hrl6 hre6;refine⟨_,rfl,HW6.out,fun hH=>?_⟩;simp only[jq];refine jM 6 (.tmp 52) (some 46) (.tuple #[.agg (ppC m.g cv' mr' r' v' x' C' (b9 o now)),.bool bb]) hH ?_;simp only[jq];refine jT 7 (.extract (.tmp 46) 0) (some 53) (.agg (ppC m.g cv' mr' r' v' x' C' (b9 o now))) hH ?_;simp only[jq];refine jT 8 (.extract (.tmp 46) 1) (some 54) (.bool bb) hH ?_;simp only[jq];have hSS:Below w.heap.size w (w6.setCells gz 0 (ppC m.g cv' mr' r' v' x' C' (b9 o now)).toList):=aB HB2.out HXN.pp.st.bel;refine jW [9] ?_;refine jR 9 65 (.tmp 8) (.tmp 53) none (cs:=(ppC m.g cv' mr' r' v' x' C' (b9 o now)).toList) (aF HB6.out rfl) ppI HP1.out hSS ?_ jN;simp only[jq];refine wpAnyH_done (by kernel_rfl) ?_ _;obtain⟨wz,hwz⟩:=je ((w6.setCells gz 0 (ppC m.g cv' mr' r' v' x' C' (b9 o now)).toList));rw[← hwz] at HXN ⊢;clear hwz hSS;have HRN:Hid (RBy w2 wz gz N (k+1)):=jz ⟨_,_,_,_,_,_,_,_,_,_,_,HXN.out⟩;go_wp2_with fail
   exact⟨⟨k+1,by omega,by go_num,HRN⟩,by simp[intOf];omega⟩
  ·obtain rfl:k=l.length:=by omega
   have HX:Hid (TY w2 wr gz m.g (20+l.length) m d cv F co mr r v x C now):=jz ⟨hx.pp,hx.b,hx.f,rfl⟩;have HRM:=jz hx.rm;have HN0:=jz (And.intro hx.n0 hx.n1);have HGO:Hid (Blk wr go 31 (aZ p).toArray):=jz ((hx.pp.st.bel.block go HO2.lt).trans HO2.out);clear hx HR hge hbw;rcases HX.pp.co with ⟨rfl,rfl,rfl⟩|⟨gc,gl,gi,bi,Cc,rfl,rfl,rfl,hck,hF⟩
   ·have hc1:wr.cell? ⟨gz,1,none⟩=some (.pointer none):=(HX.b.cell 1).trans rfl;go_wp2_with fail
    go_ret;exact⟨rfl,HBW.out⟩
   have hc1:wr.cell? ⟨gz,1,none⟩=some (.pointer (some ⟨gc,0,none⟩)):=(HX.b.cell 1).trans rfl;have HBR:=jz (sQ hck);obtain⟨bk,hbk⟩:∃ b,Cc.L.brk=b:=⟨_,rfl⟩;rw[hbk] at HBR;have HBK:=jz hbk;clear hck hF hbk;cases bk with
   | false=>
    go_wp2_with fail
    refine HBR.mono ?_;rintro e wq ⟨rfl,hwq⟩;rw[hwq];clear hwq wq;go_wp2_with fail
    go_ret;exact⟨rfl,HBW.out⟩
   | true=>
   go_wp2_with fail
   refine HBR.mono ?_;rintro e wq ⟨rfl,hwq⟩;rw[hwq];clear hwq wq HBR;obtain⟨f1,f2,f3,f4,f5⟩:=HFP.out;have hnow0:=HN0.out.1;have hnow1:=HN0.out.2;have ht64:aK (now+p.more):=⟨by omega,by omega⟩;have hta : -9223372036854775808≤now+p.more:=ht64.1;have htb:now+p.more≤9223372036854775807:=ht64.2;obtain⟨c0,c1,c2,c3,cc⟩:=gD HGO.out;have hc16:wr.cell? ⟨gz,16,none⟩=some (.int .i64 now):=(HX.b.cell 16).trans rfl;have HNU:=jz (nS p.ent (now+p.more) wr ht64);have hq:=g5 p.ent (now+p.more) ht64;obtain⟨q,hqe⟩:=je (gZ p.ent (now+p.more));rw[← hqe] at hq HNU;clear c0 c1 cc hqe;go_wp2_with fail
   refine HNU.mono ?_;rintro e w5 ⟨rfl,hb5⟩;have HX5:=jz (HX.keep hb5);have HQ:=jz hq;have hql:=aH q hq;have HQI:Hid ((Tryz.prog.info? 35).map (·.size)=some (aC q).length):=jz (by rw[hql];kernel_rfl);have hsz1:(Tryz.prog.info? 35).map (·.size)=some (aC q).toArray.size:=by rw[js];exact HQI.out
   have hsz2:zE.size=(aC q).toArray.size:=by rw[dR,js,hql]
   have hone:(aC q).toArray.all (·.oneCell')=true:=dK _ _;obtain⟨E,hE⟩:=je ((aC q).toArray);rw[← hE] at hsz1 hsz2 hone ⊢;have HE:=jz hE;clear hE hql hq hb5 hta htb ht64 HNU HX c2 c3 hc1 hc16 HGO;go_upto_region 14 with (first
    | (refine al 35 _ rfl rfl iE ?_)
    | (refine cR (cells:=E) 35 (.tmp 10) (.tmp 71) rfl rfl (by rfl) (by rfl) hsz1 hsz2 hone ?_;intro w6 hB6 hb6 hs6))
   obtain⟨gE,hgE⟩:=je w5.heap.size;rw[← hgE] at hB6 ⊢;have HX6:=jz (HX5.keep hb6);have HBE:Hid (Blk w6 gE 35 (aC q).toArray):=jz (by rw[← HE.out];exact hB6);have HFE6:Hid (Far m [gl,bi,gc,gi] gE):=jz (HX5.pp.far_new (by omega));clear hB6 hb6 hs6 hsz1 hsz2 hone HE hgE HX5;have hc0:w6.cell? ⟨gz,0,none⟩=some (.pointer (some ⟨m.g,0,none⟩)):=(HX6.b.cell 0).trans rfl;have HSP:=jz (mE w6 m d HX6.pp.st.dk);go_wp2_with fail
   refine HSP.mono ?_;rintro e wq ⟨rfl,hwq⟩;rw[hwq];clear hwq wq HSP hc0;have hc1:w6.cell? ⟨gz,1,none⟩=some (.pointer (some ⟨gc,0,none⟩)):=(HX6.b.cell 1).trans rfl;have hc16:w6.cell? ⟨gz,16,none⟩=some (.int .i64 now):=(HX6.b.cell 16).trans rfl;have hrd:w6.rangeAt gE 0 (u8s q.1):=fun i u hi=>by
    have:=HBE.range i u (by rw[jt];unfold aC cY;rw[List.getElem?_append_left (List.getElem?_eq_some_iff.1 hi).1];exact hi);exact this
   have hui:(Tryz.prog.info? 33).map (·.size)=some (u8s q.1).length:=by rw[show(u8s q.1).length=32 from by unfold u8s;rw[List.length_map];exact HQ.dig.1];kernel_rfl
   have HHS:=jz (K7 HX6.pp.co q.1 now HQ.dig);obtain⟨hb,hhb⟩:∃ b,fI Cc.E q.1 now=b:=⟨_,rfl⟩;rw[hhb] at HHS;have HHB:=jz hhb;clear hhb;go_wp2_with (refine ld 33 _ rfl rfl rfl hrd Tryz.underlying33 rfl hui ?_)
   refine HHS.mono ?_;rintro e w7 ⟨rfl,hb7⟩;have HX7:=jz (HX6.keep hb7);have HBE7:=jz (HBE.keep hb7);clear hb7 hc1 hc16 hrd hui HX6 HBE HHS;have hc1:w7.cell? ⟨gz,1,none⟩=some (.pointer (some ⟨gc,0,none⟩)):=(HX7.b.cell 1).trans rfl;have hc16:w7.cell? ⟨gz,16,none⟩=some (.int .i64 now):=(HX7.b.cell 16).trans rfl;have hre:=HBE7.range;rw[jt] at hre;have hIO:=IQ (d:=d) (q:=q) (now:=now) HBK.out;have HIN:=jz (lV q now HX7.pp.co HX7.pp.st HQ.out (by omega) (by have:=HRM.out;omega));rw[hIO.1,hIO.2,HHB.out] at HIN;clear hIO;go_wp2_with (refine ld 35 _ rfl rfl rfl hre Tryz.underlying35 rfl HQI.out ?_)
   refine HIN.mono ?_;rintro e w8 ⟨rfl,m8,hg8,ht8,hs8,hc8⟩;have HX8:=jz (HX7.op hg8 ht8 hs8 hc8);have HG8:Hid (m8.g=m.g):=jz hg8;clear hg8 ht8 hs8 hc8 hre hc1 hc16 HIN HX7 HBE7;have hc1:w8.cell? ⟨gz,1,none⟩=some (.pointer (some ⟨gc,0,none⟩)):=(HX8.b.cell 1).trans rfl;have hc16:w8.cell? ⟨gz,16,none⟩=some (.int .i64 now):=(HX8.b.cell 16).trans rfl;have hCO:=zT (d:=d) (now:=now) HBK.out;have HCM:=jz (mW now HX8.pp.co HX8.pp.st (by omega) (by have:=HRM.out;omega));rw[hCO.1,hCO.2] at HCM;obtain⟨te,ue,hve⟩:∃ t u,cC (some (11,none)) = .iface t u:=⟨_,_,rfl⟩;rw[hve] at HCM;have hneq:=dS te ue;have HVE:=jz hve;clear hCO hve;cases hb with
   | false=>
    go_wp2_with fail
    refine HCM.mono ?_;rintro e w9 ⟨rfl,m9,hg9,ht9,hs9,hc9⟩;have HX9:=jz (HX8.op hg9 ht9 hs9 hc9);have hc0:w9.cell? ⟨gz,0,none⟩=some (.pointer (some ⟨m.g,0,none⟩)):=(HX9.b.cell 0).trans rfl;have hc1':w9.cell? ⟨gz,1,none⟩=some (.pointer (some ⟨gc,0,none⟩)):=(HX9.b.cell 1).trans rfl;have HSP:=jz (mE w9 m9 d HX9.pp.st.dk);rw[HX9.g] at HSP;have HBR:=jz (oX HX9.pp.co);have HBQ:Hid (KD (some Cc)=true):=jz HBK.out;rw[HBQ.out] at HBR;clear hg9 ht9 hs9 hc9 hc1 hc16 HCM;go_wp2_with fail
    refine HSP.mono ?_;rintro e wq ⟨rfl,hwq⟩;rw[hwq];clear hwq wq HSP;go_wp2_with fail
    refine HBR.mono ?_;rintro e wq ⟨rfl,hwq⟩;rw[hwq];clear hwq wq HBR;go_wp2_with fail
    go_ret;exact⟨rfl,aB HB2.out HX9.pp.st.bel⟩
   | true=>
    go_wp2_with fail
    refine HCM.mono ?_;rintro e w9 ⟨rfl,m9,hg9,ht9,hs9,hc9⟩;have HX9:=jz (HX8.op hg9 ht9 hs9 hc9);have hc0:w9.cell? ⟨gz,0,none⟩=some (.pointer (some ⟨m.g,0,none⟩)):=(HX9.b.cell 0).trans rfl;have hc1':w9.cell? ⟨gz,1,none⟩=some (.pointer (some ⟨gc,0,none⟩)):=(HX9.b.cell 1).trans rfl;have HSP:=jz (mE w9 m9 d HX9.pp.st.dk);rw[HX9.g] at HSP;have HBR:=jz (oX HX9.pp.co);have HBQ:Hid (KD (some Cc)=true):=jz HBK.out;rw[HBQ.out] at HBR;clear hg9 ht9 hs9 hc9 hc1 hc16 HCM;go_wp2_with fail
    refine HSP.mono ?_;rintro e wq ⟨rfl,hwq⟩;rw[hwq];clear hwq wq HSP;go_wp2_with fail
    refine HBR.mono ?_;rintro e wq ⟨rfl,hwq⟩;rw[hwq];clear hwq wq HBR;go_wp2_with fail
    go_ret;exact⟨rfl,aB HB2.out HX9.pp.st.bel⟩
end Go.Proofs.YtombncedfleljaaGreat
