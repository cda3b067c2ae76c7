import Derived.Test.YtombncedfleljaaGreatMC17
set_option linter.unusedSimpArgs false
set_option maxRecDepth 100000
set_option maxHeartbeats 40000000
namespace Go.Proofs.YtombncedfleljaaGreat
open Go.RowKit
attribute [local irreducible] wpQuiet wpAnyH
def dZ(r:RefD):RefD:={ r with sec:=dJ r.sec r.opn r.opn.length,opn:=[] }
def bL(r:RefD):RefD:=if r.down then r else if (b8 r).2.1 then bH (bD r) (b8 r).2.2.1 else if (b8 r).1 then bD r else dZ (bD r)
def bX(r:RefD):Int:=if r.down then 12 else if (b8 r).2.1 then 12 else if (b8 r).1 then 11 else 0
theorem ROk.clean{r:RefD}(h:ROk r):ROk (dZ r):=by
 have h2:=h.crash (List.replicate r.opn.length 64);unfold bH at h2;rw[pE r.sec r.opn h.sec h.opn] at h2;exact⟨h2.sec,h2.opn,h2.ev,h2.few,h2.lo,h2.lp,h2.st⟩
theorem rN(m:RM)(r:RefD)(w:World)(h:RK w m r)(hst:r.steps+1≤1000000000):
  Calls Tryz.prog 129 #[.agg (aA m r)] w fun e w'=>∃ m',e = .returned (.tuple #[.agg (aA m' (bL r)),.int .i64 (bX r)])∧RK w' m' (bL r)∧Below w.heap.size w w'∧∀ b∈aL m' (bL r),b∈aL m r∨w.heap.size≤b:=by
 obtain⟨As,cs,es⟩:=h.sec.slc;obtain⟨Ao,co,eo⟩:=h.opn.slc;have HK:=jz h;have HES:=jz es;have HEO:=jz eo;have hcells:∀ r',r'.sec=r.sec→r'.opn=r.opn→r'.down=r.down→aA m r'=#[.slice As r.sec.length cs,.slice Ao r.opn.length co,.bool r.down,.int .i64 r'.steps,m.pv]:=fun r' _ _ h3=>by unfold aA;rw[es,eo,h3]
 have HCE:=jz hcells;obtain⟨w1,hw1⟩:=je ((w.alloc (.cells (aA m r) 57)).alloc (.cells refZ 57));have hA1:Blk w1 w.heap.size 57 (aA m r):=by rw[hw1];exact(Blk.new _ _ _).alloc _
 have hB1:Blk w1 (w.heap.size+1) 57 refZ:=by rw[hw1];exact Blk.newAt _ _ _ _ (by simp)
 have hb1:Below w.heap.size w w1:=by rw[hw1];exact aB (aN _ _) (aN _ _)
 have hc2:=hA1.cell 2;rw[hcells r rfl rfl rfl] at hc2;simp only[List.getElem?_toArray,List.getElem?_cons_zero,List.getElem?_cons_succ] at hc2;have hr1:=hA1.range;have h1:(aA m r).all (·.oneCell')=true:=aR h;have hlen:∀ m r,(Tryz.prog.info? 57).map (·.size)=some (aA m r).toList.length:=fun _ _=>bG
 have HA1:=jz hA1;have HB1:=jz hB1;have HW1:=jz hb1;have HR1:=jz hr1;clear hA1 hB1 hb1 h es eo hcells hr1;cases hdn:r.down with
 | true=>
  rw[hdn] at hc2;have HF:Hid (bL r=r∧bX r=12):=jz (by unfold bL bX;rw[hdn];exact⟨rfl,rfl⟩);clear hdn;go_enter Tryz.func129,Tryz.ntmps129
  go_upto_region 1 with (refine al 57 refZ rfl rfl cJ ?_)
  rw[← hw1];clear hw1;go_wp2_with (first
   | (refine ld 57 _ rfl rfl rfl HR1.out Tryz.underlying57 rfl (hlen m r) ?_)
   | (refine bC (cells:=aA m r) 57 (.tmp 2) (.tmp 9) rfl rfl rfl rfl HB1.out bG rfl h1 ?_;intro w4 hB4 hb4 ho4 hs4;have HB4:=jz hB4;have HE4:=jz hb4;clear hB4 hb4 ho4 hs4))
  have hbw:Below w.heap.size w w4:=HW1.trans (HE4.mono (by omega));have hr4:=HB4.range;exact bodyPost_ret (aJ rfl _ rfl hr4 Tryz.underlying57 rfl (hlen m r)) rfl ⟨m,by rw[HF.out.1,HF.out.2];rfl,by rw[HF.out.1];exact HK.keep hbw,hbw,by rw[HF.out.1];exact fun b hb=>.inl hb⟩
 | false=>
  rw[hdn] at hc2;have HDN:=jz hdn;clear hdn;have HP:=jz (yT m r w1 (HK.keep HW1.out) hst);have hsc:=rM HK.out;obtain⟨⟨fl,cr,cu,cv⟩,hsf⟩:∃ x,x=b8 r:=⟨_,rfl⟩;have HSF:=jz hsf;rw[← hsf] at HP hsc;simp only at HP;have HSC:=jz hsc;have hRS:RK w m (bD r):=⟨HK.sec,HK.opn,HK.plan,HK.cuts,HK.ok.step hst,HK.bl⟩;have h2:(aA m (bD r)).all (·.oneCell')=true:=aR hRS;have HRS:=jz hRS;clear hsf hsc hRS;go_enter Tryz.func129,Tryz.ntmps129
  go_upto_region 1 with (refine al 57 refZ rfl rfl cJ ?_)
  rw[← hw1];clear hw1;go_upto_region 4 with (first
   | (refine ld 57 _ rfl rfl rfl HR1.out Tryz.underlying57 rfl (hlen m r) ?_)
   | (go_at_call 149;refine HP.mono ?_;rintro e w2 ⟨rfl,hk2,hb2,hcu⟩)
   | (refine bC (cells:=aA m (bD r)) 57 (.tmp 1) (.tmp 13) rfl rfl rfl rfl (HA1.keep hb2) bG rfl h2 ?_;intro w3 hB3 hb3 ho3 hs3))
  have HB3:Hid (Blk w3 (w.heap.size+1) 57 refZ):=jz ((ho3 _ (by omega)).trans (HB1.keep hb2));have HA3:Hid (Blk w3 w.heap.size 57 (aA m (bD r))):=jz hB3;have HW3:Hid (Below w.heap.size w w3):=jz ((aB HW1.out hb2).trans hb3);have hsz3:w.heap.size+2≤w3.heap.size:=by have:=HB3.lt;omega
  clear hB3 hb3 ho3 hs3 hk2 hb2 HP HA1 HB1 HR1 h1 hc2 hcu;have hr3:=HA3.range;cases cr with
  | true=>
   have HV:Hid (bL r=bH (bD r) cu∧bX r=12):=jz (by unfold bL bX;rw[HDN.out,← HSF.out];exact⟨rfl,rfl⟩);have HP:=jz (oB m (bD r) cv cu w3 (HRS.keep HW3.out) (HSC.out.1.below HW3.out) HSC.out.2.1 HSC.out.2.2);go_wp2_with (first
    | (refine ld 57 _ rfl rfl rfl hr3 Tryz.underlying57 rfl (hlen _ _) ?_)
    | (go_at_call 50;refine HP.mono ?_;rintro e w6 ⟨m6,rfl,hk6,hb6,hr6⟩)
    | (refine bC (cells:=aA m6 (bH (bD r) cu)) 57 (.tmp 2) (.tmp 20) rfl rfl rfl rfl (HB3.keep hb6) bG rfl (aR hk6) ?_;intro w7 hB7 hb7 ho7 hs7;have HB7:=jz hB7;have HE7:=jz hb7;have HO7:=jz ho7;have HS7:=jz hs7;clear hB7 hb7 ho7 hs7))
   have hbw:Below w.heap.size w w7:=(aB HW3.out hb6).trans (HE7.mono (by omega));have hr7:=HB7.range;have hsub:∀ b∈aL m6 (bH (bD r) cu),b∈aL m r∨w.heap.size+2≤b:=fun b hm=>by
    rcases hr6 b hm with h|h
    ·exact .inl h
    ·exact .inr (by omega)
   refine bodyPost_ret (aJ rfl _ rfl hr7 Tryz.underlying57 rfl (hlen _ _)) rfl ⟨m6,by rw[HV.out.1,HV.out.2];rfl,by
    rw[HV.out.1]
    exact hk6.offK HO7.out (by rw[HS7.out];exact Nat.le_refl _) (fun hm=>by
     rcases hsub _ hm with h|h
     ·have:=HK.bl _ h;omega
     ·omega),hbw,fun b hm=>by
    rw[HV.out.1] at hm
    rcases hsub b hm with h|h
    ·exact .inl h
    ·exact .inr (by omega)⟩
  | false=>
   cases fl with
   | true=>
    have HV:Hid (bL r=bD r∧bX r=11):=jz (by unfold bL bX;rw[HDN.out,← HSF.out];exact⟨rfl,rfl⟩);go_wp2_with (first
     | (refine ld 57 _ rfl rfl rfl hr3 Tryz.underlying57 rfl (hlen _ _) ?_)
     | (refine bC (cells:=aA m (bD r)) 57 (.tmp 2) (.tmp 22) rfl rfl rfl rfl HB3.out bG rfl h2 ?_;intro w7 hB7 hb7 ho7 hs7;have HB7:=jz hB7;have HE7:=jz hb7;clear hB7 hb7 ho7 hs7))
    have hbw:Below w.heap.size w w7:=HW3.trans (HE7.mono (by omega));have hr7:=HB7.range;exact bodyPost_ret (aJ rfl _ rfl hr7 Tryz.underlying57 rfl (hlen _ _)) rfl ⟨m,by rw[HV.out.1,HV.out.2];rfl,by rw[HV.out.1];exact HRS.keep hbw,hbw,fun b hm=>by rw[HV.out.1] at hm;exact .inl hm⟩
   | false=>
    have HV:Hid (bL r=dZ (bD r)∧bX r=0):=jz (by unfold bL bX;rw[HDN.out,← HSF.out];exact⟨rfl,rfl⟩);obtain⟨wS,hwS⟩:=je w3.drew;have hbS:Below w3.heap.size w3 wS:=by rw[hwS];exact(Below.refl _ _).drew
    have HAS:=jz (HA3.keep hbS);have HBS:=jz (HB3.keep hbS);have HWS:=jz (aB HW3.out hbS);have hsS:w.heap.size+2≤wS.heap.size:=by rw[hwS];exact hsz3
    have HIX:Hid (∀ W,Below wS.heap.size wS W→W.cell? ⟨w.heap.size,0,none⟩=some (.slice As r.sec.length cs)∧W.cell? ⟨w.heap.size,1,none⟩=some (.slice Ao r.opn.length co)):=jz (fun W h=>by
     have h1:=HAS.keep h
     exact⟨by rw[h1.cell 0,HCE.out (bD r) rfl rfl rfl];rfl,by rw[h1.cell 1,HCE.out (bD r) rfl rfl rfl];rfl⟩)
    have HWH:=jz (EJ r.opn.length wS (by have:=HK.ok.lo;omega));have HCW:=jz (pE r.sec r.opn HK.ok.sec HK.ok.opn);have HCR:Hid (∀(W:World) (Ac:Option Addr) (cc:Nat),Below wS.heap.size wS W→Sn W 1 (.slice Ac r.opn.length cc) r.opn.length (eR (List.replicate r.opn.length 64))→Calls Tryz.prog 76 #[.slice As r.sec.length cs,.slice Ao r.opn.length co,.slice Ac r.opn.length cc] W fun e w'=>∃ v,e = .returned v∧w'.ownsRow W.heap.size 144 64 v r.sec.length ((dJ r.sec r.opn r.opn.length).flatMap u8s)∧Below W.heap.size W w'):=jz (fun W Ac cc hb hs=>by
     have hl:(List.replicate r.opn.length (64:Int)).length=r.opn.length:=List.length_replicate
     have h:=pD r.sec r.opn (List.replicate r.opn.length 64) As Ao Ac cs co cc W (by rw[← HES.out];exact HK.sec.below (aB HWS.out hb)) (by rw[← HEO.out];exact HK.opn.below (aB HWS.out hb)) (by rw[hl];exact hs) (fun c hc=>by rw[(List.mem_replicate.1 hc).2];exact⟨by decide,by decide⟩) HK.ok.sec HK.ok.opn HK.ok.few (by have:=HK.ok.lo;omega) (by rw[hl];have:=HK.ok.lo;omega)
     rw[hl,HCW.out] at h
     exact h)
    go_upto_region 8 with fail
    refine aQ 11 (fun w'=>w'.cell? ⟨w.heap.size,1,none⟩=some (.slice Ao r.opn.length co)) (by kernel_rfl) (by kernel_rfl) (by rw[← hwS];exact(HIX.out wS (Below.refl _ _)).2) (fun hH=>?_);rw[← hwS] at hH ⊢;clear hwS;refine jT 0 (.fieldAddr 57 (.tmp 1) 0) (some 23) (.pointer (some ⟨w.heap.size,0,none⟩)) hH ?_;simp only[jq];refine jT 2 (.fieldAddr 57 (.tmp 1) 1) (some 25) (.pointer (some ⟨w.heap.size,1,none⟩)) hH ?_;simp only[jq];refine jT 3 (.load 54 (.tmp 25)) (some 26) (.slice Ao r.opn.length co) (hy:=fun o ho wX hX=>by have hcell:wX.cell? ⟨w.heap.size,1,none⟩=some (.slice Ao r.opn.length co):=hX;unfold execOp;simp only[ho];go_simp) hH ?_;simp only[jq];refine jT 4 (.fieldAddr 57 (.tmp 1) 1) (some 27) (.pointer (some ⟨w.heap.size,1,none⟩)) hH ?_;simp only[jq];refine jT 5 (.load 54 (.tmp 27)) (some 28) (.slice Ao r.opn.length co) (hy:=fun o ho wX hX=>by have hcell:wX.cell? ⟨w.heap.size,1,none⟩=some (.slice Ao r.opn.length co):=hX;unfold execOp;simp only[ho];go_simp) hH ?_;simp only[jq];refine jT 6 (.call { callee:=Callee.builtin Builtin.len,args:=#[.tmp 28],argTypes:=#[54] }) (some 29) (.int .i64 (r.opn.length:Int)) hH ?_;simp only[jq];refine jW [1,7] ?_;refine jS 1 (.load 53 (.tmp 23)) (some 24) (.slice As r.sec.length cs) wS (hrun:=fun o ho=>by have hcell:=(HIX.out _ (Below.refl _ _)).1;unfold execOp;simp only[ho];go_simp) (HIX.out _ (Below.refl _ _)).2 ?_ (jC 7 (.call { callee:=.value (.func 150),args:=#[.tmp 29],argTypes:=#[3] }) (some 30) 150 #[.int .i64 (r.opn.length:Int)] ?_ jN)
    ·simp only[jq];refine jW [7] ?_;refine jC 7 (.call { callee:=.value (.func 150),args:=#[.tmp 29],argTypes:=#[3] }) (some 30) 150 #[.int .i64 (r.opn.length:Int)] ?_ jN;refine HWH.mono ?_;rintro e w7 ⟨v7,rfl,ho7,hb7⟩;obtain⟨a7,c7,hv7,hs7,_⟩:=aU ho7;subst hv7;refine⟨_,rfl,(HIX.out _ hb7).2,fun _=>?_⟩;simp only[jq];refine jW [8] ?_;refine jC 8 (.call { callee:=.value (.func 76),args:=#[.tmp 24,.tmp 26,.tmp 30],argTypes:=#[53,54,29] }) (some 31) 76 #[.slice As r.sec.length cs,.slice Ao r.opn.length co,.slice a7 r.opn.length c7] ?_ jN;refine(HCR.out w7 a7 c7 hb7 hs7).mono ?_;rintro e w9 ⟨v8,rfl,ho9,hb9⟩;obtain⟨a8,c8,hv8,hs8,_⟩:=aU ho9;subst hv8;have hb79:=aB hb7 hb9;refine⟨_,rfl,(HIX.out _ hb79).2,fun hH=>?_⟩;simp only[jq];refine jT 9 (.fieldAddr 57 (.tmp 1) 0) (some 32) (.pointer (some ⟨w.heap.size,0,none⟩)) hH ?_;simp only[jq];refine jW [10] ?_;have hc0:=(HIX.out _ hb79).1;have hf0:=(HAS.keep hb79).frozen 0;refine dH 10 (Op.store 53 (Operand.tmp 32) (Operand.tmp 31)) none (w9.setCell ⟨w.heap.size,0,none⟩ (.slice a8 r.sec.length c8)) (by kernel_rfl) (by kernel_rfl) (fun o ho=>by unfold execOp;simp only[ho];go_simp) ?_ ?_ jN
     ·have h:=((HAS.keep hb79).set_ 0 (.slice a8 r.sec.length c8)).cell 1;rw[HCE.out (bD r) rfl rfl rfl] at h;exact h
     simp only[jq];refine wpAnyH_done (by kernel_rfl) ?_ _;have HA9:=jz (HAS.keep hb79);have HB9:=jz (HBS.keep hb79);have HW9:=jz (aB HWS.out hb79);have HO9:=jz (dI ho9 (Nat.le_trans hsS hb7.size));clear hc0 hf0 hH hs8 hs7 ho7 ho9 hb7 hb9 hb79;obtain⟨m',hm'⟩:∃ m':RM,m'=⟨.slice a8 r.sec.length c8,.slice none 0 0,m.pv⟩:=⟨_,rfl⟩;have hc1:=(HA9.set_ 0 (.slice a8 r.sec.length c8)).cell 1;have hf1:=(HA9.set_ 0 (.slice a8 r.sec.length c8)).frozen 1;rw[HCE.out (bD r) rfl rfl rfl] at hc1;simp only[List.setIfInBounds_toArray,List.set_cons_zero,List.getElem?_toArray,List.getElem?_cons_succ,List.getElem?_cons_zero] at hc1;obtain⟨wz,hwz⟩:=je ((w9.setCell ⟨w.heap.size,0,none⟩ (.slice a8 r.sec.length c8)).setCell ⟨w.heap.size,1,none⟩ (.slice none 0 0));have hAz:Blk wz w.heap.size 57 (aA m' (dZ (bD r))):=by
      rw[hwz,hm'];exact(HA9.set_ 0 _).set_ 1 _
     have hoth:∀ k,k≠w.heap.size→wz.heap[k]? = w9.heap[k]?:=fun k hk=>by
      rw[hwz];exact(Below.heap_setCell _ ⟨w.heap.size,1,none⟩ _ k hk).trans (Below.heap_setCell _ ⟨w.heap.size,0,none⟩ _ k hk)
     have hszz:wz.heap.size=w9.heap.size:=by rw[hwz];simp
     have HBz:Hid (Blk wz (w.heap.size+1) 57 refZ):=jz ((hoth _ (by omega)).trans HB9.out);have hbz:Below w.heap.size w wz:=by rw[hwz];exact(HW9.setCell (Nat.le_refl _) _).setCell (Nat.le_refl _) _
     have hne:∀ b,(Value.slice a8 r.sec.length c8).ownBlock=some b→w.heap.size+2≤b∧b<w9.heap.size:=fun b e=>by have:=HO9.lt b e;omega
     have hsub:∀ b∈aL m' (dZ (bD r)),b∈aL m r∨(w.heap.size+2≤b∧b<w9.heap.size):=fun b hm=>by
      rw[bO,hm'] at hm;rcases hm with hm|hm|hm|hm
      ·exact .inr (hne b hm)
      ·cases hm
      ·exact .inl (bO.2 (.inr (.inr (.inl hm))))
      ·exact .inl (bO.2 (.inr (.inr (.inr hm))))
     have hKz:RK wz m' (dZ (bD r)):=by
      have hk:=HRS.keep hbz;have hbl:∀ b∈aL m' (dZ (bD r)),b<wz.heap.size:=fun b hm=>by
       rcases hsub b hm with hm|hm
       ·have:=HK.bl b hm;have:=hbz.size;omega
       ·omega
      rw[hm'] at hbl ⊢;refine⟨?_,Sn.nil _ _,hk.plan,hk.cuts,HRS.ok.clean,hbl⟩;show Sn wz 64 (.slice a8 r.sec.length c8) (dJ r.sec r.opn r.opn.length).length _;rw[fE];exact(Sn.own HO9.out).offK hoth (fun e=>by have:=(hne _ e).1;omega)
     have hrz:=hAz.range;have HRZ:=jz hrz;have h3:(aA m' (dZ (bD r))).all (·.oneCell')=true:=aR hKz;have HKZ:=jz hKz;have HBW:=jz hbz;have HSUB:=jz hsub;clear hAz hoth hbz hne hsub hKz hrz hm';go_upto_region 10 with fail
     rw[← hwz];clear hwz hc1 hf1;go_wp2_with (first
      | (refine ld 57 _ rfl rfl rfl HRZ.out Tryz.underlying57 rfl (hlen _ _) ?_)
      | (refine bC (cells:=aA m' (dZ (bD r))) 57 (.tmp 2) (.tmp 34) rfl rfl rfl rfl HBz.out bG rfl h3 ?_;intro w7 hB7 hb7 ho7 hs7;have HB7:=jz hB7;have HE7:=jz hb7;have HO7:=jz ho7;have HS7:=jz hs7;clear hB7 hb7 ho7 hs7))
     have hbw:Below w.heap.size w w7:=HBW.trans (HE7.mono (by omega));have hr7:=HB7.range;exact bodyPost_ret (aJ rfl _ rfl hr7 Tryz.underlying57 rfl (hlen _ _)) rfl ⟨m',by rw[HV.out.1,HV.out.2];rfl,by
      rw[HV.out.1]
      exact HKZ.offK HO7.out (by rw[HS7.out];exact Nat.le_refl _) (fun hm=>by
       rcases HSUB.out _ hm with h|h
       ·have:=HK.bl _ h;omega
       ·omega),hbw,fun b hm=>by
      rw[HV.out.1] at hm
      rcases HSUB.out b hm with h|h
      ·exact .inl h
      ·exact .inr (by omega)⟩
    ·refine HWH.mono ?_;rintro e w7 ⟨v7,rfl,ho7,hb7⟩;obtain⟨a7,c7,hv7,hs7,_⟩:=aU ho7;subst hv7;refine⟨_,rfl,(HIX.out _ hb7).2,fun _=>?_⟩;simp only[jq];refine jW [1] ?_;refine jS 1 (.load 53 (.tmp 23)) (some 24) (.slice As r.sec.length cs) w7 (hrun:=fun o ho=>by have hcell:=(HIX.out _ hb7).1;unfold execOp;simp only[ho];go_simp) (HIX.out _ hb7).2 ?_ jN;simp only[jq];refine jW [8] ?_;refine jC 8 (.call { callee:=.value (.func 76),args:=#[.tmp 24,.tmp 26,.tmp 30],argTypes:=#[53,54,29] }) (some 31) 76 #[.slice As r.sec.length cs,.slice Ao r.opn.length co,.slice a7 r.opn.length c7] ?_ jN;refine(HCR.out w7 a7 c7 hb7 hs7).mono ?_;rintro e w9 ⟨v8,rfl,ho9,hb9⟩;obtain⟨a8,c8,hv8,hs8,_⟩:=aU ho9;subst hv8;have hb79:=aB hb7 hb9;refine⟨_,rfl,(HIX.out _ hb79).2,fun hH=>?_⟩;simp only[jq];refine jT 9 (.fieldAddr 57 (.tmp 1) 0) (some 32) (.pointer (some ⟨w.heap.size,0,none⟩)) hH ?_;simp only[jq];refine jW [10] ?_;have hc0:=(HIX.out _ hb79).1;have hf0:=(HAS.keep hb79).frozen 0;refine dH 10 (Op.store 53 (Operand.tmp 32) (Operand.tmp 31)) none (w9.setCell ⟨w.heap.size,0,none⟩ (.slice a8 r.sec.length c8)) (by kernel_rfl) (by kernel_rfl) (fun o ho=>by unfold execOp;simp only[ho];go_simp) ?_ ?_ jN
     ·have h:=((HAS.keep hb79).set_ 0 (.slice a8 r.sec.length c8)).cell 1;rw[HCE.out (bD r) rfl rfl rfl] at h;exact h
     simp only[jq];refine wpAnyH_done (by kernel_rfl) ?_ _;have HA9:=jz (HAS.keep hb79);have HB9:=jz (HBS.keep hb79);have HW9:=jz (aB HWS.out hb79);have HO9:=jz (dI ho9 (Nat.le_trans hsS hb7.size));clear hc0 hf0 hH hs8 hs7 ho7 ho9 hb7 hb9 hb79;obtain⟨m',hm'⟩:∃ m':RM,m'=⟨.slice a8 r.sec.length c8,.slice none 0 0,m.pv⟩:=⟨_,rfl⟩;have hc1:=(HA9.set_ 0 (.slice a8 r.sec.length c8)).cell 1;have hf1:=(HA9.set_ 0 (.slice a8 r.sec.length c8)).frozen 1;rw[HCE.out (bD r) rfl rfl rfl] at hc1;simp only[List.setIfInBounds_toArray,List.set_cons_zero,List.getElem?_toArray,List.getElem?_cons_succ,List.getElem?_cons_zero] at hc1;obtain⟨wz,hwz⟩:=je ((w9.setCell ⟨w.heap.size,0,none⟩ (.slice a8 r.sec.length c8)).setCell ⟨w.heap.size,1,none⟩ (.slice none 0 0));have hAz:Blk wz w.heap.size 57 (aA m' (dZ (bD r))):=by
      rw[hwz,hm'];exact(HA9.set_ 0 _).set_ 1 _
     have hoth:∀ k,k≠w.heap.size→wz.heap[k]? = w9.heap[k]?:=fun k hk=>by
      rw[hwz];exact(Below.heap_setCell _ ⟨w.heap.size,1,none⟩ _ k hk).trans (Below.heap_setCell _ ⟨w.heap.size,0,none⟩ _ k hk)
     have hszz:wz.heap.size=w9.heap.size:=by rw[hwz];simp
     have HBz:Hid (Blk wz (w.heap.size+1) 57 refZ):=jz ((hoth _ (by omega)).trans HB9.out);have hbz:Below w.heap.size w wz:=by rw[hwz];exact(HW9.setCell (Nat.le_refl _) _).setCell (Nat.le_refl _) _
     have hne:∀ b,(Value.slice a8 r.sec.length c8).ownBlock=some b→w.heap.size+2≤b∧b<w9.heap.size:=fun b e=>by have:=HO9.lt b e;omega
     have hsub:∀ b∈aL m' (dZ (bD r)),b∈aL m r∨(w.heap.size+2≤b∧b<w9.heap.size):=fun b hm=>by
      rw[bO,hm'] at hm;rcases hm with hm|hm|hm|hm
      ·exact .inr (hne b hm)
      ·cases hm
      ·exact .inl (bO.2 (.inr (.inr (.inl hm))))
      ·exact .inl (bO.2 (.inr (.inr (.inr hm))))
     have hKz:RK wz m' (dZ (bD r)):=by
      have hk:=HRS.keep hbz;have hbl:∀ b∈aL m' (dZ (bD r)),b<wz.heap.size:=fun b hm=>by
       rcases hsub b hm with hm|hm
       ·have:=HK.bl b hm;have:=hbz.size;omega
       ·omega
      rw[hm'] at hbl ⊢;refine⟨?_,Sn.nil _ _,hk.plan,hk.cuts,HRS.ok.clean,hbl⟩;show Sn wz 64 (.slice a8 r.sec.length c8) (dJ r.sec r.opn r.opn.length).length _;rw[fE];exact(Sn.own HO9.out).offK hoth (fun e=>by have:=(hne _ e).1;omega)
     have hrz:=hAz.range;have HRZ:=jz hrz;have h3:(aA m' (dZ (bD r))).all (·.oneCell')=true:=aR hKz;have HKZ:=jz hKz;have HBW:=jz hbz;have HSUB:=jz hsub;clear hAz hoth hbz hne hsub hKz hrz hm';go_upto_region 10 with fail
     rw[← hwz];clear hwz hc1 hf1;go_wp2_with (first
      | (refine ld 57 _ rfl rfl rfl HRZ.out Tryz.underlying57 rfl (hlen _ _) ?_)
      | (refine bC (cells:=aA m' (dZ (bD r))) 57 (.tmp 2) (.tmp 34) rfl rfl rfl rfl HBz.out bG rfl h3 ?_;intro w7 hB7 hb7 ho7 hs7;have HB7:=jz hB7;have HE7:=jz hb7;have HO7:=jz ho7;have HS7:=jz hs7;clear hB7 hb7 ho7 hs7))
     have hbw:Below w.heap.size w w7:=HBW.trans (HE7.mono (by omega));have hr7:=HB7.range;exact bodyPost_ret (aJ rfl _ rfl hr7 Tryz.underlying57 rfl (hlen _ _)) rfl ⟨m',by rw[HV.out.1,HV.out.2];rfl,by
      rw[HV.out.1]
      exact HKZ.offK HO7.out (by rw[HS7.out];exact Nat.le_refl _) (fun hm=>by
       rcases HSUB.out _ hm with h|h
       ·have:=HK.bl _ h;omega
       ·omega),hbw,fun b hm=>by
      rw[HV.out.1] at hm
      rcases HSUB.out b hm with h|h
      ·exact .inl h
      ·exact .inr (by omega)⟩
def wrs:Int→List (List Int)→List (Int×List Int)
 | _,[]=>[]
 | a,s :: L=>(a,s) :: wrs (a+1) L
def setAll(sec:List (List Int))(l:List (Int×List Int)):List (List Int):=l.foldl (fun s p=>s.set p.1.toNat p.2) sec
theorem tL(sec:List (List Int))(l m:List (Int×List Int)):setAll sec (l++m)=setAll (setAll sec l) m:=by unfold setAll;rw[List.foldl_append]
theorem gI(l:List (Int×List Int)):∀ sec:List (List Int),(setAll sec l).length=sec.length:=by
 induction l with
 | nil=>intro sec;rfl
 | cons p l ih=>intro sec;rw[setAll,List.foldl_cons];exact(ih _).trans (by simp)
theorem yU(r:List (List Int))(l:List (Int×List Int)):∀ j,j≤l.length→dJ r l j=setAll r (l.take j)
 | 0,_=>by simp[dJ,setAll]
 | j+1,h=>by
  have hlt:j<l.length:=by omega
  rw[dJ,yU r l j (by omega),List.take_succ_eq_append_getElem hlt,tL];simp[setAll,hlt]
theorem rO(r:List (List Int))(l:List (Int×List Int)):dJ r l l.length=setAll r l:=by rw[yU r l _ (Nat.le_refl _),List.take_length]
theorem CM:∀(L:List (List Int)) (a:Int) (sec:List (List Int)),0≤a→a.toNat+L.length≤sec.length→setAll sec (wrs a L)=sec.take a.toNat++L++sec.drop (a.toNat+L.length)
 | [],a,sec,_,_=>by simp[wrs,setAll]
 | s :: L,a,sec,h0,h=>by
  rw[List.length_cons] at h;have hlt:a.toNat<sec.length:=by omega
  have ha:(a+1).toNat=a.toNat+1:=by omega
  rw[wrs,show setAll sec ((a,s) :: wrs (a+1) L)=setAll (sec.set a.toNat s) (wrs (a+1) L) from rfl];rw[CM L (a+1) _ (by omega) (by rw[List.length_set];omega),ha,List.length_cons];rw[show(sec.set a.toNat s).take (a.toNat+1)=sec.take a.toNat++[s] by
   rw[List.take_succ_eq_append_getElem (by rw[List.length_set];exact hlt),List.take_set_of_le (Nat.le_refl _),List.getElem_set_self]]
  rw[List.drop_set_of_lt (by omega),List.append_assoc,List.append_assoc,List.append_assoc,show a.toNat+1+L.length=a.toNat+(L.length+1) by omega];rfl
theorem wH:∀(L:List (List Int)) (sec:List (List Int)) (opn:List (Int×List Int)) (st r:Nat) (a:Int),0≤a→a.toNat+L.length≤sec.length→st≤r →
  ∃ r',r'≤r+2*L.length+1∧fillW (qD sec opn st r) a L=(none,qD (setAll sec (opn++wrs a L)) [] (st+L.length+1) r')
 | [],sec,opn,st,r,a,h0,h,hr=>by
  refine⟨max r (st+1),by simp;omega,?_⟩;rw[fillW,CH,vW,wrs,List.append_nil,rO];rfl
 | s :: L,sec,opn,st,r,a,h0,h,hr=>by
  rw[List.length_cons] at h;obtain⟨r',hr',hf⟩:=wH L sec (opn++[(a,s)]) (st+1) (max r (st+1)+1) (a+1) (by omega) (by omega) (by omega);refine⟨r',by rw[List.length_cons];omega,?_⟩;rw[fillW,rI h0 (by omega),rJ h0 (by omega)];show fillW _ _ _=_;rw[hf,wrs,List.append_assoc,List.length_cons,show st+1+L.length+1=st+(L.length+1)+1 by omega];rfl
theorem mM{q:aW}(hq:EntOk q):(q.1++beB 8 q.2.toNat).length≤54:=by rw[List.length_append,hq.dig.len,bB];omega
end Go.Proofs.YtombncedfleljaaGreat
