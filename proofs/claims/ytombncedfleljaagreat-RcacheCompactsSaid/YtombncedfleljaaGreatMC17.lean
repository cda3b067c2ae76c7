import Derived.Test.YtombncedfleljaaGreatMC16
set_option linter.unusedSimpArgs false
set_option maxRecDepth 100000
set_option maxHeartbeats 40000000
namespace Go.Proofs.YtombncedfleljaaGreat
open Go.RowKit
attribute [local irreducible] wpQuiet wpAnyH
def iO(r:RefD)(a:Int):Bool:=decide (0≤a) && decide (a<r.sec.length)
def eZ(r:RefD)(a:Int)(s:List Int):RefD:=if iO r a then { r with opn:=r.opn++[(a,s)] } else r
def aI(r:RefD)(a:Int)(s:List Int):RefD:=if r.down then r else if (b8 r).2.1 then bH (eZ (bD r) a s) (b8 r).2.2.1 else if (b8 r).1 then bD r else eZ (bD r) a s
def aV(r:RefD)(a:Int):Int:=if r.down then 12 else if (b8 r).2.1 then 12 else if (b8 r).1 then 11 else if iO r a then 0 else 15
theorem wG:SlT Tryz.prog 54 174 65 72:=SlT.mk' Tryz.underlying54 (z:=.agg (wrC (0,List.replicate 64 0)).toArray) (by kernel_rfl) rfl (by decide)
theorem EK(a:Int)(s:List Int)(hs:Sec s):Tryz.prog.built 174 [(0,.int .i64 a),(1,.agg (u8s s).toArray)]=some (wrC (a,s)).toArray:=by
 rw[lY s 64 hs.1];generalize (fun i=>s.getD i 0)=D
 kernel_rfl
theorem ROk.add{r:RefD}(h:ROk r){a:Int}{s:List Int}(hs:Sec s)(ho:r.opn.length+1≤50000):ROk (eZ r a s):=by
  unfold eZ;split
  · rename_i hh;unfold iO at hh;simp only[Bool.and_eq_true,decide_eq_true_eq] at hh
    exact { sec := h.sec, ev := h.ev, few := h.few, lp := h.lp, st := h.st
            lo := by show (r.opn ++ [(a, s)]).length ≤ 50000; simp; omega
            opn:=fun p hp=>by
              rcases List.mem_append.1 hp with hp|hp
              · exact h.opn p hp
              · rw[List.mem_singleton.1 hp];exact⟨hh.1,hh.2,hs⟩ }
  · exact h
theorem JS(l:List (Int×List Int)):∀ u∈l.flatMap wrC,u.oneCell'=true:=fun u hu=>by
 obtain⟨p,_,hu⟩:=List.mem_flatMap.1 hu;exact iS p u hu
theorem GD{w w':World}{base e s n b:Nat}{v:Value}{xs:List Value}(h:w.ownsRow base e s v n xs)(hk:∀ k,k≠b→w'.heap[k]? = w.heap[k]?)(hne:v.ownBlock≠some b):Sn w' s v n xs:=(Sn.own h).offK hk hne
structure RW7(w wx:World)(m:RM)(r:RefD)(a:Int)(s:List Int)(g:Nat)(mo:Value):Prop where
 bg:Blk wx g 57 (aA ⟨m.sv,mo,m.pv⟩ (eZ (bD r) a s))
 k:RK wx ⟨m.sv,mo,m.pv⟩ (eZ (bD r) a s)
 new:∀ b,mo.ownBlock=some b→b∈aL m r∨g<b
 ba:Blk wx w.heap.size 57 (aA m (bD r))
 bb:Blk wx (w.heap.size+2) 57 refZ
 bw:Below w.heap.size w wx
 lt:w.heap.size+3≤g
theorem EM(r:RefD)(a:Int)(s:List Int):(eZ (bD r) a s).plan=r.plan:=by
 unfold eZ;split <;> rfl
theorem RW7.rows{w wx:World}{m:RM}{r:RefD}{a:Int}{s:List Int}{g:Nat}{mo:Value}(h:RW7 w wx m r a s g mo):∀ b∈aL ⟨m.sv,mo,m.pv⟩ (eZ (bD r) a s),b∈aL m r∨g<b:=fun b hb=>by
 rw[bO,EM] at hb;rcases hb with hb|hb|hb|hb
 ·exact .inl (bO.2 (.inl hb))
 ·exact h.new b hb
 ·exact .inl (bO.2 (.inr (.inr (.inl hb))))
 ·exact .inl (bO.2 (.inr (.inr (.inr hb))))
theorem rM{w:World}{m:RM}{r:RefD}(h:RK w m r):Sn w 1 (b8 r).2.2.2 (b8 r).2.2.1.length (eR (b8 r).2.2.1)∧(∀ c∈(b8 r).2.2.1,aK c)∧(b8 r).2.2.1.length≤1000000:=by
 have hfull:=wF (r.steps+1) r.plan (false,false,([],.slice none 0 0));rcases hfull with h1|⟨p,hp,h1⟩
 ·unfold b8;rw[h1];exact⟨Sn.nil w 1,fun c hc=>(by cases hc),Nat.zero_le _⟩
 ·unfold b8;rw[h1];exact⟨h.cuts p hp,(h.ok.ev p hp).2⟩
theorem uF(m:RM)(r:RefD)(a:Int)(s:List Int)(w:World)(h:RK w m r)(hs:Sec s)(ha:aK a)(hst:r.steps+1≤1000000000)(ho:r.opn.length+1≤50000):
  Calls Tryz.prog 128 #[.agg (aA m r),.int .i64 a,.agg (u8s s).toArray] w fun e w'=>∃ m',e = .returned (.tuple #[.agg (aA m' (aI r a s)),.int .i64 (aV r a)])∧RK w' m' (aI r a s)∧Below w.heap.size w w'∧∀ b∈aL m' (aI r a s),b∈aL m r∨w.heap.size≤b:=by
 obtain⟨As,cs,es⟩:=h.sec.slc;obtain⟨Ao,co,eo⟩:=h.opn.slc;have HK:=jz h;have a1 : -9223372036854775808≤a:=ha.1;have a2:a≤9223372036854775807:=ha.2;have HSS:=jz hs;have HOL:=jz ho;have hcells:∀ r',r'.sec=r.sec→r'.opn=r.opn→r'.down=r.down→aA m r'=#[.slice As r.sec.length cs,.slice Ao r.opn.length co,.bool r.down,.int .i64 r'.steps,m.pv]:=fun r' _ _ h3=>by unfold aA;rw[es,eo,h3]
 have HCE:=jz hcells;obtain⟨w1,hw1⟩:=je (((w.alloc (.cells (aA m r) 57)).alloc (.cells (u8s s).toArray 144)).alloc (.cells refZ 57));have hA1:Blk w1 w.heap.size 57 (aA m r):=by rw[hw1];exact((Blk.new _ _ _).alloc _).alloc _
 have hD1:Blk w1 (w.heap.size+1) 144 (u8s s).toArray:=by rw[hw1];exact(Blk.newAt _ _ _ _ (by simp)).alloc _
 have hB1:Blk w1 (w.heap.size+2) 57 refZ:=by rw[hw1];exact Blk.newAt _ _ _ _ (by simp)
 have hb1:Below w.heap.size w w1:=by rw[hw1];exact aB (aB (aN _ _) (aN _ _)) (aN _ _)
 have hc2:=hA1.cell 2;rw[hcells r rfl rfl rfl] at hc2;simp only[List.getElem?_toArray,List.getElem?_cons_zero,List.getElem?_cons_succ] at hc2;have hr1:=hA1.range;have h1:(aA m r).all (·.oneCell')=true:=aR h;have hlen:∀ m r,(Tryz.prog.info? 57).map (·.size)=some (aA m r).toList.length:=fun _ _=>bG
 have HA1:=jz hA1;have HD1:=jz hD1;have HB1:=jz hB1;have HW1:=jz hb1;have HR1:=jz hr1;clear hA1 hD1 hB1 hb1 h hs es eo hcells hr1 ho ha;cases hdn:r.down with
 | true=>
  rw[hdn] at hc2;have HF:Hid (aI r a s=r∧aV r a=12):=jz (by unfold aI aV;rw[hdn];exact⟨rfl,rfl⟩);clear hdn;go_enter Tryz.func128,Tryz.ntmps128
  go_upto_region 1 with (refine al 57 refZ rfl rfl cJ ?_)
  rw[← hw1];clear hw1;go_wp2_with (first
   | (refine ld 57 _ rfl rfl rfl HR1.out Tryz.underlying57 rfl (hlen m r) ?_)
   | (refine bC (cells:=aA m r) 57 (.tmp 6) (.tmp 15) rfl rfl rfl rfl HB1.out bG rfl h1 ?_;intro w4 hB4 hb4 ho4 hs4;have HB4:=jz hB4;have HE4:=jz hb4;clear hB4 hb4 ho4 hs4))
  have hbw:Below w.heap.size w w4:=HW1.trans (HE4.mono (by omega));have hr4:=HB4.range;exact bodyPost_ret (aJ rfl _ rfl hr4 Tryz.underlying57 rfl (hlen m r)) rfl ⟨m,by rw[HF.out.1,HF.out.2];rfl,by rw[HF.out.1];exact HK.keep hbw,hbw,by rw[HF.out.1];exact fun b hb=>.inl hb⟩
 | false=>
  rw[hdn] at hc2;have HDN:=jz hdn;clear hdn;have HP:=jz (yT m r w1 (HK.keep HW1.out) hst);obtain⟨⟨fl,cr,cu,cv⟩,hsf⟩:∃ x,x=b8 r:=⟨_,rfl⟩;have HSF:=jz hsf;rw[← hsf] at HP;simp only at HP;have h2:(aA m (bD r)).all (·.oneCell')=true:=aR (w:=w) (m:=m) (r:=bD r) ⟨HK.sec,HK.opn,HK.plan,HK.cuts,HK.ok.step hst,HK.bl⟩;clear hsf;go_enter Tryz.func128,Tryz.ntmps128
  go_upto_region 1 with (refine al 57 refZ rfl rfl cJ ?_)
  rw[← hw1];clear hw1;go_upto_region 4 with (first
   | (refine ld 57 _ rfl rfl rfl HR1.out Tryz.underlying57 rfl (hlen m r) ?_)
   | (go_at_call 149;refine HP.mono ?_;rintro e w2 ⟨rfl,hk2,hb2,hcu⟩)
   | (refine bC (cells:=aA m (bD r)) 57 (.tmp 3) (.tmp 19) rfl rfl rfl rfl (HA1.keep hb2) bG rfl h2 ?_;intro w3 hB3 hb3 ho3 hs3))
  have HB3:Hid (Blk w3 (w.heap.size+2) 57 refZ):=jz ((ho3 _ (by omega)).trans (HB1.keep hb2));have HD3:Hid (Blk w3 (w.heap.size+1) 144 (u8s s).toArray):=jz ((ho3 _ (by omega)).trans (HD1.keep hb2));have HA3:Hid (Blk w3 w.heap.size 57 (aA m (bD r))):=jz hB3;have HW3:Hid (Below w.heap.size w w3):=jz ((aB HW1.out hb2).trans hb3);have hsz3:w.heap.size+3≤w3.heap.size:=by have:=HB3.lt;omega
  clear hB3 hb3 ho3 hs3 hk2 hb2 HP HA1 HD1 HB1 HR1 h1 hc2;have hc0:=HA3.cell 0;rw[HCE.out (bD r) rfl rfl rfl] at hc0;simp only[List.getElem?_toArray,List.getElem?_cons_zero] at hc0;have hlen4:(r.sec.length:Int)≤4096:=by have:=HK.ok.few;omega
  go_cut [11] from 23 to 31 (fun c wx=>c = .bool (iO r a)∧wx=w3)
  case first=>
   rcases jb (decide (0≤a)) with t1|t1 <;> rcases jb (decide (a<(r.sec.length:Int))) with t2|t2
   all_goals
    go_wp2_with fail
    go_meet
    exact⟨by unfold iO;rw[t1,t2];rfl,by trivial⟩
  case rest=>
  obtain⟨rfl,rfl⟩:=hcut;have hr3:=HA3.range;go_upto_if 33 with (first
   | (refine ld 57 _ rfl rfl rfl hr3 Tryz.underlying57 rfl (hlen m (bD r)) ?_)
   | (refine al 57 refZ rfl rfl cJ ?_)
   | (refine cR (cells:=aA m (bD r)) 57 (.tmp 12) (.tmp 32) rfl rfl (by rfl) (by rfl) bG (by rfl) h2 ?_;intro w5 hK5 hb5 hs5))
  have HA5:=jz (HA3.keep hb5);have HD5:=jz (HD3.keep hb5);have HB5:=jz (HB3.keep hb5);have HW5:=jz (aB HW3.out hb5);obtain⟨g,hg⟩:=je wc.heap.size;have HG5:Hid (Blk w5 g 57 (aA m (bD r))):=jz (by rw[hg];exact hK5);rw[← hg] at hs5 hsz3 ⊢;clear hK5 hb5 HA3 HD3 HB3 HW3 hr3 hc0 hg h2;have hRS:RK w m (bD r):=⟨HK.sec,HK.opn,HK.plan,HK.cuts,HK.ok.step hst,HK.bl⟩;have HRS:=jz hRS;clear hRS;obtain⟨RH,hRH⟩:=je (iO r a);rw[← hRH];have HRH:=jz hRH.symm;clear hRH;go_cut [] from 34 to 43 (fun wx=>∃ mo:Value,Hid (RW7 w wx m r a s g mo))
  case first=>
   cases RH with
   | false=>
    have hrh:=HRH.out;have HF:Hid (eZ (bD r) a s=bD r):=jz (by unfold eZ;rw[show iO (bD r) a=iO r a from rfl,hrh];rfl);clear hrh;go_wp2_with fail
    go_meet
    exact⟨m.ov,jz ⟨by rw[HF.out];exact HG5.out,by rw[HF.out];exact HRS.keep HW5.out,fun b hb=>.inl (bO.2 (.inr (.inl hb))),HA5.out,HB5.out,HW5.out,hsz3⟩⟩
   | true=>
    have hrh:=HRH.out;have HF:Hid (eZ (bD r) a s={ bD r with opn:=r.opn++[(a,s)] }):=jz (by unfold eZ;rw[show iO (bD r) a=iO r a from rfl,hrh];rfl);have HOKA:Hid (ROk (eZ (bD r) a s)):=jz (HRS.ok.add HSS.out HOL.out);clear hrh;obtain⟨wS,hwS⟩:=je w5.drew;have hbS:Below w5.heap.size w5 wS:=by rw[hwS];exact(Below.refl _ _).drew
    have HAS:=jz (HA5.keep hbS);have HDS:=jz (HD5.keep hbS);have HBS':=jz (HB5.keep hbS);have HWS:=jz (aB HW5.out hbS);have HGS:=jz (HG5.keep hbS);have hsS:wS.heap.size=g+1:=by rw[hwS];exact hs5
    have HM:Hid (∀ W,Below wS.heap.size wS W→Below g wS W):=jz (fun W h=>h.mono (by omega));have HBS:Hid (Below wS.heap.size wS wS):=jz (Below.refl _ _);have HOLD:Hid (∀ W,Below wS.heap.size wS W→Sn W 65 (.slice Ao r.opn.length co) r.opn.length (r.opn.flatMap wrC)):=jz (fun W h=>by
     have e:=HCE.out r rfl rfl rfl
     unfold aA at e
     have h2:m.ov = .slice Ao r.opn.length co:=by have:=congrArg (fun x=>x[1]?) e;exact Option.some.inj this
     rw[← h2]
     exact HK.opn.below (aB HWS.out h))
    have HIX:Hid (∀ W,Below g wS W→W.cell? ⟨w.heap.size,1,none⟩=some (.slice Ao r.opn.length co)∧W.rangeAt (w.heap.size+1) 0 (u8s s)):=jz (fun W h=>by
     have h1:=HAS.below h (by omega)
     have h2:=HDS.below h (by omega)
     refine⟨?_,?_⟩
     ·rw[h1.cell 1,HCE.out (bD r) rfl rfl rfl];rfl
     ·have:=h2.range;rw[jt] at this;exact this)
    have HUS:Hid ((Tryz.prog.info? 144).map (·.size)=some (u8s s).length):=jz (by rw[aG HSS.out];kernel_rfl);have HUW:Hid ((wrC (a,s)).length=65):=jz (eK (p:=(a,s)) HSS.out);have hol:r.opn.length+1≤50000:=HOL.out;have HONE:=jz (JS r.opn);have HFIN:Hid (∀ W V,Below wS.heap.size wS W→W.ownsRow wS.heap.size 174 65 V (r.opn.length+1) (r.opn.flatMap wrC++wrC (a,s))→RW7 w (W.setCell ⟨g,1,none⟩ V) m r a s g V):=jz (fun W V hb ho=>by
     have hoth:∀ k,k≠g→(W.setCell ⟨g,1,none⟩ V).heap[k]? = W.heap[k]?:=fun k hk=>Below.heap_setCell W ⟨g,1,none⟩ V k hk
     have hbw:Below w.heap.size w (W.setCell ⟨g,1,none⟩ V):=(aB HWS.out hb).setCell (by show w.heap.size≤g;omega) _
     have hne:∀ b,V.ownBlock=some b→g<b:=fun b e=>by have:=(ho.lt b e).1;omega
     have hk:=HRS.keep hbw
     refine⟨?_,?_,fun b e=>.inr (hne b e),(hoth _ (by omega)).trans (HAS.keep hb),(hoth _ (by omega)).trans (HBS'.out.keep hb),hbw,hsz3⟩
     ·have h1:=(HGS.keep hb).set_ 1 V
      rw[HF.out]
      exact h1
     ·have hok:=HOKA.out
      rw[HF.out] at hok ⊢
      refine⟨hk.sec,?_,hk.plan,hk.cuts,hok,fun b hm=>?_⟩
      ·show Sn _ 65 V (r.opn++[(a,s)]).length ((r.opn++[(a,s)]).flatMap wrC)
       rw[List.flatMap_append,List.length_append]
       have:=GD ho hoth (fun e=>by have:=hne g e;omega)
       simpa using this
      ·have hsz:(W.setCell ⟨g,1,none⟩ V).heap.size=W.heap.size:=by simp
       rw[hsz]
       rw[bO] at hm
       rcases hm with hm|hm|hm|hm
       ·have:=HK.bl b (bO.2 (.inl hm));have:=hbw.size;omega
       ·exact(ho.lt b hm).2
       ·have:=HK.bl b (bO.2 (.inr (.inr (.inl hm))));have:=hbw.size;omega
       ·have:=HK.bl b (bO.2 (.inr (.inr (.inr hm))));have:=hbw.size;omega)
    go_upto_region 7 with fail
    refine aQ 11 (fun w'=>Below g wS w') (by kernel_rfl) (by kernel_rfl) (by rw[hwS];exact Below.refl _ _) (fun hH=>?_);rw[← hwS] at hH ⊢;clear hwS;refine jT 1 (.fieldAddr 57 (.tmp 3) 1) (some 35) (.pointer (some ⟨w.heap.size,1,none⟩)) hH ?_;simp only[jq];refine jT 2 (.load 54 (.tmp 35)) (some 36) (.slice Ao r.opn.length co) (hy:=fun o ho wX hX=>by have hcell:=(HIX.out wX hX).1;unfold execOp;simp only[ho];go_simp) hH ?_;simp only[jq];refine jM 4 (.tmp 1) (some 38) (.int .i64 a) hH ?_;simp only[jq];refine jL 5 144 (.tmp 5) (some 39) (cs:=u8s s) (fun _ hX=>(HIX.out _ hX).2) Tryz.underlying144 rfl HUS.out hH ?_;simp only[jq];refine lE 6 174 #[(0,Operand.tmp 38),(1,Operand.tmp 39)] (some 40) (vs:=[(0,.int .i64 a),(1,.agg (u8s s).toArray)]) (cells:=(wrC (a,s)).toArray) (by kernel_rfl) (by kernel_rfl) (by kernel_rfl) (by kernel_rfl) (by kernel_rfl) (fun _ _ _ h=>h) (by rfl) (EK a s HSS.out) hH ?_;simp only[jq];refine jW [0,7] ?_;refine jS 0 (.buildSlice 54 0 #[]) (some 34) (.slice (some ⟨wS.heap.size,0,none⟩) 0 0) (wS.alloc (.cells #[] 174)) (HM.out _ (aB HBS.out (aN _ _))) ?_ (eB 7 wG (Operand.tmp 40) (some 41) (by kernel_rfl) (by kernel_rfl) (cs:=wrC (a,s)) (by rfl) HUW.out (by decide) (HM.out _ (aB HBS.out (aN _ _))) ?_ jN)
    ·simp only[jq];obtain⟨wq1,hwq1⟩:=je (wS.alloc (.cells #[] 174));have hB1:Below wS.heap.size wS wq1:=by rw[hwq1];exact aN _ _
     have HB1:=jz (aB HBS.out hB1);have HO1:Hid (wq1.ownsRow wS.heap.size 174 65 (.slice (some ⟨wS.heap.size,0,none⟩) 0 0) 0 []):=jz (by rw[hwq1];exact cI wS #[] 174 65 0 wS.heap.size _ HBS.size rfl (by decide) rfl);rw[← hwq1];clear hwq1 hB1;refine jW [3,7] ?_;refine bZ 3 wG (.tmp 34) (.tmp 36) (some 37) (by kernel_rfl) (by kernel_rfl) (by rfl) HO1.out (by rfl) (HOLD.out _ HB1.out) HONE.out (by unfold maxLen;omega) (by omega) HB1.size (fun v2 wq2 hown hgrow hblk=>?_) (eB 7 wG (Operand.tmp 40) (some 41) (by kernel_rfl) (by kernel_rfl) (cs:=wrC (a,s)) (by rfl) HUW.out (by decide) (HM.out _ (aB HB1.out (aN _ _))) ?_ jN)
     ·rw[List.nil_append,Nat.zero_add] at hown;obtain⟨a2,c2,hv2,_,_⟩:=aU hown;subst hv2;have HO2:=jz hown;have HB2:Hid (Below wS.heap.size wS wq2):=jz (HB1.grown hgrow HB1.size (fun g hg=>(HO1.lt g hg).1));clear hown hgrow hblk;refine⟨HM.out _ HB2.out,fun _=>?_⟩;simp only[jq];refine jW [7] ?_;refine eB 7 wG (Operand.tmp 40) (some 41) (by kernel_rfl) (by kernel_rfl) (cs:=wrC (a,s)) (by rfl) HUW.out (by decide) (HM.out _ (aB HB2.out (aN _ _))) ?_ jN;simp only[jq];obtain⟨wq3,hwq3⟩:=je (wq2.alloc (.cells (wrC (a,s)).toArray 174));have hB3:Below wq2.heap.size wq2 wq3:=by rw[hwq3];exact aN _ _
      have HB3:=jz (aB HB2.out hB3);have HO3:=jz (aX HO2.out hB3);have HL3:Hid (Sn wq3 65 (.slice (some ⟨wq2.heap.size,0,none⟩) 1 1) 1 (wrC (a,s))):=jz (by rw[hwq3];have h:=Sn.new wq2 (wrC (a,s)).toArray 174 65 1 (by rw[js,HUW.out]);rw[jt] at h;exact h);have HLT3:Hid (wq2.heap.size<wq3.heap.size):=jz (by rw[hwq3];simp);rw[← hwq3];clear hwq3 hB3;refine jW [8] ?_;refine bZ 8 wG (.tmp 37) (.tmp 41) (some 42) (by kernel_rfl) (by kernel_rfl) (by rfl) HO3.out (by rfl) HL3.out (iS (a,s)) (by unfold maxLen;omega) (by omega) HB3.size (fun v4 wq4 hown hgrow hblk=>?_) jN;obtain⟨a4,c4,hv4,_,_⟩:=aU hown;subst hv4;have HO4:=jz hown;have HB4:Hid (Below wS.heap.size wS wq4):=jz (HB3.grown hgrow HB3.size (fun g hg=>(HO3.lt g hg).1));clear hown hgrow hblk;refine⟨HM.out _ HB4.out,fun _=>?_⟩;simp only[jq];refine jT 9 (.fieldAddr 57 (.tmp 12) 1) (some 43) (.pointer (some ⟨g,1,none⟩)) (by assumption) ?_;simp only[jq];refine jW [10] ?_;have HFI:=jz (HFIN.out wq4 (.slice a4 (r.opn.length+1) c4) HB4.out HO4.out);have hcg:=(HGS.keep HB4.out).cell 1;have hfg:=(HGS.keep HB4.out).frozen 1;rw[HCE.out (bD r) rfl rfl rfl] at hcg;simp only[List.getElem?_toArray,List.getElem?_cons_succ,List.getElem?_cons_zero] at hcg;refine dH 10 (Op.store 54 (Operand.tmp 43) (Operand.tmp 42)) none (wq4.setCell ⟨g,1,none⟩ (.slice a4 (r.opn.length+1) c4)) (by kernel_rfl) (by kernel_rfl) (fun o ho=>by unfold execOp;simp only[ho];go_simp) ((HM.out _ HB4.out).setCell (Nat.le_refl _) _) ?_ jN;simp only[jq];refine wpAnyH_done (by kernel_rfl) ?_ _;go_wp2_with fail
      go_meet
      exact⟨_,HFI⟩
     ·simp only[jq];obtain⟨wq5,hwq5⟩:=je (wq1.alloc (.cells (wrC (a,s)).toArray 174));have hB5:Below wq1.heap.size wq1 wq5:=by rw[hwq5];exact aN _ _
      have HB5:=jz (aB HB1.out hB5);have HO5:=jz (aX HO1.out hB5);have HL5:Hid (Sn wq5 65 (.slice (some ⟨wq1.heap.size,0,none⟩) 1 1) 1 (wrC (a,s))):=jz (by rw[hwq5];have h:=Sn.new wq1 (wrC (a,s)).toArray 174 65 1 (by rw[js,HUW.out]);rw[jt] at h;exact h);have HLT5:Hid (wq1.heap.size<wq5.heap.size):=jz (by rw[hwq5];simp);have HNE5:Hid (∀ b,(Value.slice (some ⟨wq1.heap.size,0,none⟩) 1 1).ownBlock=some b→Value.ownBlock (.slice (some ⟨wS.heap.size,0,none⟩) 0 0)≠some b):=jz (fun b e e2=>by have e:wq1.heap.size=b:=Option.some.inj e;have:=(HO1.lt b e2).2;omega);rw[← hwq5];clear hwq5 hB5;refine jW [3] ?_;refine bZ 3 wG (.tmp 34) (.tmp 36) (some 37) (by kernel_rfl) (by kernel_rfl) (by rfl) HO5.out (by rfl) (HOLD.out _ HB5.out) HONE.out (by unfold maxLen;omega) (by omega) HB5.size (fun v6 wq6 hown hgrow hblk=>?_) jN;rw[List.nil_append,Nat.zero_add] at hown;obtain⟨a6,c6,hv6,_,_⟩:=aU hown;subst hv6;have HO6:=jz hown;have HB6:Hid (Below wS.heap.size wS wq6):=jz (HB5.grown hgrow HB5.size (fun g hg=>(HO5.lt g hg).1));have HL6:Hid (Sn wq6 65 (.slice (some ⟨wq1.heap.size,0,none⟩) 1 1) 1 (wrC (a,s))):=jz (by obtain⟨A,c,h1,h2,h3,h4⟩:=HL5.out;refine⟨A,c,h1,h2,h3,fun hp=>?_⟩;obtain⟨b,o,h5,h6⟩:=h4 hp;refine⟨b,o,h5,fun j u hj=>hgrow.cell (h6 j u hj) (fun e=>?_)⟩;exact HNE5.out b (by rw[h1,h5];rfl) e.symm);clear hown hgrow hblk;refine⟨HM.out _ HB6.out,fun _=>?_⟩;simp only[jq];refine jW [8] ?_;refine bZ 8 wG (.tmp 37) (.tmp 41) (some 42) (by kernel_rfl) (by kernel_rfl) (by rfl) HO6.out (by rfl) HL6.out (iS (a,s)) (by unfold maxLen;omega) (by omega) HB6.size (fun v7 wq7 hown hgrow hblk=>?_) jN;obtain⟨a7,c7,hv7,_,_⟩:=aU hown;subst hv7;have HO7:=jz hown;have HB7:Hid (Below wS.heap.size wS wq7):=jz (HB6.grown hgrow HB6.size (fun g hg=>(HO6.lt g hg).1));clear hown hgrow hblk;refine⟨HM.out _ HB7.out,fun _=>?_⟩;simp only[jq];refine jT 9 (.fieldAddr 57 (.tmp 12) 1) (some 43) (.pointer (some ⟨g,1,none⟩)) (by assumption) ?_;simp only[jq];refine jW [10] ?_;have HFI:=jz (HFIN.out wq7 (.slice a7 (r.opn.length+1) c7) HB7.out HO7.out);have hcg:=(HGS.keep HB7.out).cell 1;have hfg:=(HGS.keep HB7.out).frozen 1;rw[HCE.out (bD r) rfl rfl rfl] at hcg;simp only[List.getElem?_toArray,List.getElem?_cons_succ,List.getElem?_cons_zero] at hcg;refine dH 10 (Op.store 54 (Operand.tmp 43) (Operand.tmp 42)) none (wq7.setCell ⟨g,1,none⟩ (.slice a7 (r.opn.length+1) c7)) (by kernel_rfl) (by kernel_rfl) (fun o ho=>by unfold execOp;simp only[ho];go_simp) ((HM.out _ HB7.out).setCell (Nat.le_refl _) _) ?_ jN;simp only[jq];refine wpAnyH_done (by kernel_rfl) ?_ _;go_wp2_with fail
      go_meet
      exact⟨_,HFI⟩
    ·simp only[jq];obtain⟨wq8,hwq8⟩:=je (wS.alloc (.cells (wrC (a,s)).toArray 174));have hB8:Below wS.heap.size wS wq8:=by rw[hwq8];exact aN _ _
     have HB8:=jz (aB HBS.out hB8);have HL8:Hid (Sn wq8 65 (.slice (some ⟨wS.heap.size,0,none⟩) 1 1) 1 (wrC (a,s))):=jz (by rw[hwq8];have h:=Sn.new wS (wrC (a,s)).toArray 174 65 1 (by rw[js,HUW.out]);rw[jt] at h;exact h);have HLT8:Hid (wS.heap.size<wq8.heap.size):=jz (by rw[hwq8];simp);rw[← hwq8];clear hwq8 hB8;refine jW [0] ?_;refine jS 0 (.buildSlice 54 0 #[]) (some 34) (.slice (some ⟨wq8.heap.size,0,none⟩) 0 0) (wq8.alloc (.cells #[] 174)) (HM.out _ (aB HB8.out (aN _ _))) ?_ jN;simp only[jq];obtain⟨wq9,hwq9⟩:=je (wq8.alloc (.cells #[] 174));have hB9:Below wq8.heap.size wq8 wq9:=by rw[hwq9];exact aN _ _
     have HB9:=jz (aB HB8.out hB9);have HL9:=jz (HL8.below hB9);have HO9:Hid (wq9.ownsRow wS.heap.size 174 65 (.slice (some ⟨wq8.heap.size,0,none⟩) 0 0) 0 []):=jz (by rw[hwq9];exact cI wq8 #[] 174 65 0 wS.heap.size _ HB8.size rfl (by decide) rfl);have HNE9:Hid (∀ b,(Value.slice (some ⟨wS.heap.size,0,none⟩) 1 1).ownBlock=some b→Value.ownBlock (.slice (some ⟨wq8.heap.size,0,none⟩) 0 0)≠some b):=jz (fun b e e2=>by have e:wS.heap.size=b:=Option.some.inj e;have e2:wq8.heap.size=b:=Option.some.inj e2;have:=HLT8.out;omega);rw[← hwq9];clear hwq9 hB9;refine jW [3] ?_;refine bZ 3 wG (.tmp 34) (.tmp 36) (some 37) (by kernel_rfl) (by kernel_rfl) (by rfl) HO9.out (by rfl) (HOLD.out _ HB9.out) HONE.out (by unfold maxLen;omega) (by omega) HB9.size (fun v10 wq10 hown hgrow hblk=>?_) jN;rw[List.nil_append,Nat.zero_add] at hown;obtain⟨a10,c10,hv10,_,_⟩:=aU hown;subst hv10;have HO10:=jz hown;have HB10:Hid (Below wS.heap.size wS wq10):=jz (HB9.grown hgrow HB9.size (fun g hg=>(HO9.lt g hg).1));have HL10:Hid (Sn wq10 65 (.slice (some ⟨wS.heap.size,0,none⟩) 1 1) 1 (wrC (a,s))):=jz (by obtain⟨A,c,h1,h2,h3,h4⟩:=HL9.out;refine⟨A,c,h1,h2,h3,fun hp=>?_⟩;obtain⟨b,o,h5,h6⟩:=h4 hp;refine⟨b,o,h5,fun j u hj=>hgrow.cell (h6 j u hj) (fun e=>?_)⟩;exact HNE9.out b (by rw[h1,h5];rfl) e.symm);clear hown hgrow hblk;refine⟨HM.out _ HB10.out,fun _=>?_⟩;simp only[jq];refine jW [8] ?_;refine bZ 8 wG (.tmp 37) (.tmp 41) (some 42) (by kernel_rfl) (by kernel_rfl) (by rfl) HO10.out (by rfl) HL10.out (iS (a,s)) (by unfold maxLen;omega) (by omega) HB10.size (fun v11 wq11 hown hgrow hblk=>?_) jN;obtain⟨a11,c11,hv11,_,_⟩:=aU hown;subst hv11;have HO11:=jz hown;have HB11:Hid (Below wS.heap.size wS wq11):=jz (HB10.grown hgrow HB10.size (fun g hg=>(HO10.lt g hg).1));clear hown hgrow hblk;refine⟨HM.out _ HB11.out,fun _=>?_⟩;simp only[jq];refine jT 9 (.fieldAddr 57 (.tmp 12) 1) (some 43) (.pointer (some ⟨g,1,none⟩)) (by assumption) ?_;simp only[jq];refine jW [10] ?_;have HFI:=jz (HFIN.out wq11 (.slice a11 (r.opn.length+1) c11) HB11.out HO11.out);have hcg:=(HGS.keep HB11.out).cell 1;have hfg:=(HGS.keep HB11.out).frozen 1;rw[HCE.out (bD r) rfl rfl rfl] at hcg;simp only[List.getElem?_toArray,List.getElem?_cons_succ,List.getElem?_cons_zero] at hcg;refine dH 10 (Op.store 54 (Operand.tmp 43) (Operand.tmp 42)) none (wq11.setCell ⟨g,1,none⟩ (.slice a11 (r.opn.length+1) c11)) (by kernel_rfl) (by kernel_rfl) (fun o ho=>by unfold execOp;simp only[ho];go_simp) ((HM.out _ HB11.out).setCell (Nat.le_refl _) _) ?_ jN;simp only[jq];refine wpAnyH_done (by kernel_rfl) ?_ _;go_wp2_with fail
     go_meet
     exact⟨_,HFI⟩
  case rest=>
  obtain⟨mo,HX⟩:=hcut;have hlt:=HX.lt;have hrG:=HX.bg.range;have hrA:=HX.ba.range;have hone1:=aR (w:=w) (m:=m) (r:=bD r) HRS.out;have hone2:=aR HX.k;have HNR:Hid (w.heap.size+2 ∉ aL ⟨m.sv,mo,m.pv⟩ (eZ (bD r) a s)∧w.heap.size+2 ∉ aL m (bD r)):=jz ⟨fun hm=>by
   rcases HX.rows _ hm with h|h
   ·have:=HK.bl _ h;omega
   ·omega,fun hm=>by have:=HK.bl _ hm;omega⟩
  cases cr with
  | true=>
   have HV:Hid (aI r a s=bH (eZ (bD r) a s) cu∧aV r a=12):=jz (by unfold aI aV;rw[HDN.out,← HSF.out];exact⟨rfl,rfl⟩);have hsc:=rM HK.out;rw[← HSF.out] at hsc;have HP:=jz (oB ⟨m.sv,mo,m.pv⟩ (eZ (bD r) a s) cv cu wc HX.k (hsc.1.below HX.bw) hsc.2.1 hsc.2.2);clear hsc;go_wp2_with (first
    | (refine ld 57 _ rfl rfl rfl hrG Tryz.underlying57 rfl (hlen _ _) ?_)
    | (go_at_call 50;refine HP.mono ?_;rintro e w6 ⟨m6,rfl,hk6,hb6,hr6⟩)
    | (refine bC (cells:=aA m6 (bH (eZ (bD r) a s) cu)) 57 (.tmp 6) (.tmp 47) rfl rfl rfl rfl (HX.bb.keep hb6) bG rfl (aR hk6) ?_;intro w7 hB7 hb7 ho7 hs7;have HB7:=jz hB7;have HE7:=jz hb7;have HO7:=jz ho7;have HS7:=jz hs7;clear hB7 hb7 ho7 hs7))
   have hbw:Below w.heap.size w w7:=(aB HX.bw hb6).trans (HE7.mono (by omega));have hr7:=HB7.range;have hsub:∀ b∈aL m6 (bH (eZ (bD r) a s) cu),b∈aL m r∨w.heap.size+3≤b:=fun b hm=>by
    rcases hr6 b hm with h|h
    ·rcases HX.rows b h with h|h
     ·exact .inl h
     ·exact .inr (by omega)
    ·have:=HX.bb.lt;have:=HX.bg.lt;exact .inr (by omega)
   refine bodyPost_ret (aJ rfl _ rfl hr7 Tryz.underlying57 rfl (hlen _ _)) rfl ⟨m6,by rw[HV.out.1,HV.out.2];rfl,by
    rw[HV.out.1]
    exact hk6.offK HO7.out (by rw[HS7.out];exact Nat.le_refl _) (fun hm=>by
     rcases hsub _ hm with h|h
     ·have:=HK.bl _ h;omega
     ·omega),hbw,fun b hm=>by
    rw[HV.out.1] at hm
    rcases hsub b hm with h|h
    ·exact .inl h
    ·exact .inr (by omega)⟩
  | false=>
   cases fl with
   | true=>
    have HV:Hid (aI r a s=bD r∧aV r a=11):=jz (by unfold aI aV;rw[HDN.out,← HSF.out];exact⟨rfl,rfl⟩);go_wp2_with (first
     | (refine ld 57 _ rfl rfl rfl hrA Tryz.underlying57 rfl (hlen _ _) ?_)
     | (refine bC (cells:=aA m (bD r)) 57 (.tmp 6) (.tmp 49) rfl rfl rfl rfl HX.bb bG rfl hone1 ?_;intro w7 hB7 hb7 ho7 hs7;have HB7:=jz hB7;have HE7:=jz hb7;clear hB7 hb7 ho7 hs7))
    have hbw:Below w.heap.size w w7:=HX.bw.trans (HE7.mono (by omega));have hr7:=HB7.range;exact bodyPost_ret (aJ rfl _ rfl hr7 Tryz.underlying57 rfl (hlen _ _)) rfl ⟨m,by rw[HV.out.1,HV.out.2];rfl,by rw[HV.out.1];exact HRS.keep hbw,hbw,fun b hm=>by rw[HV.out.1] at hm;exact .inl hm⟩
   | false=>
    cases RH with
    | false=>
     have hrh:=HRH.out;have HV:Hid (aI r a s=bD r∧aV r a=15):=jz (by unfold aI aV eZ;rw[HDN.out,← HSF.out,show iO (bD r) a=iO r a from rfl,hrh];exact⟨rfl,rfl⟩);go_wp2_with (first
      | (refine ld 57 _ rfl rfl rfl hrA Tryz.underlying57 rfl (hlen _ _) ?_)
      | (refine bC (cells:=aA m (bD r)) 57 (.tmp 6) (.tmp 52) rfl rfl rfl rfl HX.bb bG rfl hone1 ?_;intro w7 hB7 hb7 ho7 hs7;have HB7:=jz hB7;have HE7:=jz hb7;clear hB7 hb7 ho7 hs7))
     have hbw:Below w.heap.size w w7:=HX.bw.trans (HE7.mono (by omega));have hr7:=HB7.range;exact bodyPost_ret (aJ rfl _ rfl hr7 Tryz.underlying57 rfl (hlen _ _)) rfl ⟨m,by rw[HV.out.1,HV.out.2];rfl,by rw[HV.out.1];exact HRS.keep hbw,hbw,fun b hm=>by rw[HV.out.1] at hm;exact .inl hm⟩
    | true=>
     have hrh:=HRH.out;have HV:Hid (aI r a s=eZ (bD r) a s∧aV r a=0):=jz (by unfold aI aV;rw[HDN.out,← HSF.out,hrh];exact⟨rfl,rfl⟩);go_wp2_with (first
      | (refine ld 57 _ rfl rfl rfl hrG Tryz.underlying57 rfl (hlen _ _) ?_)
      | (refine bC (cells:=aA ⟨m.sv,mo,m.pv⟩ (eZ (bD r) a s)) 57 (.tmp 6) (.tmp 53) rfl rfl rfl rfl HX.bb bG rfl hone2 ?_;intro w7 hB7 hb7 ho7 hs7;have HB7:=jz hB7;have HE7:=jz hb7;have HO7:=jz ho7;have HS7:=jz hs7;clear hB7 hb7 ho7 hs7))
     have hbw:Below w.heap.size w w7:=HX.bw.trans (HE7.mono (by omega));have hr7:=HB7.range;exact bodyPost_ret (aJ rfl _ rfl hr7 Tryz.underlying57 rfl (hlen _ _)) rfl ⟨⟨m.sv,mo,m.pv⟩,by rw[HV.out.1,HV.out.2];rfl,by rw[HV.out.1];exact HX.k.offK HO7.out (by rw[HS7.out];exact Nat.le_refl _) HNR.out.1,hbw,fun b hm=>by
      rw[HV.out.1] at hm
      rcases HX.rows b hm with h|h
      ·exact .inl h
      ·exact .inr (by omega)⟩
end Go.Proofs.YtombncedfleljaaGreat
