import Derived.Test.YtombncedfleljaaGreatMC19
set_option linter.unusedSimpArgs false
set_option maxRecDepth 100000
set_option maxHeartbeats 40000000
namespace Go.Proofs.YtombncedfleljaaGreat
open Go.RowKit
attribute [local irreducible] wpQuiet wpAnyH
def bE(r:RefD)(n:Int)(c:Bool)(cl:List Int)(v:Value):RefD:=if n<1 then r else { r with plan:=r.plan++[⟨r.steps+n,c,cl,v⟩] }
theorem iH:SlT Tryz.prog 55 138 3 40:=SlT.mk' Tryz.underlying55 (z:=.agg #[.int .i64 0,.bool false,.slice none 0 0]) (by kernel_rfl) rfl (by decide)
def evZ:Array Value:=#[.int .i64 0,.bool false,.slice none 0 0]
theorem AK:∀ w,(zeroValue 138).run Tryz.prog w = .ok (.agg evZ) w:=fun w=>by unfold evZ;kernel_rfl
theorem wP(a:Int)(c:Bool)(A:Option Addr)(n cap:Nat):Tryz.prog.built 138 [(0,.int .i64 a),(1,.bool c),(2,.slice A n cap)]=some (#[.int .i64 a,.bool c,.slice A n cap]:Array Value):=by kernel_rfl
theorem evI(p:PEv):(Tryz.prog.info? 138).map (·.size)=some (evC p).length:=by
 show _=some 3
 kernel_rfl
theorem qE(a:Int)(c:Bool)(cl:List Int)(A:Option Addr)(n cap:Nat):∀ u∈evC ⟨a,c,cl,.slice A n cap⟩,u.oneCell'=true:=fun u hu=>by
 simp only[evC,List.mem_cons,List.not_mem_nil,or_false] at hu;rcases hu with rfl|rfl|rfl <;> rfl
theorem JU{w:World}{m:RM}{r:RefD}(h:RK w m r):∀ u∈r.plan.flatMap evC,u.oneCell'=true:=fun u hu=>by
 obtain⟨p,hp,hu⟩:=List.mem_flatMap.1 hu;simp only[evC,List.mem_cons,List.not_mem_nil,or_false] at hu;obtain⟨_,_,e,_⟩:=h.cuts p hp;rcases hu with rfl|rfl|rfl
 ·rfl
 ·rfl
 ·rw[e];rfl
theorem Sn.offK'{w w':World}{s n:Nat}{v v0:Value}{xs:List Value}(h:Sn w s v n xs)(hg:w.grownBy w' v0.ownBlock)(hne:∀ b,v.ownBlock=some b→v0.ownBlock≠some b):Sn w' s v n xs:=by
 obtain⟨A,cap,rfl,h1,h2,hx⟩:=h;refine⟨A,cap,rfl,h1,h2,fun hp=>?_⟩;obtain⟨b,o,rfl,hc⟩:=hx hp;exact⟨b,o,rfl,fun j u hj=>hg.cell (hc j u hj) (fun e=>hne b rfl e.symm)⟩
structure RP3(w wx:World)(m:RM)(r:RefD)(ge:Nat)(S:Int)(c:Bool)(cl:List Int)(A:Option Addr)(cap:Nat):Prop where
 be:Blk wx ge 138 (evC ⟨S,c,cl,.slice A cl.length cap⟩).toArray
 cu:Sn wx 1 (.slice A cl.length cap) cl.length (eR cl)
 ne:∀ b,(Value.slice A cl.length cap).ownBlock=some b→w.heap.size+2≤b∧b<wx.heap.size
 ge:w.heap.size+2≤ge
 ba:Blk wx w.heap.size 57 (aA m r)
 bz:Blk wx (w.heap.size+1) 57 refZ
 bw:Below w.heap.size w wx
theorem ROk.plan{r:RefD}(h:ROk r){n:Int}(hn:n≤1000000000)(h1:1≤n)(c:Bool){cl:List Int}(v:Value)(hc:(∀ c∈cl,aK c)∧cl.length≤1000000)(hl:r.plan.length+1≤50000):ROk { r with plan:=r.plan++[⟨r.steps+n,c,cl,v⟩] } where
 sec:=h.sec
 opn:=h.opn
 few:=h.few
 lo:=h.lo
 lp:=by show(r.plan++[_]).length≤50000;simp;omega
 st:=h.st
 ev:=fun p hp=>by
  rcases List.mem_append.1 hp with hp|hp
  ·exact h.ev p hp
  ·rw[List.mem_singleton.1 hp];have:=h.st;exact⟨⟨by show -9223372036854775808≤r.steps+n;omega,by show r.steps+n≤9223372036854775807;omega⟩,hc⟩
theorem yW(m:RM)(r:RefD)(n:Int)(c:Bool)(Ac:Option Addr)(cc:Nat)(cl:List Int)(w:World)(h:RK w m r)(hn:n≤1000000000)(hn0:aK n)(hc:Sn w 1 (.slice Ac cl.length cc) cl.length (eR cl))(hci:∀ c∈cl,aK c)(hcl:cl.length≤1000000)(hl:r.plan.length+1≤50000):
  Calls Tryz.prog 49 #[.agg (aA m r),.int .i64 n,.bool c,.slice Ac cl.length cc] w fun e w'=>∃ m' v,e = .returned (.agg (aA m' (bE r n c cl v)))∧RK w' m' (bE r n c cl v)∧Below w.heap.size w w'∧∀ b∈aL m' (bE r n c cl v),b∈aL m r∨w.heap.size≤b:=by
 obtain⟨Ap,cp,ep⟩:=h.plan.slc;have HEP:=jz ep;have HK:=jz h;have HC:=jz hc;have HCI:=jz hci;have HPL:=jz hl;have n1 : -9223372036854775808≤n:=hn0.1;have s1:0≤r.steps:=h.ok.st.1;have s2:r.steps≤1000000000:=h.ok.st.2;have hlen:∀ m r,(Tryz.prog.info? 57).map (·.size)=some (aA m r).toList.length:=fun _ _=>bG
 have hcells:aA m r=#[m.sv,m.ov,.bool r.down,.int .i64 r.steps,.slice Ap r.plan.length cp]:=by unfold aA;rw[ep]
 have HCE:=jz hcells;obtain⟨w1,hw1⟩:=je ((w.alloc (.cells (aA m r) 57)).alloc (.cells refZ 57));have hA1:Blk w1 w.heap.size 57 (aA m r):=by rw[hw1];exact(Blk.new _ _ _).alloc _
 have hB1:Blk w1 (w.heap.size+1) 57 refZ:=by rw[hw1];exact Blk.newAt _ _ _ _ (by simp)
 have hb1:Below w.heap.size w w1:=by rw[hw1];exact aB (aN _ _) (aN _ _)
 have hr1:=hA1.range;have h1:(aA m r).all (·.oneCell')=true:=aR h;have HA1:=jz hA1;have HB1:=jz hB1;have HW1:=jz hb1;have HR1:=jz hr1;clear hA1 hB1 hb1 h hc hci ep hcells hr1 hl hn0;rcases jb (decide (n<1)) with t1|t1
 ·have HF:Hid (∀ v,bE r n c cl v=r):=jz (fun v=>by unfold bE;rw[if_pos (of_decide_eq_true t1)]);go_enter Tryz.func49,Tryz.ntmps49
  go_upto_region 1 with (refine al 57 refZ rfl rfl cJ ?_)
  rw[← hw1];clear hw1;go_wp2_with (first
   | (refine ld 57 _ rfl rfl rfl HR1.out Tryz.underlying57 rfl (hlen m r) ?_)
   | (refine bC (cells:=aA m r) 57 (.tmp 8) (.tmp 12) rfl rfl rfl rfl HB1.out bG rfl h1 ?_;intro w4 hB4 hb4 ho4 hs4;have HB4:=jz hB4;have HE4:=jz hb4;clear hB4 hb4 ho4 hs4))
  have hbw:Below w.heap.size w w4:=HW1.trans (HE4.mono (by omega));exact bodyPost_ret (results_cell_row rfl _ _ (w.heap.size+1) 57 _ (0,0) _ rfl HB4.out Tryz.underlying57 rfl bG) rfl ⟨m,.nilIface,by rw[HF.out],by rw[HF.out];exact HK.keep hbw,hbw,by rw[HF.out];exact fun b hb=>.inl hb⟩
 ·have hn1:1≤n:=by have:=of_decide_eq_false t1;omega
  have HF:Hid (∀ v,bE r n c cl v={ r with plan:=r.plan++[⟨r.steps+n,c,cl,v⟩] }):=jz (fun v=>by unfold bE;rw[if_neg (of_decide_eq_false t1)]);obtain⟨S,hS⟩:=je (r.steps+n);have HSS:=jz hS;have hSb:0≤S∧S≤2000000000:=by omega
  clear hS;go_enter Tryz.func49,Tryz.ntmps49
  go_upto_region 1 with (refine al 57 refZ rfl rfl cJ ?_)
  rw[← hw1];clear hw1;go_upto_region 3 with fail
  go_cut [9] from 13 to 21 (fun x wx=>∃ ge A cap,x = .pointer (some ⟨ge,0,none⟩)∧Hid (RP3 w wx m r ge S c cl A cap))
  case first=>
   obtain⟨wS,hwS⟩:=je w1.drew;have hbS:Below w1.heap.size w1 wS:=by rw[hwS];exact(Below.refl _ _).drew
   have HAS:=jz (HA1.keep hbS);have HBS:=jz (HB1.keep hbS);have HWS:=jz (aB HW1.out hbS);have hsS:w.heap.size+2≤wS.heap.size:=by have:=HBS.lt;omega
   have HIX:Hid (∀ W:World,Below wS.heap.size wS W→W.cell? ⟨w.heap.size,3,none⟩=some (.int .i64 r.steps)):=jz (fun W hb=>by
    rw[(HAS.keep hb).cell 3,HCE.out];rfl)
   have HOLD:Hid (∀ W:World,Below wS.heap.size wS W→Sn W 1 (.slice Ac cl.length cc) cl.length (eR cl)):=jz (fun W hb=>HC.below (aB HWS.out hb));have HFIN:Hid (∀(W:World) (ge:Nat) (A:Option Addr) (cap:Nat),Below wS.heap.size wS W→W.ownsRow wS.heap.size 3 1 (.slice A cl.length cap) cl.length (eR cl)→Blk W ge 138 evZ→wS.heap.size≤ge→(∀ b,(Value.slice A cl.length cap).ownBlock=some b→b≠ge)→RP3 w (W.setCells ge 0 (evC ⟨S,c,cl,.slice A cl.length cap⟩)) m r ge S c cl A cap∧(W.setCells ge 0 (evC ⟨S,c,cl,.slice A cl.length cap⟩)).cell? ⟨w.heap.size,3,none⟩=some (.int .i64 r.steps)):=jz (fun W ge A cap hb ho hB hge hne=>by
    have hoth:∀ k,k≠ge→(W.setCells ge 0 (evC ⟨S,c,cl,.slice A cl.length cap⟩)).heap[k]? = W.heap[k]?:=fun k hk=>bA hk _ _ _
    have hsz:(W.setCells ge 0 (evC ⟨S,c,cl,.slice A cl.length cap⟩)).heap.size=W.heap.size:=(aO (B:=0) (Nat.zero_le _) _ _ _).2
    have hbz:Below wS.heap.size wS (W.setCells ge 0 (evC ⟨S,c,cl,.slice A cl.length cap⟩)):=hb.trans (aO hge _ _ _).1
    refine⟨⟨Blk.setAll _ hB rfl,(Sn.own ho).offK hoth (fun e=>hne ge e rfl),fun b e=>?_,by omega,HAS.keep hbz,HBS.keep hbz,aB HWS.out hbz⟩,HIX.out _ hbz⟩
    have:=ho.lt b e
    omega)
   refine aQ 11 (fun w'=>w'.cell? ⟨w.heap.size,3,none⟩=some (.int .i64 r.steps)) (by kernel_rfl) (by kernel_rfl) (by rw[← hwS];exact HIX.out _ (Below.refl _ _)) (fun hH=>?_);rw[← hwS] at hH ⊢;clear hwS;refine jT 0 (.fieldAddr 57 (.tmp 4) 3) (some 13) (.pointer (some ⟨w.heap.size,3,none⟩)) hH ?_;simp only[jq];refine jT 1 (.load 3 (.tmp 13)) (some 14) (.int .i64 r.steps) (hy:=fun o ho wX hX=>by have hcell:=hX;unfold execOp;simp only[ho];go_simp) hH ?_;simp only[jq];refine jM 2 (.tmp 1) (some 15) (.int .i64 n) hH ?_;simp only[jq];refine jT 3 (.binOp .add 3 (.tmp 14) (.tmp 15) 3) (some 16) (.int .i64 S) (hy:=fun o ho wX hX=>by have hss:=HSS.out;unfold execOp;simp only[ho];go_simp;exact IntWalk.i64_in _ (by omega)) hH ?_;simp only[jq];refine jM 4 (.tmp 2) (some 17) (.bool c) hH ?_;simp only[jq];refine jM 6 (.tmp 3) (some 19) (.slice Ac cl.length cc) hH ?_;simp only[jq];refine jW [5,9] ?_;refine jS 5 (.buildSlice 29 0 #[]) (some 18) (.slice (some ⟨wS.heap.size,0,none⟩) 0 0) (wS.alloc (.cells #[] 3)) (HIX.out _ (aB (Below.refl _ wS) (aN _ _))) ?_ (zU 9 138 (some 9) evZ (by kernel_rfl) (by kernel_rfl) AK (HIX.out _ (aB (Below.refl _ wS) (aN _ _))) ?_ jN)
   ·simp only[jq];obtain⟨g1,hg1⟩:=je wS.heap.size;obtain⟨wk1,hwk1⟩:=je (wS.alloc (.cells #[] 3));have hbr1:Below wS.heap.size wS wk1:=by rw[hwk1];exact aN _ _
    have hs1:wk1.heap.size=g1+1:=by rw[hwk1,hg1];simp
    have hB1:Below wS.heap.size wS wk1:=aB (Below.refl _ wS) hbr1;have hgS1:wS.heap.size≤g1:=by rw[hg1];exact(show Below wS.heap.size wS wS from(Below.refl _ wS)).size
    have hO1:wk1.ownsRow wS.heap.size 3 1 (.slice (some ⟨g1,0,none⟩) 0 0) 0 []:=by rw[hwk1];exact cI wS #[] 3 1 0 wS.heap.size g1 (show Below wS.heap.size wS wS from(Below.refl _ wS)).size rfl (by decide) hg1.symm
    rw[← hg1,← hwk1];refine jW [7,9] ?_;refine bZ 7 yI (.tmp 18) (.tmp 19) (some 20) (by kernel_rfl) (by kernel_rfl) (by rfl) hO1 (by rfl) (HOLD.out _ hB1) (nA cl) (by unfold maxLen;omega) (by omega) (show Below wS.heap.size wS wk1 from hB1).size (fun v7 wk2 hown hgrow hblk=>?_) (zU 9 138 (some 9) evZ (by kernel_rfl) (by kernel_rfl) AK (HIX.out _ (aB hB1 (aN _ _))) ?_ jN)
    ·rw[List.nil_append,Nat.zero_add] at hown;obtain⟨a7,c7,hv7,_,_⟩:=aU hown;subst hv7;have hO2:=hown;have hB2:Below wS.heap.size wS wk2:=Below.grown hB1 hgrow (show Below wS.heap.size wS wk1 from hB1).size (fun g hg=>(hO1.lt g hg).1);refine⟨HIX.out _ hB2,fun hH=>?_⟩;simp only[jq];refine lE 8 138 #[(0,Operand.tmp 16),(1,Operand.tmp 17),(2,Operand.tmp 20)] (some 21) (vs:=[(0,.int .i64 S),(1,.bool c),(2,.slice a7 cl.length c7)]) (cells:=#[.int .i64 S,.bool c,.slice a7 cl.length c7]) (by kernel_rfl) (by kernel_rfl) (by kernel_rfl) (by kernel_rfl) (by kernel_rfl) (fun _ _ _ h=>h) (by rfl) (wP S c a7 cl.length c7) hH ?_;simp only[jq];refine jW [9] ?_;refine zU 9 138 (some 9) evZ (by kernel_rfl) (by kernel_rfl) AK (HIX.out _ (aB hB2 (aN _ _))) ?_ jN;simp only[jq];obtain⟨g3,hg3⟩:=je wk2.heap.size;obtain⟨wk3,hwk3⟩:=je (wk2.alloc (.cells evZ 138));have hbr3:Below wk2.heap.size wk2 wk3:=by rw[hwk3];exact aN _ _
     have hs3:wk3.heap.size=g3+1:=by rw[hwk3,hg3];simp
     have hB3:Below wS.heap.size wS wk3:=aB hB2 hbr3;have hgS3:wS.heap.size≤g3:=by rw[hg3];exact(show Below wS.heap.size wS wk2 from hB2).size
     have hO3:=aX hO2 hbr3;have hE3:Blk wk3 g3 138 evZ:=by rw[hwk3,hg3];exact Blk.new _ _ _
     have hne:∀ b,(Value.slice a7 cl.length c7).ownBlock=some b→b≠g3:=fun b e=>by have:=(hO2.lt b e).2;omega
     rw[← hg3,← hwk3];have hfin:=HFIN.out wk3 g3 a7 c7 hB3 hO3 hE3 (by omega) hne;refine jW [10] ?_;refine jR 10 138 (.tmp 9) (.tmp 21) none (cs:=evC ⟨S,c,cl,.slice a7 cl.length c7⟩) (aF hE3 rfl) (evI _) (qE _ _ _ _ _ _) hfin.2 ?_ jN;simp only[jq];refine wpAnyH_done (by kernel_rfl) ?_ _;have HFI:=jz hfin.1;clear hfin;go_wp2_with fail
     go_meet
     exact⟨_,_,_,rfl,HFI⟩
    ·simp only[jq];obtain⟨g4,hg4⟩:=je wk1.heap.size;obtain⟨wk4,hwk4⟩:=je (wk1.alloc (.cells evZ 138));have hbr4:Below wk1.heap.size wk1 wk4:=by rw[hwk4];exact aN _ _
     have hs4:wk4.heap.size=g4+1:=by rw[hwk4,hg4];simp
     have hB4:Below wS.heap.size wS wk4:=aB hB1 hbr4;have hgS4:wS.heap.size≤g4:=by rw[hg4];exact(show Below wS.heap.size wS wk1 from hB1).size
     have hO4:=aX hO1 hbr4;have hE4:Blk wk4 g4 138 evZ:=by rw[hwk4,hg4];exact Blk.new _ _ _
     have hlt4:g1<g4:=by rw[hg4];exact(hO1.lt _ rfl).2
     rw[← hg4,← hwk4];refine jW [7] ?_;refine bZ 7 yI (.tmp 18) (.tmp 19) (some 20) (by kernel_rfl) (by kernel_rfl) (by rfl) hO4 (by rfl) (HOLD.out _ hB4) (nA cl) (by unfold maxLen;omega) (by omega) (show Below wS.heap.size wS wk4 from hB4).size (fun v7 wk5 hown hgrow hblk=>?_) jN;rw[List.nil_append,Nat.zero_add] at hown;obtain⟨a7,c7,hv7,_,_⟩:=aU hown;subst hv7;have hO5:=hown;have hB5:Below wS.heap.size wS wk5:=Below.grown hB4 hgrow (show Below wS.heap.size wS wk4 from hB4).size (fun g hg=>(hO4.lt g hg).1);have hE5:Blk wk5 g4 138 evZ:=(Off.of_grown (b:=g1) hgrow).blk hE4 (by omega);have hne:∀ b,(Value.slice a7 cl.length c7).ownBlock=some b→b≠g4:=fun b e=>by
      rcases hblk with h|h
      ·have h2:g1=b:=Option.some.inj ((show some g1=_ from rfl).trans (h.symm.trans e));omega
      ·have h2:wk4.heap.size=b:=Option.some.inj (h.symm.trans e);have:=hE4.lt;omega
     refine⟨HIX.out _ hB5,fun hH=>?_⟩;simp only[jq];refine lE 8 138 #[(0,Operand.tmp 16),(1,Operand.tmp 17),(2,Operand.tmp 20)] (some 21) (vs:=[(0,.int .i64 S),(1,.bool c),(2,.slice a7 cl.length c7)]) (cells:=#[.int .i64 S,.bool c,.slice a7 cl.length c7]) (by kernel_rfl) (by kernel_rfl) (by kernel_rfl) (by kernel_rfl) (by kernel_rfl) (fun _ _ _ h=>h) (by rfl) (wP S c a7 cl.length c7) hH ?_;simp only[jq];have hfin:=HFIN.out wk5 g4 a7 c7 hB5 hO5 hE5 (by omega) hne;refine jW [10] ?_;refine jR 10 138 (.tmp 9) (.tmp 21) none (cs:=evC ⟨S,c,cl,.slice a7 cl.length c7⟩) (aF hE5 rfl) (evI _) (qE _ _ _ _ _ _) hfin.2 ?_ jN;simp only[jq];refine wpAnyH_done (by kernel_rfl) ?_ _;have HFI:=jz hfin.1;clear hfin;go_wp2_with fail
     go_meet
     exact⟨_,_,_,rfl,HFI⟩
   ·simp only[jq];obtain⟨g6,hg6⟩:=je wS.heap.size;obtain⟨wk6,hwk6⟩:=je (wS.alloc (.cells evZ 138));have hbr6:Below wS.heap.size wS wk6:=by rw[hwk6];exact aN _ _
    have hs6:wk6.heap.size=g6+1:=by rw[hwk6,hg6];simp
    have hB6:Below wS.heap.size wS wk6:=aB (Below.refl _ wS) hbr6;have hgS6:wS.heap.size≤g6:=by rw[hg6];exact(show Below wS.heap.size wS wS from(Below.refl _ wS)).size
    have hE6:Blk wk6 g6 138 evZ:=by rw[hwk6,hg6];exact Blk.new _ _ _
    rw[← hg6,← hwk6];refine jW [5] ?_;refine jS 5 (.buildSlice 29 0 #[]) (some 18) (.slice (some ⟨wk6.heap.size,0,none⟩) 0 0) (wk6.alloc (.cells #[] 3)) (HIX.out _ (aB hB6 (aN _ _))) ?_ jN;simp only[jq];obtain⟨g7,hg7⟩:=je wk6.heap.size;obtain⟨wk7,hwk7⟩:=je (wk6.alloc (.cells #[] 3));have hbr7:Below wk6.heap.size wk6 wk7:=by rw[hwk7];exact aN _ _
    have hs7:wk7.heap.size=g7+1:=by rw[hwk7,hg7];simp
    have hB7:Below wS.heap.size wS wk7:=aB hB6 hbr7;have hgS7:wS.heap.size≤g7:=by rw[hg7];exact(show Below wS.heap.size wS wk6 from hB6).size
    have hE7:=hE6.keep hbr7;have hO7:wk7.ownsRow wS.heap.size 3 1 (.slice (some ⟨g7,0,none⟩) 0 0) 0 []:=by rw[hwk7];exact cI wk6 #[] 3 1 0 wS.heap.size g7 (show Below wS.heap.size wS wk6 from hB6).size rfl (by decide) hg7.symm
    have hlt7:g6<g7:=by rw[hg7];exact hE6.lt
    rw[← hg7,← hwk7];refine jW [7] ?_;refine bZ 7 yI (.tmp 18) (.tmp 19) (some 20) (by kernel_rfl) (by kernel_rfl) (by rfl) hO7 (by rfl) (HOLD.out _ hB7) (nA cl) (by unfold maxLen;omega) (by omega) (show Below wS.heap.size wS wk7 from hB7).size (fun v7 wk8 hown hgrow hblk=>?_) jN;rw[List.nil_append,Nat.zero_add] at hown;obtain⟨a7,c7,hv7,_,_⟩:=aU hown;subst hv7;have hO8:=hown;have hB8:Below wS.heap.size wS wk8:=Below.grown hB7 hgrow (show Below wS.heap.size wS wk7 from hB7).size (fun g hg=>(hO7.lt g hg).1);have hE8:Blk wk8 g6 138 evZ:=(Off.of_grown (b:=g7) hgrow).blk hE7 (by omega);have hne:∀ b,(Value.slice a7 cl.length c7).ownBlock=some b→b≠g6:=fun b e=>by
     rcases hblk with h|h
     ·have h2:g7=b:=Option.some.inj ((show some g7=_ from rfl).trans (h.symm.trans e));omega
     ·have h2:wk7.heap.size=b:=Option.some.inj (h.symm.trans e);have:=hE7.lt;omega
    refine⟨HIX.out _ hB8,fun hH=>?_⟩;simp only[jq];refine lE 8 138 #[(0,Operand.tmp 16),(1,Operand.tmp 17),(2,Operand.tmp 20)] (some 21) (vs:=[(0,.int .i64 S),(1,.bool c),(2,.slice a7 cl.length c7)]) (cells:=#[.int .i64 S,.bool c,.slice a7 cl.length c7]) (by kernel_rfl) (by kernel_rfl) (by kernel_rfl) (by kernel_rfl) (by kernel_rfl) (fun _ _ _ h=>h) (by rfl) (wP S c a7 cl.length c7) hH ?_;simp only[jq];have hfin:=HFIN.out wk8 g6 a7 c7 hB8 hO8 hE8 (by omega) hne;refine jW [10] ?_;refine jR 10 138 (.tmp 9) (.tmp 21) none (cs:=evC ⟨S,c,cl,.slice a7 cl.length c7⟩) (aF hE8 rfl) (evI _) (qE _ _ _ _ _ _) hfin.2 ?_ jN;simp only[jq];refine wpAnyH_done (by kernel_rfl) ?_ _;have HFI:=jz hfin.1;clear hfin;go_wp2_with fail
    go_meet
    exact⟨_,_,_,rfl,HFI⟩
  case rest=>
  obtain⟨ge,A,cap,rfl,HX⟩:=hcut;obtain⟨pe,hpe⟩:∃ pe:PEv,pe=⟨S,c,cl,.slice A cl.length cap⟩:=⟨_,rfl⟩;have HPE:=jz hpe;have hone1:∀ u∈evC pe,u.oneCell'=true:=by rw[hpe];exact qE S c cl A cl.length cap
  have HONE1:=jz hone1;clear hone1 hpe;have HUE:=jz (evI pe);obtain⟨wS,hwS⟩:=je wc.drew;have hbS:Below wc.heap.size wc wS:=by rw[hwS];exact(Below.refl _ _).drew
  have HAS:=jz (HX.ba.keep hbS);have HBS':=jz (HX.bz.keep hbS);have HES:Hid (Blk wS ge 138 (evC pe).toArray):=jz (by rw[HPE.out];exact HX.be.keep hbS);have HCS:=jz (HX.cu.below hbS);have HWS:=jz (aB HX.bw hbS);have hsS:w.heap.size+2≤wS.heap.size:=by have:=HBS'.out.lt;omega
  have hnec:∀ b,(Value.slice A cl.length cap).ownBlock=some b→w.heap.size+2≤b∧b<wS.heap.size:=fun b e=>by have:=HX.ne b e;have:=hbS.size;omega
  have HNEC:=jz hnec;clear hnec hbS;have HIX:Hid (∀ W:World,Below (w.heap.size+2) wS W→W.cell? ⟨w.heap.size,4,none⟩=some (.slice Ap r.plan.length cp)):=jz (fun W hb=>by
   rw[(HAS.below hb (by omega)).cell 4,HCE.out];rfl)
  have HOLD:Hid (∀ W:World,Below wS.heap.size wS W→Sn W 3 (.slice Ap r.plan.length cp) r.plan.length (r.plan.flatMap evC)):=jz (fun W hb=>by
   rw[← HEP.out]
   exact HK.plan.below (aB HWS.out hb))
  have HM:Hid (∀ W:World,Below wS.heap.size wS W→W.cell? ⟨w.heap.size,3,none⟩=some (.int .i64 r.steps)∧W.cell? ⟨w.heap.size,4,none⟩=some (.slice Ap r.plan.length cp)∧W.rangeAt ge 0 (evC pe)):=jz (fun W hb=>⟨by rw[(HAS.keep hb).cell 3,HCE.out];rfl,HIX.out W (hb.mono (by omega)),by have h:=(HES.keep hb).range;rw[jt] at h;exact h⟩);have HBS:Hid (Below wS.heap.size wS wS):=jz (Below.refl _ _);have hpl:r.plan.length+1≤50000:=HPL.out;have HONE:=jz (JU HK.out);have HFIN:Hid (∀(W:World) (V:Value),Below wS.heap.size wS W→W.ownsRow wS.heap.size 138 3 V (r.plan.length+1) (r.plan.flatMap evC++evC pe)→Blk (W.setCell ⟨w.heap.size,4,none⟩ V) w.heap.size 57 (aA ⟨m.sv,m.ov,V⟩ (bE r n c cl (.slice A cl.length cap)))∧RK (W.setCell ⟨w.heap.size,4,none⟩ V) ⟨m.sv,m.ov,V⟩ (bE r n c cl (.slice A cl.length cap))∧Blk (W.setCell ⟨w.heap.size,4,none⟩ V) (w.heap.size+1) 57 refZ∧Below w.heap.size w (W.setCell ⟨w.heap.size,4,none⟩ V)∧(∀ b∈aL ⟨m.sv,m.ov,V⟩ (bE r n c cl (.slice A cl.length cap)),b∈aL m r∨w.heap.size+2≤b)):=jz (fun W V hb ho=>by
   have hoth:∀ k,k≠w.heap.size→(W.setCell ⟨w.heap.size,4,none⟩ V).heap[k]? = W.heap[k]?:=fun k hk=>Below.heap_setCell W ⟨w.heap.size,4,none⟩ V k hk
   have hbw:Below w.heap.size w (W.setCell ⟨w.heap.size,4,none⟩ V):=(aB HWS.out hb).setCell (Nat.le_refl _) _
   have hsz:(W.setCell ⟨w.heap.size,4,none⟩ V).heap.size=W.heap.size:=by simp
   have hk:=HK.keep hbw
   have hne:∀ b,V.ownBlock=some b→w.heap.size+2≤b:=fun b e=>by have:=(ho.lt b e).1;omega
   have hpn:(bE r n c cl (.slice A cl.length cap)).plan=r.plan++[pe]:=by rw[HF.out,HPE.out,HSS.out]
   have hsub:∀ b∈aL ⟨m.sv,m.ov,V⟩ (bE r n c cl (.slice A cl.length cap)),b∈aL m r∨(w.heap.size+2≤b∧b<W.heap.size):=fun b hm=>by
    rw[bO,hpn] at hm
    rcases hm with hm|hm|hm|⟨p,hp,hm⟩
    ·exact .inl (bO.2 (.inl hm))
    ·exact .inl (bO.2 (.inr (.inl hm)))
    ·exact .inr ⟨hne b hm,(ho.lt b hm).2⟩
    ·rcases List.mem_append.1 hp with hp|hp
     ·exact .inl (bO.2 (.inr (.inr (.inr ⟨p,hp,hm⟩))))
     ·rw[List.mem_singleton.1 hp,HPE.out] at hm
      have:=HNEC.out b hm
      have:=hb.size
      exact .inr (by omega)
   refine⟨?_,?_,(hoth _ (by omega)).trans (HBS'.out.keep hb),hbw,fun b hm=>by rcases hsub b hm with h|h;exact .inl h;exact .inr h.1⟩
   ·have h1:=(HAS.keep hb).set_ 4 V
    rw[HF.out]
    exact h1
   ·have hbl:∀ b∈aL ⟨m.sv,m.ov,V⟩ (bE r n c cl (.slice A cl.length cap)),b<(W.setCell ⟨w.heap.size,4,none⟩ V).heap.size:=fun b hm=>by
     rcases hsub b hm with h|h
     ·have:=HK.bl b h;have:=hbw.size;omega
     ·omega
    have hok:=HK.ok.plan (n:=n) (cl:=cl) hn hn1 c (.slice A cl.length cap) ⟨HCI.out,hcl⟩ hpl
    rw[HF.out] at hbl ⊢
    refine⟨hk.sec,hk.opn,?_,fun p hp=>?_,hok,hbl⟩
    ·show Sn _ 3 V (r.plan++[_]).length ((r.plan++[(⟨r.steps+n,c,cl,.slice A cl.length cap⟩:PEv)]).flatMap evC)
     rw[← HSS.out,← HPE.out,List.flatMap_append,List.length_append]
     have:=(Sn.own ho).offK hoth (fun e=>by have:=hne _ e;omega)
     simpa using this
    ·rcases List.mem_append.1 hp with hp|hp
     ·exact hk.cuts p hp
     ·rw[List.mem_singleton.1 hp]
      exact(HCS.below hb).offK hoth (fun e=>by have:=(HNEC.out _ e).1;omega))
  go_upto_region 4 with fail
  go_cut [] from 22 to 29 (fun wx=>∃ V:Value,Hid (Blk wx w.heap.size 57 (aA ⟨m.sv,m.ov,V⟩ (bE r n c cl (.slice A cl.length cap)))∧RK wx ⟨m.sv,m.ov,V⟩ (bE r n c cl (.slice A cl.length cap))∧Blk wx (w.heap.size+1) 57 refZ∧Below w.heap.size w wx∧(∀ b∈aL ⟨m.sv,m.ov,V⟩ (bE r n c cl (.slice A cl.length cap)),b∈aL m r∨w.heap.size+2≤b)))
  case first=>
   refine aQ 9 (fun w'=>w'.cell? ⟨w.heap.size,3,none⟩=some (.int .i64 r.steps)∧w'.rangeAt ge 0 (evC pe)) (by kernel_rfl) (by kernel_rfl) (by rw[← hwS];exact⟨(HM.out _ (Below.refl _ _)).1,(HM.out _ (Below.refl _ _)).2.2⟩) (fun hH=>?_);rw[← hwS] at hH ⊢;clear hwS;refine jT 1 (.fieldAddr 57 (.tmp 4) 4) (some 23) (.pointer (some ⟨w.heap.size,4,none⟩)) hH ?_;simp only[jq];refine jL 4 138 (.tmp 9) (some 26) (cs:=evC pe) (fun _ hX=>hX.2) Tryz.underlying138 rfl HUE.out hH ?_;simp only[jq];refine jW [0,2,5] ?_;refine jS 0 (.buildSlice 55 0 #[]) (some 22) (.slice (some ⟨wS.heap.size,0,none⟩) 0 0) (wS.alloc (.cells #[] 138)) ⟨(HM.out _ (aB HBS.out (aN _ _))).1,(HM.out _ (aB HBS.out (aN _ _))).2.2⟩ ?_ (jS 2 (.load 55 (.tmp 23)) (some 24) (.slice Ap r.plan.length cp) wS (hrun:=fun o ho=>by have hcell:=(HM.out _ HBS.out).2.1;unfold execOp;simp only[ho];go_simp) ⟨(HM.out _ HBS.out).1,(HM.out _ HBS.out).2.2⟩ ?_ (eB 5 iH (.tmp 26) (some 27) (by kernel_rfl) (by kernel_rfl) (cs:=evC pe) (by rfl) rfl (by decide) ⟨(HM.out _ (aB HBS.out (aN _ _))).1,(HM.out _ (aB HBS.out (aN _ _))).2.2⟩ ?_ jN))
   ·simp only[jq];obtain⟨g1,hg1⟩:=je wS.heap.size;obtain⟨wk1,hwk1⟩:=je (wS.alloc (.cells #[] 138));have hbr1:Below wS.heap.size wS wk1:=by rw[hwk1];exact aN _ _
    have hs1:wk1.heap.size=g1+1:=by rw[hwk1,hg1];simp
    have hB1:Below wS.heap.size wS wk1:=aB HBS.out hbr1;have hO1:wk1.ownsRow wS.heap.size 138 3 (.slice (some ⟨g1,0,none⟩) 0 0) 0 []:=by rw[hwk1];exact cI wS #[] 138 3 0 wS.heap.size g1 (show Below wS.heap.size wS wS from HBS.out).size rfl (by decide) hg1.symm
    rw[← hg1,← hwk1];clear hwk1 hg1;refine jW [2,5] ?_;refine jS 2 (.load 55 (.tmp 23)) (some 24) (.slice Ap r.plan.length cp) wk1 (hrun:=fun o ho=>by have hcell:=(HM.out _ hB1).2.1;unfold execOp;simp only[ho];go_simp) ⟨(HM.out _ hB1).1,(HM.out _ hB1).2.2⟩ ?_ (eB 5 iH (.tmp 26) (some 27) (by kernel_rfl) (by kernel_rfl) (cs:=evC pe) (by rfl) rfl (by decide) ⟨(HM.out _ (aB hB1 (aN _ _))).1,(HM.out _ (aB hB1 (aN _ _))).2.2⟩ ?_ jN)
    ·simp only[jq];refine jW [3,5] ?_;refine bZ 3 iH (.tmp 22) (.tmp 24) (some 25) (by kernel_rfl) (by kernel_rfl) (by rfl) hO1 (by rfl) (HOLD.out _ hB1) HONE.out (by unfold maxLen;omega) (by omega) (show Below wS.heap.size wS wk1 from hB1).size (fun v7 wk3 hown hgrow hblk=>?_) (eB 5 iH (.tmp 26) (some 27) (by kernel_rfl) (by kernel_rfl) (cs:=evC pe) (by rfl) rfl (by decide) ⟨(HM.out _ (aB hB1 (aN _ _))).1,(HM.out _ (aB hB1 (aN _ _))).2.2⟩ ?_ jN)
     ·rw[List.nil_append,Nat.zero_add] at hown;obtain⟨a7,c7,hv7,_,_⟩:=aU hown;subst hv7;have hO3:=hown;have hB3:Below wS.heap.size wS wk3:=Below.grown hB1 hgrow (show Below wS.heap.size wS wk1 from hB1).size (fun g hg=>(hO1.lt g hg).1);refine⟨⟨(HM.out _ hB3).1,(HM.out _ hB3).2.2⟩,fun _=>?_⟩;simp only[jq];refine jW [5] ?_;refine eB 5 iH (.tmp 26) (some 27) (by kernel_rfl) (by kernel_rfl) (cs:=evC pe) (by rfl) rfl (by decide) ⟨(HM.out _ (aB hB3 (aN _ _))).1,(HM.out _ (aB hB3 (aN _ _))).2.2⟩ ?_ jN;simp only[jq];obtain⟨g4,hg4⟩:=je wk3.heap.size;obtain⟨wk4,hwk4⟩:=je (wk3.alloc (.cells (evC pe).toArray 138));have hbr4:Below wk3.heap.size wk3 wk4:=by rw[hwk4];exact aN _ _
      have hs4:wk4.heap.size=g4+1:=by rw[hwk4,hg4];simp
      have hB4:Below wS.heap.size wS wk4:=aB hB3 hbr4;have hO4:=aX hO3 hbr4;have hL4:Sn wk4 3 (.slice (some ⟨g4,0,none⟩) 1 1) 1 (evC pe):=by rw[hwk4];have h:=Sn.newAt wk3 (evC pe).toArray 138 3 1 g4 rfl hg4.symm;rw[jt] at h;exact h
      rw[← hg4,← hwk4];clear hwk4 hg4;refine jW [6] ?_;refine bZ 6 iH (.tmp 25) (.tmp 27) (some 28) (by kernel_rfl) (by kernel_rfl) (by rfl) hO4 (by rfl) hL4 HONE1.out (by unfold maxLen;omega) (by omega) (show Below wS.heap.size wS wk4 from hB4).size (fun v8 wk5 hown hgrow hblk=>?_) jN;obtain⟨a8,c8,hv8,_,_⟩:=aU hown;subst hv8;have hB5:Below wS.heap.size wS wk5:=Below.grown hB4 hgrow (show Below wS.heap.size wS wk4 from hB4).size (fun g hg=>(hO4.lt g hg).1);refine⟨⟨(HM.out _ hB5).1,(HM.out _ hB5).2.2⟩,fun hH=>?_⟩;simp only[jq];refine jT 7 (.fieldAddr 57 (.tmp 4) 4) (some 29) (.pointer (some ⟨w.heap.size,4,none⟩)) hH ?_;simp only[jq];refine jW [8] ?_;have HFI:=jz (HFIN.out wk5 (.slice a8 (r.plan.length+1) c8) hB5 hown);have hcg:=(HAS.keep hB5).cell 4;have hfg:=(HAS.keep hB5).frozen 4;rw[HCE.out] at hcg;simp only[List.getElem?_toArray,List.getElem?_cons_succ,List.getElem?_cons_zero] at hcg;have hc3:(wk5.setCell ⟨w.heap.size,4,none⟩ (.slice a8 (r.plan.length+1) c8)).cell? ⟨w.heap.size,3,none⟩=some (.int .i64 r.steps):=by have h:=((HAS.keep hB5).set_ 4 (.slice a8 (r.plan.length+1) c8)).cell 3;rw[HCE.out] at h;exact h
      have hce:(wk5.setCell ⟨w.heap.size,4,none⟩ (.slice a8 (r.plan.length+1) c8)).rangeAt ge 0 (evC pe):=fun i u hi=>(World.cell?_of_block (a:=⟨ge,0+i,none⟩) (Below.heap_setCell wk5 ⟨w.heap.size,4,none⟩ _ ge (by have:=HX.ge;show ge≠w.heap.size;omega))).trans ((HM.out _ hB5).2.2 i u hi)
      refine dH 8 (Op.store 55 (Operand.tmp 29) (Operand.tmp 28)) none (wk5.setCell ⟨w.heap.size,4,none⟩ (.slice a8 (r.plan.length+1) c8)) (by kernel_rfl) (by kernel_rfl) (fun o ho=>by unfold execOp;simp only[ho];go_simp) ⟨hc3,hce⟩ ?_ jN;simp only[jq];refine wpAnyH_done (by kernel_rfl) ?_ _;go_wp2_with fail
      go_meet
      exact⟨_,HFI⟩
     ·simp only[jq];obtain⟨g6,hg6⟩:=je wk1.heap.size;obtain⟨wk6,hwk6⟩:=je (wk1.alloc (.cells (evC pe).toArray 138));have hbr6:Below wk1.heap.size wk1 wk6:=by rw[hwk6];exact aN _ _
      have hs6:wk6.heap.size=g6+1:=by rw[hwk6,hg6];simp
      have hB6:Below wS.heap.size wS wk6:=aB hB1 hbr6;have hO6:=aX hO1 hbr6;have hL6:Sn wk6 3 (.slice (some ⟨g6,0,none⟩) 1 1) 1 (evC pe):=by rw[hwk6];have h:=Sn.newAt wk1 (evC pe).toArray 138 3 1 g6 rfl hg6.symm;rw[jt] at h;exact h
      have hlt6:g1<g6:=by rw[hg6];exact(hO1.lt _ rfl).2
      rw[← hg6,← hwk6];clear hwk6 hg6;refine jW [3] ?_;refine bZ 3 iH (.tmp 22) (.tmp 24) (some 25) (by kernel_rfl) (by kernel_rfl) (by rfl) hO6 (by rfl) (HOLD.out _ hB6) HONE.out (by unfold maxLen;omega) (by omega) (show Below wS.heap.size wS wk6 from hB6).size (fun v7 wk7 hown hgrow hblk=>?_) jN;rw[List.nil_append,Nat.zero_add] at hown;obtain⟨a7,c7,hv7,_,_⟩:=aU hown;subst hv7;have hO7:=hown;have hB7:Below wS.heap.size wS wk7:=Below.grown hB6 hgrow (show Below wS.heap.size wS wk6 from hB6).size (fun g hg=>(hO6.lt g hg).1);have hL7:Sn wk7 3 (.slice (some ⟨g6,0,none⟩) 1 1) 1 (evC pe):=Sn.offK' hL6 hgrow (fun b e1 e2=>by have e1:g6=b:=Option.some.inj e1;have e2:g1=b:=Option.some.inj e2;omega);refine⟨⟨(HM.out _ hB7).1,(HM.out _ hB7).2.2⟩,fun _=>?_⟩;simp only[jq];refine jW [6] ?_;refine bZ 6 iH (.tmp 25) (.tmp 27) (some 28) (by kernel_rfl) (by kernel_rfl) (by rfl) hO7 (by rfl) hL7 HONE1.out (by unfold maxLen;omega) (by omega) (show Below wS.heap.size wS wk7 from hB7).size (fun v8 wk8 hown hgrow hblk=>?_) jN;obtain⟨a8,c8,hv8,_,_⟩:=aU hown;subst hv8;have hB8:Below wS.heap.size wS wk8:=Below.grown hB7 hgrow (show Below wS.heap.size wS wk7 from hB7).size (fun g hg=>(hO7.lt g hg).1);refine⟨⟨(HM.out _ hB8).1,(HM.out _ hB8).2.2⟩,fun hH=>?_⟩;simp only[jq];refine jT 7 (.fieldAddr 57 (.tmp 4) 4) (some 29) (.pointer (some ⟨w.heap.size,4,none⟩)) hH ?_;simp only[jq];refine jW [8] ?_;have HFI:=jz (HFIN.out wk8 (.slice a8 (r.plan.length+1) c8) hB8 hown);have hcg:=(HAS.keep hB8).cell 4;have hfg:=(HAS.keep hB8).frozen 4;rw[HCE.out] at hcg;simp only[List.getElem?_toArray,List.getElem?_cons_succ,List.getElem?_cons_zero] at hcg;have hc3:(wk8.setCell ⟨w.heap.size,4,none⟩ (.slice a8 (r.plan.length+1) c8)).cell? ⟨w.heap.size,3,none⟩=some (.int .i64 r.steps):=by have h:=((HAS.keep hB8).set_ 4 (.slice a8 (r.plan.length+1) c8)).cell 3;rw[HCE.out] at h;exact h
      have hce:(wk8.setCell ⟨w.heap.size,4,none⟩ (.slice a8 (r.plan.length+1) c8)).rangeAt ge 0 (evC pe):=fun i u hi=>(World.cell?_of_block (a:=⟨ge,0+i,none⟩) (Below.heap_setCell wk8 ⟨w.heap.size,4,none⟩ _ ge (by have:=HX.ge;show ge≠w.heap.size;omega))).trans ((HM.out _ hB8).2.2 i u hi)
      refine dH 8 (Op.store 55 (Operand.tmp 29) (Operand.tmp 28)) none (wk8.setCell ⟨w.heap.size,4,none⟩ (.slice a8 (r.plan.length+1) c8)) (by kernel_rfl) (by kernel_rfl) (fun o ho=>by unfold execOp;simp only[ho];go_simp) ⟨hc3,hce⟩ ?_ jN;simp only[jq];refine wpAnyH_done (by kernel_rfl) ?_ _;go_wp2_with fail
      go_meet
      exact⟨_,HFI⟩
    ·simp only[jq];obtain⟨g9,hg9⟩:=je wk1.heap.size;obtain⟨wk9,hwk9⟩:=je (wk1.alloc (.cells (evC pe).toArray 138));have hbr9:Below wk1.heap.size wk1 wk9:=by rw[hwk9];exact aN _ _
     have hs9:wk9.heap.size=g9+1:=by rw[hwk9,hg9];simp
     have hB9:Below wS.heap.size wS wk9:=aB hB1 hbr9;have hO9:=aX hO1 hbr9;have hL9:Sn wk9 3 (.slice (some ⟨g9,0,none⟩) 1 1) 1 (evC pe):=by rw[hwk9];have h:=Sn.newAt wk1 (evC pe).toArray 138 3 1 g9 rfl hg9.symm;rw[jt] at h;exact h
     have hlt9:g1<g9:=by rw[hg9];exact(hO1.lt _ rfl).2
     rw[← hg9,← hwk9];clear hwk9 hg9;refine jW [2] ?_;refine jS 2 (.load 55 (.tmp 23)) (some 24) (.slice Ap r.plan.length cp) wk9 (hrun:=fun o ho=>by have hcell:=(HM.out _ hB9).2.1;unfold execOp;simp only[ho];go_simp) ⟨(HM.out _ hB9).1,(HM.out _ hB9).2.2⟩ ?_ jN;simp only[jq];refine jW [3] ?_;refine bZ 3 iH (.tmp 22) (.tmp 24) (some 25) (by kernel_rfl) (by kernel_rfl) (by rfl) hO9 (by rfl) (HOLD.out _ hB9) HONE.out (by unfold maxLen;omega) (by omega) (show Below wS.heap.size wS wk9 from hB9).size (fun v7 wk11 hown hgrow hblk=>?_) jN;rw[List.nil_append,Nat.zero_add] at hown;obtain⟨a7,c7,hv7,_,_⟩:=aU hown;subst hv7;have hO11:=hown;have hB11:Below wS.heap.size wS wk11:=Below.grown hB9 hgrow (show Below wS.heap.size wS wk9 from hB9).size (fun g hg=>(hO9.lt g hg).1);have hL11:Sn wk11 3 (.slice (some ⟨g9,0,none⟩) 1 1) 1 (evC pe):=Sn.offK' hL9 hgrow (fun b e1 e2=>by have e1:g9=b:=Option.some.inj e1;have e2:g1=b:=Option.some.inj e2;omega);refine⟨⟨(HM.out _ hB11).1,(HM.out _ hB11).2.2⟩,fun _=>?_⟩;simp only[jq];refine jW [6] ?_;refine bZ 6 iH (.tmp 25) (.tmp 27) (some 28) (by kernel_rfl) (by kernel_rfl) (by rfl) hO11 (by rfl) hL11 HONE1.out (by unfold maxLen;omega) (by omega) (show Below wS.heap.size wS wk11 from hB11).size (fun v8 wk12 hown hgrow hblk=>?_) jN;obtain⟨a8,c8,hv8,_,_⟩:=aU hown;subst hv8;have hB12:Below wS.heap.size wS wk12:=Below.grown hB11 hgrow (show Below wS.heap.size wS wk11 from hB11).size (fun g hg=>(hO11.lt g hg).1);refine⟨⟨(HM.out _ hB12).1,(HM.out _ hB12).2.2⟩,fun hH=>?_⟩;simp only[jq];refine jT 7 (.fieldAddr 57 (.tmp 4) 4) (some 29) (.pointer (some ⟨w.heap.size,4,none⟩)) hH ?_;simp only[jq];refine jW [8] ?_;have HFI:=jz (HFIN.out wk12 (.slice a8 (r.plan.length+1) c8) hB12 hown);have hcg:=(HAS.keep hB12).cell 4;have hfg:=(HAS.keep hB12).frozen 4;rw[HCE.out] at hcg;simp only[List.getElem?_toArray,List.getElem?_cons_succ,List.getElem?_cons_zero] at hcg;have hc3:(wk12.setCell ⟨w.heap.size,4,none⟩ (.slice a8 (r.plan.length+1) c8)).cell? ⟨w.heap.size,3,none⟩=some (.int .i64 r.steps):=by have h:=((HAS.keep hB12).set_ 4 (.slice a8 (r.plan.length+1) c8)).cell 3;rw[HCE.out] at h;exact h
     have hce:(wk12.setCell ⟨w.heap.size,4,none⟩ (.slice a8 (r.plan.length+1) c8)).rangeAt ge 0 (evC pe):=fun i u hi=>(World.cell?_of_block (a:=⟨ge,0+i,none⟩) (Below.heap_setCell wk12 ⟨w.heap.size,4,none⟩ _ ge (by have:=HX.ge;show ge≠w.heap.size;omega))).trans ((HM.out _ hB12).2.2 i u hi)
     refine dH 8 (Op.store 55 (Operand.tmp 29) (Operand.tmp 28)) none (wk12.setCell ⟨w.heap.size,4,none⟩ (.slice a8 (r.plan.length+1) c8)) (by kernel_rfl) (by kernel_rfl) (fun o ho=>by unfold execOp;simp only[ho];go_simp) ⟨hc3,hce⟩ ?_ jN;simp only[jq];refine wpAnyH_done (by kernel_rfl) ?_ _;go_wp2_with fail
     go_meet
     exact⟨_,HFI⟩
   ·simp only[jq];refine jW [0,5] ?_;refine jS 0 (.buildSlice 55 0 #[]) (some 22) (.slice (some ⟨wS.heap.size,0,none⟩) 0 0) (wS.alloc (.cells #[] 138)) ⟨(HM.out _ (aB HBS.out (aN _ _))).1,(HM.out _ (aB HBS.out (aN _ _))).2.2⟩ ?_ (eB 5 iH (.tmp 26) (some 27) (by kernel_rfl) (by kernel_rfl) (cs:=evC pe) (by rfl) rfl (by decide) ⟨(HM.out _ (aB HBS.out (aN _ _))).1,(HM.out _ (aB HBS.out (aN _ _))).2.2⟩ ?_ jN)
    ·simp only[jq];obtain⟨g14,hg14⟩:=je wS.heap.size;obtain⟨wk14,hwk14⟩:=je (wS.alloc (.cells #[] 138));have hbr14:Below wS.heap.size wS wk14:=by rw[hwk14];exact aN _ _
     have hs14:wk14.heap.size=g14+1:=by rw[hwk14,hg14];simp
     have hB14:Below wS.heap.size wS wk14:=aB HBS.out hbr14;have hO14:wk14.ownsRow wS.heap.size 138 3 (.slice (some ⟨g14,0,none⟩) 0 0) 0 []:=by rw[hwk14];exact cI wS #[] 138 3 0 wS.heap.size g14 (show Below wS.heap.size wS wS from HBS.out).size rfl (by decide) hg14.symm
     rw[← hg14,← hwk14];clear hwk14 hg14;refine jW [3,5] ?_;refine bZ 3 iH (.tmp 22) (.tmp 24) (some 25) (by kernel_rfl) (by kernel_rfl) (by rfl) hO14 (by rfl) (HOLD.out _ hB14) HONE.out (by unfold maxLen;omega) (by omega) (show Below wS.heap.size wS wk14 from hB14).size (fun v7 wk15 hown hgrow hblk=>?_) (eB 5 iH (.tmp 26) (some 27) (by kernel_rfl) (by kernel_rfl) (cs:=evC pe) (by rfl) rfl (by decide) ⟨(HM.out _ (aB hB14 (aN _ _))).1,(HM.out _ (aB hB14 (aN _ _))).2.2⟩ ?_ jN)
     ·rw[List.nil_append,Nat.zero_add] at hown;obtain⟨a7,c7,hv7,_,_⟩:=aU hown;subst hv7;have hO15:=hown;have hB15:Below wS.heap.size wS wk15:=Below.grown hB14 hgrow (show Below wS.heap.size wS wk14 from hB14).size (fun g hg=>(hO14.lt g hg).1);refine⟨⟨(HM.out _ hB15).1,(HM.out _ hB15).2.2⟩,fun _=>?_⟩;simp only[jq];refine jW [5] ?_;refine eB 5 iH (.tmp 26) (some 27) (by kernel_rfl) (by kernel_rfl) (cs:=evC pe) (by rfl) rfl (by decide) ⟨(HM.out _ (aB hB15 (aN _ _))).1,(HM.out _ (aB hB15 (aN _ _))).2.2⟩ ?_ jN;simp only[jq];obtain⟨g16,hg16⟩:=je wk15.heap.size;obtain⟨wk16,hwk16⟩:=je (wk15.alloc (.cells (evC pe).toArray 138));have hbr16:Below wk15.heap.size wk15 wk16:=by rw[hwk16];exact aN _ _
      have hs16:wk16.heap.size=g16+1:=by rw[hwk16,hg16];simp
      have hB16:Below wS.heap.size wS wk16:=aB hB15 hbr16;have hO16:=aX hO15 hbr16;have hL16:Sn wk16 3 (.slice (some ⟨g16,0,none⟩) 1 1) 1 (evC pe):=by rw[hwk16];have h:=Sn.newAt wk15 (evC pe).toArray 138 3 1 g16 rfl hg16.symm;rw[jt] at h;exact h
      rw[← hg16,← hwk16];clear hwk16 hg16;refine jW [6] ?_;refine bZ 6 iH (.tmp 25) (.tmp 27) (some 28) (by kernel_rfl) (by kernel_rfl) (by rfl) hO16 (by rfl) hL16 HONE1.out (by unfold maxLen;omega) (by omega) (show Below wS.heap.size wS wk16 from hB16).size (fun v8 wk17 hown hgrow hblk=>?_) jN;obtain⟨a8,c8,hv8,_,_⟩:=aU hown;subst hv8;have hB17:Below wS.heap.size wS wk17:=Below.grown hB16 hgrow (show Below wS.heap.size wS wk16 from hB16).size (fun g hg=>(hO16.lt g hg).1);refine⟨⟨(HM.out _ hB17).1,(HM.out _ hB17).2.2⟩,fun hH=>?_⟩;simp only[jq];refine jT 7 (.fieldAddr 57 (.tmp 4) 4) (some 29) (.pointer (some ⟨w.heap.size,4,none⟩)) hH ?_;simp only[jq];refine jW [8] ?_;have HFI:=jz (HFIN.out wk17 (.slice a8 (r.plan.length+1) c8) hB17 hown);have hcg:=(HAS.keep hB17).cell 4;have hfg:=(HAS.keep hB17).frozen 4;rw[HCE.out] at hcg;simp only[List.getElem?_toArray,List.getElem?_cons_succ,List.getElem?_cons_zero] at hcg;have hc3:(wk17.setCell ⟨w.heap.size,4,none⟩ (.slice a8 (r.plan.length+1) c8)).cell? ⟨w.heap.size,3,none⟩=some (.int .i64 r.steps):=by have h:=((HAS.keep hB17).set_ 4 (.slice a8 (r.plan.length+1) c8)).cell 3;rw[HCE.out] at h;exact h
      have hce:(wk17.setCell ⟨w.heap.size,4,none⟩ (.slice a8 (r.plan.length+1) c8)).rangeAt ge 0 (evC pe):=fun i u hi=>(World.cell?_of_block (a:=⟨ge,0+i,none⟩) (Below.heap_setCell wk17 ⟨w.heap.size,4,none⟩ _ ge (by have:=HX.ge;show ge≠w.heap.size;omega))).trans ((HM.out _ hB17).2.2 i u hi)
      refine dH 8 (Op.store 55 (Operand.tmp 29) (Operand.tmp 28)) none (wk17.setCell ⟨w.heap.size,4,none⟩ (.slice a8 (r.plan.length+1) c8)) (by kernel_rfl) (by kernel_rfl) (fun o ho=>by unfold execOp;simp only[ho];go_simp) ⟨hc3,hce⟩ ?_ jN;simp only[jq];refine wpAnyH_done (by kernel_rfl) ?_ _;go_wp2_with fail
      go_meet
      exact⟨_,HFI⟩
     ·simp only[jq];obtain⟨g18,hg18⟩:=je wk14.heap.size;obtain⟨wk18,hwk18⟩:=je (wk14.alloc (.cells (evC pe).toArray 138));have hbr18:Below wk14.heap.size wk14 wk18:=by rw[hwk18];exact aN _ _
      have hs18:wk18.heap.size=g18+1:=by rw[hwk18,hg18];simp
      have hB18:Below wS.heap.size wS wk18:=aB hB14 hbr18;have hO18:=aX hO14 hbr18;have hL18:Sn wk18 3 (.slice (some ⟨g18,0,none⟩) 1 1) 1 (evC pe):=by rw[hwk18];have h:=Sn.newAt wk14 (evC pe).toArray 138 3 1 g18 rfl hg18.symm;rw[jt] at h;exact h
      have hlt18:g14<g18:=by rw[hg18];exact(hO14.lt _ rfl).2
      rw[← hg18,← hwk18];clear hwk18 hg18;refine jW [3] ?_;refine bZ 3 iH (.tmp 22) (.tmp 24) (some 25) (by kernel_rfl) (by kernel_rfl) (by rfl) hO18 (by rfl) (HOLD.out _ hB18) HONE.out (by unfold maxLen;omega) (by omega) (show Below wS.heap.size wS wk18 from hB18).size (fun v7 wk19 hown hgrow hblk=>?_) jN;rw[List.nil_append,Nat.zero_add] at hown;obtain⟨a7,c7,hv7,_,_⟩:=aU hown;subst hv7;have hO19:=hown;have hB19:Below wS.heap.size wS wk19:=Below.grown hB18 hgrow (show Below wS.heap.size wS wk18 from hB18).size (fun g hg=>(hO18.lt g hg).1);have hL19:Sn wk19 3 (.slice (some ⟨g18,0,none⟩) 1 1) 1 (evC pe):=Sn.offK' hL18 hgrow (fun b e1 e2=>by have e1:g18=b:=Option.some.inj e1;have e2:g14=b:=Option.some.inj e2;omega);refine⟨⟨(HM.out _ hB19).1,(HM.out _ hB19).2.2⟩,fun _=>?_⟩;simp only[jq];refine jW [6] ?_;refine bZ 6 iH (.tmp 25) (.tmp 27) (some 28) (by kernel_rfl) (by kernel_rfl) (by rfl) hO19 (by rfl) hL19 HONE1.out (by unfold maxLen;omega) (by omega) (show Below wS.heap.size wS wk19 from hB19).size (fun v8 wk20 hown hgrow hblk=>?_) jN;obtain⟨a8,c8,hv8,_,_⟩:=aU hown;subst hv8;have hB20:Below wS.heap.size wS wk20:=Below.grown hB19 hgrow (show Below wS.heap.size wS wk19 from hB19).size (fun g hg=>(hO19.lt g hg).1);refine⟨⟨(HM.out _ hB20).1,(HM.out _ hB20).2.2⟩,fun hH=>?_⟩;simp only[jq];refine jT 7 (.fieldAddr 57 (.tmp 4) 4) (some 29) (.pointer (some ⟨w.heap.size,4,none⟩)) hH ?_;simp only[jq];refine jW [8] ?_;have HFI:=jz (HFIN.out wk20 (.slice a8 (r.plan.length+1) c8) hB20 hown);have hcg:=(HAS.keep hB20).cell 4;have hfg:=(HAS.keep hB20).frozen 4;rw[HCE.out] at hcg;simp only[List.getElem?_toArray,List.getElem?_cons_succ,List.getElem?_cons_zero] at hcg;have hc3:(wk20.setCell ⟨w.heap.size,4,none⟩ (.slice a8 (r.plan.length+1) c8)).cell? ⟨w.heap.size,3,none⟩=some (.int .i64 r.steps):=by have h:=((HAS.keep hB20).set_ 4 (.slice a8 (r.plan.length+1) c8)).cell 3;rw[HCE.out] at h;exact h
      have hce:(wk20.setCell ⟨w.heap.size,4,none⟩ (.slice a8 (r.plan.length+1) c8)).rangeAt ge 0 (evC pe):=fun i u hi=>(World.cell?_of_block (a:=⟨ge,0+i,none⟩) (Below.heap_setCell wk20 ⟨w.heap.size,4,none⟩ _ ge (by have:=HX.ge;show ge≠w.heap.size;omega))).trans ((HM.out _ hB20).2.2 i u hi)
      refine dH 8 (Op.store 55 (Operand.tmp 29) (Operand.tmp 28)) none (wk20.setCell ⟨w.heap.size,4,none⟩ (.slice a8 (r.plan.length+1) c8)) (by kernel_rfl) (by kernel_rfl) (fun o ho=>by unfold execOp;simp only[ho];go_simp) ⟨hc3,hce⟩ ?_ jN;simp only[jq];refine wpAnyH_done (by kernel_rfl) ?_ _;go_wp2_with fail
      go_meet
      exact⟨_,HFI⟩
    ·simp only[jq];obtain⟨g21,hg21⟩:=je wS.heap.size;obtain⟨wk21,hwk21⟩:=je (wS.alloc (.cells (evC pe).toArray 138));have hbr21:Below wS.heap.size wS wk21:=by rw[hwk21];exact aN _ _
     have hs21:wk21.heap.size=g21+1:=by rw[hwk21,hg21];simp
     have hB21:Below wS.heap.size wS wk21:=aB HBS.out hbr21;have hL21:Sn wk21 3 (.slice (some ⟨g21,0,none⟩) 1 1) 1 (evC pe):=by rw[hwk21];have h:=Sn.newAt wS (evC pe).toArray 138 3 1 g21 rfl hg21.symm;rw[jt] at h;exact h
     rw[← hg21,← hwk21];clear hwk21 hg21;refine jW [0] ?_;refine jS 0 (.buildSlice 55 0 #[]) (some 22) (.slice (some ⟨wk21.heap.size,0,none⟩) 0 0) (wk21.alloc (.cells #[] 138)) ⟨(HM.out _ (aB hB21 (aN _ _))).1,(HM.out _ (aB hB21 (aN _ _))).2.2⟩ ?_ jN;simp only[jq];obtain⟨g22,hg22⟩:=je wk21.heap.size;obtain⟨wk22,hwk22⟩:=je (wk21.alloc (.cells #[] 138));have hbr22:Below wk21.heap.size wk21 wk22:=by rw[hwk22];exact aN _ _
     have hs22:wk22.heap.size=g22+1:=by rw[hwk22,hg22];simp
     have hB22:Below wS.heap.size wS wk22:=aB hB21 hbr22;have hL22:=Sn.below hL21 hbr22;have hO22:wk22.ownsRow wS.heap.size 138 3 (.slice (some ⟨g22,0,none⟩) 0 0) 0 []:=by rw[hwk22];exact cI wk21 #[] 138 3 0 wS.heap.size g22 (show Below wS.heap.size wS wk21 from hB21).size rfl (by decide) hg22.symm
     have hlt22:g21<g22:=by omega
     rw[← hg22,← hwk22];clear hwk22 hg22;refine jW [3] ?_;refine bZ 3 iH (.tmp 22) (.tmp 24) (some 25) (by kernel_rfl) (by kernel_rfl) (by rfl) hO22 (by rfl) (HOLD.out _ hB22) HONE.out (by unfold maxLen;omega) (by omega) (show Below wS.heap.size wS wk22 from hB22).size (fun v7 wk23 hown hgrow hblk=>?_) jN;rw[List.nil_append,Nat.zero_add] at hown;obtain⟨a7,c7,hv7,_,_⟩:=aU hown;subst hv7;have hO23:=hown;have hB23:Below wS.heap.size wS wk23:=Below.grown hB22 hgrow (show Below wS.heap.size wS wk22 from hB22).size (fun g hg=>(hO22.lt g hg).1);have hL23:Sn wk23 3 (.slice (some ⟨g21,0,none⟩) 1 1) 1 (evC pe):=Sn.offK' hL22 hgrow (fun b e1 e2=>by have e1:g21=b:=Option.some.inj e1;have e2:g22=b:=Option.some.inj e2;omega);refine⟨⟨(HM.out _ hB23).1,(HM.out _ hB23).2.2⟩,fun _=>?_⟩;simp only[jq];refine jW [6] ?_;refine bZ 6 iH (.tmp 25) (.tmp 27) (some 28) (by kernel_rfl) (by kernel_rfl) (by rfl) hO23 (by rfl) hL23 HONE1.out (by unfold maxLen;omega) (by omega) (show Below wS.heap.size wS wk23 from hB23).size (fun v8 wk24 hown hgrow hblk=>?_) jN;obtain⟨a8,c8,hv8,_,_⟩:=aU hown;subst hv8;have hB24:Below wS.heap.size wS wk24:=Below.grown hB23 hgrow (show Below wS.heap.size wS wk23 from hB23).size (fun g hg=>(hO23.lt g hg).1);refine⟨⟨(HM.out _ hB24).1,(HM.out _ hB24).2.2⟩,fun hH=>?_⟩;simp only[jq];refine jT 7 (.fieldAddr 57 (.tmp 4) 4) (some 29) (.pointer (some ⟨w.heap.size,4,none⟩)) hH ?_;simp only[jq];refine jW [8] ?_;have HFI:=jz (HFIN.out wk24 (.slice a8 (r.plan.length+1) c8) hB24 hown);have hcg:=(HAS.keep hB24).cell 4;have hfg:=(HAS.keep hB24).frozen 4;rw[HCE.out] at hcg;simp only[List.getElem?_toArray,List.getElem?_cons_succ,List.getElem?_cons_zero] at hcg;have hc3:(wk24.setCell ⟨w.heap.size,4,none⟩ (.slice a8 (r.plan.length+1) c8)).cell? ⟨w.heap.size,3,none⟩=some (.int .i64 r.steps):=by have h:=((HAS.keep hB24).set_ 4 (.slice a8 (r.plan.length+1) c8)).cell 3;rw[HCE.out] at h;exact h
     have hce:(wk24.setCell ⟨w.heap.size,4,none⟩ (.slice a8 (r.plan.length+1) c8)).rangeAt ge 0 (evC pe):=fun i u hi=>(World.cell?_of_block (a:=⟨ge,0+i,none⟩) (Below.heap_setCell wk24 ⟨w.heap.size,4,none⟩ _ ge (by have:=HX.ge;show ge≠w.heap.size;omega))).trans ((HM.out _ hB24).2.2 i u hi)
     refine dH 8 (Op.store 55 (Operand.tmp 29) (Operand.tmp 28)) none (wk24.setCell ⟨w.heap.size,4,none⟩ (.slice a8 (r.plan.length+1) c8)) (by kernel_rfl) (by kernel_rfl) (fun o ho=>by unfold execOp;simp only[ho];go_simp) ⟨hc3,hce⟩ ?_ jN;simp only[jq];refine wpAnyH_done (by kernel_rfl) ?_ _;go_wp2_with fail
     go_meet
     exact⟨_,HFI⟩
   ·simp only[jq];obtain⟨g25,hg25⟩:=je wS.heap.size;obtain⟨wk25,hwk25⟩:=je (wS.alloc (.cells (evC pe).toArray 138));have hbr25:Below wS.heap.size wS wk25:=by rw[hwk25];exact aN _ _
    have hs25:wk25.heap.size=g25+1:=by rw[hwk25,hg25];simp
    have hB25:Below wS.heap.size wS wk25:=aB HBS.out hbr25;have hL25:Sn wk25 3 (.slice (some ⟨g25,0,none⟩) 1 1) 1 (evC pe):=by rw[hwk25];have h:=Sn.newAt wS (evC pe).toArray 138 3 1 g25 rfl hg25.symm;rw[jt] at h;exact h
    rw[← hg25,← hwk25];clear hwk25 hg25;refine jW [0,2] ?_;refine jS 0 (.buildSlice 55 0 #[]) (some 22) (.slice (some ⟨wk25.heap.size,0,none⟩) 0 0) (wk25.alloc (.cells #[] 138)) ⟨(HM.out _ (aB hB25 (aN _ _))).1,(HM.out _ (aB hB25 (aN _ _))).2.2⟩ ?_ (jS 2 (.load 55 (.tmp 23)) (some 24) (.slice Ap r.plan.length cp) wk25 (hrun:=fun o ho=>by have hcell:=(HM.out _ hB25).2.1;unfold execOp;simp only[ho];go_simp) ⟨(HM.out _ hB25).1,(HM.out _ hB25).2.2⟩ ?_ jN)
    ·simp only[jq];obtain⟨g26,hg26⟩:=je wk25.heap.size;obtain⟨wk26,hwk26⟩:=je (wk25.alloc (.cells #[] 138));have hbr26:Below wk25.heap.size wk25 wk26:=by rw[hwk26];exact aN _ _
     have hs26:wk26.heap.size=g26+1:=by rw[hwk26,hg26];simp
     have hB26:Below wS.heap.size wS wk26:=aB hB25 hbr26;have hL26:=Sn.below hL25 hbr26;have hO26:wk26.ownsRow wS.heap.size 138 3 (.slice (some ⟨g26,0,none⟩) 0 0) 0 []:=by rw[hwk26];exact cI wk25 #[] 138 3 0 wS.heap.size g26 (show Below wS.heap.size wS wk25 from hB25).size rfl (by decide) hg26.symm
     have hlt26:g25<g26:=by omega
     rw[← hg26,← hwk26];clear hwk26 hg26;refine jW [2] ?_;refine jS 2 (.load 55 (.tmp 23)) (some 24) (.slice Ap r.plan.length cp) wk26 (hrun:=fun o ho=>by have hcell:=(HM.out _ hB26).2.1;unfold execOp;simp only[ho];go_simp) ⟨(HM.out _ hB26).1,(HM.out _ hB26).2.2⟩ ?_ jN;simp only[jq];refine jW [3] ?_;refine bZ 3 iH (.tmp 22) (.tmp 24) (some 25) (by kernel_rfl) (by kernel_rfl) (by rfl) hO26 (by rfl) (HOLD.out _ hB26) HONE.out (by unfold maxLen;omega) (by omega) (show Below wS.heap.size wS wk26 from hB26).size (fun v7 wk28 hown hgrow hblk=>?_) jN;rw[List.nil_append,Nat.zero_add] at hown;obtain⟨a7,c7,hv7,_,_⟩:=aU hown;subst hv7;have hO28:=hown;have hB28:Below wS.heap.size wS wk28:=Below.grown hB26 hgrow (show Below wS.heap.size wS wk26 from hB26).size (fun g hg=>(hO26.lt g hg).1);have hL28:Sn wk28 3 (.slice (some ⟨g25,0,none⟩) 1 1) 1 (evC pe):=Sn.offK' hL26 hgrow (fun b e1 e2=>by have e1:g25=b:=Option.some.inj e1;have e2:g26=b:=Option.some.inj e2;omega);refine⟨⟨(HM.out _ hB28).1,(HM.out _ hB28).2.2⟩,fun _=>?_⟩;simp only[jq];refine jW [6] ?_;refine bZ 6 iH (.tmp 25) (.tmp 27) (some 28) (by kernel_rfl) (by kernel_rfl) (by rfl) hO28 (by rfl) hL28 HONE1.out (by unfold maxLen;omega) (by omega) (show Below wS.heap.size wS wk28 from hB28).size (fun v8 wk29 hown hgrow hblk=>?_) jN;obtain⟨a8,c8,hv8,_,_⟩:=aU hown;subst hv8;have hB29:Below wS.heap.size wS wk29:=Below.grown hB28 hgrow (show Below wS.heap.size wS wk28 from hB28).size (fun g hg=>(hO28.lt g hg).1);refine⟨⟨(HM.out _ hB29).1,(HM.out _ hB29).2.2⟩,fun hH=>?_⟩;simp only[jq];refine jT 7 (.fieldAddr 57 (.tmp 4) 4) (some 29) (.pointer (some ⟨w.heap.size,4,none⟩)) hH ?_;simp only[jq];refine jW [8] ?_;have HFI:=jz (HFIN.out wk29 (.slice a8 (r.plan.length+1) c8) hB29 hown);have hcg:=(HAS.keep hB29).cell 4;have hfg:=(HAS.keep hB29).frozen 4;rw[HCE.out] at hcg;simp only[List.getElem?_toArray,List.getElem?_cons_succ,List.getElem?_cons_zero] at hcg;have hc3:(wk29.setCell ⟨w.heap.size,4,none⟩ (.slice a8 (r.plan.length+1) c8)).cell? ⟨w.heap.size,3,none⟩=some (.int .i64 r.steps):=by have h:=((HAS.keep hB29).set_ 4 (.slice a8 (r.plan.length+1) c8)).cell 3;rw[HCE.out] at h;exact h
     have hce:(wk29.setCell ⟨w.heap.size,4,none⟩ (.slice a8 (r.plan.length+1) c8)).rangeAt ge 0 (evC pe):=fun i u hi=>(World.cell?_of_block (a:=⟨ge,0+i,none⟩) (Below.heap_setCell wk29 ⟨w.heap.size,4,none⟩ _ ge (by have:=HX.ge;show ge≠w.heap.size;omega))).trans ((HM.out _ hB29).2.2 i u hi)
     refine dH 8 (Op.store 55 (Operand.tmp 29) (Operand.tmp 28)) none (wk29.setCell ⟨w.heap.size,4,none⟩ (.slice a8 (r.plan.length+1) c8)) (by kernel_rfl) (by kernel_rfl) (fun o ho=>by unfold execOp;simp only[ho];go_simp) ⟨hc3,hce⟩ ?_ jN;simp only[jq];refine wpAnyH_done (by kernel_rfl) ?_ _;go_wp2_with fail
     go_meet
     exact⟨_,HFI⟩
    ·simp only[jq];refine jW [0] ?_;refine jS 0 (.buildSlice 55 0 #[]) (some 22) (.slice (some ⟨wk25.heap.size,0,none⟩) 0 0) (wk25.alloc (.cells #[] 138)) ⟨(HM.out _ (aB hB25 (aN _ _))).1,(HM.out _ (aB hB25 (aN _ _))).2.2⟩ ?_ jN;simp only[jq];obtain⟨g31,hg31⟩:=je wk25.heap.size;obtain⟨wk31,hwk31⟩:=je (wk25.alloc (.cells #[] 138));have hbr31:Below wk25.heap.size wk25 wk31:=by rw[hwk31];exact aN _ _
     have hs31:wk31.heap.size=g31+1:=by rw[hwk31,hg31];simp
     have hB31:Below wS.heap.size wS wk31:=aB hB25 hbr31;have hL31:=Sn.below hL25 hbr31;have hO31:wk31.ownsRow wS.heap.size 138 3 (.slice (some ⟨g31,0,none⟩) 0 0) 0 []:=by rw[hwk31];exact cI wk25 #[] 138 3 0 wS.heap.size g31 (show Below wS.heap.size wS wk25 from hB25).size rfl (by decide) hg31.symm
     have hlt31:g25<g31:=by omega
     rw[← hg31,← hwk31];clear hwk31 hg31;refine jW [3] ?_;refine bZ 3 iH (.tmp 22) (.tmp 24) (some 25) (by kernel_rfl) (by kernel_rfl) (by rfl) hO31 (by rfl) (HOLD.out _ hB31) HONE.out (by unfold maxLen;omega) (by omega) (show Below wS.heap.size wS wk31 from hB31).size (fun v7 wk32 hown hgrow hblk=>?_) jN;rw[List.nil_append,Nat.zero_add] at hown;obtain⟨a7,c7,hv7,_,_⟩:=aU hown;subst hv7;have hO32:=hown;have hB32:Below wS.heap.size wS wk32:=Below.grown hB31 hgrow (show Below wS.heap.size wS wk31 from hB31).size (fun g hg=>(hO31.lt g hg).1);have hL32:Sn wk32 3 (.slice (some ⟨g25,0,none⟩) 1 1) 1 (evC pe):=Sn.offK' hL31 hgrow (fun b e1 e2=>by have e1:g25=b:=Option.some.inj e1;have e2:g31=b:=Option.some.inj e2;omega);refine⟨⟨(HM.out _ hB32).1,(HM.out _ hB32).2.2⟩,fun _=>?_⟩;simp only[jq];refine jW [6] ?_;refine bZ 6 iH (.tmp 25) (.tmp 27) (some 28) (by kernel_rfl) (by kernel_rfl) (by rfl) hO32 (by rfl) hL32 HONE1.out (by unfold maxLen;omega) (by omega) (show Below wS.heap.size wS wk32 from hB32).size (fun v8 wk33 hown hgrow hblk=>?_) jN;obtain⟨a8,c8,hv8,_,_⟩:=aU hown;subst hv8;have hB33:Below wS.heap.size wS wk33:=Below.grown hB32 hgrow (show Below wS.heap.size wS wk32 from hB32).size (fun g hg=>(hO32.lt g hg).1);refine⟨⟨(HM.out _ hB33).1,(HM.out _ hB33).2.2⟩,fun hH=>?_⟩;simp only[jq];refine jT 7 (.fieldAddr 57 (.tmp 4) 4) (some 29) (.pointer (some ⟨w.heap.size,4,none⟩)) hH ?_;simp only[jq];refine jW [8] ?_;have HFI:=jz (HFIN.out wk33 (.slice a8 (r.plan.length+1) c8) hB33 hown);have hcg:=(HAS.keep hB33).cell 4;have hfg:=(HAS.keep hB33).frozen 4;rw[HCE.out] at hcg;simp only[List.getElem?_toArray,List.getElem?_cons_succ,List.getElem?_cons_zero] at hcg;have hc3:(wk33.setCell ⟨w.heap.size,4,none⟩ (.slice a8 (r.plan.length+1) c8)).cell? ⟨w.heap.size,3,none⟩=some (.int .i64 r.steps):=by have h:=((HAS.keep hB33).set_ 4 (.slice a8 (r.plan.length+1) c8)).cell 3;rw[HCE.out] at h;exact h
     have hce:(wk33.setCell ⟨w.heap.size,4,none⟩ (.slice a8 (r.plan.length+1) c8)).rangeAt ge 0 (evC pe):=fun i u hi=>(World.cell?_of_block (a:=⟨ge,0+i,none⟩) (Below.heap_setCell wk33 ⟨w.heap.size,4,none⟩ _ ge (by have:=HX.ge;show ge≠w.heap.size;omega))).trans ((HM.out _ hB33).2.2 i u hi)
     refine dH 8 (Op.store 55 (Operand.tmp 29) (Operand.tmp 28)) none (wk33.setCell ⟨w.heap.size,4,none⟩ (.slice a8 (r.plan.length+1) c8)) (by kernel_rfl) (by kernel_rfl) (fun o ho=>by unfold execOp;simp only[ho];go_simp) ⟨hc3,hce⟩ ?_ jN;simp only[jq];refine wpAnyH_done (by kernel_rfl) ?_ _;go_wp2_with fail
     go_meet
     exact⟨_,HFI⟩
  case rest=>
  obtain⟨V,HY⟩:=hcut;have hrA:=HY.out.1.range;have h2:=aR HY.out.2.1;go_wp2_with (first
   | (refine ld 57 _ rfl rfl rfl hrA Tryz.underlying57 rfl (hlen _ _) ?_)
   | (refine bC (cells:=aA ⟨m.sv,m.ov,V⟩ (bE r n c cl (.slice A cl.length cap))) 57 (.tmp 8) (.tmp 30) rfl rfl rfl rfl HY.out.2.2.1 bG rfl h2 ?_;intro w7 hB7 hb7 ho7 hs7;have HB7:=jz hB7;have HE7:=jz hb7;have HO7:=jz ho7;have HS7:=jz hs7;clear hB7 hb7 ho7 hs7))
  have hbw:Below w.heap.size w w7:=HY.out.2.2.2.1.trans (HE7.mono (by omega));exact bodyPost_ret (results_cell_row rfl _ _ (w.heap.size+1) 57 _ (0,0) _ rfl HB7.out Tryz.underlying57 rfl bG) rfl ⟨⟨m.sv,m.ov,V⟩,_,rfl,HY.out.2.1.offK HO7.out (by rw[HS7.out];exact Nat.le_refl _) (fun hm=>by
   rcases HY.out.2.2.2.2 _ hm with h|h
   ·have:=HK.bl _ h;omega
   ·omega),hbw,fun b hm=>by
   rcases HY.out.2.2.2.2 b hm with h|h
   ·exact .inl h
   ·exact .inr (by omega)⟩
end Go.Proofs.YtombncedfleljaaGreat
