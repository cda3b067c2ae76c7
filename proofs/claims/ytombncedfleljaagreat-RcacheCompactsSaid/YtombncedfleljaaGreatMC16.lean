import Derived.Test.YtombncedfleljaaGreatMC15
set_option linter.unusedSimpArgs false
set_option maxRecDepth 100000
set_option maxHeartbeats 40000000
namespace Go.Proofs.YtombncedfleljaaGreat
open Go.RowKit
attribute [local irreducible] wpQuiet wpAnyH
theorem L9:SlT Tryz.prog 53 144 64 64:=SlT.mk' Tryz.underlying53 (z:=.agg (u8s (List.replicate 64 0)).toArray) (by kernel_rfl) rfl (by decide)
def SBR(b o:Nat)(p:Int×List Int)(w:World):Prop:=w.rangeAt b o (wrC p)
theorem pD(sec:List (List Int))(opn:List (Int×List Int))(cl:List Int)(As Ao Ac:Option Addr)(cs co cc:Nat)(w:World)
  (hs:Sn w 64 (.slice As sec.length cs) sec.length (sec.flatMap u8s)) (ho:Sn w 65 (.slice Ao opn.length co) opn.length (opn.flatMap wrC)) (hc:Sn w 1 (.slice Ac cl.length cc) cl.length (eR cl)) (hci:∀ c∈cl,aK c)
  (hsec:∀ s∈sec,Sec s) (hopn:∀ p∈opn,0≤p.1∧p.1<sec.length∧Sec p.2) (h1:sec.length≤4096) (h2:opn.length≤100000) (h3:cl.length≤1000000):
  Calls Tryz.prog 76 #[.slice As sec.length cs,.slice Ao opn.length co,.slice Ac cl.length cc] w fun e w'=>∃ v,e = .returned v∧w'.ownsRow w.heap.size 144 64 v sec.length ((bK sec opn cl).flatMap u8s)∧Below w.heap.size w w':=by
 obtain⟨cut,hcut⟩:∃ cut:Nat→Int,cut=fun j=>cl.getD j 0:=⟨_,rfl⟩
 have HCU:Hid (∀ j (h:j<cl.length),cut j=cl[j]):=jz (fun j h=>by rw[hcut];simp[h]);have HCN:Hid (∀ j,cl.length≤j→cut j=0):=jz (fun j h=>by rw[hcut];simp[h]);have HCI:Hid (∀ j,aK (cut j)):=jz (fun j=>by
  rcases Nat.lt_or_ge j cl.length with h|h
  ·rw[HCU.out j h];exact hci _ (List.getElem_mem h)
  ·rw[HCN.out j h];exact⟨by decide,by decide⟩)
 unfold bK;rw[← hcut];clear hcut hci;have HO:=jz ho;have HC:=jz hc;have HS:=jz hs;have HSE:=jz hsec;have HOP:=jz hopn;have h64:∀ u∈sec.flatMap u8s,u.oneCell'=true:=fun u hu=>by
  obtain⟨s,_,hu⟩:=List.mem_flatMap.1 hu;exact bS s u hu
 have hown0:(w.alloc (.cells #[] 144)).ownsRow w.heap.size 144 64 (.slice (some ⟨w.heap.size,0,none⟩) 0 0) 0 []:=cI w #[] 144 64 0 w.heap.size _ (Nat.le_refl _) rfl (by decide) rfl;clear hs ho hc hsec hopn;go_enter Tryz.func76,Tryz.ntmps76
 go_wp2_with (at_builtin;refine app L9 (.tmp 10) (.tmp 11) rfl rfl rfl hown0 rfl (HS.alloc _) h64 (by unfold maxLen;omega) (by omega) (by simp) ?_;intro v1 w1 hown hgrow _;rw[List.nil_append,Nat.zero_add] at hown;obtain⟨Ar,cr,rfl,_,_⟩:=aU hown;have HO1:=jz hown;have HB1:Hid (Below w.heap.size w w1):=jz ((aN w _).grown hgrow (by simp) (fun g hg=>by cases hg;exact Nat.le_refl _));clear hown hgrow)
 clear hown0;go_loopw [8] (fun i wr=>∃ j:Nat,j≤opn.length∧i = .int .i64 (j:Int)∧Hid (wr.ownsRow w.heap.size 144 64 (.slice Ar sec.length cr) sec.length ((cP cut sec opn j).flatMap u8s))∧Hid (Below w.heap.size w wr)) (fun i _=>opn.length-(intOf i).toNat)
 case atStart=>exact⟨0,Nat.zero_le _,rfl,HO1,HB1⟩
 case round=>
  obtain⟨j,hj,rfl,HR,HB⟩:=hrel;have hszr:=HB.size;rcases Nat.lt_or_ge j opn.length with hlt|hge
  ·obtain⟨b1,o1,rfl,hr1⟩:=yC (HO.below HB.out) (fun p hp=>(HOP.out p hp).2.2) j hlt;have hblt:b1<w.heap.size:=HO.blk_lt (by omega) (by omega) b1 rfl;have hp:=HOP.out _ (List.getElem_mem hlt);have HTJ:Hid (cP cut sec opn (j+1)=(cP cut sec opn j).set opn[j].1.toNat (bM ((cP cut sec opn j).getD opn[j].1.toNat []) opn[j].2 (cut j))):=jz (by
    show(cP cut sec opn j).set (opn.getD j (0,[])).1.toNat _=_
    rw[show opn.getD j (0,[])=opn[j] by simp[List.getD_eq_getElem?_getD,hlt]])
   have htl:=eS cut sec opn j;have HTS:=jz (iA cut sec opn HSE.out HOP.out j (by omega));have HCJI:=jz (HCI.out j);have hcj:(∃ h:j<cl.length,cut j=cl[j])∨(cl.length≤j∧cut j=0):=by
    rcases Nat.lt_or_ge j cl.length with h|h
    ·exact .inl ⟨h,HCU.out j h⟩
    ·exact .inr ⟨h,HCN.out j h⟩
   have HCJ:=jz hcj;clear hcj;obtain⟨c,hc⟩:=je (cut j);obtain⟨L,hL⟩:=je (cP cut sec opn j);obtain⟨⟨a,dat⟩,hpe⟩:∃ p,p=opn[j]:=⟨_,rfl⟩;rw[← hpe] at hr1 hp HTJ;rw[← hc] at HTJ HCJ HCJI;rw[← hL] at HTJ HTS htl HR;clear hpe hc hL;obtain⟨k,rfl⟩:=Int.eq_ofNat_of_zero_le hp.1;have hkl:k<L.length:=by have:=hp.2.1;simp only at this;omega
   have hka:(k:Int)<(sec.length:Int):=hp.2.1;have HDS:Hid (Sec dat):=jz hp.2.2;have HTJ:Hid (cP cut sec opn (j+1)=L.set k (bM (L.getD k []) dat c)):=HTJ;clear hp;have HBR:Hid (wr.rangeAt b1 (o1+j*65) (wrC ((k:Int),dat))):=jz hr1;clear hr1;have hj0:(0:Int)≤j:=by omega
   have hj1:(j:Int)<opn.length:=by omega
   have hk0:(0:Int)≤k:=by omega
   obtain⟨gr,rfl⟩:∃ gr,Ar=some ⟨gr,0,none⟩:=by
    rcases HR.out.2 with ⟨_,h⟩|⟨g,cp,cur,hv,_⟩
    ·omega
    ·injection hv with e1 _ _;exact⟨g,e1⟩
   have HSL:=jz htl;have HR2':Hid (wr.ownsRow w.heap.size 144 64 (.slice (some ⟨gr,0,none⟩) L.length cr) L.length (L.flatMap u8s)):=jz (by have h:=HR.out;rw[← show L.length=sec.length from htl] at h;exact h);have HOLD:Hid (L.getD k []=L[k]):=jz (by simp[List.getD_eq_getElem?_getD,hkl]);have HOS:Hid (Sec L[k]):=jz (HTS.out _ (List.getElem_mem hkl));have HROW:Hid (∀ w3,Below wr.heap.size wr w3→w3.rangeAt gr (k*64) (u8s L[k])):=jz (fun w3 hb=>by
    obtain⟨b,off,e,hr⟩:=vK (Sn.own HR2'.out) HTS.out k hkl
    injection e with e
    injection e with e1 e2
    rw[← e1,← e2,Nat.zero_add] at hr
    exact fun j u hj=>Below.cell' hb (hr j u hj))
   have HTE:=jz (fun w3=>GB L[k] dat c w3 HOS.out HDS.out HCJI.out);have HTSN:Hid (Sec (bM L[k] dat c)):=jz (lG c HOS.out HDS.out);have HUD:Hid ((Tryz.prog.info? 144).map (·.size)=some (u8s dat).length):=jz (by rw[aG HDS.out];kernel_rfl);have HUO:Hid ((Tryz.prog.info? 144).map (·.size)=some (u8s L[k]).length):=jz (by rw[aG HOS.out];kernel_rfl);have HUT:Hid ((Tryz.prog.info? 144).map (·.size)=some (u8s (bM L[k] dat c)).length):=jz (by rw[aG HTSN.out];kernel_rfl);have HFIN:Hid (∀ w4,Below wr.heap.size wr w4→w4.there gr (k*64) (u8s (bM L[k] dat c)).length∧(w4.setCells gr (k*64) (u8s (bM L[k] dat c))).ownsRow w.heap.size 144 64 (.slice (some ⟨gr,0,none⟩) sec.length cr) sec.length ((cP cut sec opn (j+1)).flatMap u8s)∧Below w.heap.size w (w4.setCells gr (k*64) (u8s (bM L[k] dat c)))∧SBR b1 (o1+j*65) ((k:Int),dat) (w4.setCells gr (k*64) (u8s (bM L[k] dat c)))):=jz (fun w4 hb=>by
    obtain⟨q1,q2,q3⟩:=vM u8s Sec 64 (fun r h=>aG h) (aX HR2'.out hb) HTS.out k hkl (bM L[k] dat c) HTSN.out
    rw[List.length_set,← HOLD.out,← HTJ.out] at q1
    rw[show L.length=sec.length from HSL.out,HOLD.out] at q1
    refine⟨q2,q1,(aB HB.out hb).trans (aO q3 _ _ _).1,?_⟩
    have hne:gr≠b1:=fun e=>by have:=(HR.lt gr rfl).1;omega
    exact fun i u hi=>(World.cell?_of_block (a:=⟨b1,(o1+j*65)+i,none⟩) (bA (fun e=>hne e.symm) _ _ _)).trans (Below.cell' hb (HBR.out i u hi)))
   have HIX:Hid (∀ w4,SBR b1 (o1+j*65) ((k:Int),dat) w4→w4.cell? ⟨b1,o1+j*65,none⟩=some (.int .i64 (k:Int))∧w4.rangeAt b1 (o1+j*65+1) (u8s dat)):=jz (fun w4 h=>⟨h 0 _ rfl,fun i u hi=>by have:=h (i+1) u hi;rw[show o1+j*65+1+i=o1+j*65+(i+1) by omega];exact this⟩);have HS0:Hid (SBR b1 (o1+j*65) ((k:Int),dat) wr.drew):=jz HBR.out;have HKEEP:Hid (∀ w4 w5,SBR b1 (o1+j*65) ((k:Int),dat) w4→Below w4.heap.size w4 w5→SBR b1 (o1+j*65) ((k:Int),dat) w5):=jz (fun w4 w5 h hb i u hi=>Below.cell' hb (h i u hi));have HD2:Hid (Below wr.heap.size wr wr.drew):=jz (Below.refl _ _).drew;rcases HCJ.out with ⟨hjc,hcj⟩|⟨hjc,hcj⟩
   ·obtain⟨Ab,cb,hv,_,_,hx⟩:=HC.below HB.out;injection hv with hv _ hv2
    obtain⟨b3,o3,he,hcell⟩:=hx (by omega);subst hv hv2 he;have hi:=hcell j (.int .i64 c) (by rw[eR,List.getElem?_map,List.getElem?_eq_getElem hjc,hcj];rfl);have hjc1:(j:Int)<cl.length:=by omega
    clear hcell hx hcj HCJ;go_upto_region 8 with fail
    refine aQ 23 (SBR b1 (o1+j*65) ((k:Int),dat)) (by kernel_rfl) (by kernel_rfl) (HS0.out) (fun hH=>?_);refine jM 0 (.tmp 7) (some 27) (.slice (some ⟨gr,0,none⟩) sec.length cr) hH ?_;simp only[jq];refine jM 1 (.tmp 1) (some 28) (.slice (some ⟨b1,o1,none⟩) opn.length co) hH ?_;simp only[jq];refine jM 2 (.tmp 8) (some 29) (.int .i64 (j:Int)) hH ?_;simp only[jq];refine jT 3 (.indexAddr 54 (.tmp 28) (.tmp 29)) (some 30) (.pointer (some ⟨b1,o1+j*65,none⟩)) hH ?_;simp only[jq];refine jT 4 (.fieldAddr 174 (.tmp 30) 0) (some 31) (.pointer (some ⟨b1,o1+j*65,none⟩)) hH ?_;simp only[jq];refine jT 5 (.load 3 (.tmp 31)) (some 32) (.int .i64 (k:Int)) (hy:=fun o ho wX hX=>by have hcell:=(HIX.out wX hX).1;unfold execOp;simp only[ho];go_simp) hH ?_;simp only[jq];refine jM 6 (.tmp 7) (some 33) (.slice (some ⟨gr,0,none⟩) sec.length cr) hH ?_;simp only[jq];refine jM 7 (.tmp 1) (some 34) (.slice (some ⟨b1,o1,none⟩) opn.length co) hH ?_;simp only[jq];refine jM 8 (.tmp 8) (some 35) (.int .i64 (j:Int)) hH ?_;simp only[jq];refine jT 9 (.indexAddr 54 (.tmp 34) (.tmp 35)) (some 36) (.pointer (some ⟨b1,o1+j*65,none⟩)) hH ?_;simp only[jq];refine jT 10 (.fieldAddr 174 (.tmp 36) 0) (some 37) (.pointer (some ⟨b1,o1+j*65,none⟩)) hH ?_;simp only[jq];refine jT 11 (.load 3 (.tmp 37)) (some 38) (.int .i64 (k:Int)) (hy:=fun o ho wX hX=>by have hcell:=(HIX.out wX hX).1;unfold execOp;simp only[ho];go_simp) hH ?_;simp only[jq];refine jT 12 (.indexAddr 53 (.tmp 33) (.tmp 38)) (some 39) (.pointer (some ⟨gr,k*64,none⟩)) hH ?_;simp only[jq];refine jM 14 (.tmp 1) (some 41) (.slice (some ⟨b1,o1,none⟩) opn.length co) hH ?_;simp only[jq];refine jM 15 (.tmp 8) (some 42) (.int .i64 (j:Int)) hH ?_;simp only[jq];refine jT 16 (.indexAddr 54 (.tmp 41) (.tmp 42)) (some 43) (.pointer (some ⟨b1,o1+j*65,none⟩)) hH ?_;simp only[jq];refine jT 17 (.fieldAddr 174 (.tmp 43) 1) (some 44) (.pointer (some ⟨b1,o1+j*65+1,none⟩)) hH ?_;simp only[jq];refine jL 18 144 (.tmp 44) (some 45) (cs:=u8s dat) (fun _ hX=>(HIX.out _ hX).2) Tryz.underlying144 rfl HUD.out hH ?_;simp only[jq];refine jM 19 (.tmp 9) (some 46) (.int .i64 c) hH ?_;simp only[jq];refine jW [13] ?_;refine i0 13 144 (.tmp 39) (some 40) (cs:=u8s L[k]) (by kernel_rfl) (by kernel_rfl) (by exact rfl) (HROW.out _ HD2.out) Tryz.underlying144 rfl HUO.out HS0.out ?_ jN;simp only[jq];refine jW [20] ?_;refine jC 20 (.call { callee:=.value (.func 99),args:=#[.tmp 40,.tmp 45,.tmp 46],argTypes:=#[144,144,3] }) (some 47) 99 #[.agg (u8s L[k]).toArray,.agg (u8s dat).toArray,.int .i64 c] ?_ jN;refine(HTE.out _).mono ?_;rintro e w4 ⟨rfl,hb4⟩;obtain⟨hth,hown,hbel,hs7⟩:=HFIN.out w4 (aB HD2.out hb4);refine⟨_,rfl,HKEEP.out _ _ HS0.out hb4,fun hH4=>?_⟩;simp only[jq];refine jT 21 (.indexAddr 53 (.tmp 27) (.tmp 32)) (some 48) (.pointer (some ⟨gr,k*64,none⟩)) hH4 ?_;simp only[jq];refine jW [22] ?_;refine jR 22 144 (.tmp 48) (.tmp 47) none (cs:=u8s (bM L[k] dat c)) hth HUT.out (bS _) hs7 ?_ jN;simp only[jq];refine wpAnyH_done (by kernel_rfl) ?_ _;have HOWN:=jz hown;have HBEL:=jz hbel;clear hth hown hbel hs7 hH4;go_wp2_with fail
    exact⟨⟨j+1,by omega,by go_num,HOWN,HBEL⟩,by simp[intOf];omega⟩
   ·have hjc1:¬(j:Int)<cl.length:=by omega
    subst hcj;clear HCJ;go_upto_region 8 with fail
    refine aQ 23 (SBR b1 (o1+j*65) ((k:Int),dat)) (by kernel_rfl) (by kernel_rfl) (HS0.out) (fun hH=>?_);refine jM 0 (.tmp 7) (some 27) (.slice (some ⟨gr,0,none⟩) sec.length cr) hH ?_;simp only[jq];refine jM 1 (.tmp 1) (some 28) (.slice (some ⟨b1,o1,none⟩) opn.length co) hH ?_;simp only[jq];refine jM 2 (.tmp 8) (some 29) (.int .i64 (j:Int)) hH ?_;simp only[jq];refine jT 3 (.indexAddr 54 (.tmp 28) (.tmp 29)) (some 30) (.pointer (some ⟨b1,o1+j*65,none⟩)) hH ?_;simp only[jq];refine jT 4 (.fieldAddr 174 (.tmp 30) 0) (some 31) (.pointer (some ⟨b1,o1+j*65,none⟩)) hH ?_;simp only[jq];refine jT 5 (.load 3 (.tmp 31)) (some 32) (.int .i64 (k:Int)) (hy:=fun o ho wX hX=>by have hcell:=(HIX.out wX hX).1;unfold execOp;simp only[ho];go_simp) hH ?_;simp only[jq];refine jM 6 (.tmp 7) (some 33) (.slice (some ⟨gr,0,none⟩) sec.length cr) hH ?_;simp only[jq];refine jM 7 (.tmp 1) (some 34) (.slice (some ⟨b1,o1,none⟩) opn.length co) hH ?_;simp only[jq];refine jM 8 (.tmp 8) (some 35) (.int .i64 (j:Int)) hH ?_;simp only[jq];refine jT 9 (.indexAddr 54 (.tmp 34) (.tmp 35)) (some 36) (.pointer (some ⟨b1,o1+j*65,none⟩)) hH ?_;simp only[jq];refine jT 10 (.fieldAddr 174 (.tmp 36) 0) (some 37) (.pointer (some ⟨b1,o1+j*65,none⟩)) hH ?_;simp only[jq];refine jT 11 (.load 3 (.tmp 37)) (some 38) (.int .i64 (k:Int)) (hy:=fun o ho wX hX=>by have hcell:=(HIX.out wX hX).1;unfold execOp;simp only[ho];go_simp) hH ?_;simp only[jq];refine jT 12 (.indexAddr 53 (.tmp 33) (.tmp 38)) (some 39) (.pointer (some ⟨gr,k*64,none⟩)) hH ?_;simp only[jq];refine jM 14 (.tmp 1) (some 41) (.slice (some ⟨b1,o1,none⟩) opn.length co) hH ?_;simp only[jq];refine jM 15 (.tmp 8) (some 42) (.int .i64 (j:Int)) hH ?_;simp only[jq];refine jT 16 (.indexAddr 54 (.tmp 41) (.tmp 42)) (some 43) (.pointer (some ⟨b1,o1+j*65,none⟩)) hH ?_;simp only[jq];refine jT 17 (.fieldAddr 174 (.tmp 43) 1) (some 44) (.pointer (some ⟨b1,o1+j*65+1,none⟩)) hH ?_;simp only[jq];refine jL 18 144 (.tmp 44) (some 45) (cs:=u8s dat) (fun _ hX=>(HIX.out _ hX).2) Tryz.underlying144 rfl HUD.out hH ?_;simp only[jq];refine jM 19 (.tmp 9) (some 46) (.int .i64 0) hH ?_;simp only[jq];refine jW [13] ?_;refine i0 13 144 (.tmp 39) (some 40) (cs:=u8s L[k]) (by kernel_rfl) (by kernel_rfl) (by exact rfl) (HROW.out _ HD2.out) Tryz.underlying144 rfl HUO.out HS0.out ?_ jN;simp only[jq];refine jW [20] ?_;refine jC 20 (.call { callee:=.value (.func 99),args:=#[.tmp 40,.tmp 45,.tmp 46],argTypes:=#[144,144,3] }) (some 47) 99 #[.agg (u8s L[k]).toArray,.agg (u8s dat).toArray,.int .i64 0] ?_ jN;refine(HTE.out _).mono ?_;rintro e w4 ⟨rfl,hb4⟩;obtain⟨hth,hown,hbel,hs7⟩:=HFIN.out w4 (aB HD2.out hb4);refine⟨_,rfl,HKEEP.out _ _ HS0.out hb4,fun hH4=>?_⟩;simp only[jq];refine jT 21 (.indexAddr 53 (.tmp 27) (.tmp 32)) (some 48) (.pointer (some ⟨gr,k*64,none⟩)) hH4 ?_;simp only[jq];refine jW [22] ?_;refine jR 22 144 (.tmp 48) (.tmp 47) none (cs:=u8s (bM L[k] dat 0)) hth HUT.out (bS _) hs7 ?_ jN;simp only[jq];refine wpAnyH_done (by kernel_rfl) ?_ _;have HOWN:=jz hown;have HBEL:=jz hbel;clear hth hown hbel hs7 hH4;go_wp2_with fail
    exact⟨⟨j+1,by omega,by go_num,HOWN,HBEL⟩,by simp[intOf];omega⟩
  ·obtain rfl:j=opn.length:=by omega
   have t1:decide ((opn.length:Int)<(opn.length:Int))=false:=by simp
   go_wp2_with fail
   go_ret;exact⟨_,rfl,HR.out,HB.out⟩
structure PEv where
 step:Int
 crash:Bool
 cuts:List Int
 v:Value
def evC(p:PEv):List Value:=[.int .i64 p.step,.bool p.crash,p.v]
structure RefD where
 sec:List (List Int)
 opn:List (Int×List Int)
 down:Bool
 steps:Int
 plan:List PEv
structure RM where
 sv:Value
 ov:Value
 pv:Value
def aA(m:RM)(r:RefD):Array Value:=#[m.sv,m.ov,.bool r.down,.int .i64 r.steps,m.pv]
structure ROk(r:RefD):Prop where
 sec:∀ s∈r.sec,Sec s
 opn:∀ p∈r.opn,0≤p.1∧p.1<r.sec.length∧Sec p.2
 ev:∀ p∈r.plan,aK p.step∧(∀ c∈p.cuts,aK c)∧p.cuts.length≤1000000
 few:r.sec.length≤4096
 lo:r.opn.length≤50000
 lp:r.plan.length≤50000
 st:0≤r.steps∧r.steps≤1000000000
def aL(m:RM)(r:RefD):List Nat:=m.sv.ownBlock.toList++(m.ov.ownBlock.toList++(m.pv.ownBlock.toList++r.plan.flatMap (fun p=>p.v.ownBlock.toList)))
structure RK(w:World)(m:RM)(r:RefD):Prop where
 sec:Sn w 64 m.sv r.sec.length (r.sec.flatMap u8s)
 opn:Sn w 65 m.ov r.opn.length (r.opn.flatMap wrC)
 plan:Sn w 3 m.pv r.plan.length (r.plan.flatMap evC)
 cuts:∀ p∈r.plan,Sn w 1 p.v p.cuts.length (eR p.cuts)
 ok:ROk r
 bl:∀ b∈aL m r,b<w.heap.size
theorem RK.keep{w w':World}{m:RM}{r:RefD}(h:RK w m r)(hb:Below w.heap.size w w'):RK w' m r:=
 ⟨h.sec.below hb,h.opn.below hb,h.plan.below hb,fun p hp=>(h.cuts p hp).below hb,h.ok,fun b hm=>Nat.lt_of_lt_of_le (h.bl b hm) hb.size⟩
theorem Sn.offK{w w':World}{s n b:Nat}{v:Value}{xs:List Value}(h:Sn w s v n xs)(hk:∀ k,k≠b→w'.heap[k]? = w.heap[k]?)(hne:v.ownBlock≠some b):Sn w' s v n xs:=by
 obtain⟨A,cap,rfl,h1,h2,hx⟩:=h;refine⟨A,cap,rfl,h1,h2,fun hp=>?_⟩;obtain⟨g,off,rfl,hc⟩:=hx hp;refine⟨g,off,rfl,fun j u hj=>(World.cell?_of_block (a:=⟨g,off+j,none⟩) (hk g (fun e=>hne (by rw[e];rfl)))).trans (hc j u hj)⟩
theorem bO{m:RM}{r:RefD}{b:Nat}:b∈aL m r ↔ m.sv.ownBlock=some b∨m.ov.ownBlock=some b∨m.pv.ownBlock=some b∨∃ p∈r.plan,p.v.ownBlock=some b:=by
 simp[aL]
theorem RK.offK{w w':World}{m:RM}{r:RefD}{b:Nat}(h:RK w m r)(hk:∀ k,k≠b→w'.heap[k]? = w.heap[k]?)(hs:w.heap.size≤w'.heap.size)(hb:b ∉ aL m r):RK w' m r:=by
 rw[bO] at hb;simp only[not_or,not_exists,not_and] at hb;exact⟨h.sec.offK hk hb.1,h.opn.offK hk hb.2.1,h.plan.offK hk hb.2.2.1,fun p hp=>(h.cuts p hp).offK hk (hb.2.2.2 p hp),h.ok,fun b hm=>Nat.lt_of_lt_of_le (h.bl b hm) hs⟩
theorem aR{w:World}{m:RM}{r:RefD}(h:RK w m r):(aA m r).all (·.oneCell')=true:=by
 obtain⟨_,_,e1,_⟩:=h.sec;obtain⟨_,_,e2,_⟩:=h.opn;obtain⟨_,_,e3,_⟩:=h.plan;refine all_oneCell_toArray (cs:=[m.sv,m.ov,.bool r.down,.int .i64 r.steps,m.pv]) fun u hu=>?_
 simp only[List.mem_cons,List.not_mem_nil,or_false] at hu;rcases hu with rfl|rfl|rfl|rfl|rfl
 ·rw[e1];rfl
 ·rw[e2];rfl
 ·rfl
 ·rfl
 ·rw[e3];rfl
def refZ:Array Value:=#[.slice none 0 0,.slice none 0 0,.bool false,.int .i64 0,.slice none 0 0]
theorem cJ:∀ w,(zeroValue 57).run Tryz.prog w = .ok (.agg refZ) w:=fun w=>by unfold refZ;kernel_rfl
theorem bG:(Tryz.prog.info? 57).map (·.size)=some 5:=by kernel_rfl
theorem EJ(n:Nat)(w:World)(hn:n≤100000):
  Calls Tryz.prog 150 #[.int .i64 n] w fun e w'=>∃ v,e = .returned v∧w'.ownsRow w.heap.size 3 1 v n (eR (List.replicate n 64))∧Below w.heap.size w w':=by
 go_enter Tryz.func150,Tryz.ntmps150
 go_wp2_with fail
 go_loopw [3,4] (fun out i wr=>∃ k:Nat,k≤n∧i = .int .i64 k∧Hid (wr.ownsRow w.heap.size 3 1 out k (eR (List.replicate k 64)))∧Hid (Below w.heap.size w wr)) (fun _ i _=>n-(intOf i).toNat)
 case atStart=>exact⟨0,Nat.zero_le _,rfl,jz (World.ownsRow_nil _ _ _ _),jz (Below.refl _ _)⟩
 case round=>
  obtain⟨k,hk,rfl,HO,HB⟩:=hrel;have hszr:=HB.size;rcases Nat.lt_or_ge k n with hlt|hge
  ·have HSU:Hid (eR (List.replicate (k+1) 64)=eR (List.replicate k 64)++[.int .i64 64]):=jz (by rw[List.replicate_succ'];simp[eR]);go_wp2_with (at_builtin;refine app yI (.tmp 10) (.tmp 11) rfl rfl (by rfl) (World.ownsRow.alloc HO.out _) (by rfl) (Sn.new wr #[.int .i64 64] 3 1 1 rfl) (by intro u hu;simp at hu;subst hu;rfl) (by unfold maxLen;omega) (by omega) (by simp;omega) ?_;intro v3 w3 hown hgrow _;rw[jt] at hown;have HO3:=jz hown;have HB3:=jz ((HB.alloc hszr _).grown hgrow (by simp;omega) (fun g hg=>(World.ownsRow.lt HO.out g hg).1));clear hown hgrow)
   exact⟨⟨k+1,by omega,by go_num,jz (by rw[HSU.out];exact HO3.out),HB3⟩,by simp[intOf];omega⟩
  ·obtain rfl:k=n:=by omega
   go_wp2_with fail
   go_ret;exact⟨_,rfl,HO.out,HB.out⟩
theorem pE(sec:List (List Int))(opn:List (Int×List Int))(hsec:∀ s∈sec,Sec s)(hopn:∀ p∈opn,0≤p.1∧p.1<sec.length∧Sec p.2):bK sec opn (List.replicate opn.length 64)=dJ sec opn opn.length:=by
 unfold bK;have key:∀ j,j≤opn.length→cP (fun j=>(List.replicate opn.length 64).getD j 0) sec opn j=dJ sec opn j:=by
  intro j;induction j with
  | zero=>intro _;rfl
  | succ j ih=>
   intro hj;have hlt:j<opn.length:=by omega
   have hp:=hopn _ (List.getElem_mem hlt);have hts:=iA (fun j=>(List.replicate opn.length 64).getD j 0) sec opn hsec hopn j (by omega);have htl:=eS (fun j=>(List.replicate opn.length 64).getD j 0) sec opn j;rw[cP,dJ,← ih (by omega)];have e1:opn.getD j (0,[])=opn[j]:=by simp[hlt]
   have e2:(List.replicate opn.length (64:Int)).getD j 0=64:=by simp[hlt]
   rw[e1];simp only[e2];have hk:opn[j].1.toNat<(cP (fun j=>(List.replicate opn.length 64).getD j 0) sec opn j).length:=by rw[htl];omega
   rw[lL 64 (by rw[List.getD_eq_getElem?_getD,List.getElem?_eq_getElem hk];exact(hts _ (List.getElem_mem hk)).1) hp.2.2.1 (by omega)]
 exact key _ (Nat.le_refl _)
def iG(n:Nat):RefD:=⟨List.replicate n zsec,[],false,0,[]⟩
theorem CJ(n:Nat)(w:World)(hn:n≤4096):
    Calls Tryz.prog 22 #[.int .i64 n] w fun e w'=>∃ m,e = .returned (.agg (aA m (iG n)))∧RK w' m (iG n)∧Below w.heap.size w w'∧∀ b∈aL m (iG n),w.heap.size≤b:=by
  have hms:∀ w,(Instr.makeSlice 53 (.int .i64 n) (.int .i64 n)).run Tryz.prog w = .ok (.slice (some ⟨w.heap.size,0,none⟩) n n) (w.alloc (.cells ((List.replicate n zsec).flatMap u8s).toArray 144)):=nY n hn;have hm1:min (n:Int) 4096=n:=by omega
  have hm2:max (0:Int) n=n:=by omega
  obtain⟨m,hm⟩:∃ m:RM,m=⟨.slice (some ⟨w.heap.size+1,0,none⟩) n n,.slice none 0 0,.slice none 0 0⟩:=⟨_,rfl⟩;obtain⟨w1,hw1⟩:=je ((w.alloc (.cells refZ 57)).alloc (.cells ((List.replicate n zsec).flatMap u8s).toArray 144));have hB1:Blk w1 w.heap.size 57 refZ:=by rw[hw1];exact(Blk.new _ _ _).alloc _
  have hsn:Sn w1 64 (.slice (some ⟨w.heap.size+1,0,none⟩) n n) n ((List.replicate n zsec).flatMap u8s):=by
    rw[hw1];exact Sn.newAt _ _ _ 64 n _ (by rw[js,jB];simp) (by simp)
  have hb1:Below w.heap.size w w1:=by rw[hw1];exact aB (aN _ _) (aN _ _)
  have hcs:#[.slice (some ⟨w.heap.size+1,0,none⟩) n n,.slice none 0 0,.bool false,.int .i64 0,.slice none 0 0]=aA m (iG n):=by rw[hm];rfl
  have hnil:∀ s W,Sn W s (.slice none 0 0) 0 []:=fun s W=>⟨none,0,rfl,Nat.le_refl _,by simp,fun h=>absurd h (by omega)⟩
  have hrows:∀ b∈aL m (iG n),b=w.heap.size+1:=fun b hb=>by
    rw[bO,hm] at hb;rcases hb with h|h|h|⟨p,hp,_⟩
    · exact(Option.some.inj h).symm
    · cases h
    · cases h
    · cases hp
  have hsz1:w1.heap.size=w.heap.size+2:=by rw[hw1];simp
  have hK:∀ W,(∀ k,k≠w.heap.size→W.heap[k]? = w1.heap[k]?)→w1.heap.size≤W.heap.size→RK W m (iG n):=fun W hb hsz=>by
    have hbl:∀ b∈aL m (iG n),b<W.heap.size:=fun b hm=>by have:=hrows b hm;omega
    rw[hm] at hbl;rw[hm]
    exact { sec := by
              show Sn W 64 (.slice (some ⟨w.heap.size + 1, 0, none⟩) n n) (List.replicate n zsec).length _
              rw [List.length_replicate]
              exact hsn.offK hb (fun e => by have e : w.heap.size + 1 = w.heap.size := Option.some.inj e; omega)
            opn := hnil _ _
            plan := hnil _ _
            cuts := fun p hp => by cases hp
            ok := { sec := fun s hs => by rw [(List.mem_replicate.1 hs).2]; exact eC
                    opn := fun p hp => by cases hp
                    ev := fun p hp => by cases hp
                    few := by show (List.replicate n zsec).length ≤ 4096; simpa using hn
                    lo := Nat.zero_le _
                    lp := Nat.zero_le _
                    st := ⟨Int.le_refl _, by show (0 : Int) ≤ 1000000000; decide⟩ }
            bl:=hbl }
  have HK:=jz hK;have HB1:=jz hB1;have HW1:=jz hb1;have HCS:=jz hcs;have h1:(aA m (iG n)).all (·.oneCell')=true:=aR (hK w1 (fun _ _=>rfl) (Nat.le_refl _));have HROWS:=jz hrows;clear hK hB1 hb1 hsn hcs hm hrows;go_enter Tryz.func22,Tryz.ntmps22
  go_wp2_with (first
    | (refine al 57 refZ rfl rfl cJ ?_)
    | (rw[← hw1];refine bC (cells:=aA m (iG n)) 57 (.tmp 2) (.tmp 7) rfl rfl rfl (congrArg Value.agg HCS.out) HB1.out bG rfl h1 ?_;intro w2 hB2 hb2 ho2 hs2;have HB2:=jz hB2;have HE2:=jz hb2;have HO2:=jz ho2;have HS2:=jz hs2;clear hB2 hb2 ho2 hs2))
  have hr2:=HB2.range;exact bodyPost_ret (results_cell_row rfl _ _ w.heap.size 57 _ (0,0) _ rfl HB2.out Tryz.underlying57 rfl bG) rfl ⟨m,rfl,HK.out w2 HO2.out (by rw[HS2.out];exact Nat.le_refl _),HW1.trans (HE2.mono (Nat.le_refl _)),fun b hb=>by have:=HROWS.out b hb;omega⟩
def bH(r:RefD)(cl:List Int):RefD:={ r with sec:=bK r.sec r.opn cl,opn:=[],down:=true }
theorem Sn.nil(w:World)(s:Nat):Sn w s (.slice none 0 0) 0 []:=⟨none,0,rfl,Nat.le_refl _,by simp,fun h=>absurd h (by omega)⟩
theorem Sn.slc{w:World}{s n:Nat}{v:Value}{xs:List Value}(h:Sn w s v n xs):∃ A cap,v = .slice A n cap:=by
 obtain⟨A,cap,e,_⟩:=h;exact⟨A,cap,e⟩
theorem ROk.crash{r:RefD}(h:ROk r)(cl:List Int):ROk (bH r cl) where
 sec:=mG cl h.sec h.opn
 opn:=fun p hp=>by cases hp
 ev:=h.ev
 few:=by show(bK _ _ _).length≤_;rw[cU];exact h.few
 lo:=Nat.zero_le _
 lp:=h.lp
 st:=h.st
theorem oB(m:RM)(r:RefD)(vc:Value)(cl:List Int)(w:World)(h:RK w m r)(hc:Sn w 1 vc cl.length (eR cl))(hci:∀ c∈cl,aK c)(hcl:cl.length≤1000000):
    Calls Tryz.prog 50 #[.agg (aA m r),vc] w fun e w'=>∃ m',e = .returned (.agg (aA m' (bH r cl)))∧RK w' m' (bH r cl)∧Below w.heap.size w w'∧∀ b∈aL m' (bH r cl),b∈aL m r∨w.heap.size≤b:=by
  obtain⟨As,cs,es⟩:=h.sec.slc;obtain⟨Ao,co,eo⟩:=h.opn.slc;obtain⟨Ac,cc,rfl⟩:=hc.slc;have HK:=jz h;have HC:=jz hc;have hcells:aA m r=#[.slice As r.sec.length cs,.slice Ao r.opn.length co,.bool r.down,.int .i64 r.steps,m.pv]:=by unfold aA;rw[es,eo]
  obtain⟨w1,hw1⟩:=je ((w.alloc (.cells (aA m r) 57)).alloc (.cells refZ 57));have hA1:Blk w1 w.heap.size 57 #[.slice As r.sec.length cs,.slice Ao r.opn.length co,.bool r.down,.int .i64 r.steps,m.pv]:=by rw[hw1,← hcells];exact(Blk.new _ _ _).alloc _
  have hB1:Blk w1 (w.heap.size+1) 57 refZ:=by rw[hw1];exact Blk.newAt _ _ _ _ (by simp)
  have hb1:Below w.heap.size w w1:=by rw[hw1];exact aB (aN _ _) (aN _ _)
  have hsz1:w1.heap.size=w.heap.size+2:=by rw[hw1];simp
  have hc0:=hA1.cell 0;have hc1:=hA1.cell 1;simp only[List.getElem?_toArray,List.getElem?_cons_zero,List.getElem?_cons_succ] at hc0 hc1;have HP:=jz (pD r.sec r.opn cl As Ao Ac cs co cc w1 (by rw[← es];exact h.sec.below hb1) (by rw[← eo];exact h.opn.below hb1) (hc.below hb1) hci h.ok.sec h.ok.opn h.ok.few (by have:=h.ok.lo;omega) hcl);have HA1:=jz hA1;have HB1:=jz hB1;have HW1:=jz hb1;clear hA1 hB1 hb1 h hc hci eo es hcells;go_enter Tryz.func50,Tryz.ntmps50
  go_upto_region 1 with (refine al 57 refZ rfl rfl cJ ?_)
  rw[← hw1];clear hw1;go_wp2_with fail
  refine HP.mono ?_;rintro e w2 ⟨v,rfl,ho2,hb2⟩;obtain⟨A2,c2,rfl,_,_⟩:=aU ho2;have hA2:=HA1.keep hb2;have hB2:=HB1.keep hb2;have HO2:=jz ho2;have HW2:=jz (aB HW1.out hb2);have hsz2:w.heap.size+2≤w2.heap.size:=by have:=hb2.size;omega
  clear ho2 hb2 HP hc0 hc1 HW1 HA1 HB1;have hc0:=hA2.cell 0;have hc1:=hA2.cell 1;have hc2:=hA2.cell 2;simp only[List.getElem?_toArray,List.getElem?_cons_zero,List.getElem?_cons_succ] at hc0 hc1 hc2;have hf0:=hA2.frozen 0;have hf1:=hA2.frozen 1;have hf2:=hA2.frozen 2;obtain⟨m',hm'⟩:∃ m':RM,m'=⟨.slice A2 r.sec.length c2,.slice none 0 0,m.pv⟩:=⟨_,rfl⟩;obtain⟨w3,hw3⟩:=je (((w2.setCell ⟨w.heap.size,0,none⟩ (.slice A2 r.sec.length c2)).setCell ⟨w.heap.size,1,none⟩ (.slice none 0 0)).setCell ⟨w.heap.size,2,none⟩ (.bool true));have hA3:Blk w3 w.heap.size 57 (aA m' (bH r cl)):=by
    rw[hw3,hm'];exact((hA2.set_ 0 _).set_ 1 _).set_ 2 _
  have hB3:Blk w3 (w.heap.size+1) 57 refZ:=by rw[hw3];exact((hB2.far (by simp) _).far (by simp) _).far (by simp) _
  have hoth:∀ k,k≠w.heap.size→w3.heap[k]? = w2.heap[k]?:=fun k hk=>by
    rw[hw3];exact(Below.heap_setCell _ ⟨w.heap.size,2,none⟩ _ k hk).trans ((Below.heap_setCell _ ⟨w.heap.size,1,none⟩ _ k hk).trans (Below.heap_setCell _ ⟨w.heap.size,0,none⟩ _ k hk))
  have HW3:Hid (Below w.heap.size w w3):=jz (by rw[hw3];exact((HW2.setCell (Nat.le_refl _) _).setCell (Nat.le_refl _) _).setCell (Nat.le_refl _) _);have hrows:∀ b∈aL m' (bH r cl),b∈aL m r∨(w.heap.size+2≤b∧b<w2.heap.size):=fun b hb=>by
    rw[bO,hm'] at hb;rcases hb with h|h|h|⟨p,hp,h⟩
    · exact .inr ⟨by have:=(HO2.lt b h).1;omega,(HO2.lt b h).2⟩
    · cases h
    · exact .inl (bO.2 (.inr (.inr (.inl h))))
    · exact .inl (bO.2 (.inr (.inr (.inr ⟨p,hp,h⟩))))
  have hsz3:w3.heap.size=w2.heap.size:=by rw[hw3];simp
  have hK3:∀ W,Below w.heap.size w W→(∀ k,k≠w.heap.size+1→W.heap[k]? = w3.heap[k]?)→w3.heap.size≤W.heap.size→RK W m' (bH r cl):=fun W hb hw hsz=>by
    have h:=HK.out;have hbl:∀ b∈aL m' (bH r cl),b<W.heap.size:=fun b hm=>by
      rcases hrows b hm with hm|hm
      · have:=h.bl b hm;have:=hb.size;omega
      · omega
    rw[hm'] at hbl;rw[hm']
    exact { sec := by
              show Sn W 64 (.slice A2 r.sec.length c2) (bK r.sec r.opn cl).length _
              rw [cU]
              have hne : ∀ b, (Value.slice A2 r.sec.length c2).ownBlock = some b → w.heap.size + 2 ≤ b := fun b e => by have := (HO2.out.lt b e).1; omega
              exact ((Sn.own HO2.out).offK hoth (fun e => by have := hne _ e; omega)).offK hw (fun e => by have := hne _ e; omega)
            opn := Sn.nil _ _
            plan := h.plan.below hb
            cuts := fun p hp => (h.cuts p hp).below hb
            ok := h.ok.crash cl
            bl:=hbl }
  have HK3:=jz hK3;have hr3:=hA3.range;have h1:(aA m' (bH r cl)).all (·.oneCell')=true:=aR (hK3 w3 HW3.out (fun _ _=>rfl) (Nat.le_refl _));have HB3:=jz hB3;have HR3:=jz hr3;have hlen:(Tryz.prog.info? 57).map (·.size)=some (aA m' (bH r cl)).toList.length:=bG;have HROWS:=jz hrows;clear hA2 hB2 hA3 hB3 hoth hK3 hm' hr3 hrows;go_upto_region 4 with fail
  rw[← hw3];clear hw3;go_wp2_with (first
    | (refine ld 57 _ rfl rfl rfl HR3.out Tryz.underlying57 rfl hlen ?_)
    | (refine bC (cells:=aA m' (bH r cl)) 57 (.tmp 4) (.tmp 14) rfl rfl rfl rfl HB3.out bG rfl h1 ?_;intro w4 hB4 hb4 ho4 hs4;have HB4:=jz hB4;have HE4:=jz hb4;have HO4:=jz ho4;have HS4:=jz hs4;clear hB4 hb4 ho4 hs4))
  have hbw:Below w.heap.size w w4:=HW3.trans (HE4.mono (by omega));exact bodyPost_ret (results_cell_row rfl _ _ (w.heap.size+1) 57 _ (0,0) _ rfl HB4.out Tryz.underlying57 rfl bG) rfl ⟨m',rfl,HK3.out w4 hbw HO4.out (by rw[HS4.out];exact Nat.le_refl _),hbw,fun b hb=>by
    rcases HROWS.out b hb with h|h
    · exact .inl h
    · exact .inr (by omega)⟩
theorem tK{P:Program}{w:World}{fn:Func}{p x y z:Tmp}{ty:TypeId}(h:fn.results=#[.cell p ty,.tmp x,.tmp y,.tmp z])(tmps:Array Value){b off:Nat}{cs:List Value}{d:TypeDesc}(hp:tmps.getD p undef = .pointer (some ⟨b,off,none⟩))(hc:w.rangeAt b off cs)
  (hu:P.underlying ty=some d) (hd:d.isRow=true) (hi:(P.info? ty).map (·.size)=some cs.length):(results fn tmps).run P w = .ok (.tuple #[.agg cs.toArray,tmps.getD x undef,tmps.getD y undef,tmps.getD z undef]) w:=by
 have h1:tmps[p]?.getD undef = .pointer (some ⟨b,off,none⟩):=by simpa using hp
 simp[results,h,h1,asAddr,Sem.run_bind,Result.andThen,run_loadVar_mid w b off ty cs d hc hu hd hi]
theorem aJ{P:Program}{w:World}{fn:Func}{p x:Tmp}{ty:TypeId}(h:fn.results=#[.cell p ty,.tmp x])(tmps:Array Value){b off:Nat}{cs:List Value}{d:TypeDesc}(hp:tmps.getD p undef = .pointer (some ⟨b,off,none⟩))(hc:w.rangeAt b off cs)
  (hu:P.underlying ty=some d) (hd:d.isRow=true) (hi:(P.info? ty).map (·.size)=some cs.length):(results fn tmps).run P w = .ok (.tuple #[.agg cs.toArray,tmps.getD x undef]) w:=by
 have h1:tmps[p]?.getD undef = .pointer (some ⟨b,off,none⟩):=by simpa using hp
 simp[results,h,h1,asAddr,Sem.run_bind,Result.andThen,run_loadVar_mid w b off ty cs d hc hu hd hi]
abbrev StA:=Bool×Bool×(List Int×Value)
def stF(s:Int)(a:StA)(p:PEv):StA:=if p.step=s then (if p.crash then (a.1,true,(p.cuts,p.v)) else (true,a.2.1,a.2.2)) else a
def b8(r:RefD):StA:=r.plan.foldl (stF (r.steps+1)) (false,false,([],.slice none 0 0))
def bD(r:RefD):RefD:={ r with steps:=r.steps+1 }
theorem ROk.step{r:RefD}(h:ROk r)(hs:r.steps+1≤1000000000):ROk (bD r) where
 sec:=h.sec
 opn:=h.opn
 ev:=h.ev
 few:=h.few
 lo:=h.lo
 lp:=h.lp
 st:=⟨by have:=h.st.1;show 0≤r.steps+1;omega,hs⟩
theorem wF(s:Int):∀(l:List PEv) (a:StA),(l.foldl (stF s) a).2.2=a.2.2∨∃ p∈l,(l.foldl (stF s) a).2.2=(p.cuts,p.v)
 | [],a=>.inl rfl
 | p :: l,a=>by
  rw[List.foldl_cons];rcases wF s l (stF s a p) with h|⟨q,hq,h⟩
  ·rw[h];unfold stF;split
   ·split
    ·exact .inr ⟨p,by simp,rfl⟩
    ·exact .inl rfl
   ·exact .inl rfl
  ·exact .inr ⟨q,by simp[hq],h⟩
theorem GC(s:Int)(l:List PEv)(k:Nat)(h:k<l.length)(a:StA):(l.take (k+1)).foldl (stF s) a=stF s ((l.take k).foldl (stF s) a) l[k]:=by
 rw[List.take_succ_eq_append_getElem h,List.foldl_append];rfl
theorem LU{w:World}{A:Option Addr}{cap:Nat}{l:List PEv}(h:Sn w 3 (.slice A l.length cap) l.length (l.flatMap evC))(k:Nat)(hk:k<l.length):
  ∃ b off,A=some ⟨b,off,none⟩∧w.rangeAt b (off+k*3) (evC l[k]):=by
 obtain⟨A',cap',hv,_,_,hx⟩:=h;injection hv with hv _ _
 obtain⟨b,off,he,hc⟩:=hx (by omega);refine⟨b,off,hv.trans he,fun i u hi=>?_⟩;have hi3:i<3:=by have:=(List.getElem?_eq_some_iff.1 hi).1;exact this
 have hp:=dL evC 3 l (fun _ _=>rfl) k hk;have:(l.flatMap evC)[k*3+i]? = some u:=by
  rw[← hi,← hp,List.getElem?_take_of_lt hi3,List.getElem?_drop]
 have:=hc (k*3+i) u this;rw[show off+k*3+i=off+(k*3+i) by omega];exact this
theorem yT(m:RM)(r:RefD)(w:World)(h:RK w m r)(hst:r.steps+1≤1000000000):
  Calls Tryz.prog 149 #[.agg (aA m r)] w fun e w'=>e = .returned (.tuple #[.agg (aA m (bD r)),.bool (b8 r).1,.bool (b8 r).2.1,(b8 r).2.2.2])∧RK w' m (bD r)∧Below w.heap.size w w' ∧
   (Sn w' 1 (b8 r).2.2.2 (b8 r).2.2.1.length (eR (b8 r).2.2.1)∧(∀ c∈(b8 r).2.2.1,aK c)∧(b8 r).2.2.1.length≤1000000):=by
 obtain⟨Ap,cp,ep⟩:=h.plan.slc;have HK:=jz h;obtain⟨S,hS⟩:=je (r.steps+1);have hs0:0≤r.steps:=h.ok.st.1;have HSF:Hid (b8 r=r.plan.foldl (stF S) (false,false,([],.slice none 0 0))):=jz (by rw[hS];rfl);have HEV:=jz h.ok.ev;have hlp:(r.plan.length:Int)≤50000:=by have:=h.ok.lp;omega
 have HPL:Hid (Sn w 3 (.slice Ap r.plan.length cp) r.plan.length (r.plan.flatMap evC)):=jz (by rw[← ep];exact h.plan);have hcells:aA m (bD r)=#[m.sv,m.ov,.bool r.down,.int .i64 S,.slice Ap r.plan.length cp]:=by unfold aA bD;rw[ep,hS]
 have hcells0:aA m r=#[m.sv,m.ov,.bool r.down,.int .i64 r.steps,.slice Ap r.plan.length cp]:=by unfold aA;rw[ep]
 obtain⟨w1,hw1⟩:=je ((w.alloc (.cells (aA m r) 57)).alloc (.cells refZ 57));have hA1:Blk w1 w.heap.size 57 #[m.sv,m.ov,.bool r.down,.int .i64 r.steps,.slice Ap r.plan.length cp]:=by rw[hw1,← hcells0];exact(Blk.new _ _ _).alloc _
 have hB1:Blk w1 (w.heap.size+1) 57 refZ:=by rw[hw1];exact Blk.newAt _ _ _ _ (by simp)
 have hb1:Below w.heap.size w w1:=by rw[hw1];exact aB (aN _ _) (aN _ _)
 have hc3:=hA1.cell 3;simp only[List.getElem?_toArray,List.getElem?_cons_zero,List.getElem?_cons_succ] at hc3;have hf3:=hA1.frozen 3;obtain⟨w2,hw2⟩:=je (w1.setCell ⟨w.heap.size,3,none⟩ (.int .i64 S));have hA2:Blk w2 w.heap.size 57 (aA m (bD r)):=by rw[hw2,hcells];exact hA1.set_ 3 _
 have HB2:Hid (Blk w2 (w.heap.size+1) 57 refZ):=jz (by rw[hw2];exact hB1.far (by simp) _);have HW2:Hid (Below w.heap.size w w2):=jz (by rw[hw2];exact hb1.setCell (Nat.le_refl _) _);have HCE:=jz hcells;have HA2:=jz hA2;have HADD:Hid (r.steps+1=S):=jz hS.symm;clear hS hA1 hB1 hb1 h ep hcells hcells0 hA2;go_enter Tryz.func149,Tryz.ntmps149
 go_upto_region 1 with (refine al 57 refZ rfl rfl cJ ?_)
 rw[← hw1];clear hw1;go_upto_region 2 with fail
 rw[HADD.out,← hw2];clear hw2 hc3 hf3;go_wp2_with fail
 go_loopw [6,7,8,9] (fun f c u i wr=>∃ k:Nat,k≤r.plan.length∧i = .int .i64 (k:Int)∧(∃ a:StA,Hid ((r.plan.take k).foldl (stF S) (false,false,([],.slice none 0 0))=a)∧f = .bool a.1∧c = .bool a.2.1∧u=a.2.2.2)∧Hid (Blk wr w.heap.size 57 (aA m (bD r)))∧Hid (Blk wr (w.heap.size+1) 57 refZ)∧Hid (Below w.heap.size w wr)) (fun _ _ _ i _=>r.plan.length-(intOf i).toNat)
 case atStart=>exact⟨0,Nat.zero_le _,rfl,⟨(false,false,([],.slice none 0 0)),jz rfl,rfl,rfl,rfl⟩,HA2,HB2,HW2⟩
 case round=>
  obtain⟨k,hk,rfl,⟨⟨f,c,cu,v⟩,HF,rfl,rfl,hv⟩,HAr,HBr,HWr⟩:=hrel;subst hv;have hc3:=HAr.cell 3;have hc4:=HAr.cell 4;rw[HCE.out] at hc3 hc4;simp only[List.getElem?_toArray,List.getElem?_cons_zero,List.getElem?_cons_succ] at hc3 hc4;rcases Nat.lt_or_ge k r.plan.length with hlt|hge
  ·have hpl:Sn wr 3 (.slice Ap r.plan.length cp) r.plan.length (r.plan.flatMap evC):=HPL.below HWr.out;obtain⟨b,off,hA,hr⟩:=LU hpl k hlt;subst hA;have HN:Hid ((r.plan.take (k+1)).foldl (stF S) (false,false,([],.slice none 0 0))=stF S (f,c,cu,u8) r.plan[k]):=jz (by rw[GC _ _ _ hlt,HF.out]);have hev:=HEV.out _ (List.getElem_mem hlt);obtain⟨p,hp⟩:=je (r.plan[k]);rw[← hp] at hr HN hev;clear hp hpl HF;obtain⟨ps,pc,pcu,pv⟩:=p;have e0:wr.cell? ⟨b,off+k*3,none⟩=some (.int .i64 ps):=hr 0 _ rfl;have e1:wr.cell? ⟨b,off+k*3+1,none⟩=some (.bool pc):=hr 1 _ rfl;have e2:wr.cell? ⟨b,off+k*3+2,none⟩=some pv:=hr 2 _ rfl;have hi0:(0:Int)≤k:=by omega
   have hi1:(k:Int)<r.plan.length:=by omega
   clear hr;rcases jb (ps == S) with t1|t1
   ·have hps:ps=S:=by simpa using t1
    cases pc
    ·have HN2:=jz HN.out;clear HN;unfold stF at HN2;simp only[hps,if_true,Bool.false_eq_true,if_false] at HN2;go_wp2_with fail
     go_quiet (fail)
     go_wp2_with fail
     go_quiet (fail)
     go_wp2_with fail
     exact⟨⟨k+1,by omega,by go_num,⟨_,HN2,rfl,rfl,rfl⟩,jz (HAr.drewN _),jz (HBr.drewN _),jz (bR HWr.out _)⟩,by simp[intOf];omega⟩
    ·have HN2:=jz HN.out;clear HN;unfold stF at HN2;simp only[hps,if_true,Bool.false_eq_true,if_false] at HN2;go_wp2_with fail
     go_quiet (fail)
     go_wp2_with fail
     exact⟨⟨k+1,by omega,by go_num,⟨_,HN2,rfl,rfl,rfl⟩,jz (HAr.drewN _),jz (HBr.drewN _),jz (bR HWr.out _)⟩,by simp[intOf];omega⟩
   ·have hps:ps≠S:=by simpa using t1
    unfold stF at HN;simp only[if_neg hps] at HN;go_wp2_with fail
    go_quiet (fail)
    go_wp2_with fail
    go_quiet (fail)
    go_wp2_with fail
    exact⟨⟨k+1,by omega,by go_num,⟨_,HN,rfl,rfl,rfl⟩,jz (HAr.drewN _),jz (HBr.drewN _),jz (bR HWr.out _)⟩,by simp[intOf];omega⟩
  ·obtain rfl:k=r.plan.length:=by omega
   have HFF:=jz HF.out;rw[List.take_length,← HSF.out] at HFF;have hfull:=wF S r.plan (false,false,([],.slice none 0 0));rw[← HSF.out,HFF.out] at hfull;have HFI:Hid (Sn w 1 u8 cu.length (eR cu)∧(∀ c∈cu,aK c)∧cu.length≤1000000):=jz (by
    rcases hfull with h|⟨p,hp,h⟩
    ·injection h with h1 h2
     subst h1 h2
     exact⟨Sn.nil w 1,fun c hc=>(by cases hc),Nat.zero_le _⟩
    ·injection h with h1 h2
     rw[h1,h2]
     exact⟨HK.cuts p hp,(HEV.out p hp).2⟩)
   clear hfull HF;have hr:=HAr.range;have HR:=jz hr;have hlen:(Tryz.prog.info? 57).map (·.size)=some (aA m (bD r)).toList.length:=bG;have h1:(aA m (bD r)).all (·.oneCell')=true:=aR (w:=w) (m:=m) (r:=bD r) ⟨HK.sec,HK.opn,HK.plan,HK.cuts,HK.ok.step hst,HK.bl⟩;clear hr;go_wp2_with (first
    | (refine ld 57 _ rfl rfl rfl HR.out Tryz.underlying57 rfl hlen ?_)
    | (refine bC (cells:=aA m (bD r)) 57 (.tmp 2) (.tmp 53) rfl rfl rfl rfl HBr.out bG rfl h1 ?_;intro w4 hB4 hb4 ho4 hs4;have HB4:=jz hB4;have HE4:=jz hb4;clear hB4 hb4 ho4 hs4))
   have hbw:Below w.heap.size w w4:=HWr.trans (HE4.mono (by omega));have hr4:=HB4.range;rw[HFF.out];have hk:=HK.keep hbw;exact bodyPost_ret (tK rfl _ rfl hr4 Tryz.underlying57 rfl hlen) rfl ⟨rfl,⟨hk.sec,hk.opn,hk.plan,hk.cuts,hk.ok.step hst,hk.bl⟩,hbw,HFI.out.1.below hbw,HFI.out.2⟩
end Go.Proofs.YtombncedfleljaaGreat
