import Derived.Test.YtombncedfleljaaGreatMC7
import Derived.Defers
import Derived.Recover
set_option linter.unusedSimpArgs false
set_option maxRecDepth 100000
set_option maxHeartbeats 40000000
namespace Go.Proofs.YtombncedfleljaaGreat
section
open Go.RowKit
attribute [local irreducible] wpQuiet wpAnyH
def dJ(r:List (List Int))(l:List (Int×List Int)):Nat→List (List Int)
 | 0=>r
 | j+1=>(dJ r l j).set (l.getD j (0,[])).1.toNat (l.getD j (0,[])).2
theorem fE(r:List (List Int))(l:List (Int×List Int)):∀ j,(dJ r l j).length=r.length
 | 0=>rfl
 | j+1=>by unfold dJ;rw[List.length_set,fE r l j]
def yH(d:DiskD):DiskD:={ d with sec:=dJ d.sec d.opn d.opn.length,opn:=[] }
def syncS(d:DiskD):DiskD:=if d.down then d else if gK d=2 then eE (stepped d) (d7 d) else if gK d=1 then stepped d else yH (stepped d)
def kS(d:DiskD):Value:=if d.down then iR 12 else if gK d=2 then iR 12 else if gK d=1 then iR 11 else .nilIface
def SBG(g gs n cs b:Nat)(p:Int×List Int)(w:World):Prop:=w.rangeAt b 0 (wrC p)∧w.cell? ⟨g,0,none⟩=some (.slice (some ⟨gs,0,none⟩) n cs)
theorem DK.setSec{w:World}{m:DiskM}{d:DiskD}(h:DK w m d){gs cap:Nat}(hv:m.sv = .slice (some ⟨gs,0,none⟩) d.sec.length cap)(k:Nat)(hk:k<d.sec.length)(s:List Int)(hs:Sec s):
  DK (w.setCells gs (k*64) (u8s s)) m (z8 d (d.sec.set k s))∧DT w m (w.setCells gs (k*64) (u8s s)) m∧w.there gs (k*64) (u8s s).length:=by
 have hn:=gG h.nd;have hsv:m.sv.ownBlock=some gs:=by rw[hv];rfl
 have hg:=hn.2.2.2.2.2.2.1 gs hsv;have hown:=h.sec;rw[hv] at hown;obtain⟨q1,q2,_⟩:=vM u8s Sec 64 (fun r h=>aG h) hown h.ok.sec k hk s hs;rw[List.length_set] at q1;have ho:∀ b,b≠gs→(w.setCells gs (k*64) (u8s s)).heap[b]? = w.heap[b]?:=fun b hb=>bA hb _ _ _
 have hsz:=(aO (b:=gs) (B:=0) (Nat.zero_le _) (u8s s) (k*64) w).2;have hb0:=(aO (b:=gs) (B:=0) (Nat.zero_le _) (u8s s) (k*64) w).1;refine⟨h.re rfl [gs] (fun b hb=>by rw[List.mem_singleton] at hb;rw[hb];exact lC hsv) (fun b _ hb=>ho b (by simpa using hb)) (by omega) ((ho m.g (fun e=>hg.1 e.symm)).trans h.blk) ?_ (bU h.opn fun b hx=>ho b (fun e=>hn.2.2.2.2.2.2.2.2 gs hsv (e ▸ hx))) (h.last.of_block (ho _ (fun e=>hg.2.1 e.symm))) (h.fl.of_block (ho _ (fun e=>hg.2.2.1 e.symm))) (h.cr.of_block (ho _ (fun e=>hg.2.2.2 e.symm))) h.nd (fun b hb=>.inl hb) h.flv (fun k hk=>.inr ⟨rfl,rfl⟩) ⟨fun x hx=>?_,fun p hp=>?_,?_,h.ok.lo,h.ok.st,h.ok.rm,h.ok.cl⟩,⟨rfl,⟨hb0.os,hb0.tape,hb0.output,by omega,fun b _ hn=>ho b (fun e=>hn (by rw[e];exact lC hsv))⟩,fun b hb=>.inl hb,fun _ _ h=>.inl h⟩,q2⟩
 ·show(w.setCells gs (k*64) (u8s s)).ownsRow 0 _ 64 m.sv (d.sec.set k s).length ((d.sec.set k s).flatMap u8s);rw[hv,List.length_set];exact q1
 ·have hx:x∈d.sec.set k s:=hx;rcases List.mem_or_eq_of_mem_set hx with h1|h1
  ·exact h.ok.sec x h1
  ·rw[h1];exact hs
 ·have h1:=h.ok.opn p hp;exact⟨h1.1,by show p.1<((d.sec.set k s).length:Int);rw[List.length_set];exact h1.2.1,h1.2.2⟩
 ·show(d.sec.set k s).length≤4096;rw[List.length_set];exact h.ok.few
theorem lH(w:World)(m:DiskM)(d:DiskD)(h:DK w m d)(hr:d.room+1≤100000):
  Calls Tryz.prog 64 #[.pointer (some ⟨m.g,0,none⟩)] w fun e w'=>e = .returned (kS d)∧∃ m',DK w' m' (syncS d)∧DT w m w' m':=by
 have hgl:=h.blk.lt;have H:=jz h;have hc3:w.cell? ⟨m.g,3,none⟩=some (.bool d.down):=h.blk.cell 3;have hst:=h.ok.st;clear h;cases hd:d.down with
 | true=>
  rw[hd] at hc3;have HF:Hid (kS d=iR 12∧syncS d=d):=jz (by unfold kS syncS;rw[hd];exact⟨rfl,rfl⟩);clear hd;go_enter Tryz.func64,Tryz.ntmps64
  go_wp2_with fail
  go_ret;exact⟨by rw[HF.out.1];rfl,m,by rw[HF.out.2];exact H.out,DT.refl⟩
 | false=>
  rw[hd] at hc3;have HSTP:=jz (tW _ m d H.out (by omega));have HCL:=jz (tX H.out.ok);have HSTEP:Hid (Calls Tryz.prog 89 #[.pointer (some ⟨m.g,0,none⟩)] w fun e w'=>∃ A c,e = .returned (.tuple #[.int .i64 (gK d),.slice A (d7 d).length c])∧Sn w' 1 (.slice A (d7 d).length c) (d7 d).length (eR (d7 d))∧DK w' (fR m d) (stepped d)∧DT w m w' (fR m d)):=jz (HSTP.mono (by
   rintro e w' ⟨v,rfl,h1,h2,h3,h4⟩
   obtain⟨A,c,rfl,_⟩:=id h1
   exact⟨A,c,rfl,h1,h3,h4⟩))
  clear HSTP;rcases q8 d with ho|ho|ho
  ·have HF:Hid (kS d=iR 12∧syncS d=eE (stepped d) (d7 d)):=jz (by unfold kS syncS;rw[hd,ho];exact⟨rfl,rfl⟩);rw[ho] at HSTEP;clear hd ho;obtain⟨cl,hcl⟩:=je (d7 d);rw[← hcl] at HSTEP HF HCL;clear hcl;go_enter Tryz.func64,Tryz.ntmps64
   go_wp2_with (first
    | (go_at_call 89;refine HSTEP.mono ?_;rintro e w1 ⟨A,c,rfl,h1,h3,h4⟩;have H1:=jz h1;have H3:=jz h3;have H4:=jz h4;clear h1 h3 h4)
    | (go_at_call 16;refine(mH cl A c w1 (fR m d) _ H3.out H1.out HCL.out).mono ?_;rintro e w3 ⟨rfl,m3,h9,h10⟩;have H9:=jz h9;have H10:=jz h10;clear h9 h10))
   go_ret;exact⟨by rw[HF.out.1];rfl,m3,by rw[HF.out.2];exact H9.out,H4.out.trans H10.out⟩
  ·have HF:Hid (kS d=iR 11∧syncS d=stepped d):=jz (by unfold kS syncS;rw[hd,ho];exact⟨rfl,rfl⟩);rw[ho] at HSTEP;clear hd ho;go_enter Tryz.func64,Tryz.ntmps64
   go_wp2_with (go_at_call 89;refine HSTEP.mono ?_;rintro e w1 ⟨A,c,rfl,h1,h3,h4⟩;have H3:=jz h3;have H4:=jz h4;clear h1 h3 h4)
   go_ret;exact⟨by rw[HF.out.1];rfl,_,by rw[HF.out.2];exact H3.out,H4.out⟩
  ·have HF:Hid (kS d = .nilIface∧syncS d=yH (stepped d)):=jz (by unfold kS syncS;rw[hd,ho];exact⟨rfl,rfl⟩);rw[ho] at HSTEP;clear hd ho;go_enter Tryz.func64,Tryz.ntmps64
   go_upto_region 10 with (go_at_call 89;refine HSTEP.mono ?_;rintro e w1 ⟨A,c,rfl,h1,h3,h4⟩;have H3:=jz h3;have H4:=jz h4;clear h1 h3 h4)
   obtain⟨d1,hd1⟩:=je (stepped d);obtain⟨m1,hm1⟩:=je (fR m d);rw[← hd1] at H3 HF;rw[← hm1] at H3 H4;have hmg:m1.g=m.g:=by rw[hm1];rfl
   have HMG:=jz hmg;obtain⟨Ao,co,hov,_⟩:=Sn.own H3.out.opn;obtain⟨As,cs,hsv,_⟩:=Sn.own H3.out.sec;have HOV:=jz hov;have HSV:=jz hsv;have hc1:w1.cell? ⟨m.g,1,none⟩=some (.slice Ao d1.opn.length co):=by rw[← hov,← hmg];exact H3.out.blk.cell 1
   have hol:d1.opn.length≤100000:=Nat.le_trans H3.out.ok.lo H3.out.ok.rm;have hsl:d1.sec.length≤4096:=H3.out.ok.few;have HD1:Hid (DK w1 m1 (z8 d1 (dJ d1.sec d1.opn 0))):=jz H3.out;have HOP:=jz H3.out.ok.opn;clear hd1 hm1 hmg hov hsv hc3;go_wp2_with fail
   clear hc1;go_loopw [36] (fun i wr=>∃ j:Nat,j≤d1.opn.length∧i = .int .i64 (j:Int)∧Hid (DK wr m1 (z8 d1 (dJ d1.sec d1.opn j)))∧Hid (DT w m wr m1)) (fun i _=>d1.opn.length-(intOf i).toNat)
   case atStart=>exact⟨0,Nat.zero_le _,rfl,HD1,H4⟩
   case round=>
    obtain⟨j,hj,rfl,HR,HT⟩:=hrel;rcases Nat.lt_or_ge j d1.opn.length with hlt|hge
    ·have hon:=Sn.own HR.opn;have hon:Sn wr 65 m1.ov d1.opn.length (d1.opn.flatMap wrC):=hon;rw[HOV.out] at hon;obtain⟨b1,o1,rfl,hr1⟩:=yC hon (fun p hp=>(HOP.out p hp).2.2) j hlt;have hp:=HOP.out _ (List.getElem_mem hlt);have htl:=fE d1.sec d1.opn j;have HTJ:Hid (dJ d1.sec d1.opn (j+1)=(dJ d1.sec d1.opn j).set d1.opn[j].1.toNat d1.opn[j].2):=jz (by
      show(dJ d1.sec d1.opn j).set (d1.opn.getD j (0,[])).1.toNat _=_
      rw[show d1.opn.getD j (0,[])=d1.opn[j] by simp[List.getD_eq_getElem?_getD,hlt]])
     obtain⟨L,hL⟩:=je (dJ d1.sec d1.opn j);obtain⟨⟨a,dat⟩,hpe⟩:∃ p,p=d1.opn[j]:=⟨_,rfl⟩;rw[← hpe] at hr1 hp HTJ;rw[← hL] at HTJ htl HR;clear hpe hL hon;obtain⟨k,rfl⟩:=Int.eq_ofNat_of_zero_le hp.1;have hkl:k<L.length:=by have:=hp.2.1;simp only at this;omega
     have hka:(k:Int)<(d1.sec.length:Int):=hp.2.1;obtain⟨gs,hgs⟩:∃ gs,As=some ⟨gs,0,none⟩:=by
      rcases H3.out.sec.2 with ⟨_,h⟩|⟨g,cp,cur,hv,_⟩
      ·omega
      ·rw[HSV.out] at hv;injection hv with e1 _ _;exact⟨g,e1⟩
     subst hgs;have HDS:Hid (Sec dat):=jz hp.2.2;have HTJ:Hid (dJ d1.sec d1.opn (j+1)=L.set k dat):=HTJ;clear hp;have HRW:=jz hr1;clear hr1;have hWL:=eK (p:=((k:Int),dat)) HDS.out;have HUW:Hid ((Tryz.prog.info? 155).map (·.size)=some (wrC ((k:Int),dat)).length):=jz (by rw[hWL];kernel_rfl);have HUV:Hid ((Tryz.prog.info? 155).map (·.size)=some (wrC ((k:Int),dat)).toArray.size∧(wrC (0,List.replicate 64 0)).toArray.size=(wrC ((k:Int),dat)).toArray.size∧(wrC ((k:Int),dat)).toArray.all (·.oneCell')=true):=jz ⟨by rw[js,hWL];kernel_rfl,by rw[js,js,hWL];rfl,all_oneCell_toArray (iS _)⟩;clear hWL;have HUD:Hid ((Tryz.prog.info? 144).map (·.size)=some (u8s dat).length):=jz (by rw[aG HDS.out];kernel_rfl);have hj0:(0:Int)≤j:=by omega
     have hj1:(j:Int)<d1.opn.length:=by omega
     have hk0:(0:Int)≤k:=by omega
     go_upto_region 13 with (first
      | (refine ld 155 _ rfl rfl rfl HRW.out Tryz.underlying155 rfl HUW.out ?_)
      | (refine al 155 _ rfl rfl FH ?_)
      | (refine cR 155 (.tmp 6) (.tmp 39) rfl rfl (by rfl) (by rfl) HUV.out.1 HUV.out.2.1 HUV.out.2.2 ?_;intro w2 hK hb2 hz2;have HK2:=jz (show Blk w2 wr.heap.size 155 (wrC ((k:Int),dat)).toArray from hK);have HB2:=jz hb2;clear hK hb2 hz2))
     have HBR:Hid (w2.rangeAt wr.heap.size 0 (wrC ((k:Int),dat))):=jz (by have h:=HK2.range;rw[jt] at h;exact h);have HDK2:Hid (DK w2.drew m1 (z8 d1 L)):=jz (HR.keep HB2.out).drew;have HC0:Hid (w2.drew.cell? ⟨m.g,0,none⟩=some (.slice (some ⟨gs,0,none⟩) d1.sec.length cs)):=jz (by rw[← HSV.out,← HMG.out];exact HDK2.blk.cell 0);have HSV2:Hid (m1.sv = .slice (some ⟨gs,0,none⟩) (z8 d1 L).sec.length cs):=jz (by rw[HSV.out];show _=Value.slice _ L.length cs;rw[htl]);obtain⟨hdk3,hdt3,hth⟩:=HDK2.setSec HSV2.out k hkl dat HDS.out;have HDK3:Hid (DK (w2.drew.setCells gs (k*64) (u8s dat)) m1 (z8 d1 (dJ d1.sec d1.opn (j+1)))):=jz (by rw[HTJ.out];exact hdk3);have HDT3:Hid (DT w m (w2.drew.setCells gs (k*64) (u8s dat)) m1):=jz (HT.trans ((DT.of_below (HB2.drew)).trans hdt3));have HTH:=jz hth;have hne:gs≠wr.heap.size:=fun e=>by
      have h1:=HR.foot_lt gs (lC (by rw[HSV.out];rfl));omega
     have HS0:Hid (SBG m.g gs d1.sec.length cs wr.heap.size ((k:Int),dat) w2.drew):=jz ⟨HBR.out,HC0.out⟩;have HS1:Hid (SBG m.g gs d1.sec.length cs wr.heap.size ((k:Int),dat) (w2.drew.setCells gs (k*64) (u8s dat))):=jz ⟨fun i u hi=>(World.cell?_of_block (a:=⟨wr.heap.size,0+i,none⟩) (bA (fun e=>hne e.symm) _ _ _)).trans (HBR.out i u hi),by rw[← HSV.out,← HMG.out];exact HDK3.blk.cell 0⟩;have HIX:Hid (∀ w4,SBG m.g gs d1.sec.length cs wr.heap.size ((k:Int),dat) w4→w4.cell? ⟨wr.heap.size,0,none⟩=some (.int .i64 (k:Int))∧w4.rangeAt wr.heap.size 1 (u8s dat)∧w4.cell? ⟨m.g,0,none⟩=some (.slice (some ⟨gs,0,none⟩) d1.sec.length cs)):=jz (fun w4 h=>⟨h.1 0 _ rfl,fun i u hi=>by have:=h.1 (i+1) u hi;rw[show 1+i=0+(i+1) by omega];exact this,h.2⟩);clear hdk3 hdt3 hth;refine aQ 10 (SBG m.g gs d1.sec.length cs wr.heap.size ((k:Int),dat)) (by kernel_rfl) (by kernel_rfl) (HS0.out) (fun hH=>?_);refine jM 0 (.tmp 0) (some 40) (.pointer (some ⟨m.g,0,none⟩)) hH ?_;simp only[jq];refine jT 1 (.nilCheck (.tmp 40)) (some 41) (.pointer (some ⟨m.g,0,none⟩)) hH ?_;simp only[jq];refine jT 2 (.fieldAddr 77 (.tmp 41) 0) (some 42) (.pointer (some ⟨m.g,0,none⟩)) hH ?_;simp only[jq];refine jT 3 (.load 53 (.tmp 42)) (some 43) (.slice (some ⟨gs,0,none⟩) d1.sec.length cs) (hy:=fun o ho wX hX=>by have hcell:=(HIX.out wX hX).2.2;unfold execOp;simp only[ho];go_simp) hH ?_;simp only[jq];refine jT 4 (.fieldAddr 155 (.tmp 6) 0) (some 44) (.pointer (some ⟨wr.heap.size,0,none⟩)) hH ?_;simp only[jq];refine jT 5 (.load 3 (.tmp 44)) (some 45) (.int .i64 (k:Int)) (hy:=fun o ho wX hX=>by have hcell:=(HIX.out wX hX).1;unfold execOp;simp only[ho];go_simp) hH ?_;simp only[jq];refine jT 6 (.fieldAddr 155 (.tmp 6) 1) (some 46) (.pointer (some ⟨wr.heap.size,1,none⟩)) hH ?_;simp only[jq];refine jL 7 144 (.tmp 46) (some 47) (cs:=u8s dat) (fun _ hX=>(HIX.out _ hX).2.1) Tryz.underlying144 rfl HUD.out hH ?_;simp only[jq];refine jT 8 (.indexAddr 53 (.tmp 43) (.tmp 45)) (some 48) (.pointer (some ⟨gs,k*64,none⟩)) hH ?_;simp only[jq];refine jW [9] ?_;refine jR 9 144 (.tmp 48) (.tmp 47) none (cs:=u8s dat) HTH.out HUD.out (bS _) HS1.out ?_ jN;simp only[jq];refine wpAnyH_done (by kernel_rfl) ?_ _;clear hH;go_wp2_with fail
     exact⟨⟨j+1,by omega,by go_num,HDK3,HDT3⟩,by simp[intOf];omega⟩
    ·obtain rfl:j=d1.opn.length:=by omega
     have t1:decide ((d1.opn.length:Int)<(d1.opn.length:Int))=false:=by simp
     have HCLR:=jz (q6 wr m1 _ HR.out);rw[HMG.out] at HCLR;go_wp2_with (go_at_call 41;refine HCLR.mono ?_;rintro e w6 ⟨rfl,hdk6,hdt6⟩;have HDK6:=jz hdk6;have HDT6:=jz hdt6;clear hdk6 hdt6)
     go_ret;exact⟨by rw[HF.out.1];rfl,_,by rw[HF.out.2];exact HDK6.out,HT.trans HDT6.out⟩
def planC(d:DiskD)(n:Int)(cl:List Int):DiskD:=if n<1 then d else { d with cr:=fun k=>if k=(d.steps:Int)+n then some cl else d.cr k,room:=d.room+1 }
def planF(d:DiskD)(n:Int):DiskD:=if n<1 then d else { d with fl:=fun k=>if k=(d.steps:Int)+n then true else d.fl k,room:=d.room+1 }
theorem DK.planC{w w':World}{m:DiskM}{d:DiskD}(h:DK w m d){K:Int}{cs:List Int}{v:Value}(hb:∀ k,k<w.heap.size→k≠m.bc→w'.heap[k]? = w.heap[k]?)(hsz:w.heap.size≤w'.heap.size)(hu:UM w' m.bc (d.room+1) (jA m.cv K v))(hv:Sn w' 1 v cs.length (eR cs))(hvb:∀ b,v.ownBlock=some b→b ∉ bJ m∧b<w'.heap.size)(hl:cs.length≤1000000)(hr:d.room+1≤100000):
  DK w' { m with cv:=jA m.cv K v } { d with cr:=fun k=>if k=K then some cs else d.cr k,room:=d.room+1 }:=by
 have hn:=gG h.nd;refine⟨(hb m.g h.blk.lt hn.2.2.1).trans h.blk,bU h.sec fun b hx=>hb b (h.sec.lt b hx).2 (hn.2.2.2.2.2.2.1 b hx).2.2.2,bU h.opn fun b hx=>hb b (h.opn.lt b hx).2 (hn.2.2.2.2.2.2.2.1 b hx).2.2.2,(h.last.of_block (hb _ h.last.lt hn.2.2.2.2.1)).mono (Nat.le_succ _),(h.fl.of_block (hb _ h.fl.lt hn.2.2.2.2.2.1)).mono (Nat.le_succ _),hu,h.nd,h.flv,fun k hk=>?_,⟨h.ok.sec,h.ok.opn,h.ok.few,Nat.le_succ_of_le h.ok.lo,Nat.le_succ_of_le h.ok.st,hr,fun k c e=>?_⟩⟩
 ·show match (if k=K then some cs else d.cr k) with|none=>jA m.cv K v k=none|some cs'=>∃ u,jA m.cv K v k=some u∧Sn w' 1 u cs'.length (eR cs')∧∀ b,u.ownBlock=some b→b ∉ bJ m∧b<w'.heap.size
  unfold jA;by_cases e:k=K
  ·rw[if_pos e,if_pos e];exact⟨v,rfl,hv,hvb⟩
  ·rw[if_neg e,if_neg e];have h3:=h.crv k hk;cases hc:d.cr k with
   | none=>rw[hc] at h3;exact h3
   | some c=>
    rw[hc] at h3;obtain⟨u,h4,h5,h6⟩:=h3;refine⟨u,h4,?_,fun b e=>⟨(h6 b e).1,Nat.lt_of_lt_of_le (h6 b e).2 hsz⟩⟩;obtain⟨A,cap,rfl,hc1,hl,hx⟩:=h5;refine⟨A,cap,rfl,hc1,hl,fun hp=>?_⟩;obtain⟨b,off,rfl,hcell⟩:=hx hp;exact⟨b,off,rfl,fun j u hj=>(World.cell?_of_block (a:=⟨b,off+j,none⟩) (hb b (h6 b rfl).2 (fun e=>(h6 b rfl).1 (by rw[e];exact iQ m)))).trans (hcell j u hj)⟩
 ·have e:(if k=K then some cs else d.cr k)=some c:=e;split at e
  ·have:=Option.some.inj e;rw[← this];exact hl
  ·exact h.ok.cl k c e
theorem DK.planF{w w':World}{m:DiskM}{d:DiskD}(h:DK w m d){K:Int}(hb:∀ k,k<w.heap.size→k≠m.bf→w'.heap[k]? = w.heap[k]?)(hsz:w.heap.size≤w'.heap.size)(hu:UM w' m.bf (d.room+1) (jA m.fv K (.bool true)))(hr:d.room+1≤100000):
  DK w' { m with fv:=jA m.fv K (.bool true) } { d with fl:=fun k=>if k=K then true else d.fl k,room:=d.room+1 }:=by
 have hn:=gG h.nd;refine h.re rfl [m.bf] (fun k hk=>by rw[List.mem_singleton] at hk;rw[hk];exact jQ m) (fun k hk hm=>hb k hk (by simpa using hm)) hsz ((hb m.g h.blk.lt hn.2.1).trans h.blk) (bU h.sec fun b hx=>hb b (h.sec.lt b hx).2 (hn.2.2.2.2.2.2.1 b hx).2.2.1) (bU h.opn fun b hx=>hb b (h.opn.lt b hx).2 (hn.2.2.2.2.2.2.2.1 b hx).2.2.1) ((h.last.of_block (hb _ h.last.lt hn.2.2.2.1)).mono (Nat.le_succ _)) hu ((h.cr.of_block (hb _ h.cr.lt (fun e=>hn.2.2.2.2.2.1 e.symm))).mono (Nat.le_succ _)) h.nd (fun b hb=>.inl hb) (fun k hk=>?_) (fun k hk=>.inr ⟨rfl,rfl⟩) ⟨h.ok.sec,h.ok.opn,h.ok.few,Nat.le_succ_of_le h.ok.lo,Nat.le_succ_of_le h.ok.st,hr,h.ok.cl⟩;show(jA m.fv K (.bool true) k).getD (.bool false) = .bool (if k=K then true else d.fl k);unfold jA;by_cases e:k=K
 ·rw[if_pos e,if_pos e];rfl
 ·rw[if_neg e,if_neg e];exact h.flv k hk
theorem yI:SlT Tryz.prog 29 3 1 8:=SlT.mk' Tryz.underlying29 (z:=.int .i64 0) (by kernel_rfl) rfl (by decide)
theorem nA(l:List Int):∀ u∈eR l,u.oneCell'=true:=by
 intro u hu;simp only[eR,List.mem_map] at hu;obtain⟨_,_,rfl⟩:=hu;rfl
theorem AB(va:Value)(n:Nat)(xs:List Value)(w:World)(hs:Sn w 1 va n xs)(h1:∀ u∈xs,u.oneCell'=true)(hn:n≤1000000):
  Calls Tryz.prog 39 #[va] w fun e w'=>∃ v,e = .returned v∧Sn w' 1 v n xs∧(∀ b,v.ownBlock=some b→w.heap.size≤b∧b<w'.heap.size)∧Below w.heap.size w w':=by
 obtain⟨A,cap,rfl,hcap,hl,hx⟩:=id hs;have HS:=jz hs;have HX:=jz hx;clear hx;cases A with
 | none=>
  have heq:∀ w:World,(binOp .eql 29 (.slice none n cap) (.slice none 0 0)).run Tryz.prog w = .ok (.bool true) w:=fun _=>rfl
  go_enter Tryz.func39,Tryz.ntmps39
  go_wp2_with fail
  go_ret;have hn0:n=0:=by
   rcases Nat.eq_zero_or_pos n with h|h
   ·exact h
   ·obtain⟨b,off,e,_⟩:=HX.out h;cases e
  subst hn0;exact⟨_,rfl,⟨none,0,rfl,Nat.le_refl _,hl,fun h=>absurd h (by omega)⟩,(fun b e=>by cases e),Below.refl _ _⟩
 | some a=>
  have heq:∀ w:World,(binOp .eql 29 (.slice (some a) n cap) (.slice none 0 0)).run Tryz.prog w = .ok (.bool false) w:=fun _=>rfl
  have hown:(w.alloc (.cells #[] 3)).ownsRow w.heap.size 3 1 (.slice (some ⟨w.heap.size,0,none⟩) 0 0) 0 []:=cI w #[] 3 1 0 w.heap.size w.heap.size (Nat.le_refl _) rfl (by unfold maxLen;omega) rfl;go_enter Tryz.func39,Tryz.ntmps39
  clear hs;go_wp2_with (at_builtin;refine app yI (.tmp 5) (.tmp 6) rfl rfl rfl hown rfl (HS.alloc _) h1 (by unfold maxLen;omega) (by omega) (by simp) ?_;intro v' w3 hown3 hgrow _)
  go_ret;have hb:Below w.heap.size w w3:=((Below.refl _ w).alloc (Nat.le_refl _) _).grown hgrow (by simp) (fun g hg=>by have:=(hown.lt g hg).1;omega);have hlt:=hown3.lt;have:=Sn.own hown3;rw[Nat.zero_add,List.nil_append] at this;exact⟨_,rfl,this,fun b e=>hlt b e,hb⟩
theorem DX(n:Int)(w:World)(m:DiskM)(d:DiskD)(h:DK w m d)(hn1:n≤1000000000)(hr:d.room+1≤100000):
  Calls Tryz.prog 14 #[.pointer (some ⟨m.g,0,none⟩),.int .i64 n] w fun e w'=>e = .returned (.tuple #[])∧∃ m',DK w' m' (planF d n)∧DT w m w' m':=by
 have H:=jz h;have hst:d.steps≤100000:=Nat.le_trans h.ok.st h.ok.rm;clear h;rcases jb (decide (1≤n)) with t1|t1
 ·have h1:1≤n:=of_decide_eq_true t1;have HF:Hid (planF d n={ d with fl:=fun k=>if k=(d.steps:Int)+n then true else d.fl k,room:=d.room+1 }):=jz (by unfold planF;rw[if_neg (by omega)]);have hk:aK ((d.steps:Int)+n):=by unfold aK;omega
  obtain⟨w3,HRUN,HUL3,HT3⟩:∃ w3,Hid ((Instr.mapUpdate 73 (.map (some m.bf)) (.int .i64 ((d.steps:Int)+n)) (.bool true)).run Tryz.prog w.drew = .ok () w3)∧Hid (UM w3 m.bf (d.room+1) (jA m.fv ((d.steps:Int)+n) (.bool true)))∧Hid (w.drew.grownBy w3 (some m.bf)):=by
   obtain⟨w3,h1,h2,h3⟩:=UM.put_run (w:=w.drew) Tryz.underlying73 H.out.fl hk (.bool true) (by unfold maxLen;omega);exact⟨w3,jz h1,jz h2,jz h3.grown⟩
  have HB3:Hid (∀ k,k<w.heap.size→k≠m.bf→w3.heap[k]? = w.heap[k]?):=jz (fun k hk hn=>HT3.block k hk (fun e=>hn (Option.some.inj e)));have HDK:Hid (DK w3 { m with fv:=jA m.fv ((d.steps:Int)+n) (.bool true) } (planF d n)):=jz (by rw[HF.out];exact H.out.planF HB3.out HT3.size HUL3.out hr);have HDT:Hid (DT w m w3 { m with fv:=jA m.fv ((d.steps:Int)+n) (.bool true) }):=jz ⟨rfl,⟨HT3.os,HT3.tape,HT3.output,HT3.size,fun k hk hm=>HB3.out k hk (fun e=>hm (by rw[e];exact jQ m))⟩,fun b hb=>.inl hb,fun _ _ h=>.inl h⟩;have HS0:Hid (w.drew.cell? ⟨m.g,5,none⟩=some (.map (some m.bf))∧w.drew.cell? ⟨m.g,4,none⟩=some (.int .i64 (d.steps:Int))):=jz ⟨H.out.blk.cell 5,H.out.blk.cell 4⟩;have HS3:Hid (w3.cell? ⟨m.g,5,none⟩=some (.map (some m.bf))∧w3.cell? ⟨m.g,4,none⟩=some (.int .i64 (d.steps:Int))):=jz (by
   have hB:Blk w3 m.g 77 (eG m d):=(HB3.out m.g H.out.blk.lt (gG H.out.nd).2.1).trans H.out.blk
   exact⟨hB.cell 5,hB.cell 4⟩)
  have y1:IntKind.i64.wrap ((d.steps:Int)+n)=(d.steps:Int)+n:=IntWalk.i64_in _ (by omega);clear hk;go_enter Tryz.func14,Tryz.ntmps14
  go_wp2_with fail
  refine aQ 11 (fun wz=>wz.cell? ⟨m.g,5,none⟩=some (.map (some m.bf))∧wz.cell? ⟨m.g,4,none⟩=some (.int .i64 (d.steps:Int))) (by kernel_rfl) (by kernel_rfl) (HS0.out) (fun hH=>?_);refine jM 0 (.tmp 0) (some 10) (.pointer (some ⟨m.g,0,none⟩)) hH ?_;simp only[jq];refine jT 1 (.nilCheck (.tmp 10)) (some 11) (.pointer (some ⟨m.g,0,none⟩)) hH ?_;simp only[jq];refine jT 2 (.fieldAddr 77 (.tmp 11) 5) (some 12) (.pointer (some ⟨m.g,5,none⟩)) hH ?_;simp only[jq];refine jT 3 (.load 73 (.tmp 12)) (some 13) (.map (some m.bf)) (hy:=fun o ho wX hX=>by have hcell:=hX.1;unfold execOp;simp only[ho];go_simp) hH ?_;simp only[jq];refine jM 4 (.tmp 0) (some 14) (.pointer (some ⟨m.g,0,none⟩)) hH ?_;simp only[jq];refine jT 5 (.nilCheck (.tmp 14)) (some 15) (.pointer (some ⟨m.g,0,none⟩)) hH ?_;simp only[jq];refine jT 6 (.fieldAddr 77 (.tmp 15) 4) (some 16) (.pointer (some ⟨m.g,4,none⟩)) hH ?_;simp only[jq];refine jT 7 (.load 3 (.tmp 16)) (some 17) (.int .i64 (d.steps:Int)) (hy:=fun o ho wX hX=>by have hcell:=hX.2;unfold execOp;simp only[ho];go_simp) hH ?_;simp only[jq];refine jM 8 (.tmp 1) (some 18) (.int .i64 n) hH ?_;simp only[jq];refine jT 9 (.binOp .add 3 (.tmp 17) (.tmp 18) 3) (some 19) (.int .i64 ((d.steps:Int)+n)) hH ?_;simp only[jq];refine jW [10] ?_;refine KN 10 (.tmp 13) (.tmp 19) (.const (.bool true)) none w3 (by kernel_rfl) (by kernel_rfl) (by rfl) (by rfl) (by rfl) HRUN.out HS3.out ?_ jN;simp only[jq];refine wpAnyH_done (by kernel_rfl) ?_ _;clear hH;go_wp2_with fail
  exact bodyPost_end (results_none rfl _ _ _) rfl ⟨rfl,_,HDK.out,HDT.out⟩
 ·have HF:Hid (planF d n=d):=jz (by unfold planF;rw[if_pos];have:=of_decide_eq_false t1;omega);go_enter Tryz.func14,Tryz.ntmps14
  go_wp2_with fail
  exact bodyPost_end (results_none rfl _ _ _) rfl ⟨rfl,m,by rw[HF.out];exact H.out,DT.refl⟩
theorem vN(n:Int)(va:Value)(cl:List Int)(w:World)(m:DiskM)(d:DiskD)(h:DK w m d)(hs:Sn w 1 va cl.length (eR cl))(hcl:cl.length≤1000000)(hn1:n≤1000000000)(hr:d.room+1≤100000):
  Calls Tryz.prog 15 #[.pointer (some ⟨m.g,0,none⟩),.int .i64 n,va] w fun e w'=>e = .returned (.tuple #[])∧∃ m',DK w' m' (planC d n cl)∧DT w m w' m':=by
 have H:=jz h;have hst:d.steps≤100000:=Nat.le_trans h.ok.st h.ok.rm;have HCN:=jz (AB va cl.length _ w.drew hs (nA cl) hcl);clear h hs;rcases jb (decide (1≤n)) with t1|t1
 ·have h1:1≤n:=of_decide_eq_true t1;have HF:Hid (planC d n cl={ d with cr:=fun k=>if k=(d.steps:Int)+n then some cl else d.cr k,room:=d.room+1 }):=jz (by unfold planC;rw[if_neg (by omega)]);have hk:aK ((d.steps:Int)+n):=by unfold aK;omega
  have HPUT:Hid (∀(v:Value) (w2:World),Sn w2 1 v cl.length (eR cl)→(∀ b,v.ownBlock=some b→w.heap.size≤b∧b<w2.heap.size)→Below w.heap.size w w2→∃ w3,(Instr.mapUpdate 74 (.map (some m.bc)) (.int .i64 ((d.steps:Int)+n)) v).run Tryz.prog w2 = .ok () w3∧DK w3 { m with cv:=jA m.cv ((d.steps:Int)+n) v } (planC d n cl)∧DT w m w3 { m with cv:=jA m.cv ((d.steps:Int)+n) v }∧w3.cell? ⟨m.g,6,none⟩=some (.map (some m.bc))∧w3.cell? ⟨m.g,4,none⟩=some (.int .i64 (d.steps:Int))):=jz (fun v w2 hs hvb hb=>by
   have H2:=H.out.keep hb
   obtain⟨w3,e1,e2,e3⟩:=UM.put_run Tryz.underlying74 H2.cr hk v (by unfold maxLen;omega)
   have hg:=e3.grown
   have hB3:∀ k,k<w2.heap.size→k≠m.bc→w3.heap[k]? = w2.heap[k]?:=fun k hk hn=>hg.block k hk (fun e=>hn (Option.some.inj e))
   have hnf:∀ b,v.ownBlock=some b→b ∉ bJ m:=fun b e hm=>by have h1:=H.out.foot_lt b hm;have h2:=hvb b e;omega
   have hdk:=H2.planC hB3 hg.size e2 (cs:=cl) (by
    obtain⟨A,cap,rfl,hc1,hl,hx⟩:=hs
    refine⟨A,cap,rfl,hc1,hl,fun hp=>?_⟩
    obtain⟨b,off,rfl,hcell⟩:=hx hp
    exact⟨b,off,rfl,fun j u hj=>(World.cell?_of_block (a:=⟨b,off+j,none⟩) (hB3 b (hvb b rfl).2 (fun e=>hnf b rfl (by rw[e];exact iQ m)))).trans (hcell j u hj)⟩) (fun b e=>⟨hnf b e,Nat.lt_of_lt_of_le (hvb b e).2 hg.size⟩) hcl hr
   have hB:Blk w3 m.g 77 (eG m d):=(hB3 m.g H2.blk.lt (gG H.out.nd).2.2.1).trans H2.blk
   refine⟨w3,e1,by rw[HF.out];exact hdk,⟨rfl,(Fo.of_below hb).trans (G:=bJ m) ⟨hg.os,hg.tape,hg.output,hg.size,fun k hk hm=>hB3 k hk (fun e=>hm (by rw[e];exact iQ m))⟩ (fun x hx=>.inl hx),fun b hb=>.inl hb,fun k x hx=>by
    have hx:(if k=(d.steps:Int)+n then some v else m.cv k)=some x:=hx
    split at hx
    ·injection hx with hx
     subst hx
     exact .inr (fun b e=>(hvb b e).1)
    ·exact .inl hx⟩,hB.cell 6,hB.cell 4⟩)
  have HS0:Hid (w.drew.cell? ⟨m.g,6,none⟩=some (.map (some m.bc))∧w.drew.cell? ⟨m.g,4,none⟩=some (.int .i64 (d.steps:Int))):=jz ⟨H.out.blk.cell 6,H.out.blk.cell 4⟩;have y1:IntKind.i64.wrap ((d.steps:Int)+n)=(d.steps:Int)+n:=IntWalk.i64_in _ (by omega);clear hk;go_enter Tryz.func15,Tryz.ntmps15
  go_wp2_with fail
  refine aQ 13 (fun wz=>wz.cell? ⟨m.g,6,none⟩=some (.map (some m.bc))∧wz.cell? ⟨m.g,4,none⟩=some (.int .i64 (d.steps:Int))) (by kernel_rfl) (by kernel_rfl) (HS0.out) (fun hH=>?_);refine jM 0 (.tmp 0) (some 12) (.pointer (some ⟨m.g,0,none⟩)) hH ?_;simp only[jq];refine jT 1 (.nilCheck (.tmp 12)) (some 13) (.pointer (some ⟨m.g,0,none⟩)) hH ?_;simp only[jq];refine jT 2 (.fieldAddr 77 (.tmp 13) 6) (some 14) (.pointer (some ⟨m.g,6,none⟩)) hH ?_;simp only[jq];refine jT 3 (.load 74 (.tmp 14)) (some 15) (.map (some m.bc)) (hy:=fun o ho wX hX=>by have hcell:=hX.1;unfold execOp;simp only[ho];go_simp) hH ?_;simp only[jq];refine jM 4 (.tmp 0) (some 16) (.pointer (some ⟨m.g,0,none⟩)) hH ?_;simp only[jq];refine jT 5 (.nilCheck (.tmp 16)) (some 17) (.pointer (some ⟨m.g,0,none⟩)) hH ?_;simp only[jq];refine jT 6 (.fieldAddr 77 (.tmp 17) 4) (some 18) (.pointer (some ⟨m.g,4,none⟩)) hH ?_;simp only[jq];refine jT 7 (.load 3 (.tmp 18)) (some 19) (.int .i64 (d.steps:Int)) (hy:=fun o ho wX hX=>by have hcell:=hX.2;unfold execOp;simp only[ho];go_simp) hH ?_;simp only[jq];refine jM 8 (.tmp 1) (some 20) (.int .i64 n) hH ?_;simp only[jq];refine jT 9 (.binOp .add 3 (.tmp 19) (.tmp 20) 3) (some 21) (.int .i64 ((d.steps:Int)+n)) hH ?_;simp only[jq];refine jM 10 (.tmp 2) (some 22) (va) hH ?_;simp only[jq];refine jW [11] ?_;refine jC 11 (.call { callee:=.value (.func 39),args:=#[.tmp 22],argTypes:=#[29] }) (some 23) 39 #[va] ?_ jN;refine HCN.mono ?_;rintro e w2 ⟨v2,rfl,h2,h3,h4⟩;have hb2:Below w.heap.size w w2:=(Below.refl w.heap.size w).drew.trans h4;obtain⟨w3,hrun3,hdk3,hdt3,hs3⟩:=HPUT.out v2 w2 h2 h3 hb2;refine⟨_,rfl,⟨Below.cell' hb2 HS0.out.1,Below.cell' hb2 HS0.out.2⟩,fun _=>?_⟩;simp only[jq];refine jW [12] ?_;refine KN 12 (.tmp 15) (.tmp 21) (.tmp 23) none w3 (by kernel_rfl) (by kernel_rfl) (by rfl) (by rfl) (by rfl) hrun3 hs3 ?_ jN;simp only[jq];refine wpAnyH_done (by kernel_rfl) ?_ _;have HDK:=jz hdk3;have HDT:=jz hdt3;clear h2 h3 h4 hb2 hrun3 hdk3 hdt3 hs3;clear hH;go_wp2_with fail
  exact bodyPost_end (results_none rfl _ _ _) rfl ⟨rfl,_,HDK.out,HDT.out⟩
 ·have HF:Hid (planC d n cl=d):=jz (by unfold planC;rw[if_pos];have:=of_decide_eq_false t1;omega);go_enter Tryz.func15,Tryz.ntmps15
  go_wp2_with fail
  exact bodyPost_end (results_none rfl _ _ _) rfl ⟨rfl,m,by rw[HF.out];exact H.out,DT.refl⟩
end
section
open Go.RowKit
def nB(c:Int):Option Int→Value
 | none=>.iface 37 (.int .i64 c)
 | some at_=>.iface 218 (.agg #[.int .i64 c,.int .i64 at_])
theorem vP(p:Value)(w:World):(Instr.typeAssert (.iface 37 p) 42 37 true).run Tryz.prog w = .ok (.tuple #[p,.bool true]) w:=by kernel_rfl
theorem tI(p:Value)(w:World):(Instr.typeAssert (.iface 218 p) 42 37 true).run Tryz.prog w = .ok (.tuple #[.int .i64 0,.bool false]) w:=by kernel_rfl
theorem pU(p:Value)(w:World):(Instr.typeAssert (.iface 218 p) 42 175 true).run Tryz.prog w = .ok (.tuple #[.iface 218 p,.bool true]) w:=by kernel_rfl
theorem yJ(n:String)(f:String→Bool)(g:String→String):∃ m,(Instr.least ([n].partition f).2 <|> Instr.least (([n].partition f).1.map g))=some m:=by
 cases hf:f n <;> simp[List.partition,List.partition.loop,hf,Instr.least]
theorem yK(want:Array (String×TypeId))(got:Array Method)(n:String)(h:(want.toList.filter fun(name,sig)=>!got.any fun m=>m.name == name && m.sig == sig).map (·.1)=[n]):∃ m,Instr.missingMethod want got=some m:=by
 unfold Instr.missingMethod;simp only[h];exact yJ n _ _
theorem jU{P:Program}(w:World)(t xt a:TypeId)(v z:Value)(want:Array (String×TypeId))(i:TypeInfo)(n:String)(hu:P.underlying a=some (.interface want))(hi:P.info? t=some i)
  (h:(want.toList.filter fun(name,sig)=>!i.methods.any fun m=>m.name == name && m.sig == sig).map (·.1)=[n]) (hz:(zeroValue a).run P w = .ok z w):
  (Instr.typeAssert (.iface t v) xt a true).run P w = .ok (.tuple #[z,.bool false]) w:=by
 obtain⟨m,hm⟩:=yK want i.methods n h;simp only[Instr.typeAssert];simp[run_underlying hu,typeInfo,hi,hm,hz]
theorem q9(p:Value)(w:World):(Instr.typeAssert (.iface 37 p) 42 175 true).run Tryz.prog w = .ok (.tuple #[.nilIface,.bool false]) w:=by
 have h : (Tryz.prog.info? 37).map (fun i => ((#[("Unwrap", 122)] : Array (String × TypeId)).toList.filter fun (name, sig) => !i.methods.any fun m => m.name == name && m.sig == sig).map (·.1)) = some ["Unwrap"] := by kernel_rfl
 obtain⟨i,hi,hn⟩:=Option.map_eq_some_iff.1 h;exact jU w 37 42 175 p .nilIface #[("Unwrap", 122)] i "Unwrap" (by kernel_rfl) hi hn (by kernel_rfl)
theorem pV(c:Int)(b:Nat)(w:World)(x:Value)(hx:w.cell? ⟨b,0,none⟩=some x)(hf:w.frozen? ⟨b,0,none⟩=false):
  Calls Tryz.prog 79 #[.iface 37 (.int .i64 c),.pointer (some ⟨b,0,none⟩)] w fun e w'=>e = .returned (.bool true)∧w.setCell ⟨b,0,none⟩ (.int .i64 c)=w':=by
 have h1:=vP;go_enter Tryz.func79,Tryz.ntmps79
 go_wp2
 go_ret;exact⟨rfl,rfl⟩
theorem nZ(p:Value)(b:Nat)(w:World):
  Calls Tryz.prog 79 #[.iface 218 p,.pointer (some ⟨b,0,none⟩)] w fun e w'=>e = .returned (.bool false)∧w=w':=by
 have h1:=tI;go_enter Tryz.func79,Tryz.ntmps79
 go_wp2
 go_ret;exact⟨rfl,rfl⟩
theorem rC (p : Value) (w : World) : (method 374 218 p "Unwrap").run Tryz.prog w = .ok (187, p) w := by kernel_rfl
theorem vQ(c a:Int)(w:World):
  Calls Tryz.prog 187 #[.agg #[.int .i64 c,.int .i64 a]] w fun e w'=>e = .returned (.iface 37 (.int .i64 c))∧Below w.heap.size w w':=by
 go_enter Tryz.func187,Tryz.ntmps187
 go_wp2
 go_ret;exact⟨rfl,(Below.refl _ _).alloc (Nat.le_refl _) _⟩
theorem o5(w:World):
  CallsD Tryz.prog 100 #[] .returning w fun e u' w'=>e = .returned (.tuple #[])∧u' = .returning∧w=w':=by
 refine callsD_of_wpS Tryz.func100 rfl fun c₀ cs hu=>?_
 apply wpS_region;cases c₀
 simp_all[wpOpsS,go_sem,recoverD,Tryz.ntmps100,bodyPostS,results,Tryz.results100]
theorem yL(W w:World)(c:Int)(o:Option Int)(hb:Below W.heap.size W w)(x:Value)
  (hx:w.cell? ⟨W.heap.size,0,none⟩=some x) (hf:w.frozen? ⟨W.heap.size,0,none⟩=false):
  Calls Tryz.prog 78 #[nB c o,.func (.func 79) #[] #[.pointer (some ⟨W.heap.size,0,none⟩)]] w fun e w'=>e = .returned (.tuple #[])∧Below W.heap.size W w'∧w'.cell? ⟨W.heap.size,0,none⟩=some (.int .i64 c):=by
 go_enter_defers Tryz.func78,Tryz.ntmps78
 go_wp2_with fail
 go_loopw [0,6] (fun e i wr=>∃(k:Nat) (u:Value),k≤1∧i = .int .i64 k∧Below W.heap.size W wr∧wr.cell? ⟨W.heap.size,0,none⟩=some u∧wr.frozen? ⟨W.heap.size,0,none⟩=false∧((k=0∧e=nB c o)∨e = .iface 37 (.int .i64 c))) (fun _ i _=>65536-(intOf i).toNat)
 case atStart=>exact⟨0,x,by omega,rfl,hb,hx,hf,.inl ⟨rfl,rfl⟩⟩
 case round=>
  obtain⟨k,u,hk,rfl,hbr,hxr,hfr,he⟩:=hrel;have h2:=pU;have h3:=q9;have h5:=rC;have hlt:decide ((k:Int)<65536)=true:=by simp;omega
  rcases(show(_=Value.iface 37 (.int .i64 c))∨(∃ a,k=0∧_=Value.iface 218 (.agg #[.int .i64 c,.int .i64 a])) from by
   rcases he with ⟨h0,he⟩|he
   ·cases o with
    | none=>exact .inl he
    | some a=>exact .inr ⟨a,h0,he⟩
   ·exact .inl he) with rfl|⟨a,h0,rfl⟩
  ·clear he;go_wp2_with fail
   refine(pV c W.heap.size wr u hxr hfr).mono ?_;rintro e w' ⟨rfl,rfl⟩;go_wp2_with fail
   refine leaves_cons (f:=100) (args:=#[]) (by simp) (by simp[go_sem]) ?_;refine(o5 _).mono ?_;rintro e u' w'' ⟨rfl,rfl,rfl⟩;refine⟨_,results_none rfl _ _ _,rfl,hbr.setCell (Nat.le_refl _) _,?_⟩;simp[go_sem,hxr]
  ·clear he;have hk1:k+1≤1:=by omega
   clear h0;go_wp2_with fail
   refine(nZ _ W.heap.size wr).mono ?_;rintro e w' ⟨rfl,rfl⟩;go_wp2_with fail
   refine(vQ c a wr).mono ?_;rintro e w1 ⟨rfl,hb1⟩;have hlt2:=fJ hxr;go_wp2_with fail
   exact⟨⟨k+1,u,hk1,by go_num,hbr.trans (hb1.mono hbr.size),Below.cell' hb1 hxr,(hb1.frozen hlt2).trans hfr,.inr rfl⟩,by simp[intOf];omega⟩
theorem B7(fn:Fn)(first cap:Array Value)(w:World):(Instr.makeFunc fn first cap).run Tryz.prog w = .ok (.func fn first cap) w:=rfl
theorem DY(w:World)(c:Int)(o:Option Int):
  Calls Tryz.prog 54 #[nB c o] w fun e w'=>e = .returned (.int .i64 c)∧Below w.heap.size w w':=by
 have hmf:=B7;have HS:=fun(w1:World) (hb:Below w.heap.size w w1) x hx hf=>yL w w1 c o hb x hx hf
 obtain⟨v,hv⟩:=je (nB c o);rw[← hv] at HS ⊢;clear hv;go_enter Tryz.func54,Tryz.ntmps54
 go_wp2_with fail
 refine(HS (w.alloc (.cells #[.int .i64 0] 37)) ((Below.refl _ _).alloc (Nat.le_refl _) _) (.int .i64 0) (by simp[go_sem]) (by simp[go_sem])).mono ?_;rintro e w' ⟨rfl,hb,hc⟩;clear HS;go_wp2
 go_ret;exact⟨rfl,hb⟩
theorem AC(f:Value)(w:World):
  Calls Tryz.prog 78 #[.nilIface,f] w fun e w'=>e = .returned (.tuple #[])∧w=w':=by
 go_enter_defers Tryz.func78,Tryz.ntmps78
 go_wp2_with fail
 go_loop [0,6] (fun e i=>e = .nilIface∧i = .int .i64 0) (fun _ _=>0)
 case atStart=>exact⟨rfl,rfl⟩
 case round=>
  obtain⟨rfl,rfl⟩:=hrel;go_wp2_with fail
  refine leaves_cons (f:=100) (args:=#[]) (by simp) (by simp[go_sem]) ?_;refine(o5 _).mono ?_;rintro e u' w'' ⟨rfl,rfl,rfl⟩;exact⟨_,results_none rfl _ _ _,rfl,rfl⟩
theorem FJ(w:World):
  Calls Tryz.prog 54 #[.nilIface] w fun e w'=>e = .returned (.int .i64 0)∧Below w.heap.size w w':=by
 have hmf:=B7;go_enter Tryz.func54,Tryz.ntmps54
 go_wp2_with (go_at_call 78;refine(AC _ _).mono ?_;rintro e w' ⟨rfl,rfl⟩)
 go_ret;exact⟨rfl,(Below.refl _ _).alloc (Nat.le_refl _) _⟩
end
section
open Go.RowKit
attribute [local irreducible] wpQuiet wpAnyH
def room(z:Int):Int:=if z<1 then 0 else z-1
theorem n7(f z:Int)(w:World)(hz:aK z):
  Calls Tryz.prog 77 #[.agg #[.int .i64 f,.int .i64 z]] w fun e w'=>e = .returned (.int .i64 (room z))∧Below w.heap.size w w':=by
 have hbA:Below w.heap.size w (w.alloc (.cells #[.int .i64 f,.int .i64 z] 106)):=(Below.refl _ w).alloc (Nat.le_refl _) _;have hc:=(Blk.new w 106 #[.int .i64 f,.int .i64 z]).cell 1;simp only[List.getElem?_toArray,List.getElem?_cons_succ,List.getElem?_cons_zero] at hc;have h1 : -9223372036854775808≤z:=hz.1;have h2:z≤9223372036854775807:=hz.2;rcases jb (decide (z<1)) with t1|t1
 ·go_enter Tryz.func77,Tryz.ntmps77
  go_wp2_with fail
  go_ret;exact⟨by unfold room;rw[if_pos (of_decide_eq_true t1)];rfl,hbA⟩
 ·have h3:1≤z:=by have:=of_decide_eq_false t1;omega
  go_enter Tryz.func77,Tryz.ntmps77
  go_wp2_with fail
  go_ret;exact⟨by unfold room;rw[if_neg (by omega)];rfl,hbA⟩
def aS(q:List Int×Int):Bool:=decide (0≤q.2) && decide (q.2≤4611686018427387904)
theorem lI(q:List Int×Int)(w:World)(hq:EntOk q):
  Calls Tryz.prog 70 #[.agg (aC q).toArray] w fun e w'=>e = .returned (.bool (aS q))∧Below w.heap.size w w':=by
 have hbA:Below w.heap.size w (w.alloc (.cells (aC q).toArray 35)):=(Below.refl _ w).alloc (Nat.le_refl _) _;have hB:=Blk.new w 35 (aC q).toArray;have hcell:(w.alloc (.cells (aC q).toArray 35)).cell? ⟨w.heap.size,32,none⟩=some (.int .i64 q.2):=by
  rw[hB.cell];have h32:(u8s q.1).length=32:=by rw[aP,hq.dig.len]
  simp only[List.getElem?_toArray,aC,cY];rw[List.getElem?_append_right (by omega),h32];rfl
 have hlq:=aH q hq;clear hB hq;rcases jb (decide (0≤q.2)) with t1|t1 <;> rcases jb (decide (q.2≤4611686018427387904)) with t2|t2
 all_goals
  go_enter Tryz.func70,Tryz.ntmps70
  go_wp2_with fail
  go_ret;exact⟨by unfold aS;rw[t1,t2];rfl,hbA⟩
abbrev Ans:=Option (Int×Option Int)
def cC:Ans→Value
 | none=>.nilIface
 | some (c,o)=>nB c o
def cQ:Ans→Int
 | none=>0
 | some (c,_)=>c
def writeA(d:DiskD)(a:Int):Ans:=
 if d.down then some (12,none) else if gK d=2 then some (12,none) else if gK d=1 then some (11,none) else if eD d a then none else some (15,some a)
def syncA(d:DiskD):Ans:=if d.down then some (12,none) else if gK d=2 then some (12,none) else if gK d=1 then some (11,none) else none
theorem mJ(d:DiskD)(a:Int):fX d a=cC (writeA d a):=by
 unfold fX writeA;split;· rfl
 split;· rfl
 split;· rfl
 split <;> rfl
theorem lJ(d:DiskD):kS d=cC (syncA d):=by
 unfold kS syncA;split;· rfl
 split;· rfl
 split <;> rfl
theorem cV(x:Int×Option Int):∃ t u,cC (some x) = .iface t u:=by
 obtain⟨c,o⟩:=x;cases o <;> exact⟨_,_,rfl⟩
theorem rD(o:Ans)(w:World):Calls Tryz.prog 54 #[cC o] w fun e w'=>e = .returned (.int .i64 (cQ o))∧Below w.heap.size w w':=by
 cases o with
 | none=>exact FJ w
 | some x=>obtain⟨c,p⟩:=x;exact DY w c p
def aD(g:Nat)(q:List Int×Int):List Int:=rec g (q.1++beB 8 q.2.toNat)
theorem o7(g:Nat)(q:List Int×Int)(w:World)(hq:EntOk q)(hg:g<4294967296):
  Calls Tryz.prog 80 #[.int .u32 g,.agg (aC q).toArray] w fun e w'=>e = .returned (.tuple #[.agg (u8s (if aS q then aD g q else zsec)).toArray,.bool (aS q)])∧Below w.heap.size w w':=by
 cases hr:aS q with
 | true=>
  have h2:0≤q.2∧q.2≤4611686018427387904:=by unfold aS at hr;simpa using hr
  have h:=qU g q.2.toNat q w hq (by omega) (by omega) hg;rw[if_pos rfl];exact h
 | false=>
  rw[if_neg (by simp)];have HZ:=jz gJ;have HZ1:Hid (z64.all (·.oneCell')=true):=jz (by rw[gJ];exact cS _);have hzl:z64.size=64:=cN;have hB0:Blk (w.alloc (.cells (aC q).toArray 35)) w.heap.size 35 (aC q).toArray:=Blk.new _ _ _;have hc:(w.alloc (.cells (aC q).toArray 35)).cell? ⟨w.heap.size,32,none⟩=some (.int .i64 q.2):=by
   rw[hB0.cell 32];have hl:(u8s q.1).length=32:=by rw[aP,hq.dig.len]
   show(cY q.1 q.2).toArray[32]? = _;simp[cY,hl]
  obtain⟨E,hE⟩:=je ((aC q).toArray);rw[← hE] at hc ⊢;clear hE hB0;have hc2:((w.alloc (.cells E 35)).alloc (.cells z64 144)).cell? ⟨w.heap.size,32,none⟩=some (.int .i64 q.2):=Below.cell' ((Below.refl _ _).alloc (Nat.le_refl _) _) hc;have HB1:Hid (Blk ((w.alloc (.cells E 35)).alloc (.cells z64 144)) (w.heap.size+1) 144 z64):=jz (Blk.newAt _ _ _ _ (by simp));have HBW:Hid (Below w.heap.size w ((w.alloc (.cells E 35)).alloc (.cells z64 144))):=jz (((Below.refl _ w).alloc (Nat.le_refl _) _).alloc (by simp) _);have HSZ:Hid ((w.alloc (.cells E 35)).heap.size=w.heap.size+1):=jz (by simp);clear hc;obtain⟨x,hx⟩:=je q.2;rw[← hx] at hc2;have hbad:x<0∨4611686018427387904<x:=by
   unfold aS at hr;rw[← hx] at hr;by_cases h:x<0
   ·exact .inl h
   ·right
    have h0:0≤x:=by omega
    simp[h0] at hr;omega
  clear hx hr;rcases jb (decide (x<0)) with t1|t1
  ·go_enter Tryz.func80,Tryz.ntmps80
   go_wp2_with (first
    | (refine al 144 z64 rfl rfl cK ?_)
    | (refine bld 144 #[] rfl rfl rfl lD ?_)
    | (refine bC 144 (.tmp 4) (.tmp 14) rfl rfl (by first|rfl|(rw[HSZ.out];rfl)|(simp only[World.size_alloc];rfl)) rfl HB1.out (by rw[hzl];kernel_rfl) rfl HZ1.out ?_;intro w3 hB3 hb3 _ _;have HB3:=jz hB3;have HE3:=jz hb3;clear hB3 hb3))
   have hr:w3.rangeAt (w.heap.size+1) 0 (u8s zsec):=by have h:=HB3.range;rw[HZ.out,jt] at h;exact h
   exact bodyPost_ret (bI rfl _ (by first|rfl|(simp only[World.size_alloc];rfl)) hr Tryz.underlying144 rfl (by rw[aG eC];kernel_rfl)) rfl ⟨rfl,HBW.trans (HE3.mono (by omega))⟩
  ·have t2:decide ((4611686018427387904:Int)<x)=true:=by have:=of_decide_eq_false t1;simp;omega
   go_enter Tryz.func80,Tryz.ntmps80
   go_wp2_with (first
    | (refine al 144 z64 rfl rfl cK ?_)
    | (refine bld 144 #[] rfl rfl rfl lD ?_)
    | (refine bC 144 (.tmp 4) (.tmp 14) rfl rfl (by first|rfl|(rw[HSZ.out];rfl)|(simp only[World.size_alloc];rfl)) rfl HB1.out (by rw[hzl];kernel_rfl) rfl HZ1.out ?_;intro w3 hB3 hb3 _ _;have HB3:=jz hB3;have HE3:=jz hb3;clear hB3 hb3))
   have hr:w3.rangeAt (w.heap.size+1) 0 (u8s zsec):=by have h:=HB3.range;rw[HZ.out,jt] at h;exact h
   exact bodyPost_ret (bI rfl _ (by first|rfl|(simp only[World.size_alloc];rfl)) hr Tryz.underlying144 rfl (by rw[aG eC];kernel_rfl)) rfl ⟨rfl,HBW.trans (HE3.mono (by omega))⟩
end
end Go.Proofs.YtombncedfleljaaGreat
