import Derived.Test.YtombncedfleljaaGreatMC6
import Derived.Deep.DeepCutAuto
set_option linter.unusedSimpArgs false
set_option maxRecDepth 100000
set_option maxHeartbeats 40000000
namespace Go.Proofs.YtombncedfleljaaGreat
section
open Go.RowKit
attribute [local irreducible] wpQuiet wpAnyH
def cP(cut:Nat→Int)(r:List (List Int))(l:List (Int×List Int)):Nat→List (List Int)
 | 0=>r
 | j+1=>(cP cut r l j).set (l.getD j (0,[])).1.toNat (bM ((cP cut r l j).getD (l.getD j (0,[])).1.toNat []) (l.getD j (0,[])).2 (cut j))
theorem eS(cut:Nat→Int)(r:List (List Int))(l:List (Int×List Int)):∀ j,(cP cut r l j).length=r.length
 | 0=>rfl
 | j+1=>by unfold cP;rw[List.length_set,eS cut r l j]
theorem iA(cut:Nat→Int)(r:List (List Int))(l:List (Int×List Int))(hr:∀ s∈r,Sec s)(hl:∀ p∈l,0≤p.1∧p.1<r.length∧Sec p.2):∀ j,j≤l.length→∀ s∈cP cut r l j,Sec s
 | 0,_=>hr
 | j+1,hj=>fun s hs=>by
  have ih:=iA cut r l hr hl j (by omega);unfold cP at hs;rcases List.mem_or_eq_of_mem_set hs with h|h
  ·exact ih s h
  ·have hp:=hl l[j] (List.getElem_mem (by omega));have he:l.getD j (0,[])=l[j]:=by simp[List.getD_eq_getElem?_getD,show j<l.length by omega]
   rw[h,he];have hlen:=eS cut r l j;refine lG _ ?_ hp.2.2;rw[show(cP cut r l j).getD l[j].1.toNat []=(cP cut r l j)[l[j].1.toNat]'(by omega) by simp[List.getD_eq_getElem?_getD,show l[j].1.toNat<(cP cut r l j).length by omega]];exact ih _ (List.getElem_mem _)
section
variable {P : Program} {ops : Array Oper} {Q : Exit → Act → World → Prop} {S : World → Prop} {a : Act} {w : World} {listed : Array Bool} {fuel : Nat}
theorem i0{rs:List Nat}(i:Nat)(ty:TypeId)(x:Operand)(dst:Option Tmp){b off:Nat}{cs:List Value}{d:TypeDesc}(hd:(ops[i]?).map (fun o=>(o.op,o.dst))=some (.load ty x,dst))(hw:(ops[i]?).map (fun o=>Region.wanted o (yielded ops a.tmps))=some true)
  (hx:a.eval x = .pointer (some ⟨b,off,none⟩)) (hc:w.rangeAt b off cs) (hu:P.underlying ty=some d) (hr':d.isRow=true) (hi:(P.info? ty).map (·.size)=some cs.length) (hS:S w)
  (h:wpAnyH P .any ops Q S fuel (listed.setIfInBounds i true) (a.put dst (.agg cs.toArray)) w) (hs:AllReadyH P .any ops Q S fuel listed a w rs):AllReadyH P .any ops Q S fuel listed a w (i :: rs):=
 tT i _ dst _ _ hd hw (fun o ho=>by
  unfold execOp
  simp only[ho,hx,Instr.loadAt,Instr.sureAddr,Sem.run_bind,Sem.run_pure,Result.andThen_ok,run_loadVar_mid w b off ty cs d hc hu hr' hi]) hS h hs
end
theorem I8(A:Option Addr)(n cap:Nat)(xs:List Value)(w:World)(hs:Sn w 64 (.slice A n cap) n xs)(h1:∀ u∈xs,u.oneCell'=true)(hn:n≤100000):
  Calls Tryz.prog 87 #[.slice A n cap] w fun e w'=>∃ v,e = .returned v∧w'.ownsRow w.heap.size 144 64 v n xs∧Below w.heap.size w w':=by
 have HS:=jz hs;clear hs;cases A with
 | none=>
  have heq:∀ w:World,(binOp .eql 53 (.slice none n cap) (.slice none 0 0)).run Tryz.prog w = .ok (.bool true) w:=fun _=>rfl
  obtain⟨A',c',hv,_,hl,hx⟩:=HS.out;have hx0:xs.length=0:=by
   rcases Nat.eq_zero_or_pos n with h0|h0
   ·rw[hl,h0]
   ·obtain⟨g,off,e,_⟩:=hx h0;injection hv with e1 _ _
    rw[← e1] at e;cases e
  have hn0:n=0:=by omega
  have hxs:xs=[]:=List.eq_nil_of_length_eq_zero hx0;subst hn0 hxs;clear hv hl hx hx0;go_enter Tryz.func87,Tryz.ntmps87
  go_wp2_with fail
  go_ret;exact⟨_,rfl,World.ownsRow_nil _ _ _ _,Below.refl _ _⟩
 | some a=>
  have heq:∀ w:World,(binOp .eql 53 (.slice (some a) n cap) (.slice none 0 0)).run Tryz.prog w = .ok (.bool false) w:=fun _=>rfl
  have hown:(w.alloc (.cells #[] 144)).ownsRow w.heap.size 144 64 (.slice (some ⟨w.heap.size,0,none⟩) 0 0) 0 []:=cI w #[] 144 64 0 w.heap.size w.heap.size (Nat.le_refl _) rfl (by unfold maxLen;omega) rfl;have hT:SlT Tryz.prog 53 144 64 64:=SlT.mk' Tryz.underlying53 (z:=.agg (u8s (List.replicate 64 0)).toArray) (by kernel_rfl) rfl (by decide);go_enter Tryz.func87,Tryz.ntmps87
  go_wp2_with (at_builtin;refine app hT (.tmp 5) (.tmp 6) rfl rfl rfl hown rfl (HS.alloc _) h1 (by unfold maxLen;omega) (by omega) (by simp) ?_;intro v' w3 hown3 hgrow _)
  go_ret;have hb:Below w.heap.size w w3:=((Below.refl _ w).alloc (Nat.le_refl _) _).grown hgrow (by simp) (fun g hg=>by have:=(hown.lt g hg).1;omega);rw[Nat.zero_add,List.nil_append] at hown3;exact⟨_,rfl,hown3,hb⟩
theorem z6(j:Nat)(bp:Nat)(cs:List Int)(A:Option Addr)(cap:Nat)(w:World)(hb:w.cell? ⟨bp,0,none⟩=some (.slice A cs.length cap))(hs:Sn w 1 (.slice A cs.length cap) cs.length (eR cs))(hj:j≤1000000)(hcl:cs.length≤1000000):
  Calls Tryz.prog 62 #[.int .i64 (j:Int),.pointer (some ⟨bp,0,none⟩)] w fun e w'=>e = .returned (.int .i64 (cs.getD j 0))∧w'=w:=by
 have HS:=jz hs;clear hs;generalize hG:cs.getD j 0=G;have HGD:=jz hG;clear hG;rcases Nat.lt_or_ge j cs.length with hlt|hge
 ·obtain⟨A',cap',hv,_,_,hx⟩:=HS.out;injection hv with e1 _ e3
  subst e1 e3;obtain⟨b,off,rfl,hcell⟩:=hx (by omega);have hc:=hcell j (.int .i64 cs[j]) (by simp[eR,hlt]);have HG:Hid (G=cs[j]):=jz (by rw[← HGD.out];simp[List.getD_eq_getElem?_getD,hlt]);obtain⟨c,hcc⟩:=je (cs[j]);rw[← hcc] at hc HG;clear hcell hcc hx;have h0:(0:Int)≤j:=by omega
  have h1:(j:Int)<cs.length:=by omega
  go_enter Tryz.func62,Tryz.ntmps62
  go_wp2_with fail
  go_ret;exact⟨by rw[HG.out];rfl,rfl⟩
 ·have HG:Hid (G=0):=jz (by rw[← HGD.out];simp[List.getD_eq_getElem?_getD,Nat.not_lt.2 hge]);have t1:decide ((j:Int)<cs.length)=false:=by simp;omega
  have t2:decide (j<cs.length)=false:=by simp;omega
  go_enter Tryz.func62,Tryz.ntmps62
  go_wp2_with fail
  go_ret;exact⟨by rw[HG.out];rfl,rfl⟩
def SB7(g:Nat)(p:Int×List Int)(w:World):Prop:=w.rangeAt g 0 (wrC p)
theorem FH:∀ w,(zeroValue 155).run Tryz.prog w = .ok (.agg (wrC (0,List.replicate 64 0)).toArray) w:=fun w=>by kernel_rfl
theorem FI(sec:List (List Int))(opn:List (Int×List Int))(As Ao:Option Addr)(cs co bp:Nat)(cut:Nat→Int)(w:World)
  (hs:Sn w 64 (.slice As sec.length cs) sec.length (sec.flatMap u8s)) (ho:Sn w 65 (.slice Ao opn.length co) opn.length (opn.flatMap wrC))
  (hsec:∀ s∈sec,Sec s) (hopn:∀ p∈opn,0≤p.1∧p.1<sec.length∧Sec p.2) (h1:sec.length≤4096) (h2:opn.length≤100000)
  (hcut:∀(j:Nat) (w1:World),j<opn.length→Below w.heap.size w w1→Calls Tryz.prog 62 #[.int .i64 (j:Int),.pointer (some ⟨bp,0,none⟩)] w1 fun e w'=>e = .returned (.int .i64 (cut j))∧w'=w1):
  Calls Tryz.prog 61 #[.slice As sec.length cs,.slice Ao opn.length co,.func (.func 62) #[] #[.pointer (some ⟨bp,0,none⟩)]] w fun e w'=>∃ v,e = .returned v∧w'.ownsRow w.heap.size 144 64 v sec.length ((cP cut sec opn opn.length).flatMap u8s)∧Below w.heap.size w w':=by
 have HO:=jz ho;have HSE:=jz hsec;have HOP:=jz hopn;have HCU:=jz hcut;have HCL:=jz (I8 As sec.length cs _ w hs (fun u hu=>by
  obtain⟨s,_,hu⟩:=List.mem_flatMap.1 hu
  exact bS s u hu) (by omega))
 clear hs ho hsec hopn hcut;go_enter Tryz.func61,Tryz.ntmps61
 go_wp2_with (go_at_call 87;refine HCL.mono ?_;rintro e w1 ⟨v1,rfl,hown,hb1⟩;obtain⟨Ar,cr,rfl,_,_⟩:=aU hown;have HO1:=jz hown;have HB1:=jz hb1;clear hown hb1)
 go_loopw [14] (fun i wr=>∃ j:Nat,j≤opn.length∧i = .int .i64 (j:Int)∧Hid (wr.ownsRow w.heap.size 144 64 (.slice Ar sec.length cr) sec.length ((cP cut sec opn j).flatMap u8s))∧Hid (Below w.heap.size w wr)) (fun i _=>opn.length-(intOf i).toNat)
 case atStart=>exact⟨0,Nat.zero_le _,rfl,HO1,HB1⟩
 case round=>
  obtain⟨j,hj,rfl,HR,HB⟩:=hrel;have hszr:=HB.size;rcases Nat.lt_or_ge j opn.length with hlt|hge
  ·obtain⟨b1,o1,rfl,hr1⟩:=yC (HO.below HB.out) (fun p hp=>(HOP.out p hp).2.2) j hlt;have hp:=HOP.out _ (List.getElem_mem hlt);have HTJ:Hid (cP cut sec opn (j+1)=(cP cut sec opn j).set opn[j].1.toNat (bM ((cP cut sec opn j).getD opn[j].1.toNat []) opn[j].2 (cut j))):=jz (by
    show(cP cut sec opn j).set (opn.getD j (0,[])).1.toNat _=_
    rw[show opn.getD j (0,[])=opn[j] by simp[List.getD_eq_getElem?_getD,hlt]])
   have HCJ:=jz (fun w1 hb=>HCU.out j w1 hlt hb);have htl:=eS cut sec opn j;have HTS:=jz (iA cut sec opn HSE.out HOP.out j (by omega));obtain⟨c,hc⟩:=je (cut j);obtain⟨L,hL⟩:=je (cP cut sec opn j);obtain⟨⟨a,dat⟩,hpe⟩:∃ p,p=opn[j]:=⟨_,rfl⟩;rw[← hpe] at hr1 hp HTJ;rw[← hc] at HTJ HCJ;rw[← hL] at HTJ HTS htl HR;clear hpe hc hL;obtain⟨k,rfl⟩:=Int.eq_ofNat_of_zero_le hp.1;have hkl:k<L.length:=by have:=hp.2.1;simp only at this;omega
   have hka:(k:Int)<(sec.length:Int):=hp.2.1;have HDS:Hid (Sec dat):=jz hp.2.2;have HTJ:Hid (cP cut sec opn (j+1)=L.set k (bM (L.getD k []) dat c)):=HTJ;clear hp;have HRW:=jz hr1;clear hr1;have hWL:=eK (p:=((k:Int),dat)) HDS.out;have HUW:Hid ((Tryz.prog.info? 155).map (·.size)=some (wrC ((k:Int),dat)).length):=jz (by rw[hWL];kernel_rfl);have HUV:Hid ((Tryz.prog.info? 155).map (·.size)=some (wrC ((k:Int),dat)).toArray.size∧(wrC (0,List.replicate 64 0)).toArray.size=(wrC ((k:Int),dat)).toArray.size∧(wrC ((k:Int),dat)).toArray.all (·.oneCell')=true):=jz ⟨by rw[js,hWL];kernel_rfl,by rw[js,js,hWL];rfl,all_oneCell_toArray (iS _)⟩;clear hWL;have hj0:(0:Int)≤j:=by omega
   have hj1:(j:Int)<opn.length:=by omega
   have hk0:(0:Int)≤k:=by omega
   go_upto_region 5 with (first
    | (refine ld 155 _ rfl rfl rfl HRW.out Tryz.underlying155 rfl HUW.out ?_)
    | (refine al 155 _ rfl rfl FH ?_)
    | (refine cR 155 (.tmp 9) (.tmp 18) rfl rfl (by rfl) (by rfl) HUV.out.1 HUV.out.2.1 HUV.out.2.2 ?_;intro w2 hK hb2 hz2;have HK2:=jz (show Blk w2 wr.heap.size 155 (wrC ((k:Int),dat)).toArray from hK);have HB2:=jz hb2;clear hK hb2 hz2))
   have hbx0:w2.cell? ⟨wr.heap.size,0,none⟩=some (.int .i64 (k:Int)):=HK2.cell 0;go_wp2_with fail
   have HBR:Hid (w2.rangeAt wr.heap.size 0 (wrC ((k:Int),dat))):=jz (by have h:=HK2.range;rw[jt] at h;exact h);have HR2:=jz (aX HR.out HB2.out);have HBW2:=jz (aB HB.out HB2.out);obtain⟨gr,rfl⟩:∃ gr,Ar=some ⟨gr,0,none⟩:=by
    rcases HR.out.2 with ⟨_,h⟩|⟨g,cp,cur,hv,_⟩
    ·omega
    ·injection hv with e1 _ _;exact⟨g,e1⟩
   have HSL:=jz htl;have HR2':Hid (w2.ownsRow w.heap.size 144 64 (.slice (some ⟨gr,0,none⟩) L.length cr) L.length (L.flatMap u8s)):=jz (by have h:=HR2.out;rw[← show L.length=sec.length from htl] at h;exact h);have HOLD:Hid (L.getD k []=L[k]):=jz (by simp[List.getD_eq_getElem?_getD,hkl]);have HOS:Hid (Sec L[k]):=jz (HTS.out _ (List.getElem_mem hkl));have HROW:Hid (∀ w3,Below w2.heap.size w2 w3→w3.rangeAt gr (k*64) (u8s L[k])):=jz (fun w3 hb=>by
    obtain⟨b,off,e,hr⟩:=vK (Sn.own HR2'.out) HTS.out k hkl
    injection e with e
    injection e with e1 e2
    rw[← e1,← e2,Nat.zero_add] at hr
    exact fun j u hj=>Below.cell' hb (hr j u hj))
   have HTE:=jz (fun w3=>FG L[k] dat c w3 HOS.out HDS.out);have HTSN:Hid (Sec (bM L[k] dat c)):=jz (lG c HOS.out HDS.out);have HUD:Hid ((Tryz.prog.info? 144).map (·.size)=some (u8s dat).length):=jz (by rw[aG HDS.out];kernel_rfl);have HUO:Hid ((Tryz.prog.info? 144).map (·.size)=some (u8s L[k]).length):=jz (by rw[aG HOS.out];kernel_rfl);have HUT:Hid ((Tryz.prog.info? 144).map (·.size)=some (u8s (bM L[k] dat c)).length):=jz (by rw[aG HTSN.out];kernel_rfl);have HFIN:Hid (∀ w4,Below w2.heap.size w2 w4→w4.there gr (k*64) (u8s (bM L[k] dat c)).length∧(w4.setCells gr (k*64) (u8s (bM L[k] dat c))).ownsRow w.heap.size 144 64 (.slice (some ⟨gr,0,none⟩) sec.length cr) sec.length ((cP cut sec opn (j+1)).flatMap u8s)∧Below w.heap.size w (w4.setCells gr (k*64) (u8s (bM L[k] dat c)))∧SB7 wr.heap.size ((k:Int),dat) (w4.setCells gr (k*64) (u8s (bM L[k] dat c)))):=jz (fun w4 hb=>by
    obtain⟨q1,q2,q3⟩:=vM u8s Sec 64 (fun r h=>aG h) (aX HR2'.out hb) HTS.out k hkl (bM L[k] dat c) HTSN.out
    rw[List.length_set,← HOLD.out,← HTJ.out] at q1
    rw[show L.length=sec.length from HSL.out,HOLD.out] at q1
    refine⟨q2,q1,(aB HBW2.out hb).trans (aO q3 _ _ _).1,?_⟩
    have hne:gr≠wr.heap.size:=fun e=>by have:=(HR.lt gr rfl).2;omega
    exact fun i u hi=>(World.cell?_of_block (a:=⟨wr.heap.size,0+i,none⟩) (bA (fun e=>hne e.symm) _ _ _)).trans (Below.cell' hb (HBR.out i u hi)))
   have HIX:Hid (∀ w4,SB7 wr.heap.size ((k:Int),dat) w4→w4.cell? ⟨wr.heap.size,0,none⟩=some (.int .i64 (k:Int))∧w4.rangeAt wr.heap.size 1 (u8s dat)):=jz (fun w4 h=>⟨h 0 _ rfl,fun i u hi=>by have:=h (i+1) u hi;rw[show 1+i=0+(i+1) by omega];exact this⟩);have HS0:Hid (SB7 wr.heap.size ((k:Int),dat) w2.drew):=jz HBR.out;have HKEEP:Hid (∀ w4 w5,SB7 wr.heap.size ((k:Int),dat) w4→Below w4.heap.size w4 w5→SB7 wr.heap.size ((k:Int),dat) w5):=jz (fun w4 w5 h hb i u hi=>Below.cell' hb (h i u hi));have HD2:Hid (Below w2.heap.size w2 w2.drew):=jz (Below.refl _ _).drew;have hkc:(k:Int)<(sec.length:Int):=hka;refine aQ 16 (SB7 wr.heap.size ((k:Int),dat)) (by kernel_rfl) (by kernel_rfl) (HS0.out) (fun hH=>?_);refine jM 0 (.tmp 7) (some 29) (.slice (some ⟨gr,0,none⟩) sec.length cr) hH ?_;simp only[jq];refine jT 1 (.fieldAddr 155 (.tmp 9) 0) (some 30) (.pointer (some ⟨wr.heap.size,0,none⟩)) hH ?_;simp only[jq];refine jT 2 (.load 3 (.tmp 30)) (some 31) (.int .i64 (k:Int)) (hy:=fun o ho wX hX=>by have hcell:=(HIX.out wX hX).1;unfold execOp;simp only[ho];go_simp) hH ?_;simp only[jq];refine jM 3 (.tmp 7) (some 32) (.slice (some ⟨gr,0,none⟩) sec.length cr) hH ?_;simp only[jq];refine jT 4 (.fieldAddr 155 (.tmp 9) 0) (some 33) (.pointer (some ⟨wr.heap.size,0,none⟩)) hH ?_;simp only[jq];refine jT 5 (.load 3 (.tmp 33)) (some 34) (.int .i64 (k:Int)) (hy:=fun o ho wX hX=>by have hcell:=(HIX.out wX hX).1;unfold execOp;simp only[ho];go_simp) hH ?_;simp only[jq];refine jT 6 (.indexAddr 53 (.tmp 32) (.tmp 34)) (some 35) (.pointer (some ⟨gr,k*64,none⟩)) hH ?_;simp only[jq];refine jT 8 (.fieldAddr 155 (.tmp 9) 1) (some 37) (.pointer (some ⟨wr.heap.size,1,none⟩)) hH ?_;simp only[jq];refine jL 9 144 (.tmp 37) (some 38) (cs:=u8s dat) (fun _ hX=>(HIX.out _ hX).2) Tryz.underlying144 rfl HUD.out hH ?_;simp only[jq];refine jM 10 (.tmp 2) (some 39) (.func (.func 62) #[] #[.pointer (some ⟨bp,0,none⟩)]) hH ?_;simp only[jq];refine jM 11 (.tmp 8) (some 40) (.int .i64 (j:Int)) hH ?_;simp only[jq];refine jW [7,12] ?_;refine i0 7 144 (.tmp 35) (some 36) (cs:=u8s L[k]) (by kernel_rfl) (by kernel_rfl) (by exact rfl) (HROW.out _ HD2.out) Tryz.underlying144 rfl HUO.out HS0.out ?_ (jC 12 (.call { callee:=.value (.tmp 39),args:=#[.tmp 40],argTypes:=#[3] }) (some 41) 62 #[.int .i64 (j:Int),.pointer (some ⟨bp,0,none⟩)] ?_  jN)
   ·simp only[jq];refine jW [12] ?_;refine jC 12 (.call { callee:=.value (.tmp 39),args:=#[.tmp 40],argTypes:=#[3] }) (some 41) 62 #[.int .i64 (j:Int),.pointer (some ⟨bp,0,none⟩)] ?_  jN;refine(HCJ.out _ (aB HBW2.out HD2.out)).mono ?_;rintro e wM ⟨rfl,hwM⟩;rw[hwM];refine⟨_,rfl,HS0.out,fun _=>?_⟩;simp only[jq];refine jW [13] ?_;refine jC 13 (.call { callee:=.value (.func 88),args:=#[.tmp 36,.tmp 38,.tmp 41],argTypes:=#[144,144,3] }) (some 42) 88 #[.agg (u8s L[k]).toArray,.agg (u8s dat).toArray,.int .i64 c] ?_ jN;refine(HTE.out _).mono ?_;rintro e w4 ⟨rfl,hb4⟩;obtain⟨hth,hown,hbel,hs7⟩:=HFIN.out w4 (aB HD2.out hb4);refine⟨_,rfl,HKEEP.out _ _ HS0.out hb4,fun hH4=>?_⟩;simp only[jq];refine jT 14 (.indexAddr 53 (.tmp 29) (.tmp 31)) (some 43) (.pointer (some ⟨gr,k*64,none⟩)) hH4 ?_;simp only[jq];refine jW [15] ?_;refine jR 15 144 (.tmp 43) (.tmp 42) none (cs:=u8s (bM L[k] dat c)) hth HUT.out (bS _) hs7 ?_ jN;simp only[jq];refine wpAnyH_done (by kernel_rfl) ?_ _;have HOWN:=jz hown;have HBEL:=jz hbel;clear hth hown hbel hs7 hH4;go_wp2_with fail
    exact⟨⟨j+1,by omega,by go_num,HOWN,HBEL⟩,by simp[intOf];omega⟩
   ·refine(HCJ.out _ (aB HBW2.out HD2.out)).mono ?_;rintro e wM ⟨rfl,hwM⟩;rw[hwM];refine⟨_,rfl,HS0.out,fun _=>?_⟩;simp only[jq];refine jW [7] ?_;refine i0 7 144 (.tmp 35) (some 36) (cs:=u8s L[k]) (by kernel_rfl) (by kernel_rfl) (by exact rfl) (HROW.out _ HD2.out) Tryz.underlying144 rfl HUO.out HS0.out ?_ jN;simp only[jq];refine jW [13] ?_;refine jC 13 (.call { callee:=.value (.func 88),args:=#[.tmp 36,.tmp 38,.tmp 41],argTypes:=#[144,144,3] }) (some 42) 88 #[.agg (u8s L[k]).toArray,.agg (u8s dat).toArray,.int .i64 c] ?_ jN;refine(HTE.out _).mono ?_;rintro e w4 ⟨rfl,hb4⟩;obtain⟨hth,hown,hbel,hs7⟩:=HFIN.out w4 (aB HD2.out hb4);refine⟨_,rfl,HKEEP.out _ _ HS0.out hb4,fun hH4=>?_⟩;simp only[jq];refine jT 14 (.indexAddr 53 (.tmp 29) (.tmp 31)) (some 43) (.pointer (some ⟨gr,k*64,none⟩)) hH4 ?_;simp only[jq];refine jW [15] ?_;refine jR 15 144 (.tmp 43) (.tmp 42) none (cs:=u8s (bM L[k] dat c)) hth HUT.out (bS _) hs7 ?_ jN;simp only[jq];refine wpAnyH_done (by kernel_rfl) ?_ _;have HOWN:=jz hown;have HBEL:=jz hbel;clear hth hown hbel hs7 hH4;go_wp2_with fail
    exact⟨⟨j+1,by omega,by go_num,HOWN,HBEL⟩,by simp[intOf];omega⟩
  ·obtain rfl:j=opn.length:=by omega
   have t1:decide ((opn.length:Int)<(opn.length:Int))=false:=by simp
   go_wp2_with fail
   go_ret;exact⟨_,rfl,HR.out,HB.out⟩
end
section
open Go.RowKit
attribute [local irreducible] wpQuiet wpAnyH
def bK(sec:List (List Int))(opn:List (Int×List Int))(cl:List Int):List (List Int):=cP (fun j=>cl.getD j 0) sec opn opn.length
def eE(d:DiskD)(cl:List Int):DiskD:={ d with sec:=bK d.sec d.opn cl,opn:=[],down:=true }
def svM(m:DiskM)(v:Value):DiskM:={ m with sv:=v }
def z8(d:DiskD)(s:List (List Int)):DiskD:={ d with sec:=s }
theorem cU(sec:List (List Int))(opn:List (Int×List Int))(cl:List Int):(bK sec opn cl).length=sec.length:=eS _ _ _ _
theorem mG{sec:List (List Int)}{opn:List (Int×List Int)}(cl:List Int)(hr:∀ s∈sec,Sec s)(hl:∀ p∈opn,0≤p.1∧p.1<sec.length∧Sec p.2):∀ s∈bK sec opn cl,Sec s:=iA _ _ _ hr hl _ (Nat.le_refl _)
attribute [irreducible] bK
theorem DW(sec:List (List Int))(opn:List (Int×List Int))(cl:List Int)(As Ao Ac:Option Addr)(cs co cc:Nat)(w:World)
  (hs:Sn w 64 (.slice As sec.length cs) sec.length (sec.flatMap u8s)) (ho:Sn w 65 (.slice Ao opn.length co) opn.length (opn.flatMap wrC)) (hc:Sn w 1 (.slice Ac cl.length cc) cl.length (eR cl))
  (hsec:∀ s∈sec,Sec s) (hopn:∀ p∈opn,0≤p.1∧p.1<sec.length∧Sec p.2) (h1:sec.length≤4096) (h2:opn.length≤100000) (h3:cl.length≤1000000):
  Calls Tryz.prog 40 #[.slice As sec.length cs,.slice Ao opn.length co,.slice Ac cl.length cc] w fun e w'=>∃ v,e = .returned v∧w'.ownsRow w.heap.size 144 64 v sec.length ((bK sec opn cl).flatMap u8s)∧Below w.heap.size w w':=by
 have hb:Below w.heap.size w (w.alloc (.cells #[.slice Ac cl.length cc] 29)):=(Below.refl _ _).alloc (Nat.le_refl _) _;have hB:=Blk.new w 29 #[.slice Ac cl.length cc];have HTN:=jz (FI sec opn As Ao cs co w.heap.size (fun j=>cl.getD j 0) _ (hs.below hb) (ho.below hb) hsec hopn h1 h2 (fun j w1 hj hb1=>z6 j w.heap.size cl Ac cc w1 ((hB.keep hb1).cell 0) ((hc.below hb).below hb1) (by omega) h3));have HBB:=jz hb;have HE:Hid (bK sec opn cl=cP (fun j=>cl.getD j 0) sec opn opn.length):=jz (by unfold bK;rfl);clear hs ho hc hsec hopn hb hB;have hmf:∀(fn:Fn) (first cap:Array Value) (w:World),(Instr.makeFunc fn first cap).run Tryz.prog w = .ok (.func fn first cap) w:=fun _ _ _ _=>rfl
 go_enter Tryz.func40,Tryz.ntmps40
 go_wp2_with (go_at_call 61;refine HTN.mono ?_;rintro e w1 ⟨v,rfl,hown,hb1⟩;have HO:=jz hown;have HB:=jz hb1;clear hown hb1)
 go_ret;exact⟨_,rfl,by rw[HE.out];exact dI HO.out HBB.size,HBB.trans (HB.mono HBB.size)⟩
theorem yG{m:DiskM}{v:Value}{w:World}(hv:∀ b,v.ownBlock=some b→w.heap.size≤b):∀ k∈bJ (svM m v),k∈bJ m∨w.heap.size≤k:=by
 intro k hk;simp only[bJ,svM,List.mem_append,Option.mem_toList] at hk ⊢;rcases hk with h|h|h
 ·exact .inl (.inl h)
 ·exact .inr (hv k h)
 ·exact .inl (.inr (.inr h))
theorem LI{m:DiskM}{v:Value}{B:Nat}(h:(bJ m).Nodup)(hlt:∀ k∈bJ m,k<B)(hv:∀ b,v.ownBlock=some b→B≤b):(bJ (svM m v)).Nodup:=by
 have e1:bJ m=[m.g,m.bl,m.bf,m.bc]++(m.sv.ownBlock.toList++m.ov.ownBlock.toList):=rfl;have hsub:([m.g,m.bl,m.bf,m.bc]++m.ov.ownBlock.toList).Nodup:=by
  refine List.Nodup.sublist ?_ h;rw[e1];exact List.Sublist.append (List.Sublist.refl _) (List.sublist_append_right _ _)
 show([m.g,m.bl,m.bf,m.bc]++(v.ownBlock.toList++m.ov.ownBlock.toList)).Nodup;cases hvb:v.ownBlock with
 | none=>simpa using hsub
 | some q=>
  have hq:=hv q hvb;have hmem:∀ x∈[m.g,m.bl,m.bf,m.bc]++m.ov.ownBlock.toList,x<B:=fun x hx=>hlt x (by
   rw[e1]
   rw[List.mem_append] at hx ⊢
   rcases hx with hx|hx
   ·exact .inl hx
   ·exact .inr (List.mem_append_right _ hx))
  have hp:List.Perm ([m.g,m.bl,m.bf,m.bc]++((some q).toList++m.ov.ownBlock.toList)) (q :: ([m.g,m.bl,m.bf,m.bc]++m.ov.ownBlock.toList)):=by
   show List.Perm ([m.g,m.bl,m.bf,m.bc]++(q :: m.ov.ownBlock.toList)) _;exact List.perm_middle
  rw[hp.nodup_iff,List.nodup_cons];exact⟨fun hx=>by have:=hmem q hx;omega,hsub⟩
theorem DK.withSec{w w4:World}{m:DiskM}{d:DiskD}(h:DK w m d){v:Value}{s:List (List Int)}(hb:Below w.heap.size w w4)(hown:w4.ownsRow w.heap.size 144 64 v s.length (s.flatMap u8s))(hl:s.length=d.sec.length)(hs:∀ x∈s,Sec x):
  DK (w4.setCell ⟨m.g,0,none⟩ v) (svM m v) (z8 d s)∧DT w m (w4.setCell ⟨m.g,0,none⟩ v) (svM m v):=by
 have hn:=gG h.nd;have hvb:∀ b,v.ownBlock=some b→w.heap.size≤b:=fun b hb=>(hown.lt b hb).1
 have b5:∀ k,k≠m.g→(w4.setCell ⟨m.g,0,none⟩ v).heap[k]? = w4.heap[k]?:=fun k hk=>Below.heap_setCell w4 ⟨m.g,0,none⟩ v k hk
 have ho:∀ k,k<w.heap.size→k≠m.g→(w4.setCell ⟨m.g,0,none⟩ v).heap[k]? = w.heap[k]?:=fun k hk hg=>(b5 k hg).trans (hb.block k hk)
 have hsz:(w4.setCell ⟨m.g,0,none⟩ v).heap.size=w4.heap.size:=by simp
 have hsz4:=hb.size;refine⟨h.re rfl [m.g] (fun k hk=>by rw[List.mem_singleton] at hk;rw[hk];exact fU m) (fun k hk hn=>ho k hk (by simpa using hn)) (by omega) (Blk.set_ ((hb.block m.g h.blk.lt).trans h.blk) 0 v) ?_ (bU h.opn fun b hx=>ho b (h.opn.lt b hx).2 (hn.2.2.2.2.2.2.2.1 b hx).1) (h.last.of_block (ho _ h.last.lt (fun e=>hn.1 e.symm))) (h.fl.of_block (ho _ h.fl.lt (fun e=>hn.2.1 e.symm))) (h.cr.of_block (ho _ h.cr.lt (fun e=>hn.2.2.1 e.symm))) (LI h.nd h.foot_lt hvb) (yG hvb) h.flv (fun k hk=>.inr ⟨rfl,rfl⟩) ⟨hs,fun p hp=>?_,?_,h.ok.lo,h.ok.st,h.ok.rm,h.ok.cl⟩,⟨rfl,⟨hb.os,hb.tape,hb.output,by omega,fun k hk hm=>ho k hk (fun e=>hm (by rw[e];exact fU m))⟩,yG hvb,fun _ _ h=>.inl h⟩⟩
 ·exact bU (dI hown (Nat.zero_le _)) (fun b hx=>b5 b (fun e=>by have h1:=hvb b hx;have h2:=h.blk.lt;omega))
 ·have h1:=h.ok.opn p hp;exact⟨h1.1,by show p.1<(s.length:Int);rw[hl];exact h1.2.1,h1.2.2⟩
 ·show s.length≤4096;rw[hl];exact h.ok.few
theorem mH(cl:List Int)(Ac:Option Addr)(cc:Nat)(w:World)(m:DiskM)(d:DiskD)(h:DK w m d)(hc:Sn w 1 (.slice Ac cl.length cc) cl.length (eR cl))(hcl:cl.length≤1000000):
  Calls Tryz.prog 16 #[.pointer (some ⟨m.g,0,none⟩),.slice Ac cl.length cc] w fun e w'=>e = .returned (.tuple #[])∧∃ m',DK w' m' (eE d cl)∧DT w m w' m':=by
 have H:=jz h;have hgl:=h.blk.lt;obtain⟨As,cs,hsv,_⟩:=Sn.own h.sec;obtain⟨Ao,co,hov,_⟩:=Sn.own h.opn;have hsn:=Sn.own h.sec;have hon:=Sn.own h.opn;have hos:=h.sec;rw[hsv] at hsn hos;rw[hov] at hon;have HCR:=jz (fun(w1:World) (hb:Below w.heap.size w w1)=>DW d.sec d.opn cl As Ao Ac cs co cc w1 (hsn.below hb) (hon.below hb) (hc.below hb) h.ok.sec h.ok.opn h.ok.few (Nat.le_trans h.ok.lo h.ok.rm) hcl);have HLEN:=jz (cU d.sec d.opn cl);have HSEC:=jz (mG cl h.ok.sec h.ok.opn);have HC:Hid (∀ W:World,W.heap[m.g]? = w.heap[m.g]?→W.cell? ⟨m.g,0,none⟩=some (.slice As d.sec.length cs)∧W.cell? ⟨m.g,1,none⟩=some (.slice Ao d.opn.length co)∧W.frozen? ⟨m.g,0,none⟩=false):=jz (fun W hW=>by
  have hB:Blk W m.g 77 (eG m d):=hW.trans h.blk
  exact⟨by rw[← hsv];exact hB.cell 0,by rw[← hov];exact hB.cell 1,hB.frozen 0⟩)
 clear hsn hon hos h hc hsv hov;have HS0:Hid (w.drew.cell? ⟨m.g,1,none⟩=some (.slice Ao d.opn.length co)):=jz (HC.out w.drew rfl).2.1;have HC0:Hid (w.drew.cell? ⟨m.g,0,none⟩=some (.slice As d.sec.length cs)):=jz (HC.out w.drew rfl).1;go_enter Tryz.func16,Tryz.ntmps16
 go_wp2_with fail
 refine aQ 14 (fun wz=>wz.cell? ⟨m.g,1,none⟩=some (.slice Ao d.opn.length co)) (by kernel_rfl) (by kernel_rfl) (HS0.out) (fun hH=>?_);refine jM 0 (.tmp 0) (some 6) (.pointer (some ⟨m.g,0,none⟩)) hH ?_;simp only[jq];refine jM 1 (.tmp 0) (some 7) (.pointer (some ⟨m.g,0,none⟩)) hH ?_;simp only[jq];refine jT 2 (.nilCheck (.tmp 7)) (some 8) (.pointer (some ⟨m.g,0,none⟩)) hH ?_;simp only[jq];refine jT 3 (.fieldAddr 77 (.tmp 8) 0) (some 9) (.pointer (some ⟨m.g,0,none⟩)) hH ?_;simp only[jq];refine jM 5 (.tmp 0) (some 11) (.pointer (some ⟨m.g,0,none⟩)) hH ?_;simp only[jq];refine jT 6 (.nilCheck (.tmp 11)) (some 12) (.pointer (some ⟨m.g,0,none⟩)) hH ?_;simp only[jq];refine jT 7 (.fieldAddr 77 (.tmp 12) 1) (some 13) (.pointer (some ⟨m.g,1,none⟩)) hH ?_;simp only[jq];refine jT 8 (.load 75 (.tmp 13)) (some 14) (.slice Ao d.opn.length co) (hy:=fun o ho wX hX=>by have hcell:=hX;unfold execOp;simp only[ho];go_simp) hH ?_;simp only[jq];refine jM 9 (.tmp 1) (some 15) (.slice Ac cl.length cc) hH ?_;simp only[jq];refine jW [4] ?_;refine jS 4 (.load 53 (.tmp 9)) (some 10) (.slice As d.sec.length cs) w.drew (hrun:=fun o ho=>by have hcell:=HC0.out;unfold execOp;simp only[ho];go_simp) HS0.out ?_ jN;simp only[jq];refine jW [10] ?_;refine jC 10 (.call { callee:=.value (.func 40),args:=#[.tmp 10,.tmp 14,.tmp 15],argTypes:=#[53,75,29] }) (some 16) 40 #[.slice As d.sec.length cs,.slice Ao d.opn.length co,.slice Ac cl.length cc] ?_ jN;refine(HCR.out _ (Below.refl _ _).drew).mono ?_;rintro e w4 ⟨v4,rfl,hown,hb4⟩;have hbw:Below w.heap.size w w4:=(Below.refl w.heap.size w).drew.trans hb4;obtain⟨A4,c4,hv4,_,_⟩:=aU hown;subst hv4;have hown:w4.ownsRow w.heap.size 144 64 (.slice A4 d.sec.length c4) (bK d.sec d.opn cl).length ((bK d.sec d.opn cl).flatMap u8s):=by rw[HLEN.out];exact hown
 obtain⟨hdk,hdt⟩:=H.out.withSec hbw hown HLEN.out HSEC.out;obtain⟨hc0,hc1,hf0⟩:=HC.out w4 (hbw.block m.g hgl);refine⟨_,rfl,hc1,fun hH4=>?_⟩;simp only[jq];refine jT 11 (.nilCheck (.tmp 6)) (some 17) (.pointer (some ⟨m.g,0,none⟩)) hH4 ?_;simp only[jq];refine jT 12 (.fieldAddr 77 (.tmp 17) 0) (some 18) (.pointer (some ⟨m.g,0,none⟩)) hH4 ?_;simp only[jq];refine jW [13] ?_;refine dH 13 (Op.store 53 (Operand.tmp 18) (Operand.tmp 16)) none (w4.setCell ⟨m.g,0,none⟩ (.slice A4 d.sec.length c4)) (by kernel_rfl) (by kernel_rfl) (fun o ho=>by unfold execOp;simp only[ho];go_simp) (by simp[go_sem,hc1,World.cell?_setCell_other]) ?_ jN;simp only[jq];refine wpAnyH_done (by kernel_rfl) ?_ _;have HDK:=jz hdk;have HDT:=jz hdt;clear hown hb4 hbw hdk hdt hc0 hc1 hf0 hH4;obtain⟨w5,hw5⟩:=je (w4.setCell ⟨m.g,0,none⟩ (.slice A4 d.sec.length c4));rw[← hw5] at HDK HDT ⊢;clear hw5;have HCLR:=jz (q6 w5 _ _ HDK.out);go_wp2_with (go_at_call 41;refine HCLR.mono ?_;rintro e w6 ⟨rfl,hdk6,hdt6⟩;have HDK6:=jz (hdk6.down true);have HDT6:=jz hdt6;have hc3:=hdk6.blk.cell 3;have hf3:=hdk6.blk.frozen 3;simp only[eG,List.getElem?_toArray,List.getElem?_cons_succ,List.getElem?_cons_zero] at hc3;have hc3:w6.cell? ⟨m.g,3,none⟩=some (.bool d.down):=hc3;have hf3:w6.frozen? ⟨m.g,3,none⟩=false:=hf3;clear hdk6 hdt6)
 exact bodyPost_end (results_none rfl _ _ _) rfl ⟨rfl,_,HDK6.out.1,HDT.trans (HDT6.trans HDK6.out.2)⟩
def addIf(d:DiskD)(a:Int)(s:List Int):DiskD:=if eD d a then q7 d a s else d
def writeD(d:DiskD)(a:Int)(s:List Int):DiskD:=
 if d.down then d else if gK d=2 then eE (addIf (stepped d) a s) (d7 d) else if gK d=1 then stepped d else addIf (stepped d) a s
def fX(d:DiskD)(a:Int):Value:=
 if d.down then iR 12 else if gK d=2 then iR 12 else if gK d=1 then iR 11 else if eD d a then .nilIface else qY 15 a
theorem q8(d:DiskD):gK d=2∨gK d=1∨gK d=0:=by
 unfold gK;cases (d.cr ((d.steps+1:Nat):Int)).isSome <;> cases d.fl ((d.steps+1:Nat):Int) <;> simp
theorem gV(d:DiskD)(a:Int):eD (stepped d) a=eD d a:=rfl
theorem AA(d:DiskD)(a:Int)(s:List Int):(addIf d a s).room≤d.room+1:=by unfold addIf;split <;> simp[q7]
theorem tX{d:DiskD}(h:DOk d):(d7 d).length≤1000000:=by
 unfold d7;cases hc:d.cr ((d.steps+1:Nat):Int) with
 | none=>simp
 | some cs=>exact h.cl _ cs hc
theorem DT.off{w w':World}{m m':DiskM}(h:DT w m w' m'){b:Nat}(hb:b<w.heap.size)(hn:b ∉ bJ m):w'.heap[b]? = w.heap[b]?:=h.fo.block b hb hn
theorem DK.notFoot{w:World}{m:DiskM}{d:DiskD}(h:DK w m d){b:Nat}(hb:w.heap.size≤b):b ∉ bJ m:=fun hm=>by have:=h.foot_lt b hm;omega
theorem mI(a:Int)(s:List Int)(w:World)(m:DiskM)(d:DiskD)(h:DK w m d)(ha:aK a)(hs:Sec s)(hr:d.room+2≤100000):
  Calls Tryz.prog 81 #[.pointer (some ⟨m.g,0,none⟩),.int .i64 a,.agg (u8s s).toArray] w fun e w'=>e = .returned (fX d a)∧∃ m',DK w' m' (writeD d a s)∧DT w m w' m':=by
 have hgl:=h.blk.lt;have H:=jz h;have hB0:Below w.heap.size w (w.alloc (.cells (u8s s).toArray 144)):=(Below.refl _ _).alloc (Nat.le_refl _) _;have HB0:=jz hB0;have hc3:(w.alloc (.cells (u8s s).toArray 144)).cell? ⟨m.g,3,none⟩=some (.bool d.down):=(h.keep hB0).blk.cell 3;have hst:=h.ok.st;have HK0:=jz (h.keep hB0);have HBX0:Hid (Blk (w.alloc (.cells (u8s s).toArray 144)) w.heap.size 144 (u8s s).toArray):=jz (Blk.new w _ _);have HSS:=jz hs;have HAA:=jz ha;have HUI:Hid ((Tryz.prog.info? 144).map (·.size)=some (u8s s).length):=jz (by rw[aG hs];kernel_rfl);clear h hB0 hs ha;cases hd:d.down with
 | true=>
  rw[hd] at hc3;have HF:Hid (fX d a=iR 12∧writeD d a s=d):=jz (by unfold fX writeD;rw[hd];exact⟨rfl,rfl⟩);clear hd;go_enter Tryz.func81,Tryz.ntmps81
  go_wp2_with fail
  go_ret;exact⟨by rw[HF.out.1];rfl,m,by rw[HF.out.2];exact HK0.out,DT.of_below HB0.out⟩
 | false=>
  rw[hd] at hc3;obtain⟨w0,hw0⟩:=je (w.alloc (.cells (u8s s).toArray 144));have HW0:Hid (w.alloc (.cells (u8s s).toArray 144)=w0):=jz hw0.symm;have HSTP:=jz (tW _ m d HK0.out (by omega));have HNB:Hid (w.heap.size ∉ bJ m):=jz (H.out.notFoot (Nat.le_refl _));have hsz:w.heap.size<(w.alloc (.cells (u8s s).toArray 144)).heap.size:=by simp
  have HSZ:=jz hsz;clear hsz;have HCL:=jz (tX H.out.ok);clear hw0;have HSTEP:Hid (Calls Tryz.prog 89 #[.pointer (some ⟨m.g,0,none⟩)] (w.alloc (.cells (u8s s).toArray 144)) fun e w'=>∃ A c,e = .returned (.tuple #[.int .i64 (gK d),.slice A (d7 d).length c])∧Sn w' 1 (.slice A (d7 d).length c) (d7 d).length (eR (d7 d))∧(∀ b,(Value.slice A (d7 d).length c).ownBlock=some b→b ∉ bJ m∧b<w'.heap.size)∧DK w' (fR m d) (stepped d)∧DT w m w' (fR m d)∧Blk w' w.heap.size 144 (u8s s).toArray):=jz (HSTP.mono (by
   rintro e w' ⟨v,rfl,h1,h2,h3,h4⟩
   obtain⟨A,c,rfl,_⟩:=id h1
   exact⟨A,c,rfl,h1,h2,h3,(DT.of_below HB0.out).trans h4,(h4.off HSZ.out HNB.out).trans HBX0.out⟩))
  clear HSTP HW0;have hro:(stepped d).room≤d.room+1:=by show max d.room (d.steps+1)≤d.room+1;omega
  have HADD:=jz (fun(w1:World) (hk:DK w1 (fR m d) (stepped d))=>FE a s w1 (fR m d) (stepped d) hk HAA.out HSS.out (by omega));rw[gV] at HADD;rcases q8 d with ho|ho|ho
  ·have HF:Hid (fX d a=iR 12∧writeD d a s=eE (addIf (stepped d) a s) (d7 d)):=jz (by unfold fX writeD;rw[hd,ho];exact⟨rfl,rfl⟩);rw[ho] at HSTEP;have HAI:Hid ((if eD d a then q7 (stepped d) a s else stepped d)=addIf (stepped d) a s):=jz (by unfold addIf;rw[gV]);rw[HAI.out] at HADD;clear hd ho;obtain⟨cl,hcl⟩:=je (d7 d);rw[← hcl] at HSTEP HF HCL;clear hcl HAI;go_enter Tryz.func81,Tryz.ntmps81
   go_wp2_with (first
    | (go_at_call 89;refine HSTEP.mono ?_;rintro e w1 ⟨A,c,rfl,h1,h2,h3,h4,h5⟩;have H1:=jz h1;have H2:=jz h2;have H3:=jz h3;have H4:=jz h4;have HRG:Hid (w1.rangeAt w.heap.size 0 (u8s s)):=jz (by have h:=h5.range;rw[jt] at h;exact h);clear h1 h2 h3 h4 h5)
    | (refine ld 144 _ rfl rfl rfl HRG.out Tryz.underlying144 rfl HUI.out ?_)
    | (go_at_call 104;refine(HADD.out w1 H3.out).mono ?_;rintro e w2 ⟨rfl,m2,h6,h7⟩;have H6:=jz h6;have H7:=jz h7;have H8:=jz (h7.fo.sn H1.out (fun b hb=>(H2.out b hb).1));have hg2:m2.g=m.g:=h7.g;have HG2:=jz hg2;clear h6 h7 hg2)
    | (go_at_call 16;rw[← HG2.out];refine(mH cl A c w2 m2 _ H6.out H8.out HCL.out).mono ?_;rintro e w3 ⟨rfl,m3,h9,h10⟩;have H9:=jz h9;have H10:=jz h10;clear h9 h10))
   go_ret;exact⟨by rw[HF.out.1];rfl,m3,by rw[HF.out.2];exact H9.out,H4.out.trans (H7.out.trans H10.out)⟩
  ·have HF:Hid (fX d a=iR 11∧writeD d a s=stepped d):=jz (by unfold fX writeD;rw[hd,ho];exact⟨rfl,rfl⟩);rw[ho] at HSTEP;clear hd ho;go_enter Tryz.func81,Tryz.ntmps81
   go_wp2_with (go_at_call 89;refine HSTEP.mono ?_;rintro e w1 ⟨A,c,rfl,h1,h2,h3,h4,h5⟩;have H3:=jz h3;have H4:=jz h4;clear h1 h2 h3 h4 h5)
   go_ret;exact⟨by rw[HF.out.1];rfl,_,by rw[HF.out.2];exact H3.out,H4.out⟩
  ·rw[ho] at HSTEP;have HFN:=jz (fun w1=>o4 a w1);cases hh:eD d a with
   | true=>
    have HF:Hid (fX d a = .nilIface∧writeD d a s=q7 (stepped d) a s):=jz (by unfold fX writeD addIf;rw[hd,ho,gV,hh];exact⟨rfl,rfl⟩);rw[hh] at HADD;have HADD:Hid (∀ w1,DK w1 (fR m d) (stepped d)→Calls Tryz.prog 104 #[.pointer (some ⟨(fR m d).g,0,none⟩),.int .i64 a,.agg (u8s s).toArray] w1 fun e w'=>e = .returned (.bool true)∧∃ m',DK w' m' (q7 (stepped d) a s)∧DT w1 (fR m d) w' m'):=HADD;clear hd ho hh;go_enter Tryz.func81,Tryz.ntmps81
    go_wp2_with (first
     | (go_at_call 89;refine HSTEP.mono ?_;rintro e w1 ⟨A,c,rfl,h1,h2,h3,h4,h5⟩;have H3:=jz h3;have H4:=jz h4;have HRG:Hid (w1.rangeAt w.heap.size 0 (u8s s)):=jz (by have h:=h5.range;rw[jt] at h;exact h);clear h1 h2 h3 h4 h5)
     | (refine ld 144 _ rfl rfl rfl HRG.out Tryz.underlying144 rfl HUI.out ?_)
     | (go_at_call 104;refine(HADD.out w1 H3.out).mono ?_;rintro e w2 ⟨rfl,m2,h6,h7⟩;have H6:=jz h6;have H7:=jz h7;clear h6 h7))
    go_ret;exact⟨by rw[HF.out.1];rfl,m2,by rw[HF.out.2];exact H6.out,H4.out.trans H7.out⟩
   | false=>
    have HF:Hid (fX d a=qY 15 a∧writeD d a s=stepped d):=jz (by unfold fX writeD addIf;rw[hd,ho,gV,hh];exact⟨rfl,rfl⟩);rw[hh] at HADD;have HADD:Hid (∀ w1,DK w1 (fR m d) (stepped d)→Calls Tryz.prog 104 #[.pointer (some ⟨(fR m d).g,0,none⟩),.int .i64 a,.agg (u8s s).toArray] w1 fun e w'=>e = .returned (.bool false)∧∃ m',DK w' m' (stepped d)∧DT w1 (fR m d) w' m'):=HADD;clear hd ho hh;go_enter Tryz.func81,Tryz.ntmps81
    go_wp2_with (first
     | (go_at_call 89;refine HSTEP.mono ?_;rintro e w1 ⟨A,c,rfl,h1,h2,h3,h4,h5⟩;have H3:=jz h3;have H4:=jz h4;have HRG:Hid (w1.rangeAt w.heap.size 0 (u8s s)):=jz (by have h:=h5.range;rw[jt] at h;exact h);clear h1 h2 h3 h4 h5)
     | (refine ld 144 _ rfl rfl rfl HRG.out Tryz.underlying144 rfl HUI.out ?_)
     | (go_at_call 104;refine(HADD.out w1 H3.out).mono ?_;rintro e w2 ⟨rfl,m2,h6,h7⟩;have H6:=jz h6;have H7:=jz h7;clear h6 h7)
     | (go_at_call 105;refine(HFN.out _).mono ?_;rintro e w3 ⟨rfl,hw3⟩;rw[hw3];clear hw3))
    go_ret;exact⟨by rw[HF.out.1];rfl,m2,by rw[HF.out.2];exact H6.out,H4.out.trans H7.out⟩
end
end Go.Proofs.YtombncedfleljaaGreat
