import Derived.Test.YtombncedfleljaaGreatMC5
import Derived.Deep.Slices
import Derived.OpenShut
set_option linter.unusedSimpArgs false
set_option maxRecDepth 100000
set_option maxHeartbeats 40000000
namespace Go.Proofs.YtombncedfleljaaGreat
section
open Go.RowKit
attribute [local irreducible] wpQuiet wpAnyH
def yE(m:DiskM)(v:Value):DiskM:={ m with ov:=v }
def q7(d:DiskD)(a:Int)(s:List Int):DiskD:={ d with opn:=d.opn++[(a,s)],room:=d.room+1 }
theorem lY(s:List Int)(n:Nat)(h:s.length=n):s=(List.range n).map (fun i=>s.getD i 0):=by
 subst h;apply List.ext_getElem
 ·simp
 ·intro i h1 h2;simp[List.getD_eq_getElem?_getD,h1]
theorem FD(a:Int)(s:List Int)(hs:Sec s):Tryz.prog.built 155 [(0,.int .i64 a),(1,.agg (u8s s).toArray)]=some (wrC (a,s)).toArray:=by
 rw[lY s 64 hs.1];generalize (fun i=>s.getD i 0)=D
 kernel_rfl
theorem tWr:SlT Tryz.prog 75 155 65 72:=SlT.mk' Tryz.underlying75 (z:=.agg (wrC (0,List.replicate 64 0)).toArray) (by kernel_rfl) rfl (by decide)
theorem iS(p:Int×List Int):∀ u∈wrC p,u.oneCell'=true:=by
 intro u hu;simp only[wrC,List.mem_cons] at hu;rcases hu with rfl|hu
 ·rfl
 ·exact bS _ u hu
theorem yF{m:DiskM}{v:Value}{w:World}(hv:v.ownBlock=m.ov.ownBlock∨∃ k,v.ownBlock=some k∧w.heap.size≤k):∀ k∈bJ (yE m v),k∈bJ m∨w.heap.size≤k:=by
 intro k hk;simp only[bJ,yE,List.mem_append,Option.mem_toList] at hk ⊢;rcases hk with h|h|h
 ·exact .inl (.inl h)
 ·exact .inl (.inr (.inl h))
 ·rcases hv with e|⟨q,e,hq⟩
  ·rw[e] at h;exact .inl (.inr (.inr h))
  ·rw[e] at h;have:=Option.some.inj h;omega
theorem KO{m:DiskM}{v:Value}{B:Nat}(h:(bJ m).Nodup)(hlt:∀ k∈bJ m,k<B)(hv:v.ownBlock=m.ov.ownBlock∨∃ k,v.ownBlock=some k∧B≤k):(bJ (yE m v)).Nodup:=by
 rcases hv with e|⟨q,e,hq⟩
 ·have:bJ (yE m v)=bJ m:=by simp[bJ,yE,e]
  rw[this];exact h
 ·have e1:bJ m=bJ (fW m)++m.ov.ownBlock.toList:=by simp[bJ,fW,Value.ownBlock]
  have e2:bJ (yE m v)=bJ (fW m)++[q]:=by
   show [m.g,m.bl,m.bf,m.bc]++(m.sv.ownBlock.toList++v.ownBlock.toList)=[m.g,m.bl,m.bf,m.bc]++(m.sv.ownBlock.toList++[])++[q];rw[e];simp
  rw[e2,List.nodup_append];refine⟨yD h,by simp,fun a ha b hb e3=>?_⟩;rw[List.mem_singleton] at hb;have:=hlt a (mF a ha);omega
theorem aU{w:World}{base e s n:Nat}{v:Value}{xs:List Value}(h:w.ownsRow base e s v n xs):∃ A cap,v = .slice A n cap∧Sn w s (.slice A n cap) n xs∧∀ b off,A=some ⟨b,off,none⟩→base≤b∧b<w.heap.size:=by
 have hs:=Sn.own h;obtain⟨A,cap,rfl,_⟩:=id hs;exact⟨A,cap,rfl,hs,fun b off e=>h.lt b (by rw[e];rfl)⟩
theorem FE(a:Int)(s:List Int)(w:World)(m:DiskM)(d:DiskD)(h:DK w m d)(ha:aK a)(hs:Sec s)(hr:d.room+1≤100000):
  Calls Tryz.prog 104 #[.pointer (some ⟨m.g,0,none⟩),.int .i64 a,.agg (u8s s).toArray] w fun e w'=>e = .returned (.bool (eD d a))∧∃ m',DK w' m' (if eD d a then q7 d a s else d)∧DT w m w' m':=by
 have H:=jz h;have hgl:=h.blk.lt;clear h;have hB0:Below w.heap.size w (w.alloc (.cells (u8s s).toArray 144)):=(Below.refl _ _).alloc (Nat.le_refl _) _;have HB0:=jz hB0;have HHAS:=jz (fun w1 (hb:Below w.heap.size w w1)=>yB a w1 m d (H.out.keep hb));clear hB0;cases hh:eD d a with
 | false=>
  have HH:Hid ((decide (0≤a) && decide (a<d.sec.length))=false):=jz hh;rw[HH.out] at HHAS;clear hh;go_enter Tryz.func104,Tryz.ntmps104
  go_wp2_with (go_at_call 119;refine(HHAS.out _ HB0.out).mono ?_;rintro e w1 ⟨rfl,hw1⟩;rw[hw1];clear hw1)
  go_ret;exact⟨rfl,m,H.out.keep HB0.out,DT.of_below HB0.out⟩
 | true=>
  have hh2:0≤a∧a<d.sec.length:=by unfold eD at hh;simpa using hh
  have HH:Hid ((decide (0≤a) && decide (a<d.sec.length))=true):=jz hh;rw[HH.out] at HHAS;clear hh;have HA:=jz ha;have HSE:=jz hs;clear ha hs;obtain⟨A0,cap0,hov,hcap0,_⟩:=Sn.own H.out.opn;have HOV:=jz hov;have HN:=jz (gG H.out.nd);have HLE:Hid (d.opn.length≤d.room):=jz H.out.ok.lo;go_enter Tryz.func104,Tryz.ntmps104
  go_wp2_with (go_at_call 119;refine(HHAS.out _ HB0.out).mono ?_;rintro e w1 ⟨rfl,hw1⟩;rw[hw1];clear hw1)
  obtain⟨w1,hw1⟩:=je (w.alloc (.cells (u8s s).toArray 144));have HDK1:Hid (DK w1 m d):=jz (by rw[hw1];exact H.out.keep HB0.out);have HBX1:Hid (Blk w1 w.heap.size 144 (u8s s).toArray):=jz (by rw[hw1];exact Blk.new _ _ _);have HB01:Hid (Below w.heap.size w w1):=jz (by rw[hw1];exact HB0.out);have HDT1:Hid (DT w m w1 m):=jz (by rw[hw1];exact DT.of_below HB0.out);rw[← hw1];clear hw1 hov;have HC:Hid (∀ W:World,W.heap[m.g]? = w1.heap[m.g]?→W.cell? ⟨m.g,2,none⟩=some (.map (some m.bl))∧W.cell? ⟨m.g,1,none⟩=some (.slice A0 d.opn.length cap0)∧Blk W m.g 77 (eG m d)):=jz (fun W hW=>by
   have hB:Blk W m.g 77 (eG m d):=hW.trans HDK1.blk
   exact⟨hB.cell 2,by rw[← HOV.out];exact hB.cell 1,hB⟩)
  have HUL:Hid (UM w1.drew m.bl d.room (eJ d.opn)):=jz HDK1.last;obtain⟨w3,HRUN,HUL3,HT3⟩:∃ w3,Hid ((Instr.mapUpdate 72 (.map (some m.bl)) (.int .i64 a) (.int .i64 (d.opn.length:Int))).run Tryz.prog w1.drew = .ok () w3)∧Hid (UM w3 m.bl (d.room+1) (jA (eJ d.opn) a (.int .i64 (d.opn.length:Int))))∧Hid (w1.drew.grownBy w3 (some m.bl)):=by
   obtain⟨w3,h1,h2,h3⟩:=UM.put_run Tryz.underlying72 HUL.out HA.out (.int .i64 (d.opn.length:Int)) (by unfold maxLen;have:=HLE.out;omega);exact⟨w3,jz h1,jz h2,jz h3.grown⟩
  have HZ3:Hid (w1.heap.size≤w3.heap.size):=jz HT3.size;have HB3:Hid (∀ k,k<w1.heap.size→k≠m.bl→w3.heap[k]? = w1.heap[k]?):=jz (fun k hk hn=>HT3.block k hk (fun e=>hn (Option.some.inj e)));have HG3:Hid (w3.heap[m.g]? = w1.heap[m.g]?):=jz (HB3.out m.g HDK1.blk.lt HN.out.1);have HS1:Hid (w1.drew.cell? ⟨m.g,2,none⟩=some (.map (some m.bl))∧w1.drew.cell? ⟨m.g,1,none⟩=some (.slice A0 d.opn.length cap0)):=jz ⟨(HC.out w1.drew rfl).1,(HC.out w1.drew rfl).2.1⟩;have HS3:Hid (w3.cell? ⟨m.g,2,none⟩=some (.map (some m.bl))∧w3.cell? ⟨m.g,1,none⟩=some (.slice A0 d.opn.length cap0)):=jz ⟨(HC.out w3 HG3.out).1,(HC.out w3 HG3.out).2.1⟩;refine aQ 11 (fun wz=>wz.cell? ⟨m.g,2,none⟩=some (.map (some m.bl))∧wz.cell? ⟨m.g,1,none⟩=some (.slice A0 d.opn.length cap0)) (by kernel_rfl) (by kernel_rfl) (HS1.out) (fun hH=>?_);refine jM 0 (.tmp 0) (some 11) (.pointer (some ⟨m.g,0,none⟩)) hH ?_;simp only[jq];refine jT 1 (.nilCheck (.tmp 11)) (some 12) (.pointer (some ⟨m.g,0,none⟩)) hH ?_;simp only[jq];refine jT 2 (.fieldAddr 77 (.tmp 12) 2) (some 13) (.pointer (some ⟨m.g,2,none⟩)) hH ?_;simp only[jq];refine jT 3 (.load 72 (.tmp 13)) (some 14) (.map (some m.bl)) (hy:=fun o ho wX hX=>by have hcell:=hX.1;unfold execOp;simp only[ho];go_simp) hH ?_;simp only[jq];refine jM 4 (.tmp 1) (some 15) (.int .i64 a) hH ?_;simp only[jq];refine jM 5 (.tmp 0) (some 16) (.pointer (some ⟨m.g,0,none⟩)) hH ?_;simp only[jq];refine jT 6 (.nilCheck (.tmp 16)) (some 17) (.pointer (some ⟨m.g,0,none⟩)) hH ?_;simp only[jq];refine jT 7 (.fieldAddr 77 (.tmp 17) 1) (some 18) (.pointer (some ⟨m.g,1,none⟩)) hH ?_;simp only[jq];refine jT 8 (.load 75 (.tmp 18)) (some 19) (.slice A0 d.opn.length cap0) (hy:=fun o ho wX hX=>by have hcell:=hX.2;unfold execOp;simp only[ho];go_simp) hH ?_;simp only[jq];refine jT 9 (.call { callee:=Callee.builtin Builtin.len,args:=#[.tmp 19],argTypes:=#[75] }) (some 20) (.int .i64 (d.opn.length:Int)) hH ?_;simp only[jq];refine jW [10] ?_;refine KN 10 (.tmp 14) (.tmp 15) (.tmp 20) none w3 (by kernel_rfl) (by kernel_rfl) (by rfl) (by rfl) (by rfl) HRUN.out HS3.out ?_ jN;simp only[jq];refine wpAnyH_done (by kernel_rfl) ?_ _;clear hH;go_wp2_with fail
  have hgw:m.g<w.heap.size:=hgl;have HBX3:Hid (Blk w3 w.heap.size 144 (u8s s).toArray):=jz ((HB3.out _ HBX1.lt (fun e=>by have:=H.out.last.lt;omega)).trans HBX1.out);have HC1:Hid (w3.drew.cell? ⟨m.g,1,none⟩=some (.slice A0 d.opn.length cap0)):=jz (HC.out w3.drew HG3.out).2.1;have HC2:Hid ((w3.alloc (.cells (wrC (a,s)).toArray 155)).drew.cell? ⟨m.g,1,none⟩=some (.slice A0 d.opn.length cap0)):=jz (HC.out ((w3.alloc (.cells (wrC (a,s)).toArray 155)).drew) ((Below.heap_alloc w3 _ m.g (by have h1:=HZ3.out;have h2:=HDK1.blk.lt;omega)).trans HG3.out)).2.1;have HOW3:Hid (w3.drew.ownsRow 0 155 65 (.slice A0 d.opn.length cap0) d.opn.length (d.opn.flatMap wrC)):=jz (by
   have h:=bU (w':=w3.drew) HDK1.opn (fun b hb=>HB3.out b (HDK1.opn.lt b hb).2 (HN.out.2.2.2.2.2.2.2.1 b hb).2.1)
   rw[HOV.out] at h
   exact h)
  have HUI:Hid ((Tryz.prog.info? 144).map (·.size)=some (u8s s).length):=jz (by rw[aG HSE.out];kernel_rfl);have HFIN:Hid (∀(v4:Value) (w4:World),w4.ownsRow 0 155 65 v4 (d.opn.length+1) (d.opn.flatMap wrC++wrC (a,s))→(w3.drew.alloc (.cells (wrC (a,s)).toArray 155)).grownBy w4 (Value.slice A0 d.opn.length cap0).ownBlock→(v4.ownBlock=(Value.slice A0 d.opn.length cap0).ownBlock∨v4.ownBlock=some (w3.drew.alloc (.cells (wrC (a,s)).toArray 155)).heap.size)→Blk w4 m.g 77 (eG m d)∧Blk w4 w.heap.size 144 (u8s s).toArray∧DK (w4.setCell ⟨m.g,1,none⟩ v4) (yE m v4) (q7 d a s)∧DT w m (w4.setCell ⟨m.g,1,none⟩ v4) (yE m v4)):=jz (fun v4 w4 hown hgr hblk=>by
   rw[← HOV.out] at hgr hblk
   have hz1:w.heap.size<w1.heap.size:=HBX1.lt
   have hz3:=HZ3.out
   have hz4:=hgr.size
   have hza:(w3.drew.alloc (.cells (wrC (a,s)).toArray 155)).heap.size=w3.heap.size+1:=by simp
   rw[hza] at hz4 hblk
   have hovlt:∀ k,m.ov.ownBlock=some k→k<w.heap.size:=fun k hk=>(H.out.opn.lt k hk).2
   have hA3:∀ k,k<w3.heap.size→m.ov.ownBlock≠some k→w4.heap[k]? = w3.heap[k]?:=fun k hk hn=>(hgr.block k (by rw[hza];omega) (fun e=>hn e.symm)).trans (Below.heap_alloc w3.drew _ k hk)
   have b4:∀ k,k<w.heap.size→k≠m.bl→m.ov.ownBlock≠some k→w4.heap[k]? = w.heap[k]?:=fun k hk h1 h2=>(hA3 k (by omega) h2).trans ((HB3.out k (by omega) h1).trans (HB01.block k hk))
   have hN:=HN.out
   have hg4:Blk w4 m.g 77 (eG m d):=(b4 m.g hgl hN.1 (fun e=>(hN.2.2.2.2.2.2.2.1 m.g e).1 rfl)).trans H.out.blk
   have hx4:Blk w4 w.heap.size 144 (u8s s).toArray:=(hA3 _ (by omega) (fun e=>by have:=hovlt _ e;omega)).trans HBX3.out
   have hv4:v4.ownBlock=m.ov.ownBlock∨∃ k,v4.ownBlock=some k∧w.heap.size≤k:=by
    rcases hblk with e|e
    ·exact .inl e
    ·exact .inr ⟨_,e,by omega⟩
   have b5:∀ k,k≠m.g→(w4.setCell ⟨m.g,1,none⟩ v4).heap[k]? = w4.heap[k]?:=fun k hk=>Below.heap_setCell w4 ⟨m.g,1,none⟩ v4 k hk
   have hv4g:∀ b,v4.ownBlock=some b→b≠m.g:=fun b hb=>by
    rcases hv4 with e|⟨q,e,hq⟩
    ·exact(hN.2.2.2.2.2.2.2.1 b (by rw[← e];exact hb)).1
    ·rw[hb] at e;have:=Option.some.inj e;omega
   have hs5:(w4.setCell ⟨m.g,1,none⟩ v4).heap.size=w4.heap.size:=by simp
   refine⟨hg4,hx4,?_,rfl,⟨hgr.os.trans (HT3.os.trans HB01.os),hgr.tape.trans (HT3.tape.trans HB01.tape),hgr.output.trans (HT3.output.trans HB01.output),by omega,fun k hk hn=>?_⟩,yF hv4,fun _ _ h=>.inl h⟩
   ·refine H.out.re rfl ([m.g,m.bl]++m.ov.ownBlock.toList) (fun k hk=>by
     simp only[List.mem_append,List.mem_cons,List.not_mem_nil,or_false,Option.mem_toList] at hk
     rcases hk with (rfl|rfl)|hk
     ·exact fU m
     ·exact jP m
     ·exact mZ hk) (fun k hk hn=>by
     simp only[List.mem_append,List.mem_cons,List.not_mem_nil,or_false,not_or,Option.mem_toList] at hn
     exact(b5 k hn.1.1).trans (b4 k hk hn.1.2 hn.2)) (by omega) (hg4.set_ 1 _) (bU H.out.sec fun b hb=>?_) ?_ ?_ ?_ ?_ (KO H.out.nd H.out.foot_lt hv4) (yF hv4) H.out.flv (fun k hk=>.inr ⟨rfl,rfl⟩) ?_
    ·exact(b5 b (hN.2.2.2.2.2.2.1 b hb).1).trans (b4 b (H.out.sec.lt b hb).2 (hN.2.2.2.2.2.2.1 b hb).2.1 (hN.2.2.2.2.2.2.2.2 b hb))
    ·show(w4.setCell ⟨m.g,1,none⟩ v4).ownsRow 0 _ 65 v4 (d.opn++[(a,s)]).length ((d.opn++[(a,s)]).flatMap wrC)
     rw[List.length_append,List.flatMap_append,List.flatMap_singleton]
     exact bU hown (fun b hb=>b5 b (hv4g b hb))
    ·show UM _ m.bl (d.room+1) (eJ (d.opn++[(a,s)]))
     rw[o0]
     exact HUL3.of_block ((b5 m.bl (fun e=>hN.1 e.symm)).trans (hA3 m.bl HUL3.lt (fun e=>(hN.2.2.2.2.2.2.2.1 m.bl e).2.1 rfl)))
    ·exact(H.out.fl.of_block ((b5 m.bf (fun e=>hN.2.1 e.symm)).trans (b4 m.bf H.out.fl.lt (fun e=>hN.2.2.2.1 e.symm) (fun e=>(hN.2.2.2.2.2.2.2.1 m.bf e).2.2.1 rfl)))).mono (Nat.le_succ _)
    ·exact(H.out.cr.of_block ((b5 m.bc (fun e=>hN.2.2.1 e.symm)).trans (b4 m.bc H.out.cr.lt (fun e=>hN.2.2.2.2.1 e.symm) (fun e=>(hN.2.2.2.2.2.2.2.1 m.bc e).2.2.2 rfl)))).mono (Nat.le_succ _)
    ·have ok:=H.out.ok
     refine⟨ok.sec,fun p hp=>?_,ok.few,by have:=ok.lo;simp[q7];omega,Nat.le_succ_of_le ok.st,hr,ok.cl⟩
     have hp:p∈d.opn++[(a,s)]:=hp
     rw[List.mem_append,List.mem_singleton] at hp
     rcases hp with hp|rfl
     ·exact ok.opn p hp
     ·exact⟨hh2.1,hh2.2,HSE.out⟩
   ·exact(b5 k (fun e=>hn (by rw[e];exact fU m))).trans (b4 k hk (fun e=>hn (by rw[e];exact jP m)) (fun e=>hn (mZ e))))
  refine aQ 13 (fun wz=>Blk wz w.heap.size 144 (u8s s).toArray) (by kernel_rfl) (by kernel_rfl) (HBX3.out) (fun hH=>?_);refine jM 0 (.tmp 0) (some 21) (.pointer (some ⟨m.g,0,none⟩)) hH ?_;simp only[jq];refine jM 1 (.tmp 0) (some 22) (.pointer (some ⟨m.g,0,none⟩)) hH ?_;simp only[jq];refine jT 2 (.nilCheck (.tmp 22)) (some 23) (.pointer (some ⟨m.g,0,none⟩)) hH ?_;simp only[jq];refine jT 3 (.fieldAddr 77 (.tmp 23) 1) (some 24) (.pointer (some ⟨m.g,1,none⟩)) hH ?_;simp only[jq];refine jM 5 (.tmp 1) (some 26) (.int .i64 a) hH ?_;simp only[jq];refine jL 6 144 (.tmp 5) (some 27) (cs:=u8s s) (fun _ hX=>by have h:=Blk.range hX;rw[jt] at h;exact h) Tryz.underlying144 rfl HUI.out hH ?_;simp only[jq];refine lE 7 155 #[(0,Operand.tmp 26),(1,Operand.tmp 27)] (some 28) (vs:=[(0,.int .i64 a),(1,.agg (u8s s).toArray)]) (cells:=(wrC (a,s)).toArray) (by kernel_rfl) (by kernel_rfl) (by kernel_rfl) (by kernel_rfl) (by kernel_rfl) (fun _ _ _ h=>h) (by rfl) (FD a s HSE.out) hH ?_;simp only[jq];refine jW [4,8] ?_;refine jS 4 (.load 75 (.tmp 24)) (some 25) (.slice A0 d.opn.length cap0) (w3.drew) (hrun:=fun o ho=>by have hcell:=HC1.out;unfold execOp;simp only[ho];go_simp) HBX3.out ?_ (eB 8 tWr (.tmp 28) (some 29) (by kernel_rfl) (by kernel_rfl) (cs:=wrC (a,s)) (by rfl) (eK (p:=(a,s)) HSE.out) (by decide) ((Below.heap_alloc w3.drew _ _ HBX3.lt).trans HBX3.out) ?_ jN)
  ·simp only[jq];refine jW [8] ?_;refine eB 8 tWr (.tmp 28) (some 29) (by kernel_rfl) (by kernel_rfl) (cs:=wrC (a,s)) (by rfl) (eK (p:=(a,s)) HSE.out) (by decide) ((Below.heap_alloc w3.drew _ _ HBX3.lt).trans HBX3.out) ?_ jN;simp only[jq];refine jW [9] ?_;refine bZ 9 tWr (.tmp 25) (.tmp 29) (some 30) (by kernel_rfl) (by kernel_rfl) (by rfl) (World.ownsRow.alloc HOW3.out _) (by rfl) (Sn.new w3.drew (wrC (a,s)).toArray 155 65 1 (by rw[js,eK (p:=(a,s)) HSE.out])) (iS (a,s)) (by unfold maxLen;have:=HLE.out;omega) (by have:=HLE.out;omega) (Nat.zero_le _) (fun v4 w4 hown hgrow hblk=>?_) jN;rw[jt] at hown;obtain⟨a4,q4,hv4,_,_⟩:=aU hown;subst hv4;obtain⟨hg4,hx4,hdk4,hdt4⟩:=HFIN.out _ w4 hown hgrow hblk;refine⟨hx4,fun hH8=>?_⟩;simp only[jq];refine jT 10 (.nilCheck (.tmp 21)) (some 31) (.pointer (some ⟨m.g,0,none⟩)) (by assumption) ?_;simp only[jq];refine jT 11 (.fieldAddr 77 (.tmp 31) 1) (some 32) (.pointer (some ⟨m.g,1,none⟩)) (by assumption) ?_;simp only[jq];refine jW [12] ?_;have hc41:=hg4.cell 1;have hf41:=hg4.frozen 1;simp only[eG,List.getElem?_toArray,List.getElem?_cons_succ,List.getElem?_cons_zero,HOV.out] at hc41;refine dH 12 (Op.store 75 (Operand.tmp 32) (Operand.tmp 30)) none (w4.setCell ⟨m.g,1,none⟩ (.slice a4 (d.opn.length+1) q4)) (by kernel_rfl) (by kernel_rfl) (fun o ho=>by unfold execOp;simp only[ho];go_simp) ((Below.heap_setCell w4 ⟨m.g,1,none⟩ _ _ (fun e=>Nat.ne_of_gt hgl e)).trans hx4) ?_ jN;simp only[jq];refine wpAnyH_done (by kernel_rfl) ?_ _;have HDK4:=jz hdk4;have HDT4:=jz hdt4;clear hown hgrow hblk hg4 hx4 hdk4 hdt4 hc41 hf41;go_wp2_with fail
   go_ret;exact⟨rfl,_,HDK4.out,HDT4.out⟩
  ·simp only[jq];refine jW [4] ?_;refine jS 4 (.load 75 (.tmp 24)) (some 25) (.slice A0 d.opn.length cap0) ((w3.alloc (.cells (wrC (a,s)).toArray 155)).drew) (hrun:=fun o ho=>by have hcell:=HC2.out;unfold execOp;simp only[ho];go_simp) ((Below.heap_alloc w3.drew _ _ HBX3.lt).trans HBX3.out) ?_ jN;simp only[jq];refine jW [9] ?_;refine bZ 9 tWr (.tmp 25) (.tmp 29) (some 30) (by kernel_rfl) (by kernel_rfl) (by rfl) (World.ownsRow.alloc HOW3.out _) (by rfl) (Sn.new w3.drew (wrC (a,s)).toArray 155 65 1 (by rw[js,eK (p:=(a,s)) HSE.out])) (iS (a,s)) (by unfold maxLen;have:=HLE.out;omega) (by have:=HLE.out;omega) (Nat.zero_le _) (fun v4 w4 hown hgrow hblk=>?_) jN;rw[jt] at hown;obtain⟨a4,q4,hv4,_,_⟩:=aU hown;subst hv4;obtain⟨hg4,hx4,hdk4,hdt4⟩:=HFIN.out _ w4 hown hgrow hblk;refine⟨hx4,fun hH8=>?_⟩;simp only[jq];refine jT 10 (.nilCheck (.tmp 21)) (some 31) (.pointer (some ⟨m.g,0,none⟩)) (by assumption) ?_;simp only[jq];refine jT 11 (.fieldAddr 77 (.tmp 31) 1) (some 32) (.pointer (some ⟨m.g,1,none⟩)) (by assumption) ?_;simp only[jq];refine jW [12] ?_;have hc41:=hg4.cell 1;have hf41:=hg4.frozen 1;simp only[eG,List.getElem?_toArray,List.getElem?_cons_succ,List.getElem?_cons_zero,HOV.out] at hc41;refine dH 12 (Op.store 75 (Operand.tmp 32) (Operand.tmp 30)) none (w4.setCell ⟨m.g,1,none⟩ (.slice a4 (d.opn.length+1) q4)) (by kernel_rfl) (by kernel_rfl) (fun o ho=>by unfold execOp;simp only[ho];go_simp) ((Below.heap_setCell w4 ⟨m.g,1,none⟩ _ _ (fun e=>Nat.ne_of_gt hgl e)).trans hx4) ?_ jN;simp only[jq];refine wpAnyH_done (by kernel_rfl) ?_ _;have HDK4:=jz hdk4;have HDT4:=jz hdt4;clear hown hgrow hblk hg4 hx4 hdk4 hdt4 hc41 hf41;go_wp2_with fail
   go_ret;exact⟨rfl,_,HDK4.out,HDT4.out⟩
def fK(c:Int):Nat:=(min (max c 0) 64).toNat
theorem p9(c:Int):fK c≤64:=by unfold fK;omega
def bM(old data:List Int)(c:Int):List Int:=data.take (fK c)++old.drop (fK c)
theorem lG{old data:List Int}(c:Int)(ho:Sec old)(hd:Sec data):Sec (bM old data c):=by
 have h:=p9 c;refine⟨by unfold bM;rw[List.length_append,List.length_take,List.length_drop,ho.1,hd.1];omega,fun b hb=>?_⟩;unfold bM at hb;rw[List.mem_append] at hb;rcases hb with hb|hb
 ·exact hd.2 b (List.mem_of_mem_take hb)
 ·exact ho.2 b (List.mem_of_mem_drop hb)
theorem I7(c:Int)(w:World):Calls Tryz.prog 118 #[.int .i64 c] w fun e w'=>e = .returned (.int .i64 (fK c:Nat))∧w'=w:=by
 have h1:((fK c:Nat):Int)=min (max c 0) 64:=by unfold fK;omega
 rw[h1];clear h1;by_cases h0:0≤c
 ·have e1:max c 0=c:=by omega
  rw[e1];by_cases h64:c≤64
  ·have e2:min c 64=c:=by omega
   rw[e2];go_enter Tryz.func118,Tryz.ntmps118
   go_wp2_with fail
   go_ret;exact⟨by first|rfl|(rw[e1,e2])|simp[e1,e2],rfl⟩
  ·have e2:min c 64=64:=by omega
   rw[e2];go_enter Tryz.func118,Tryz.ntmps118
   go_wp2_with fail
   go_ret;exact⟨by first|rfl|(rw[e1,e2])|simp[e1,e2],rfl⟩
 ·have e1:max c 0=0:=by omega
  rw[e1];have e2:min (0:Int) 64=0:=by omega
  rw[e2];go_enter Tryz.func118,Tryz.ntmps118
  go_wp2_with fail
  go_ret;exact⟨by first|rfl|(rw[e1,e2])|simp[e1,e2],rfl⟩
section
variable {P : Program} {ops : Array Oper} {Q : Exit → Act → World → Prop} {a : Act} {w : World}
theorem KP{S:World→Prop}{listed:Array Bool}{fuel:Nat}{rs:List Nat}(i:Nat){dT sT elem:TypeId}(p q:Operand)(dst:Option Tmp)(hd:(ops[i]?).map (fun o=>(o.op,o.dst))=some (.call { callee:=.builtin .copy,args:=#[p,q],argTypes:=#[dT,sT] },dst))(hw:(ops[i]?).map (fun o=>Region.wanted o (yielded ops a.tmps))=some true)
  {b off dn dc b' off' n cap:Nat} {xs:List Value} (hp:a.eval p = .slice (some ⟨b,off,none⟩) dn dc) (hq:a.eval q = .slice (some ⟨b',off',none⟩) n cap) (hu:P.underlying dT=some (.slice elem)) (hs:(P.info? elem).map (·.size)=some 1) (hn:dn≤n) (hl:xs.length=dn) (hx:∀ j u,xs[j]? = some u→w.cell? ⟨b',off'+j,none⟩=some u) (ht:w.there b off dn) (h1:∀ u∈xs,u.oneCell'=true) (hS:S (w.setCells b off xs))
  (h:wpAnyH P .any ops Q S fuel (listed.setIfInBounds i true) (a.put dst (goInt dn)) (w.setCells b off xs)) (hr:AllReadyH P .any ops Q S fuel listed a w rs):AllReadyH P .any ops Q S fuel listed a w (i :: rs):=
 tT i _ dst _ _ hd hw (fun o ho=>by
  have hrun:=run_copy_cells (P:=P) w dT sT o.type elem b off dn dc ⟨b',off',none⟩ n cap xs hu hs (by rw[hl];exact(Nat.min_eq_right hn).symm) (fun j v hj=>by rw[Addr.add_mid];exact hx j v hj) (fun j hj=>(ht j (by omega)).1) (fun j hj=>(ht j (by omega)).2) h1
  rw[hl] at hrun
  unfold execOp
  simp only[ho,resolve,invoke,builtin,Sem.run_bind,Sem.run_pure,Result.andThen_ok,List.map_toArray,List.map_cons,List.map_nil,hp,hq,hrun]) hS h hr
end
theorem FF(old data:List Int)(k:Nat)(ho:old.length=64)(hd:data.length=64):
  (((u8s data).take k).zipIdx 0).foldl (fun(cs:Array Value) (x:Value×Nat)=>cs.setIfInBounds x.2 x.1) (u8s old).toArray=(u8s (data.take k++old.drop k)).toArray:=by
 have h:=qZ [] ((u8s old).take k) ((u8s old).drop k) ((u8s data).take k) (by simp[u8s,ho,hd]);simp only[List.nil_append,List.length_nil,List.take_append_drop] at h;rw[h,eI,kP,mY]
theorem FG(old data:List Int)(c:Int)(w:World)(ho:Sec old)(hd:Sec data):
  Calls Tryz.prog 88 #[.agg (u8s old).toArray,.agg (u8s data).toArray,.int .i64 c] w fun e w'=>e = .returned (.agg (u8s (bM old data c)).toArray)∧Below w.heap.size w w':=by
 have HO:=jz ho;have HD:=jz hd;have HTS:=jz (lG c ho hd);have HCU:=jz (fun w1=>I7 c w1);have hk:=p9 c;have HTP:=jz (FF old data (fK c) ho.1 hd.1);have HTE:Hid (bM old data c=data.take (fK c)++old.drop (fK c)):=jz rfl;clear ho hd;obtain⟨k,hkk⟩:=je (fK c);rw[← hkk] at hk HTP HTE HCU;clear hkk;have hal:Tryz.prog.arrayLen 144=64:=by kernel_rfl
 have HSL:Hid (∀(g:Nat) (W:World),(Instr.sliceAt 144 (.pointer (some ⟨g,0,none⟩)) none (some (.int .i64 (k:Int))) none).run Tryz.prog W = .ok (.slice (some ⟨g,0,none⟩) k 64) W):=jz (fun g W=>by
  rw[run_sliceAt_array_h W 144 ⟨g,0,none⟩ (by kernel_rfl) .i64 (k:Int) (by omega) (by rw[hal];omega)]
  go_simp)
 go_enter Tryz.func88,Tryz.ntmps88
 go_wp2_with (refine al 144 z64 rfl rfl cK ?_)
 obtain⟨w1,hw1⟩:=je (((w.alloc (.cells (u8s old).toArray 144)).alloc (.cells (u8s data).toArray 144)).alloc (.cells z64 144));have HB0:Hid (Blk w1 w.heap.size 144 (u8s old).toArray):=jz (by rw[hw1];exact((Blk.new w _ _).alloc _).alloc _);have HB1:Hid (Blk w1 (w.heap.size+1) 144 (u8s data).toArray):=jz (by rw[hw1];exact(Blk.newAt _ _ _ _ (by simp)).alloc _);have HB2:Hid (Blk w1 (w.heap.size+1+1) 144 z64):=jz (by rw[hw1];exact Blk.newAt _ _ _ _ (by simp));have HBW:Hid (Below w.heap.size w w1):=jz (by rw[hw1];exact(((Below.refl _ w).alloc (Nat.le_refl _) _).alloc (by simp) _).alloc (by simp;omega) _);rw[← hw1];simp only[World.size_alloc];clear hw1;have HTL:Hid (((u8s data).take k).length=k):=jz (by rw[List.length_take,aG HD.out];omega);have HTX:Hid (∀ j u,((u8s data).take k)[j]? = some u→w1.drew.cell? ⟨w.heap.size+1,0+j,none⟩=some u):=jz (fun j u hj=>by
  have h1:=HB1.cell (0+j)
  rw[List.getElem?_take] at hj
  split at hj
  ·exact h1.trans (by rw[Nat.zero_add];simpa using hj)
  ·cases hj)
 have HTT:Hid (w1.drew.there w.heap.size 0 k):=jz (fun j hj=>⟨by
  have h1:=HB0.cell (0+j)
  have h2:w1.drew.cell? ⟨w.heap.size,0+j,none⟩=w1.cell? ⟨w.heap.size,0+j,none⟩:=rfl
  rw[h2,h1,Nat.zero_add,Array.getElem?_eq_getElem (by rw[js,aG HO.out];omega)];rfl,HB0.frozen _⟩)
 have HT1:Hid (∀ u∈(u8s data).take k,u.oneCell'=true):=jz (fun u hu=>bS _ u (List.mem_of_mem_take hu));refine aQ 5 (fun _=>True) (by kernel_rfl) (by kernel_rfl) (trivial) (fun hH=>?_);refine jM 0 (.tmp 2) (some 7) (.int .i64 c) hH ?_;simp only[jq];refine jT 3 (.slice 144 (.tmp 4) none none none) (some 10) (.slice (some ⟨w.heap.size+1,0,none⟩) 64 64) hH ?_;simp only[jq];refine jW [1] ?_;refine jC 1 (.call { callee:=.value (.func 118),args:=#[.tmp 7],argTypes:=#[3] }) (some 8) 118 (#[.int .i64 c]) ?_ jN;refine(HCU.out _).mono ?_;rintro e wM ⟨rfl,hwM⟩;rw[hwM];refine⟨_,rfl,trivial,fun hH=>?_⟩;simp only[jq];refine jT 2 (.slice 144 (.tmp 3) none (some (.tmp 8)) none) (some 9) (.slice (some ⟨w.heap.size,0,none⟩) k 64) (hy:=fun o ho wX hX=>by have hsl:=HSL.out;unfold execOp;simp only[ho];go_simp) hH ?_;simp only[jq];refine jW [4] ?_;refine KP (sT:=78) 4 (.tmp 9) (.tmp 10) (some 11) (by kernel_rfl) (by kernel_rfl) (by rfl) (by rfl) Tryz.underlying78 (by kernel_rfl) hk HTL.out HTX.out HTT.out HT1.out trivial ?_ jN;simp only[jq];refine wpAnyH_done (by kernel_rfl) ?_ _;clear hH;obtain⟨w2,hw2⟩:=je (w1.drew.setCells w.heap.size 0 ((u8s data).take k));have HB02:Hid (Blk w2 w.heap.size 144 (u8s (bM old data c)).toArray):=jz (by
  have h:=dQ ((u8s data).take k) 0 w1.drew _ HB0.out
  rw[HTP.out,← HTE.out] at h
  rw[hw2];exact h)
 have HB22:Hid (Blk w2 (w.heap.size+1+1) 144 z64):=jz (by rw[hw2];exact(bA (by omega) _ _ _).trans HB2.out);have HBW2:Hid (Below w.heap.size w w2):=jz (by rw[hw2];exact HBW.drew.trans (aO (Nat.le_refl _) _ _ _).1);rw[← hw2];clear hw2;have HUI:Hid ((Tryz.prog.info? 144).map (·.size)=some (u8s (bM old data c)).length):=jz (by rw[aG HTS.out];kernel_rfl);have HUJ:Hid ((Tryz.prog.info? 144).map (·.size)=some (u8s (bM old data c)).toArray.size∧z64.size=(u8s (bM old data c)).toArray.size∧(u8s (bM old data c)).toArray.all (·.oneCell')=true):=jz ⟨by rw[js,aG HTS.out];kernel_rfl,by rw[cN,js,aG HTS.out],cS _⟩;obtain⟨T,hT⟩:=je (u8s (bM old data c));rw[← hT] at HB02 HUI HUJ;have HTQ:=jz hT;have HRG:Hid (w2.rangeAt w.heap.size 0 T):=jz (by have h:=HB02.range;rw[jt] at h;exact h);clear hT;go_wp2_with (first
  | (refine ld 144 _ rfl rfl rfl HRG.out Tryz.underlying144 rfl HUI.out ?_)
  | (refine bC 144 (.tmp 6) (.tmp 12) rfl rfl rfl rfl HB22.out HUJ.out.1 HUJ.out.2.1 HUJ.out.2.2 ?_;intro w3 hB3 hb3 _ _;have HB3:=jz hB3;have HE3:=jz hb3;clear hB3 hb3))
 exact bodyPost_ret (results_cell_row rfl _ _ (w.heap.size+1+1) 144 _ (0,0) _ rfl HB3.out Tryz.underlying144 rfl HUJ.out.1) rfl ⟨by rw[← HTQ.out],HBW2.trans (HE3.mono (by omega))⟩
end
section
open Go.RowKit Go.ChangeShapes Go.WideShapes Go.Deep
section
variable {P : Program} {H : Type} {enc : TypeId × Value → H} {w : World} {base : Nat} {held : Bool} {α : Type}
theorem gL(C:α→List Value)(Ok:α→Prop)(s:Nat)(hlen:∀ r,Ok r→(C r).length=s):∀ l:List α,(∀ r∈l,Ok r)→(l.flatMap C).length=l.length*s
 | [],_=>by simp
 | r :: l,h=>by
  have:=gL C Ok s hlen l (fun r hr=>h r (by simp[hr]));simp[List.flatMap_cons,hlen r (h r (by simp)),this,Nat.add_mul];omega
theorem zZ(C:α→List Value)(Ok:α→Prop)(s:Nat)(hs:0<s)(hlen:∀ r,Ok r→(C r).length=s){t e:TypeId}(ht:P.underlying t=some (.slice e))(hC:P.cellsOf e=s)
  (helem:∀(fuel:Nat) (cs:List Value) (x:DataW H×List MemPlace),DataW.trod enc P w base (fun _=>true) held fuel e cs=some x→∃ r,Ok r∧cs=C r)
  {fuel:Nat} {A:Option Addr} {len cap:Nat} {x:DataW H×List MemPlace} (h:DataW.trod enc P w base (fun _=>true) held fuel t [.slice A len cap]=some x):
  ∃ l:List α,l.length=len∧(∀ r∈l,Ok r)∧Sn w s (.slice A len cap) len (l.flatMap C):=by
 rcases open_slice ht h with ⟨h0,_⟩|⟨a,len',cap',m,n,D,Pl,hcs,hb,hl,hm,hmm,_,hi⟩
 ·simp only[List.cons.injEq,Value.slice.injEq,and_true] at h0;obtain⟨rfl,rfl,rfl⟩:=h0;exact⟨[],rfl,fun _ h=>(by cases h),⟨none,0,rfl,Nat.le_refl _,by simp,fun h=>absurd h (by omega)⟩⟩
 ·simp only[List.cons.injEq,Value.slice.injEq,and_true] at hcs;obtain⟨rfl,rfl,rfl⟩:=hcs;simp only[if_true] at hmm;subst hmm;rw[hC] at hi;have key:∀ k,k≤len→∃ l:List α,l.length=k∧(∀ r∈l,Ok r)∧∀ j u,(l.flatMap C)[j]? = some u→w.cell? (a.add j)=some u:=by
   intro k;induction k with
   | zero=>exact fun _=>⟨[],rfl,fun _ h=>(by cases h),fun j u h=>by simp at h⟩
   | succ k ih=>
    intro hk;obtain⟨l,hll,hok,hc⟩:=ih (by omega);obtain⟨cs',hcs',ht'⟩:=hi k (by omega);obtain⟨r,hr,rfl⟩:=helem _ _ _ ht';obtain⟨_,hlen',hat⟩:=World.cells?_some hcs';have hfl:=gL C Ok s hlen l hok;rw[hll] at hfl;refine⟨l++[r],by simp[hll],fun r' hr'=>?_,fun j u hj=>?_⟩
    ·rcases List.mem_append.1 hr' with h1|h1
     ·exact hok r' h1
     ·simp at h1;subst h1;exact hr
    ·rw[List.flatMap_append] at hj;by_cases hjk:j<k*s
     ·rw[List.getElem?_append_left (by omega)] at hj;exact hc j u hj
     ·rw[List.getElem?_append_right (by omega),hfl] at hj;simp only[List.flatMap_cons,List.flatMap_nil,List.append_nil] at hj;have hlt:j-k*s<s:=by
       have:=(List.getElem?_eq_some_iff.1 hj).1;rw[hlen r hr] at this;exact this
      have:=hat (j-k*s) hlt;rw[Go.Deep.add_add,show k*s+(j-k*s)=j from by omega] at this;rw[this];exact hj
  obtain⟨l,hll,hok,hc⟩:=key len (Nat.le_refl _);have hfl:=gL C Ok s hlen l hok;rw[hll] at hfl;refine⟨l,hll,hok,some a,_,rfl,hl,hfl,fun hp=>?_⟩;obtain⟨b,off,spot⟩:=a;have hne:∃ u,(l.flatMap C)[0]? = some u:=by
   have:0<(l.flatMap C).length:=by rw[hfl];exact Nat.mul_pos hp hs
   exact⟨_,List.getElem?_eq_getElem this⟩
  obtain⟨u,hu⟩:=hne;have hspot:spot=none:=by simpa [Addr.add] using World.cell?_spot (hc 0 u hu)
  subst hspot;refine⟨b,off,rfl,fun j u hj=>?_⟩;have:=hc j u hj;by_cases hj0:j=0
  ·subst hj0;simpa [Addr.add] using this
  ·simpa [Addr.add,hj0] using this
theorem gH(C:α→List Value)(Ok:α→Prop)(s:Nat)(hlen:∀ r,Ok r→(C r).length=s){A:Option Addr}{cap:Nat}{l:List α}(h:Sn w s (.slice A l.length cap) l.length (l.flatMap C))(hok:∀ r∈l,Ok r)(k:Nat)(hk:k<l.length):
  ∃ b off,A=some ⟨b,off,none⟩∧∀ j u,(C l[k])[j]? = some u→w.cell? ⟨b,off+k*s+j,none⟩=some u:=by
 obtain⟨A',cap',hv,hc,hl,hx⟩:=h;injection hv with hA _ _
 subst hA;obtain⟨b,off,rfl,hcell⟩:=hx (by omega);refine⟨b,off,rfl,fun j u hj=>?_⟩;have h1:=gL C Ok s hlen (l.take k) (fun r hr=>hok r (List.mem_of_mem_take hr));rw[List.length_take,Nat.min_eq_left (by omega)] at h1;have key:(l.flatMap C)[k*s+j]? = some u:=by
  have e:l.flatMap C=(l.take k).flatMap C++(C l[k]++(l.drop (k+1)).flatMap C):=by
   conv=>lhs;rw[← List.take_append_drop k l,List.drop_eq_getElem_cons hk]
   rw[List.flatMap_append,List.flatMap_cons]
  rw[e,List.getElem?_append_right (by omega),h1,Nat.add_sub_cancel_left,List.getElem?_append_left]
  ·exact hj
  ·exact(List.getElem?_eq_some_iff.1 hj).1
 have:=hcell (k*s+j) u key;rw[← Nat.add_assoc] at this;exact this
end
end
section
open Go.RowKit
theorem vM{α:Type}(C:α→List Value)(Ok:α→Prop)(s:Nat)(hlen:∀ r,Ok r→(C r).length=s){w:World}{base e g cap:Nat}{L:List α}(hown:w.ownsRow base e s (.slice (some ⟨g,0,none⟩) L.length cap) L.length (L.flatMap C))(hok:∀ r∈L,Ok r)(k:Nat)(hk:k<L.length)(p:α)(hp:Ok p):
  (w.setCells g (k*s) (C p)).ownsRow base e s (.slice (some ⟨g,0,none⟩) L.length cap) (L.set k p).length ((L.set k p).flatMap C)∧w.there g (k*s) (C p).length∧base≤g:=by
 obtain⟨hl,h|⟨g',cap',cur,hv,hb,hh,hc1,hm,hcs,htk⟩⟩:=hown
 ·cases h.1
 ·injection hv with hv1 _ hv2
  injection hv1 with hv1
  injection hv1 with hv1 _ _
  subst hv1 hv2;have hB:Blk w g e cur:=hh;have hcp:=hlen p hp;have hlk:=hlen L[k] (hok _ (List.getElem_mem hk));have e1:L.flatMap C=(L.take k).flatMap C++(C L[k]++(L.drop (k+1)).flatMap C):=by
   conv=>lhs;rw[← List.take_append_drop k L,List.drop_eq_getElem_cons hk]
   rw[List.flatMap_append,List.flatMap_cons]
  have e2:(L.set k p).flatMap C=(L.take k).flatMap C++(C p++(L.drop (k+1)).flatMap C):=by
   rw[List.set_eq_take_append_cons_drop,if_pos hk,List.flatMap_append,List.flatMap_cons]
  have h1:=gL C Ok s hlen (L.take k) (fun r hr=>hok r (List.mem_of_mem_take hr));rw[List.length_take,Nat.min_eq_left (by omega)] at h1;have hks:k*s+s≤L.length*s:=by
   have:=Nat.mul_le_mul_right s (show k+1≤L.length from hk);rw[Nat.add_mul,Nat.one_mul] at this;exact this
  have hLc:=Nat.mul_le_mul_right s hc1;have hl1:=hl;rw[e1] at htk;refine⟨⟨?_,.inr ⟨g,cap,_,by rw[List.length_set],hb,dQ (C p) (k*s) w cur hB,by rw[List.length_set];exact hc1,hm,by rw[jJ];exact hcs,?_⟩⟩,fun j hj=>⟨?_,hB.frozen _⟩,hb⟩
  ·rw[e2,List.length_set];rw[e1] at hl;simp only[List.length_append] at hl ⊢;omega
  ·rw[List.length_set,e2];apply List.ext_getElem?;intro i;have hold:((L.take k).flatMap C++(C L[k]++(L.drop (k+1)).flatMap C))[i]? = if i<L.length*s then cur[i]? else none:=by
    rw[← htk,List.getElem?_take];simp
   rw[List.getElem?_take,Array.getElem?_toList,i8,hcp];by_cases i1:i<k*s
   ·rw[if_pos (by omega),if_neg (by omega),List.getElem?_append_left (by omega)];rw[List.getElem?_append_left (by omega),if_pos (by omega)] at hold;exact hold.symm
   ·rw[List.getElem?_append_right (by omega),h1];rw[List.getElem?_append_right (by omega),h1] at hold;by_cases i2:i<k*s+s
    ·rw[if_pos (by omega),if_pos (by omega),List.getElem?_append_left (by omega)]
    ·rw[List.getElem?_append_right (by omega)] at hold ⊢;rw[hcp];rw[hlk] at hold;rw[hold];by_cases i3:i<L.length*s
     ·rw[if_pos i3,if_pos i3,if_neg (by omega)]
     ·rw[if_neg i3,if_neg i3]
  ·rw[hB.cell];have:k*s+j<cur.size:=by omega
   simp[this]
end
end Go.Proofs.YtombncedfleljaaGreat
