import Derived.Test.YtiaigidbcljblaaGreatDoorME9
set_option linter.unusedSimpArgs false
set_option maxRecDepth 100000
set_option maxHeartbeats 40000000
namespace Go.Proofs.YtiaigidbcljblaaGreatDoor
open Go.RowKit
attribute [local irreducible] wpQuiet wpAnyH
def crashL(sec:List (List Int))(opn:List (Int×List Int))(cl:List Int):List (List Int):=tornN (fun j=>cl.getD j 0) sec opn opn.length
def crashD(d:DiskD)(cl:List Int):DiskD:={ d with sec:=crashL d.sec d.opn cl,opn:=[],down:=true }
def svM(m:DiskM)(v:Value):DiskM:={ m with sv:=v }
def secD(d:DiskD)(s:List (List Int)):DiskD:={ d with sec:=s }
theorem crashL_len(sec:List (List Int))(opn:List (Int×List Int))(cl:List Int):(crashL sec opn cl).length=sec.length:=tornN_len _ _ _ _
theorem crashL_sec{sec:List (List Int)}{opn:List (Int×List Int)}(cl:List Int)(hr:∀ s∈sec,Sec s)(hl:∀ p∈opn,0≤p.1∧p.1<sec.length∧Sec p.2):∀ s∈crashL sec opn cl,Sec s:=tornN_sec _ _ _ hr hl _ (Nat.le_refl _)
attribute [irreducible] crashL
theorem crash_any(sec:List (List Int))(opn:List (Int×List Int))(cl:List Int)(As Ao Ac:Option Addr)(cs co cc:Nat)(w:World)
  (hs:Sn w 64 (.slice As sec.length cs) sec.length (sec.flatMap u8s)) (ho:Sn w 65 (.slice Ao opn.length co) opn.length (opn.flatMap wrC)) (hc:Sn w 1 (.slice Ac cl.length cc) cl.length (i64s cl))
  (hsec:∀ s∈sec,Sec s) (hopn:∀ p∈opn,0≤p.1∧p.1<sec.length∧Sec p.2) (h1:sec.length≤4096) (h2:opn.length≤100000) (h3:cl.length≤1000000):
  Calls Tryz.prog 115 #[.slice As sec.length cs,.slice Ao opn.length co,.slice Ac cl.length cc] w fun e w'=>∃ v,e = .returned v∧w'.ownsRow w.heap.size 243 64 v sec.length ((crashL sec opn cl).flatMap u8s)∧Below w.heap.size w w':=by
 have hb:Below w.heap.size w (w.alloc (.cells #[.slice Ac cl.length cc] 69)):=(Below.refl _ _).alloc (Nat.le_refl _) _
 have hB:=Blk.new w 69 #[.slice Ac cl.length cc]
 have HTN:=Lib.hid (torn_any sec opn As Ao cs co w.heap.size (fun j=>cl.getD j 0) _ (hs.below hb) (ho.below hb) hsec hopn h1 h2 (fun j w1 hj hb1=>crash1_any j w.heap.size cl Ac cc w1 ((hB.keep hb1).cell 0) ((hc.below hb).below hb1) (by omega) h3))
 have HBB:=Lib.hid hb
 have HE:Hid (crashL sec opn cl=tornN (fun j=>cl.getD j 0) sec opn opn.length):=Lib.hid (by unfold crashL;rfl)
 clear hs ho hc hsec hopn hb hB
 have hmf:∀(fn:Fn) (first cap:Array Value) (w:World),(Instr.makeFunc fn first cap).run Tryz.prog w = .ok (.func fn first cap) w:=fun _ _ _ _=>rfl
 go_enter Tryz.func115,Tryz.ntmps115
 go_wp2_with (go_at_call 176;refine HTN.mono ?_;rintro e w1 ⟨v,rfl,hown,hb1⟩;have HO:=Lib.hid hown;have HB:=Lib.hid hb1;clear hown hb1)
 go_ret
 exact⟨_,rfl,by rw[HE.out];exact own_base HO.out HBB.size,HBB.trans (HB.mono HBB.size)⟩
theorem foot_svM{m:DiskM}{v:Value}{w:World}(hv:∀ b,v.ownBlock=some b→w.heap.size≤b):∀ k∈foot (svM m v),k∈foot m∨w.heap.size≤k:=by
 intro k hk
 simp only[foot,svM,List.mem_append,Option.mem_toList] at hk ⊢
 rcases hk with h|h|h
 ·exact .inl (.inl h)
 ·exact .inr (hv k h)
 ·exact .inl (.inr (.inr h))
theorem nd_sv{m:DiskM}{v:Value}{B:Nat}(h:(foot m).Nodup)(hlt:∀ k∈foot m,k<B)(hv:∀ b,v.ownBlock=some b→B≤b):(foot (svM m v)).Nodup:=by
 have e1:foot m=[m.g,m.bl,m.bf,m.bc]++(m.sv.ownBlock.toList++m.ov.ownBlock.toList):=rfl
 have hsub:([m.g,m.bl,m.bf,m.bc]++m.ov.ownBlock.toList).Nodup:=by
  refine List.Nodup.sublist ?_ h
  rw[e1]
  exact List.Sublist.append (List.Sublist.refl _) (List.sublist_append_right _ _)
 show([m.g,m.bl,m.bf,m.bc]++(v.ownBlock.toList++m.ov.ownBlock.toList)).Nodup
 cases hvb:v.ownBlock with
 | none=>simpa using hsub
 | some q=>
  have hq:=hv q hvb
  have hmem:∀ x∈[m.g,m.bl,m.bf,m.bc]++m.ov.ownBlock.toList,x<B:=fun x hx=>hlt x (by
   rw[e1]
   rw[List.mem_append] at hx ⊢
   rcases hx with hx|hx
   ·exact .inl hx
   ·exact .inr (List.mem_append_right _ hx))
  have hp:List.Perm ([m.g,m.bl,m.bf,m.bc]++((some q).toList++m.ov.ownBlock.toList)) (q :: ([m.g,m.bl,m.bf,m.bc]++m.ov.ownBlock.toList)):=by
   show List.Perm ([m.g,m.bl,m.bf,m.bc]++(q :: m.ov.ownBlock.toList)) _
   exact List.perm_middle
  rw[hp.nodup_iff,List.nodup_cons]
  exact⟨fun hx=>by have:=hmem q hx;omega,hsub⟩
theorem DK.withSec{w w4:World}{m:DiskM}{d:DiskD}(h:DK w m d){v:Value}{s:List (List Int)}(hb:Below w.heap.size w w4)(hown:w4.ownsRow w.heap.size 243 64 v s.length (s.flatMap u8s))(hl:s.length=d.sec.length)(hs:∀ x∈s,Sec x):
  DK (w4.setCell ⟨m.g,0,none⟩ v) (svM m v) (secD d s)∧DT w m (w4.setCell ⟨m.g,0,none⟩ v) (svM m v):=by
 have hn:=foot_nd h.nd
 have hvb:∀ b,v.ownBlock=some b→w.heap.size≤b:=fun b hb=>(hown.lt b hb).1
 have b5:∀ k,k≠m.g→(w4.setCell ⟨m.g,0,none⟩ v).heap[k]? = w4.heap[k]?:=fun k hk=>Below.heap_setCell w4 ⟨m.g,0,none⟩ v k hk
 have ho:∀ k,k<w.heap.size→k≠m.g→(w4.setCell ⟨m.g,0,none⟩ v).heap[k]? = w.heap[k]?:=fun k hk hg=>(b5 k hg).trans (hb.block k hk)
 have hsz:(w4.setCell ⟨m.g,0,none⟩ v).heap.size=w4.heap.size:=by simp
 have hsz4:=hb.size
 refine⟨h.re rfl [m.g] (fun k hk=>by rw[List.mem_singleton] at hk;rw[hk];exact foot_g m) (fun k hk hn=>ho k hk (by simpa using hn)) (by omega) (Blk.set_ ((hb.block m.g h.blk.lt).trans h.blk) 0 v) ?_ (own_blk h.opn fun b hx=>ho b (h.opn.lt b hx).2 (hn.2.2.2.2.2.2.2.1 b hx).1) (h.last.of_block (ho _ h.last.lt (fun e=>hn.1 e.symm))) (h.fl.of_block (ho _ h.fl.lt (fun e=>hn.2.1 e.symm))) (h.cr.of_block (ho _ h.cr.lt (fun e=>hn.2.2.1 e.symm))) (nd_sv h.nd h.foot_lt hvb) (foot_svM hvb) h.flv (fun k hk=>.inr ⟨rfl,rfl⟩) ⟨hs,fun p hp=>?_,?_,h.ok.lo,h.ok.st,h.ok.rm,h.ok.cl⟩,⟨rfl,⟨hb.os,hb.tape,hb.output,by omega,fun k hk hm=>ho k hk (fun e=>hm (by rw[e];exact foot_g m))⟩,foot_svM hvb,fun _ _ h=>.inl h⟩⟩
 ·exact own_blk (own_base hown (Nat.zero_le _)) (fun b hx=>b5 b (fun e=>by have h1:=hvb b hx;have h2:=h.blk.lt;omega))
 ·have h1:=h.ok.opn p hp
  exact⟨h1.1,by show p.1<(s.length:Int);rw[hl];exact h1.2.1,h1.2.2⟩
 ·show s.length≤4096
  rw[hl];exact h.ok.few
theorem disk_crash(cl:List Int)(Ac:Option Addr)(cc:Nat)(w:World)(m:DiskM)(d:DiskD)(h:DK w m d)(hc:Sn w 1 (.slice Ac cl.length cc) cl.length (i64s cl))(hcl:cl.length≤1000000):
  Calls Tryz.prog 75 #[.pointer (some ⟨m.g,0,none⟩),.slice Ac cl.length cc] w fun e w'=>e = .returned (.tuple #[])∧∃ m',DK w' m' (crashD d cl)∧DT w m w' m':=by
 have H:=Lib.hid h
 have hgl:=h.blk.lt
 obtain⟨As,cs,hsv,_⟩:=Sn.own h.sec
 obtain⟨Ao,co,hov,_⟩:=Sn.own h.opn
 have hsn:=Sn.own h.sec
 have hon:=Sn.own h.opn
 have hos:=h.sec
 rw[hsv] at hsn hos
 rw[hov] at hon
 have HCR:=Lib.hid (fun(w1:World) (hb:Below w.heap.size w w1)=>crash_any d.sec d.opn cl As Ao Ac cs co cc w1 (hsn.below hb) (hon.below hb) (hc.below hb) h.ok.sec h.ok.opn h.ok.few (Nat.le_trans h.ok.lo h.ok.rm) hcl)
 have HLEN:=Lib.hid (crashL_len d.sec d.opn cl)
 have HSEC:=Lib.hid (crashL_sec cl h.ok.sec h.ok.opn)
 have HC:Hid (∀ W:World,W.heap[m.g]? = w.heap[m.g]?→W.cell? ⟨m.g,0,none⟩=some (.slice As d.sec.length cs)∧W.cell? ⟨m.g,1,none⟩=some (.slice Ao d.opn.length co)∧W.frozen? ⟨m.g,0,none⟩=false):=Lib.hid (fun W hW=>by
  have hB:Blk W m.g 151 (diskC m d):=hW.trans h.blk
  exact⟨by rw[← hsv];exact hB.cell 0,by rw[← hov];exact hB.cell 1,hB.frozen 0⟩)
 clear hsn hon hos h hc hsv hov
 have HS0:Hid (w.drew.cell? ⟨m.g,1,none⟩=some (.slice Ao d.opn.length co)):=Lib.hid (HC.out w.drew rfl).2.1
 have HC0:Hid (w.drew.cell? ⟨m.g,0,none⟩=some (.slice As d.sec.length cs)):=Lib.hid (HC.out w.drew rfl).1
 go_enter Tryz.func75,Tryz.ntmps75
 go_wp2_with fail
 refine held_start 14 (fun wz=>wz.cell? ⟨m.g,1,none⟩=some (.slice Ao d.opn.length co)) (by kernel_rfl) (by kernel_rfl) (HS0.out) (fun hHeld=>?_)
 refine hMove 0 (Operand.tmp 0) (some 6) (.pointer (some ⟨m.g,0,none⟩)) (by kernel_rfl) (by kernel_rfl) (by kernel_rfl) (by kernel_rfl) (by kernel_rfl) (fun _ _ _ h=>h) (by exact rfl) hHeld ?_
 simp only[Act.put,List.setIfInBounds_toArray,List.set_cons_zero,List.set_cons_succ]
 refine hMove 1 (Operand.tmp 0) (some 7) (.pointer (some ⟨m.g,0,none⟩)) (by kernel_rfl) (by kernel_rfl) (by kernel_rfl) (by kernel_rfl) (by kernel_rfl) (fun _ _ _ h=>h) (by exact rfl) hHeld ?_
 simp only[Act.put,List.setIfInBounds_toArray,List.set_cons_zero,List.set_cons_succ]
 refine hTake 2 (Op.nilCheck (Operand.tmp 7)) (some 8) (.pointer (some ⟨m.g,0,none⟩)) (by kernel_rfl) (by kernel_rfl) (by kernel_rfl) (by kernel_rfl) (by kernel_rfl) (fun _ _ _ h=>h) (fun o ho wX hX=>by unfold execOp;simp only[ho];go_simp) hHeld ?_
 simp only[Act.put,List.setIfInBounds_toArray,List.set_cons_zero,List.set_cons_succ]
 refine hTake 3 (Op.fieldAddr 151 (Operand.tmp 8) 0) (some 9) (.pointer (some ⟨m.g,0,none⟩)) (by kernel_rfl) (by kernel_rfl) (by kernel_rfl) (by kernel_rfl) (by kernel_rfl) (fun _ _ _ h=>h) (fun o ho wX hX=>by unfold execOp;simp only[ho];go_simp) hHeld ?_
 simp only[Act.put,List.setIfInBounds_toArray,List.set_cons_zero,List.set_cons_succ]
 refine hMove 5 (Operand.tmp 0) (some 11) (.pointer (some ⟨m.g,0,none⟩)) (by kernel_rfl) (by kernel_rfl) (by kernel_rfl) (by kernel_rfl) (by kernel_rfl) (fun _ _ _ h=>h) (by exact rfl) hHeld ?_
 simp only[Act.put,List.setIfInBounds_toArray,List.set_cons_zero,List.set_cons_succ]
 refine hTake 6 (Op.nilCheck (Operand.tmp 11)) (some 12) (.pointer (some ⟨m.g,0,none⟩)) (by kernel_rfl) (by kernel_rfl) (by kernel_rfl) (by kernel_rfl) (by kernel_rfl) (fun _ _ _ h=>h) (fun o ho wX hX=>by unfold execOp;simp only[ho];go_simp) hHeld ?_
 simp only[Act.put,List.setIfInBounds_toArray,List.set_cons_zero,List.set_cons_succ]
 refine hTake 7 (Op.fieldAddr 151 (Operand.tmp 12) 1) (some 13) (.pointer (some ⟨m.g,1,none⟩)) (by kernel_rfl) (by kernel_rfl) (by kernel_rfl) (by kernel_rfl) (by kernel_rfl) (fun _ _ _ h=>h) (fun o ho wX hX=>by unfold execOp;simp only[ho];go_simp) hHeld ?_
 simp only[Act.put,List.setIfInBounds_toArray,List.set_cons_zero,List.set_cons_succ]
 refine hTake 8 (Op.load 149 (Operand.tmp 13)) (some 14) (.slice Ao d.opn.length co) (by kernel_rfl) (by kernel_rfl) (by kernel_rfl) (by kernel_rfl) (by kernel_rfl) (fun _ _ _ h=>h) (fun o ho wX hX=>by have hcell:=hX;unfold execOp;simp only[ho];go_simp) hHeld ?_
 simp only[Act.put,List.setIfInBounds_toArray,List.set_cons_zero,List.set_cons_succ]
 refine hMove 9 (Operand.tmp 1) (some 15) (.slice Ac cl.length cc) (by kernel_rfl) (by kernel_rfl) (by kernel_rfl) (by kernel_rfl) (by kernel_rfl) (fun _ _ _ h=>h) (by exact rfl) hHeld ?_
 simp only[Act.put,List.setIfInBounds_toArray,List.set_cons_zero,List.set_cons_succ]
 refine wpAnyH_ready (rs:=[4]) (by kernel_rfl) (by simp) ?_
 refine rStep 4 (Op.load 46 (Operand.tmp 9)) (some 10) (.slice As d.sec.length cs) w.drew (by kernel_rfl) (by kernel_rfl) (fun o ho=>by have hcell:=HC0.out;unfold execOp;simp only[ho];go_simp) HS0.out ?_ AllReadyH.nil
 simp only[Act.put,List.setIfInBounds_toArray,List.set_cons_zero,List.set_cons_succ]
 refine wpAnyH_ready (rs:=[10]) (by kernel_rfl) (by simp) ?_
 refine rCall 10 (Op.call { callee:=Callee.value (Operand.func 115),args:=#[Operand.tmp 10,Operand.tmp 14,Operand.tmp 15],argTypes:=#[46,149,69] }) (some 16) 115 #[.slice As d.sec.length cs,.slice Ao d.opn.length co,.slice Ac cl.length cc] (by kernel_rfl) (by kernel_rfl) (fun o ho=>by unfold execOp;simp only[ho];go_simp) ?_ AllReadyH.nil
 refine(HCR.out _ (Below.refl _ _).drew).mono ?_
 rintro e w4 ⟨v4,rfl,hown,hb4⟩
 have hbw:Below w.heap.size w w4:=(Below.refl w.heap.size w).drew.trans hb4
 obtain⟨A4,c4,hv4,_,_⟩:=own_snD hown
 subst hv4
 have hown:w4.ownsRow w.heap.size 243 64 (.slice A4 d.sec.length c4) (crashL d.sec d.opn cl).length ((crashL d.sec d.opn cl).flatMap u8s):=by rw[HLEN.out];exact hown
 obtain⟨hdk,hdt⟩:=H.out.withSec hbw hown HLEN.out HSEC.out
 obtain⟨hc0,hc1,hf0⟩:=HC.out w4 (hbw.block m.g hgl)
 refine⟨_,rfl,hc1,fun hH4=>?_⟩
 simp only[Act.put,List.setIfInBounds_toArray,List.set_cons_zero,List.set_cons_succ]
 refine hTake 11 (Op.nilCheck (Operand.tmp 6)) (some 17) (.pointer (some ⟨m.g,0,none⟩)) (by kernel_rfl) (by kernel_rfl) (by kernel_rfl) (by kernel_rfl) (by kernel_rfl) (fun _ _ _ h=>h) (fun o ho wX hX=>by unfold execOp;simp only[ho];go_simp) hH4 ?_
 simp only[Act.put,List.setIfInBounds_toArray,List.set_cons_zero,List.set_cons_succ]
 refine hTake 12 (Op.fieldAddr 151 (Operand.tmp 17) 0) (some 18) (.pointer (some ⟨m.g,0,none⟩)) (by kernel_rfl) (by kernel_rfl) (by kernel_rfl) (by kernel_rfl) (by kernel_rfl) (fun _ _ _ h=>h) (fun o ho wX hX=>by unfold execOp;simp only[ho];go_simp) hH4 ?_
 simp only[Act.put,List.setIfInBounds_toArray,List.set_cons_zero,List.set_cons_succ]
 refine wpAnyH_ready (rs:=[13]) (by kernel_rfl) (by simp) ?_
 refine rSkipR 13 (Op.store 46 (Operand.tmp 18) (Operand.tmp 16)) none (w4.setCell ⟨m.g,0,none⟩ (.slice A4 d.sec.length c4)) (by kernel_rfl) (by kernel_rfl) (fun o ho=>by unfold execOp;simp only[ho];go_simp) (by simp[go_sem,hc1,World.cell?_setCell_other]) ?_ AllReadyH.nil
 simp only[Act.put,List.setIfInBounds_toArray,List.set_cons_zero,List.set_cons_succ]
 refine wpAnyH_done (by kernel_rfl) ?_ _
 have HDK:=Lib.hid hdk
 have HDT:=Lib.hid hdt
 clear hown hb4 hbw hdk hdt hc0 hc1 hf0 hH4
 obtain⟨w5,hw5⟩:∃ w5,w5=w4.setCell ⟨m.g,0,none⟩ (.slice A4 d.sec.length c4):=⟨_,rfl⟩
 rw[← hw5] at HDK HDT ⊢
 clear hw5
 have HCLR:=Lib.hid (disk_clear w5 _ _ HDK.out)
 go_wp2_with (go_at_call 116;refine HCLR.mono ?_;rintro e w6 ⟨rfl,hdk6,hdt6⟩;have HDK6:=Lib.hid (hdk6.down true);have HDT6:=Lib.hid hdt6;have hc3:=hdk6.blk.cell 3;have hf3:=hdk6.blk.frozen 3;simp only[diskC,List.getElem?_toArray,List.getElem?_cons_succ,List.getElem?_cons_zero] at hc3;have hc3:w6.cell? ⟨m.g,3,none⟩=some (.bool d.down):=hc3;have hf3:w6.frozen? ⟨m.g,3,none⟩=false:=hf3;clear hdk6 hdt6)
 exact bodyPost_end (results_none rfl _ _ _) rfl ⟨rfl,_,HDK6.out.1,HDT.trans (HDT6.trans HDK6.out.2)⟩
def addIf(d:DiskD)(a:Int)(s:List Int):DiskD:=if hasB d a then addD d a s else d
def writeD(d:DiskD)(a:Int)(s:List Int):DiskD:=
 if d.down then d else if outS d=2 then crashD (addIf (stepped d) a s) (cutsS d) else if outS d=1 then stepped d else addIf (stepped d) a s
def writeE(d:DiskD)(a:Int):Value:=
 if d.down then codeV 12 else if outS d=2 then codeV 12 else if outS d=1 then codeV 11 else if hasB d a then .nilIface else faultV 15 a
theorem outS_cases(d:DiskD):outS d=2∨outS d=1∨outS d=0:=by
 unfold outS
 cases (d.cr ((d.steps+1:Nat):Int)).isSome <;> cases d.fl ((d.steps+1:Nat):Int) <;> simp
theorem hasB_stepped(d:DiskD)(a:Int):hasB (stepped d) a=hasB d a:=rfl
theorem addIf_room(d:DiskD)(a:Int)(s:List Int):(addIf d a s).room≤d.room+1:=by unfold addIf;split <;> simp[addD]
theorem cutsS_len{d:DiskD}(h:DOk d):(cutsS d).length≤1000000:=by
 unfold cutsS
 cases hc:d.cr ((d.steps+1:Nat):Int) with
 | none=>simp
 | some cs=>exact h.cl _ cs hc
theorem DT.off{w w':World}{m m':DiskM}(h:DT w m w' m'){b:Nat}(hb:b<w.heap.size)(hn:b ∉ foot m):w'.heap[b]? = w.heap[b]?:=h.fo.block b hb hn
theorem DK.notFoot{w:World}{m:DiskM}{d:DiskD}(h:DK w m d){b:Nat}(hb:w.heap.size≤b):b ∉ foot m:=fun hm=>by have:=h.foot_lt b hm;omega
theorem disk_write(a:Int)(s:List Int)(w:World)(m:DiskM)(d:DiskD)(h:DK w m d)(ha:isI64 a)(hs:Sec s)(hr:d.room+2≤100000):
  Calls Tryz.prog 264 #[.pointer (some ⟨m.g,0,none⟩),.int .i64 a,.agg (u8s s).toArray] w fun e w'=>e = .returned (writeE d a)∧∃ m',DK w' m' (writeD d a s)∧DT w m w' m':=by
 have hgl:=h.blk.lt
 have H:=Lib.hid h
 have hB0:Below w.heap.size w (w.alloc (.cells (u8s s).toArray 243)):=(Below.refl _ _).alloc (Nat.le_refl _) _
 have HB0:=Lib.hid hB0
 have hc3:(w.alloc (.cells (u8s s).toArray 243)).cell? ⟨m.g,3,none⟩=some (.bool d.down):=(h.keep hB0).blk.cell 3
 have hst:=h.ok.st
 have HK0:=Lib.hid (h.keep hB0)
 have HBX0:Hid (Blk (w.alloc (.cells (u8s s).toArray 243)) w.heap.size 243 (u8s s).toArray):=Lib.hid (Blk.new w _ _)
 have HSS:=Lib.hid hs
 have HAA:=Lib.hid ha
 have HUI:Hid ((Tryz.prog.info? 243).map (·.size)=some (u8s s).length):=Lib.hid (by rw[sec_length hs];kernel_rfl)
 clear h hB0 hs ha
 cases hd:d.down with
 | true=>
  rw[hd] at hc3
  have HF:Hid (writeE d a=codeV 12∧writeD d a s=d):=Lib.hid (by unfold writeE writeD;rw[hd];exact⟨rfl,rfl⟩)
  clear hd
  go_enter Tryz.func264,Tryz.ntmps264
  go_wp2_with fail
  go_ret
  exact⟨by rw[HF.out.1];rfl,m,by rw[HF.out.2];exact HK0.out,DT.of_below HB0.out⟩
 | false=>
  rw[hd] at hc3
  obtain⟨w0,hw0⟩:∃ w0,w0=w.alloc (.cells (u8s s).toArray 243):=⟨_,rfl⟩
  have HW0:Hid (w.alloc (.cells (u8s s).toArray 243)=w0):=Lib.hid hw0.symm
  have HSTP:=Lib.hid (disk_step _ m d HK0.out (by omega))
  have HNB:Hid (w.heap.size ∉ foot m):=Lib.hid (H.out.notFoot (Nat.le_refl _))
  have hsz:w.heap.size<(w.alloc (.cells (u8s s).toArray 243)).heap.size:=by simp
  have HSZ:=Lib.hid hsz
  clear hsz
  have HCL:=Lib.hid (cutsS_len H.out.ok)
  clear hw0
  have HSTEP:Hid (Calls Tryz.prog 260 #[.pointer (some ⟨m.g,0,none⟩)] (w.alloc (.cells (u8s s).toArray 243)) fun e w'=>∃ A c,e = .returned (.tuple #[.int .i64 (outS d),.slice A (cutsS d).length c])∧Sn w' 1 (.slice A (cutsS d).length c) (cutsS d).length (i64s (cutsS d))∧(∀ b,(Value.slice A (cutsS d).length c).ownBlock=some b→b ∉ foot m∧b<w'.heap.size)∧DK w' (stepM m d) (stepped d)∧DT w m w' (stepM m d)∧Blk w' w.heap.size 243 (u8s s).toArray):=Lib.hid (HSTP.mono (by
   rintro e w' ⟨v,rfl,h1,h2,h3,h4⟩
   obtain⟨A,c,rfl,_⟩:=id h1
   exact⟨A,c,rfl,h1,h2,h3,(DT.of_below HB0.out).trans h4,(h4.off HSZ.out HNB.out).trans HBX0.out⟩))
  clear HSTP HW0
  have hro:(stepped d).room≤d.room+1:=by show max d.room (d.steps+1)≤d.room+1;omega
  have HADD:=Lib.hid (fun(w1:World) (hk:DK w1 (stepM m d) (stepped d))=>disk_add a s w1 (stepM m d) (stepped d) hk HAA.out HSS.out (by omega))
  rw[hasB_stepped] at HADD
  rcases outS_cases d with ho|ho|ho
  ·have HF:Hid (writeE d a=codeV 12∧writeD d a s=crashD (addIf (stepped d) a s) (cutsS d)):=Lib.hid (by unfold writeE writeD;rw[hd,ho];exact⟨rfl,rfl⟩)
   rw[ho] at HSTEP
   have HAI:Hid ((if hasB d a then addD (stepped d) a s else stepped d)=addIf (stepped d) a s):=Lib.hid (by unfold addIf;rw[hasB_stepped])
   rw[HAI.out] at HADD
   clear hd ho
   obtain⟨cl,hcl⟩:∃ cl,cl=cutsS d:=⟨_,rfl⟩
   rw[← hcl] at HSTEP HF HCL
   clear hcl HAI
   go_enter Tryz.func264,Tryz.ntmps264
   go_wp2_with (first
    | (go_at_call 260;refine HSTEP.mono ?_;rintro e w1 ⟨A,c,rfl,h1,h2,h3,h4,h5⟩;have H1:=Lib.hid h1;have H2:=Lib.hid h2;have H3:=Lib.hid h3;have H4:=Lib.hid h4;have HRG:Hid (w1.rangeAt w.heap.size 0 (u8s s)):=Lib.hid (by have h:=h5.range;rw[List.toList_toArray] at h;exact h);clear h1 h2 h3 h4 h5)
    | (refine ld 243 _ rfl rfl rfl HRG.out Tryz.underlying243 rfl HUI.out ?_)
    | (go_at_call 312;refine(HADD.out w1 H3.out).mono ?_;rintro e w2 ⟨rfl,m2,h6,h7⟩;have H6:=Lib.hid h6;have H7:=Lib.hid h7;have H8:=Lib.hid (h7.fo.sn H1.out (fun b hb=>(H2.out b hb).1));have hg2:m2.g=m.g:=h7.g;have HG2:=Lib.hid hg2;clear h6 h7 hg2)
    | (go_at_call 75;rw[← HG2.out];refine(disk_crash cl A c w2 m2 _ H6.out H8.out HCL.out).mono ?_;rintro e w3 ⟨rfl,m3,h9,h10⟩;have H9:=Lib.hid h9;have H10:=Lib.hid h10;clear h9 h10))
   go_ret
   exact⟨by rw[HF.out.1];rfl,m3,by rw[HF.out.2];exact H9.out,H4.out.trans (H7.out.trans H10.out)⟩
  ·have HF:Hid (writeE d a=codeV 11∧writeD d a s=stepped d):=Lib.hid (by unfold writeE writeD;rw[hd,ho];exact⟨rfl,rfl⟩)
   rw[ho] at HSTEP
   clear hd ho
   go_enter Tryz.func264,Tryz.ntmps264
   go_wp2_with (go_at_call 260;refine HSTEP.mono ?_;rintro e w1 ⟨A,c,rfl,h1,h2,h3,h4,h5⟩;have H3:=Lib.hid h3;have H4:=Lib.hid h4;clear h1 h2 h3 h4 h5)
   go_ret
   exact⟨by rw[HF.out.1];rfl,_,by rw[HF.out.2];exact H3.out,H4.out⟩
  ·rw[ho] at HSTEP
   have HFN:=Lib.hid (fun w1=>fault_new15 a w1)
   cases hh:hasB d a with
   | true=>
    have HF:Hid (writeE d a = .nilIface∧writeD d a s=addD (stepped d) a s):=Lib.hid (by unfold writeE writeD addIf;rw[hd,ho,hasB_stepped,hh];exact⟨rfl,rfl⟩)
    rw[hh] at HADD
    have HADD:Hid (∀ w1,DK w1 (stepM m d) (stepped d)→Calls Tryz.prog 312 #[.pointer (some ⟨(stepM m d).g,0,none⟩),.int .i64 a,.agg (u8s s).toArray] w1 fun e w'=>e = .returned (.bool true)∧∃ m',DK w' m' (addD (stepped d) a s)∧DT w1 (stepM m d) w' m'):=HADD
    clear hd ho hh
    go_enter Tryz.func264,Tryz.ntmps264
    go_wp2_with (first
     | (go_at_call 260;refine HSTEP.mono ?_;rintro e w1 ⟨A,c,rfl,h1,h2,h3,h4,h5⟩;have H3:=Lib.hid h3;have H4:=Lib.hid h4;have HRG:Hid (w1.rangeAt w.heap.size 0 (u8s s)):=Lib.hid (by have h:=h5.range;rw[List.toList_toArray] at h;exact h);clear h1 h2 h3 h4 h5)
     | (refine ld 243 _ rfl rfl rfl HRG.out Tryz.underlying243 rfl HUI.out ?_)
     | (go_at_call 312;refine(HADD.out w1 H3.out).mono ?_;rintro e w2 ⟨rfl,m2,h6,h7⟩;have H6:=Lib.hid h6;have H7:=Lib.hid h7;clear h6 h7))
    go_ret
    exact⟨by rw[HF.out.1];rfl,m2,by rw[HF.out.2];exact H6.out,H4.out.trans H7.out⟩
   | false=>
    have HF:Hid (writeE d a=faultV 15 a∧writeD d a s=stepped d):=Lib.hid (by unfold writeE writeD addIf;rw[hd,ho,hasB_stepped,hh];exact⟨rfl,rfl⟩)
    rw[hh] at HADD
    have HADD:Hid (∀ w1,DK w1 (stepM m d) (stepped d)→Calls Tryz.prog 312 #[.pointer (some ⟨(stepM m d).g,0,none⟩),.int .i64 a,.agg (u8s s).toArray] w1 fun e w'=>e = .returned (.bool false)∧∃ m',DK w' m' (stepped d)∧DT w1 (stepM m d) w' m'):=HADD
    clear hd ho hh
    go_enter Tryz.func264,Tryz.ntmps264
    go_wp2_with (first
     | (go_at_call 260;refine HSTEP.mono ?_;rintro e w1 ⟨A,c,rfl,h1,h2,h3,h4,h5⟩;have H3:=Lib.hid h3;have H4:=Lib.hid h4;have HRG:Hid (w1.rangeAt w.heap.size 0 (u8s s)):=Lib.hid (by have h:=h5.range;rw[List.toList_toArray] at h;exact h);clear h1 h2 h3 h4 h5)
     | (refine ld 243 _ rfl rfl rfl HRG.out Tryz.underlying243 rfl HUI.out ?_)
     | (go_at_call 312;refine(HADD.out w1 H3.out).mono ?_;rintro e w2 ⟨rfl,m2,h6,h7⟩;have H6:=Lib.hid h6;have H7:=Lib.hid h7;clear h6 h7)
     | (go_at_call 38;refine(HFN.out _).mono ?_;rintro e w3 ⟨rfl,hw3⟩;rw[hw3];clear hw3))
    go_ret
    exact⟨by rw[HF.out.1];rfl,m2,by rw[HF.out.2];exact H6.out,H4.out.trans H7.out⟩
def syncN(r:List (List Int))(l:List (Int×List Int)):Nat→List (List Int)
 | 0=>r
 | j+1=>(syncN r l j).set (l.getD j (0,[])).1.toNat (l.getD j (0,[])).2
theorem syncN_len(r:List (List Int))(l:List (Int×List Int)):∀ j,(syncN r l j).length=r.length
 | 0=>rfl
 | j+1=>by unfold syncN;rw[List.length_set,syncN_len r l j]
def syncD(d:DiskD):DiskD:={ d with sec:=syncN d.sec d.opn d.opn.length,opn:=[] }
def syncS(d:DiskD):DiskD:=if d.down then d else if outS d=2 then crashD (stepped d) (cutsS d) else if outS d=1 then stepped d else syncD (stepped d)
def syncE(d:DiskD):Value:=if d.down then codeV 12 else if outS d=2 then codeV 12 else if outS d=1 then codeV 11 else .nilIface
def SBG(g gs n cs b:Nat)(p:Int×List Int)(w:World):Prop:=w.rangeAt b 0 (wrC p)∧w.cell? ⟨g,0,none⟩=some (.slice (some ⟨gs,0,none⟩) n cs)
theorem DK.setSec{w:World}{m:DiskM}{d:DiskD}(h:DK w m d){gs cap:Nat}(hv:m.sv = .slice (some ⟨gs,0,none⟩) d.sec.length cap)(k:Nat)(hk:k<d.sec.length)(s:List Int)(hs:Sec s):
  DK (w.setCells gs (k*64) (u8s s)) m (secD d (d.sec.set k s))∧DT w m (w.setCells gs (k*64) (u8s s)) m∧w.there gs (k*64) (u8s s).length:=by
 have hn:=foot_nd h.nd
 have hsv:m.sv.ownBlock=some gs:=by rw[hv];rfl
 have hg:=hn.2.2.2.2.2.2.1 gs hsv
 have hown:=h.sec
 rw[hv] at hown
 obtain⟨q1,q2,_⟩:=own_set u8s Sec 64 (fun r h=>sec_length h) hown h.ok.sec k hk s hs
 rw[List.length_set] at q1
 have ho:∀ b,b≠gs→(w.setCells gs (k*64) (u8s s)).heap[b]? = w.heap[b]?:=fun b hb=>setCells_other hb _ _ _
 have hsz:=(setCells_below (b:=gs) (B:=0) (Nat.zero_le _) (u8s s) (k*64) w).2
 have hb0:=(setCells_below (b:=gs) (B:=0) (Nat.zero_le _) (u8s s) (k*64) w).1
 refine⟨h.re rfl [gs] (fun b hb=>by rw[List.mem_singleton] at hb;rw[hb];exact foot_sv hsv) (fun b _ hb=>ho b (by simpa using hb)) (by omega) ((ho m.g (fun e=>hg.1 e.symm)).trans h.blk) ?_ (own_blk h.opn fun b hx=>ho b (fun e=>hn.2.2.2.2.2.2.2.2 gs hsv (e ▸ hx))) (h.last.of_block (ho _ (fun e=>hg.2.1 e.symm))) (h.fl.of_block (ho _ (fun e=>hg.2.2.1 e.symm))) (h.cr.of_block (ho _ (fun e=>hg.2.2.2 e.symm))) h.nd (fun b hb=>.inl hb) h.flv (fun k hk=>.inr ⟨rfl,rfl⟩) ⟨fun x hx=>?_,fun p hp=>?_,?_,h.ok.lo,h.ok.st,h.ok.rm,h.ok.cl⟩,⟨rfl,⟨hb0.os,hb0.tape,hb0.output,by omega,fun b _ hn=>ho b (fun e=>hn (by rw[e];exact foot_sv hsv))⟩,fun b hb=>.inl hb,fun _ _ h=>.inl h⟩,q2⟩
 ·show(w.setCells gs (k*64) (u8s s)).ownsRow 0 _ 64 m.sv (d.sec.set k s).length ((d.sec.set k s).flatMap u8s)
  rw[hv,List.length_set]
  exact q1
 ·have hx:x∈d.sec.set k s:=hx
  rcases List.mem_or_eq_of_mem_set hx with h1|h1
  ·exact h.ok.sec x h1
  ·rw[h1];exact hs
 ·have h1:=h.ok.opn p hp
  exact⟨h1.1,by show p.1<((d.sec.set k s).length:Int);rw[List.length_set];exact h1.2.1,h1.2.2⟩
 ·show(d.sec.set k s).length≤4096
  rw[List.length_set];exact h.ok.few
theorem disk_sync(w:World)(m:DiskM)(d:DiskD)(h:DK w m d)(hr:d.room+1≤100000):
  Calls Tryz.prog 201 #[.pointer (some ⟨m.g,0,none⟩)] w fun e w'=>e = .returned (syncE d)∧∃ m',DK w' m' (syncS d)∧DT w m w' m':=by
 have hgl:=h.blk.lt
 have H:=Lib.hid h
 have hc3:w.cell? ⟨m.g,3,none⟩=some (.bool d.down):=h.blk.cell 3
 have hst:=h.ok.st
 clear h
 cases hd:d.down with
 | true=>
  rw[hd] at hc3
  have HF:Hid (syncE d=codeV 12∧syncS d=d):=Lib.hid (by unfold syncE syncS;rw[hd];exact⟨rfl,rfl⟩)
  clear hd
  go_enter Tryz.func201,Tryz.ntmps201
  go_wp2_with fail
  go_ret
  exact⟨by rw[HF.out.1];rfl,m,by rw[HF.out.2];exact H.out,DT.refl⟩
 | false=>
  rw[hd] at hc3
  have HSTP:=Lib.hid (disk_step _ m d H.out (by omega))
  have HCL:=Lib.hid (cutsS_len H.out.ok)
  have HSTEP:Hid (Calls Tryz.prog 260 #[.pointer (some ⟨m.g,0,none⟩)] w fun e w'=>∃ A c,e = .returned (.tuple #[.int .i64 (outS d),.slice A (cutsS d).length c])∧Sn w' 1 (.slice A (cutsS d).length c) (cutsS d).length (i64s (cutsS d))∧DK w' (stepM m d) (stepped d)∧DT w m w' (stepM m d)):=Lib.hid (HSTP.mono (by
   rintro e w' ⟨v,rfl,h1,h2,h3,h4⟩
   obtain⟨A,c,rfl,_⟩:=id h1
   exact⟨A,c,rfl,h1,h3,h4⟩))
  clear HSTP
  rcases outS_cases d with ho|ho|ho
  ·have HF:Hid (syncE d=codeV 12∧syncS d=crashD (stepped d) (cutsS d)):=Lib.hid (by unfold syncE syncS;rw[hd,ho];exact⟨rfl,rfl⟩)
   rw[ho] at HSTEP
   clear hd ho
   obtain⟨cl,hcl⟩:∃ cl,cl=cutsS d:=⟨_,rfl⟩
   rw[← hcl] at HSTEP HF HCL
   clear hcl
   go_enter Tryz.func201,Tryz.ntmps201
   go_wp2_with (first
    | (go_at_call 260;refine HSTEP.mono ?_;rintro e w1 ⟨A,c,rfl,h1,h3,h4⟩;have H1:=Lib.hid h1;have H3:=Lib.hid h3;have H4:=Lib.hid h4;clear h1 h3 h4)
    | (go_at_call 75;refine(disk_crash cl A c w1 (stepM m d) _ H3.out H1.out HCL.out).mono ?_;rintro e w3 ⟨rfl,m3,h9,h10⟩;have H9:=Lib.hid h9;have H10:=Lib.hid h10;clear h9 h10))
   go_ret
   exact⟨by rw[HF.out.1];rfl,m3,by rw[HF.out.2];exact H9.out,H4.out.trans H10.out⟩
  ·have HF:Hid (syncE d=codeV 11∧syncS d=stepped d):=Lib.hid (by unfold syncE syncS;rw[hd,ho];exact⟨rfl,rfl⟩)
   rw[ho] at HSTEP
   clear hd ho
   go_enter Tryz.func201,Tryz.ntmps201
   go_wp2_with (go_at_call 260;refine HSTEP.mono ?_;rintro e w1 ⟨A,c,rfl,h1,h3,h4⟩;have H3:=Lib.hid h3;have H4:=Lib.hid h4;clear h1 h3 h4)
   go_ret
   exact⟨by rw[HF.out.1];rfl,_,by rw[HF.out.2];exact H3.out,H4.out⟩
  ·have HF:Hid (syncE d = .nilIface∧syncS d=syncD (stepped d)):=Lib.hid (by unfold syncE syncS;rw[hd,ho];exact⟨rfl,rfl⟩)
   rw[ho] at HSTEP
   clear hd ho
   go_enter Tryz.func201,Tryz.ntmps201
   go_upto_region 10 with (go_at_call 260;refine HSTEP.mono ?_;rintro e w1 ⟨A,c,rfl,h1,h3,h4⟩;have H3:=Lib.hid h3;have H4:=Lib.hid h4;clear h1 h3 h4)
   obtain⟨d1,hd1⟩:∃ d1,d1=stepped d:=⟨_,rfl⟩
   obtain⟨m1,hm1⟩:∃ m1,m1=stepM m d:=⟨_,rfl⟩
   rw[← hd1] at H3 HF
   rw[← hm1] at H3 H4
   have hmg:m1.g=m.g:=by rw[hm1];rfl
   have HMG:=Lib.hid hmg
   obtain⟨Ao,co,hov,_⟩:=Sn.own H3.out.opn
   obtain⟨As,cs,hsv,_⟩:=Sn.own H3.out.sec
   have HOV:=Lib.hid hov
   have HSV:=Lib.hid hsv
   have hc1:w1.cell? ⟨m.g,1,none⟩=some (.slice Ao d1.opn.length co):=by rw[← hov,← hmg];exact H3.out.blk.cell 1
   have hol:d1.opn.length≤100000:=Nat.le_trans H3.out.ok.lo H3.out.ok.rm
   have hsl:d1.sec.length≤4096:=H3.out.ok.few
   have HD1:Hid (DK w1 m1 (secD d1 (syncN d1.sec d1.opn 0))):=Lib.hid H3.out
   have HOP:=Lib.hid H3.out.ok.opn
   clear hd1 hm1 hmg hov hsv hc3
   go_wp2_with fail
   clear hc1
   go_loopw [36] (fun i wr=>∃ j:Nat,j≤d1.opn.length∧i = .int .i64 (j:Int)∧Hid (DK wr m1 (secD d1 (syncN d1.sec d1.opn j)))∧Hid (DT w m wr m1)) (fun i _=>d1.opn.length-(intOf i).toNat)
   case atStart=>exact⟨0,Nat.zero_le _,rfl,HD1,H4⟩
   case round=>
    obtain⟨j,hj,rfl,HR,HT⟩:=hrel
    rcases Nat.lt_or_ge j d1.opn.length with hlt|hge
    ·have hon:=Sn.own HR.opn
     have hon:Sn wr 65 m1.ov d1.opn.length (d1.opn.flatMap wrC):=hon
     rw[HOV.out] at hon
     obtain⟨b1,o1,rfl,hr1⟩:=at_wr hon (fun p hp=>(HOP.out p hp).2.2) j hlt
     have hp:=HOP.out _ (List.getElem_mem hlt)
     have htl:=syncN_len d1.sec d1.opn j
     have HTJ:Hid (syncN d1.sec d1.opn (j+1)=(syncN d1.sec d1.opn j).set d1.opn[j].1.toNat d1.opn[j].2):=Lib.hid (by
      show(syncN d1.sec d1.opn j).set (d1.opn.getD j (0,[])).1.toNat _=_
      rw[show d1.opn.getD j (0,[])=d1.opn[j] by simp[List.getD_eq_getElem?_getD,hlt]])
     obtain⟨L,hL⟩:∃ L,L=syncN d1.sec d1.opn j:=⟨_,rfl⟩
     obtain⟨⟨a,dat⟩,hpe⟩:∃ p,p=d1.opn[j]:=⟨_,rfl⟩
     rw[← hpe] at hr1 hp HTJ
     rw[← hL] at HTJ htl HR
     clear hpe hL hon
     obtain⟨k,rfl⟩:=Int.eq_ofNat_of_zero_le hp.1
     have hkl:k<L.length:=by have:=hp.2.1;simp only at this;omega
     have hka:(k:Int)<(d1.sec.length:Int):=hp.2.1
     obtain⟨gs,hgs⟩:∃ gs,As=some ⟨gs,0,none⟩:=by
      rcases H3.out.sec.2 with ⟨_,h⟩|⟨g,cp,cur,hv,_⟩
      ·omega
      ·rw[HSV.out] at hv;injection hv with e1 _ _;exact⟨g,e1⟩
     subst hgs
     have HDS:Hid (Sec dat):=Lib.hid hp.2.2
     have HTJ:Hid (syncN d1.sec d1.opn (j+1)=L.set k dat):=HTJ
     clear hp
     have HRW:=Lib.hid hr1
     clear hr1
     have hWL:=wrC_length (p:=((k:Int),dat)) HDS.out
     have HUW:Hid ((Tryz.prog.info? 363).map (·.size)=some (wrC ((k:Int),dat)).length):=Lib.hid (by rw[hWL];kernel_rfl)
     have HUV:Hid ((Tryz.prog.info? 363).map (·.size)=some (wrC ((k:Int),dat)).toArray.size∧(wrC (0,List.replicate 64 0)).toArray.size=(wrC ((k:Int),dat)).toArray.size∧(wrC ((k:Int),dat)).toArray.all (·.oneCell')=true):=Lib.hid ⟨by rw[List.size_toArray,hWL];kernel_rfl,by rw[List.size_toArray,List.size_toArray,hWL];rfl,all_oneCell_toArray (wrC_one _)⟩
     clear hWL
     have HUD:Hid ((Tryz.prog.info? 243).map (·.size)=some (u8s dat).length):=Lib.hid (by rw[sec_length HDS.out];kernel_rfl)
     have hj0:(0:Int)≤j:=by omega
     have hj1:(j:Int)<d1.opn.length:=by omega
     have hk0:(0:Int)≤k:=by omega
     go_upto_region 13 with (first
      | (refine ld 363 _ rfl rfl rfl HRW.out Tryz.underlying363 rfl HUW.out ?_)
      | (refine al 363 _ rfl rfl zeroWr ?_)
      | (refine stNew 363 (.tmp 6) (.tmp 39) rfl rfl (by rfl) (by rfl) HUV.out.1 HUV.out.2.1 HUV.out.2.2 ?_;intro w2 hK hb2 hz2;have HK2:=Lib.hid (show Blk w2 wr.heap.size 363 (wrC ((k:Int),dat)).toArray from hK);have HB2:=Lib.hid hb2;clear hK hb2 hz2))
     have HBR:Hid (w2.rangeAt wr.heap.size 0 (wrC ((k:Int),dat))):=Lib.hid (by have h:=HK2.range;rw[List.toList_toArray] at h;exact h)
     have HDK2:Hid (DK w2.drew m1 (secD d1 L)):=Lib.hid (HR.keep HB2.out).drew
     have HC0:Hid (w2.drew.cell? ⟨m.g,0,none⟩=some (.slice (some ⟨gs,0,none⟩) d1.sec.length cs)):=Lib.hid (by rw[← HSV.out,← HMG.out];exact HDK2.blk.cell 0)
     have HSV2:Hid (m1.sv = .slice (some ⟨gs,0,none⟩) (secD d1 L).sec.length cs):=Lib.hid (by rw[HSV.out];show _=Value.slice _ L.length cs;rw[htl])
     obtain⟨hdk3,hdt3,hth⟩:=HDK2.setSec HSV2.out k hkl dat HDS.out
     have HDK3:Hid (DK (w2.drew.setCells gs (k*64) (u8s dat)) m1 (secD d1 (syncN d1.sec d1.opn (j+1)))):=Lib.hid (by rw[HTJ.out];exact hdk3)
     have HDT3:Hid (DT w m (w2.drew.setCells gs (k*64) (u8s dat)) m1):=Lib.hid (HT.trans ((DT.of_below (HB2.drew)).trans hdt3))
     have HTH:=Lib.hid hth
     have hne:gs≠wr.heap.size:=fun e=>by
      have h1:=HR.foot_lt gs (foot_sv (by rw[HSV.out];rfl))
      omega
     have HS0:Hid (SBG m.g gs d1.sec.length cs wr.heap.size ((k:Int),dat) w2.drew):=Lib.hid ⟨HBR.out,HC0.out⟩
     have HS1:Hid (SBG m.g gs d1.sec.length cs wr.heap.size ((k:Int),dat) (w2.drew.setCells gs (k*64) (u8s dat))):=Lib.hid ⟨fun i u hi=>(World.cell?_of_block (a:=⟨wr.heap.size,0+i,none⟩) (setCells_other (fun e=>hne e.symm) _ _ _)).trans (HBR.out i u hi),by rw[← HSV.out,← HMG.out];exact HDK3.blk.cell 0⟩
     have HIX:Hid (∀ w4,SBG m.g gs d1.sec.length cs wr.heap.size ((k:Int),dat) w4→w4.cell? ⟨wr.heap.size,0,none⟩=some (.int .i64 (k:Int))∧w4.rangeAt wr.heap.size 1 (u8s dat)∧w4.cell? ⟨m.g,0,none⟩=some (.slice (some ⟨gs,0,none⟩) d1.sec.length cs)):=Lib.hid (fun w4 h=>⟨h.1 0 _ rfl,fun i u hi=>by have:=h.1 (i+1) u hi;rw[show 1+i=0+(i+1) by omega];exact this,h.2⟩)
     clear hdk3 hdt3 hth
     refine held_start 10 (SBG m.g gs d1.sec.length cs wr.heap.size ((k:Int),dat)) (by kernel_rfl) (by kernel_rfl) (HS0.out) (fun hHeld=>?_)
     refine hMove 0 (Operand.tmp 0) (some 40) (.pointer (some ⟨m.g,0,none⟩)) (by kernel_rfl) (by kernel_rfl) (by kernel_rfl) (by kernel_rfl) (by kernel_rfl) (fun _ _ _ h=>h) (by exact rfl) hHeld ?_
     simp only[Act.put,List.setIfInBounds_toArray,List.set_cons_zero,List.set_cons_succ]
     refine hTake 1 (Op.nilCheck (Operand.tmp 40)) (some 41) (.pointer (some ⟨m.g,0,none⟩)) (by kernel_rfl) (by kernel_rfl) (by kernel_rfl) (by kernel_rfl) (by kernel_rfl) (fun _ _ _ h=>h) (fun o ho wX hX=>by unfold execOp;simp only[ho];go_simp) hHeld ?_
     simp only[Act.put,List.setIfInBounds_toArray,List.set_cons_zero,List.set_cons_succ]
     refine hTake 2 (Op.fieldAddr 151 (Operand.tmp 41) 0) (some 42) (.pointer (some ⟨m.g,0,none⟩)) (by kernel_rfl) (by kernel_rfl) (by kernel_rfl) (by kernel_rfl) (by kernel_rfl) (fun _ _ _ h=>h) (fun o ho wX hX=>by unfold execOp;simp only[ho];go_simp) hHeld ?_
     simp only[Act.put,List.setIfInBounds_toArray,List.set_cons_zero,List.set_cons_succ]
     refine hTake 3 (Op.load 46 (Operand.tmp 42)) (some 43) (.slice (some ⟨gs,0,none⟩) d1.sec.length cs) (by kernel_rfl) (by kernel_rfl) (by kernel_rfl) (by kernel_rfl) (by kernel_rfl) (fun _ _ _ h=>h) (fun o ho wX hX=>by have hcell:=(HIX.out wX hX).2.2;unfold execOp;simp only[ho];go_simp) hHeld ?_
     simp only[Act.put,List.setIfInBounds_toArray,List.set_cons_zero,List.set_cons_succ]
     refine hTake 4 (Op.fieldAddr 363 (Operand.tmp 6) 0) (some 44) (.pointer (some ⟨wr.heap.size,0,none⟩)) (by kernel_rfl) (by kernel_rfl) (by kernel_rfl) (by kernel_rfl) (by kernel_rfl) (fun _ _ _ h=>h) (fun o ho wX hX=>by unfold execOp;simp only[ho];go_simp) hHeld ?_
     simp only[Act.put,List.setIfInBounds_toArray,List.set_cons_zero,List.set_cons_succ]
     refine hTake 5 (Op.load 3 (Operand.tmp 44)) (some 45) (.int .i64 (k:Int)) (by kernel_rfl) (by kernel_rfl) (by kernel_rfl) (by kernel_rfl) (by kernel_rfl) (fun _ _ _ h=>h) (fun o ho wX hX=>by have hcell:=(HIX.out wX hX).1;unfold execOp;simp only[ho];go_simp) hHeld ?_
     simp only[Act.put,List.setIfInBounds_toArray,List.set_cons_zero,List.set_cons_succ]
     refine hTake 6 (Op.fieldAddr 363 (Operand.tmp 6) 1) (some 46) (.pointer (some ⟨wr.heap.size,1,none⟩)) (by kernel_rfl) (by kernel_rfl) (by kernel_rfl) (by kernel_rfl) (by kernel_rfl) (fun _ _ _ h=>h) (fun o ho wX hX=>by unfold execOp;simp only[ho];go_simp) hHeld ?_
     simp only[Act.put,List.setIfInBounds_toArray,List.set_cons_zero,List.set_cons_succ]
     refine hLoad 7 243 (Operand.tmp 46) (some 47) (cs:=u8s dat) (by kernel_rfl) (by kernel_rfl) (by kernel_rfl) (by kernel_rfl) (by kernel_rfl) (fun _ _ _ h=>h) (by exact rfl) (fun _ hX=>(HIX.out _ hX).2.1) Tryz.underlying243 rfl HUD.out hHeld ?_
     simp only[Act.put,List.setIfInBounds_toArray,List.set_cons_zero,List.set_cons_succ]
     refine hTake 8 (Op.indexAddr 46 (Operand.tmp 43) (Operand.tmp 45)) (some 48) (.pointer (some ⟨gs,k*64,none⟩)) (by kernel_rfl) (by kernel_rfl) (by kernel_rfl) (by kernel_rfl) (by kernel_rfl) (fun _ _ _ h=>h) (fun o ho wX hX=>by unfold execOp;simp only[ho];go_simp) hHeld ?_
     simp only[Act.put,List.setIfInBounds_toArray,List.set_cons_zero,List.set_cons_succ]
     refine wpAnyH_ready (rs:=[9]) (by kernel_rfl) (by simp) ?_
     refine rStoreS 9 243 (.tmp 48) (.tmp 47) none (cs:=u8s dat) (by kernel_rfl) (by kernel_rfl) (by exact rfl) (by exact rfl) HTH.out HUD.out (u8s_mem _) HS1.out ?_ AllReadyH.nil
     simp only[Act.put,List.setIfInBounds_toArray,List.set_cons_zero,List.set_cons_succ]
     refine wpAnyH_done (by kernel_rfl) ?_ _
     clear hHeld
     go_wp2_with fail
     exact⟨⟨j+1,by omega,by go_num,HDK3,HDT3⟩,by simp[intOf];omega⟩
    ·obtain rfl:j=d1.opn.length:=by omega
     have t1:decide ((d1.opn.length:Int)<(d1.opn.length:Int))=false:=by simp
     have HCLR:=Lib.hid (disk_clear wr m1 _ HR.out)
     rw[HMG.out] at HCLR
     go_wp2_with (go_at_call 116;refine HCLR.mono ?_;rintro e w6 ⟨rfl,hdk6,hdt6⟩;have HDK6:=Lib.hid hdk6;have HDT6:=Lib.hid hdt6;clear hdk6 hdt6)
     go_ret
     exact⟨by rw[HF.out.1];rfl,_,by rw[HF.out.2];exact HDK6.out,HT.trans HDT6.out⟩
end Go.Proofs.YtiaigidbcljblaaGreatDoor
