import Derived.Test.YtiaigidbcljblaaGreatDoorME7
import Derived.Test.YtiaigidbcljblaaGreatDoorME1
import Derived.Deep.QuietTactic
import Derived.BigQuiet
set_option linter.unusedSimpArgs false
set_option maxRecDepth 100000
set_option maxHeartbeats 40000000
namespace Go.Proofs.YtiaigidbcljblaaGreatDoor
open Go.RowKit
attribute [local irreducible] wpQuiet wpAnyH
def stepped(d:DiskD):DiskD:={ d with steps:=d.steps+1,fl:=fun k=>if k=((d.steps+1:Nat):Int) then false else d.fl k,cr:=fun k=>if k=((d.steps+1:Nat):Int) then none else d.cr k,room:=max d.room (d.steps+1) }
def stepM(m:DiskM)(d:DiskD):DiskM:={ m with fv:=udel m.fv ((d.steps+1:Nat):Int),cv:=udel m.cv ((d.steps+1:Nat):Int) }
def outS(d:DiskD):Int:=if (d.cr ((d.steps+1:Nat):Int)).isSome then 2 else if d.fl ((d.steps+1:Nat):Int) then 1 else 0
def cutsS(d:DiskD):List Int:=(d.cr ((d.steps+1:Nat):Int)).getD []
theorem zbool:∀ w,(zeroValue 4).run Tryz.prog w = .ok (.bool false) w:=fun w=>by kernel_rfl
theorem zints:∀ w,(zeroValue 69).run Tryz.prog w = .ok (.slice none 0 0) w:=fun w=>by kernel_rfl
theorem disk_step(w:World)(m:DiskM)(d:DiskD)(h:DK w m d)(hs:d.steps+1≤100000):
  Calls Tryz.prog 260 #[.pointer (some ⟨m.g,0,none⟩)] w fun e w'=>∃ v,e = .returned (.tuple #[.int .i64 (outS d),v])∧Sn w' 1 v (cutsS d).length (i64s (cutsS d))∧(∀ b,v.ownBlock=some b→b ∉ foot m∧b<w'.heap.size)∧DK w' (stepM m d) (stepped d)∧DT w m w' (stepM m d):=by
 have H:=Lib.hid h
 have hgl:=h.blk.lt
 have hc4:=h.blk.cell 4
 have hf4:=h.blk.frozen 4
 simp only[diskC,List.getElem?_toArray,List.getElem?_cons_succ,List.getElem?_cons_zero] at hc4
 clear h
 obtain⟨s,hs1⟩:∃ s,s=d.steps:=⟨_,rfl⟩
 have hsb:s+1≤100000:=by omega
 rw[← hs1] at hc4
 have HS:=Lib.hid hs1
 have hk:isI64 ((s+1:Nat):Int):=by unfold isI64;omega
 obtain⟨w1,hw1⟩:∃ w1,w1=w.setCell ⟨m.g,4,none⟩ (.int .i64 ((s+1:Nat):Int)):=⟨_,rfl⟩
 have hB1:Blk w1 m.g 151 #[m.sv,m.ov,.map (some m.bl),.bool d.down,.int .i64 ((s+1:Nat):Int),.map (some m.bf),.map (some m.bc)]:=by rw[hw1];exact H.out.blk.set_ 4 _
 have HO1:Hid (∀ k,k≠m.g→w1.heap[k]? = w.heap[k]?):=Lib.hid (fun k hk=>by rw[hw1];exact Below.heap_setCell w ⟨m.g,4,none⟩ _ k hk)
 have HZ1:Hid (w1.heap.size=w.heap.size):=Lib.hid (by rw[hw1];simp)
 have HFO1:Hid (Fo (foot m) w w1):=Lib.hid (by rw[hw1];exact Fo.refl.set m.g 4 (foot_g m) _)
 have HN:=Lib.hid (foot_nd H.out.nd)
 have HUF:Hid (UM w1 m.bf d.room m.fv):=Lib.hid (H.out.fl.of_block (HO1.out _ (fun e=>HN.out.2.1 e.symm)))
 have HUC:Hid (UM w1 m.bc d.room m.cv):=Lib.hid (H.out.cr.of_block (HO1.out _ (fun e=>HN.out.2.2.1 e.symm)))
 have hflv:=H.out.flv ((s+1:Nat):Int) hk
 have HSB:=Lib.hid hB1
 have HK:Hid (∀ W:World,W.heap=w1.heap→(∀ n,(Instr.lookup 147 (.map (some m.bf)) (.int .i64 ((s+1:Nat):Int)) false).run Tryz.prog (W.drewN n) = .ok (.bool (d.fl ((s+1:Nat):Int))) (W.drewN n))∧(∀ n,(Instr.lookup 148 (.map (some m.bc)) (.int .i64 ((s+1:Nat):Int)) true).run Tryz.prog (W.drewN n) = .ok (.tuple #[(m.cv ((s+1:Nat):Int)).getD (.slice none 0 0),.bool (m.cv ((s+1:Nat):Int)).isSome]) (W.drewN n))∧W.cell? ⟨m.g,5,none⟩=some (.map (some m.bf))∧W.cell? ⟨m.g,6,none⟩=some (.map (some m.bc))∧W.cell? ⟨m.g,4,none⟩=some (.int .i64 ((s+1:Nat):Int))):=Lib.hid (fun W hW=>by
  have hB:Blk W m.g 151 _:=(congrArg (fun h:Array _=>h[m.g]?) hW).trans HSB.out
  refine⟨fun n=>?_,fun n=>?_,hB.cell 5,hB.cell 6,hB.cell 4⟩
  ·have h1:UM (W.drewN n) m.bf d.room m.fv:=HUF.of_block (congrArg (fun h:Array _=>h[m.bf]?) hW)
   have h2:=UM.look1 Tryz.underlying147 h1 (zbool _) hk
   rw[hflv] at h2
   exact h2
  ·have h1:UM (W.drewN n) m.bc d.room m.cv:=HUC.of_block (congrArg (fun h:Array _=>h[m.bc]?) hW)
   exact UM.look Tryz.underlying148 h1 (zints _) hk)
 clear hflv hB1
 have HW1:Hid (w.setCell ⟨m.g,4,none⟩ (.int .i64 ((s:Int)+1))=w1):=Lib.hid hw1.symm
 clear hw1 hs1
 have hsm:(s:Int)≤100000:=by omega
 go_enter Tryz.func260,Tryz.ntmps260
 go_wp2_with fail
 rw[HW1.out]
 obtain⟨fb,hfb⟩:∃ fb,fb=d.fl ((s+1:Nat):Int):=⟨_,rfl⟩
 obtain⟨vo,hvo⟩:∃ vo,vo=m.cv ((s+1:Nat):Int):=⟨_,rfl⟩
 obtain⟨K,hK⟩:∃ K:Int,K=((s+1:Nat):Int):=⟨_,rfl⟩
 rw[← hfb,← hvo,← hK] at HK
 rw[← hK] at hk
 have HKE:=Lib.hid hK
 clear hK
 obtain⟨hlf,hlc,hc5,hc6,hc4'⟩:=HK.out w1 rfl
 have HFB:=Lib.hid hfb
 have HVO:=Lib.hid hvo
 clear hfb hvo hc4 hf4
 go_quiet (fail)
 go_wp2_with fail
 obtain⟨w2,hw2⟩:∃ w2,w2=w1.drewN nq:=⟨_,rfl⟩
 have HH2:Hid (w2.heap=w1.heap∧w2.os=w1.os∧w2.tape=w1.tape∧w2.output=w1.output):=Lib.hid (by rw[hw2];exact⟨rfl,rfl,rfl,rfl⟩)
 rw[← hw2]
 clear hw2 hlf hlc hc5 hc6 hc4'
 obtain⟨_,hlc,hc5,hc6,hc4'⟩:=HK.out w2 HH2.out.1
 go_quiet (fail)
 go_wp2_with fail
 obtain⟨w3,hw3⟩:∃ w3,w3=w2.drewN nq:=⟨_,rfl⟩
 have HH3:Hid (w3.heap=w1.heap∧w3.os=w1.os∧w3.tape=w1.tape∧w3.output=w1.output):=Lib.hid (by rw[hw3];exact HH2.out)
 rw[← hw3]
 clear hw3 hlc hc5 hc6 hc4' HH2
 have HUF3:Hid (UM w3.drew m.bf d.room m.fv):=Lib.hid (HUF.of_block (congrArg (fun h:Array _=>h[m.bf]?) HH3.out.1))
 obtain⟨w4,HRUN4,HUF4,HT4⟩:∃ w4,Hid (∀ ty,(Builtin.delete_ #[147,3] ty #[.map (some m.bf),.int .i64 K]).run Tryz.prog w3.drew = .ok (.tuple #[]) w4)∧Hid (UM w4 m.bf d.room (udel m.fv K))∧Hid (w3.drew.grownBy w4 (some m.bf)):=by
  obtain⟨w4,h1,h2,h3⟩:=UM.del_run Tryz.underlying147 HUF3.out hk 0
  exact⟨w4,Lib.hid (fun ty=>h1),Lib.hid h2,Lib.hid h3.grown⟩
 have HB4:Hid (∀ k,k<w.heap.size→k≠m.bf→w4.heap[k]? = w1.heap[k]?):=Lib.hid (fun k hk hn=>(HT4.block k (by have:=congrArg Array.size HH3.out.1;have:=HZ1.out;simp;omega) (fun e=>hn (Option.some.inj e))).trans (congrArg (fun h:Array _=>h[k]?) HH3.out.1))
 have HBG4:Hid (Blk w4 m.g 151 #[m.sv,m.ov,.map (some m.bl),.bool d.down,.int .i64 ((s+1:Nat):Int),.map (some m.bf),.map (some m.bc)]):=Lib.hid ((HB4.out m.g hgl HN.out.2.1).trans HSB.out)
 have HST4:Hid (w4.cell? ⟨m.g,5,none⟩=some (.map (some m.bf))∧w4.cell? ⟨m.g,4,none⟩=some (.int .i64 K)):=Lib.hid ⟨HBG4.cell 5,by rw[HKE.out];exact HBG4.cell 4⟩
 refine held_start 9 (fun wz=>wz.cell? ⟨m.g,5,none⟩=some (.map (some m.bf))∧wz.cell? ⟨m.g,4,none⟩=some (.int .i64 K)) (by kernel_rfl) (by kernel_rfl) (⟨(HK.out w3.drew HH3.out.1).2.2.1,(HK.out w3.drew HH3.out.1).2.2.2.2⟩) (fun hHeld=>?_)
 refine hMove 0 (Operand.tmp 0) (some 35) (.pointer (some ⟨m.g,0,none⟩)) (by kernel_rfl) (by kernel_rfl) (by kernel_rfl) (by kernel_rfl) (by kernel_rfl) (fun _ _ _ h=>h) (by exact rfl) hHeld ?_
 simp only[Act.put,List.setIfInBounds_toArray,List.set_cons_zero,List.set_cons_succ]
 refine hTake 1 (Op.nilCheck (Operand.tmp 35)) (some 36) (.pointer (some ⟨m.g,0,none⟩)) (by kernel_rfl) (by kernel_rfl) (by kernel_rfl) (by kernel_rfl) (by kernel_rfl) (fun _ _ _ h=>h) (fun o ho wX hX=>by unfold execOp;simp only[ho];go_simp) hHeld ?_
 simp only[Act.put,List.setIfInBounds_toArray,List.set_cons_zero,List.set_cons_succ]
 refine hTake 2 (Op.fieldAddr 151 (Operand.tmp 36) 5) (some 37) (.pointer (some ⟨m.g,5,none⟩)) (by kernel_rfl) (by kernel_rfl) (by kernel_rfl) (by kernel_rfl) (by kernel_rfl) (fun _ _ _ h=>h) (fun o ho wX hX=>by unfold execOp;simp only[ho];go_simp) hHeld ?_
 simp only[Act.put,List.setIfInBounds_toArray,List.set_cons_zero,List.set_cons_succ]
 refine hTake 3 (Op.load 147 (Operand.tmp 37)) (some 38) (.map (some m.bf)) (by kernel_rfl) (by kernel_rfl) (by kernel_rfl) (by kernel_rfl) (by kernel_rfl) (fun _ _ _ h=>h) (fun o ho wX hX=>by have hcell:=hX.1;unfold execOp;simp only[ho];go_simp) hHeld ?_
 simp only[Act.put,List.setIfInBounds_toArray,List.set_cons_zero,List.set_cons_succ]
 refine hMove 4 (Operand.tmp 0) (some 39) (.pointer (some ⟨m.g,0,none⟩)) (by kernel_rfl) (by kernel_rfl) (by kernel_rfl) (by kernel_rfl) (by kernel_rfl) (fun _ _ _ h=>h) (by exact rfl) hHeld ?_
 simp only[Act.put,List.setIfInBounds_toArray,List.set_cons_zero,List.set_cons_succ]
 refine hTake 5 (Op.nilCheck (Operand.tmp 39)) (some 40) (.pointer (some ⟨m.g,0,none⟩)) (by kernel_rfl) (by kernel_rfl) (by kernel_rfl) (by kernel_rfl) (by kernel_rfl) (fun _ _ _ h=>h) (fun o ho wX hX=>by unfold execOp;simp only[ho];go_simp) hHeld ?_
 simp only[Act.put,List.setIfInBounds_toArray,List.set_cons_zero,List.set_cons_succ]
 refine hTake 6 (Op.fieldAddr 151 (Operand.tmp 40) 4) (some 41) (.pointer (some ⟨m.g,4,none⟩)) (by kernel_rfl) (by kernel_rfl) (by kernel_rfl) (by kernel_rfl) (by kernel_rfl) (fun _ _ _ h=>h) (fun o ho wX hX=>by unfold execOp;simp only[ho];go_simp) hHeld ?_
 simp only[Act.put,List.setIfInBounds_toArray,List.set_cons_zero,List.set_cons_succ]
 refine hTake 7 (Op.load 3 (Operand.tmp 41)) (some 42) (.int .i64 K) (by kernel_rfl) (by kernel_rfl) (by kernel_rfl) (by kernel_rfl) (by kernel_rfl) (fun _ _ _ h=>h) (fun o ho wX hX=>by have hcell:=hX.2;unfold execOp;simp only[ho];go_simp) hHeld ?_
 simp only[Act.put,List.setIfInBounds_toArray,List.set_cons_zero,List.set_cons_succ]
 refine wpAnyH_ready (rs:=[8]) (by kernel_rfl) (by simp) ?_
 refine rDel 8 (.tmp 38) (.tmp 42) none w4 (vm:=.map (some m.bf)) (vk:=.int .i64 K) (by kernel_rfl) (by kernel_rfl) (by rfl) (by rfl) HRUN4.out HST4.out ?_ AllReadyH.nil
 simp only[Act.put,List.setIfInBounds_toArray,List.set_cons_zero,List.set_cons_succ]
 refine wpAnyH_done (by kernel_rfl) ?_ _
 clear hHeld
 go_wp2_with fail
 have HUC4:Hid (UM w4.drew m.bc d.room m.cv):=Lib.hid (HUC.of_block (HB4.out m.bc H.out.cr.lt (fun e=>HN.out.2.2.2.2.2.1 e.symm)))
 have HZ4:Hid (w.heap.size≤w4.heap.size):=Lib.hid (by have h1:=HT4.size;have h2:=congrArg Array.size HH3.out.1;have h3:=HZ1.out;simp at h1;omega)
 have HS5:Hid (w4.drew.cell? ⟨m.g,6,none⟩=some (.map (some m.bc))∧w4.drew.cell? ⟨m.g,4,none⟩=some (.int .i64 K)):=Lib.hid ⟨HBG4.cell 6,by rw[HKE.out];exact HBG4.cell 4⟩
 obtain⟨w6,HRUN6,HUC6,HT6⟩:∃ w6,Hid (∀ ty,(Builtin.delete_ #[148,3] ty #[.map (some m.bc),.int .i64 K]).run Tryz.prog w4.drew = .ok (.tuple #[]) w6)∧Hid (UM w6 m.bc d.room (udel m.cv K))∧Hid (w4.drew.grownBy w6 (some m.bc)):=by
  obtain⟨w6,h1,h2,h3⟩:=UM.del_run Tryz.underlying148 HUC4.out hk 0
  exact⟨w6,Lib.hid (fun ty=>h1),Lib.hid h2,Lib.hid h3.grown⟩
 have HB6:Hid (∀ k,k<w.heap.size→k≠m.bf→k≠m.bc→w6.heap[k]? = w1.heap[k]?):=Lib.hid (fun k hk h1 h2=>(HT6.block k (by have:=HZ4.out;simp;omega) (fun e=>h2 (Option.some.inj e))).trans (HB4.out k hk h1))
 have HBG6:Hid (Blk w6 m.g 151 #[m.sv,m.ov,.map (some m.bl),.bool d.down,.int .i64 ((s+1:Nat):Int),.map (some m.bf),.map (some m.bc)]):=Lib.hid ((HB6.out m.g hgl HN.out.2.1 HN.out.2.2.1).trans HSB.out)
 have HST6:Hid (w6.cell? ⟨m.g,6,none⟩=some (.map (some m.bc))∧w6.cell? ⟨m.g,4,none⟩=some (.int .i64 K)):=Lib.hid ⟨HBG6.cell 6,by rw[HKE.out];exact HBG6.cell 4⟩
 refine held_start 9 (fun wz=>wz.cell? ⟨m.g,6,none⟩=some (.map (some m.bc))∧wz.cell? ⟨m.g,4,none⟩=some (.int .i64 K)) (by kernel_rfl) (by kernel_rfl) (HS5.out) (fun hHeld=>?_)
 refine hMove 0 (Operand.tmp 0) (some 43) (.pointer (some ⟨m.g,0,none⟩)) (by kernel_rfl) (by kernel_rfl) (by kernel_rfl) (by kernel_rfl) (by kernel_rfl) (fun _ _ _ h=>h) (by exact rfl) hHeld ?_
 simp only[Act.put,List.setIfInBounds_toArray,List.set_cons_zero,List.set_cons_succ]
 refine hTake 1 (Op.nilCheck (Operand.tmp 43)) (some 44) (.pointer (some ⟨m.g,0,none⟩)) (by kernel_rfl) (by kernel_rfl) (by kernel_rfl) (by kernel_rfl) (by kernel_rfl) (fun _ _ _ h=>h) (fun o ho wX hX=>by unfold execOp;simp only[ho];go_simp) hHeld ?_
 simp only[Act.put,List.setIfInBounds_toArray,List.set_cons_zero,List.set_cons_succ]
 refine hTake 2 (Op.fieldAddr 151 (Operand.tmp 44) 6) (some 45) (.pointer (some ⟨m.g,6,none⟩)) (by kernel_rfl) (by kernel_rfl) (by kernel_rfl) (by kernel_rfl) (by kernel_rfl) (fun _ _ _ h=>h) (fun o ho wX hX=>by unfold execOp;simp only[ho];go_simp) hHeld ?_
 simp only[Act.put,List.setIfInBounds_toArray,List.set_cons_zero,List.set_cons_succ]
 refine hTake 3 (Op.load 148 (Operand.tmp 45)) (some 46) (.map (some m.bc)) (by kernel_rfl) (by kernel_rfl) (by kernel_rfl) (by kernel_rfl) (by kernel_rfl) (fun _ _ _ h=>h) (fun o ho wX hX=>by have hcell:=hX.1;unfold execOp;simp only[ho];go_simp) hHeld ?_
 simp only[Act.put,List.setIfInBounds_toArray,List.set_cons_zero,List.set_cons_succ]
 refine hMove 4 (Operand.tmp 0) (some 47) (.pointer (some ⟨m.g,0,none⟩)) (by kernel_rfl) (by kernel_rfl) (by kernel_rfl) (by kernel_rfl) (by kernel_rfl) (fun _ _ _ h=>h) (by exact rfl) hHeld ?_
 simp only[Act.put,List.setIfInBounds_toArray,List.set_cons_zero,List.set_cons_succ]
 refine hTake 5 (Op.nilCheck (Operand.tmp 47)) (some 48) (.pointer (some ⟨m.g,0,none⟩)) (by kernel_rfl) (by kernel_rfl) (by kernel_rfl) (by kernel_rfl) (by kernel_rfl) (fun _ _ _ h=>h) (fun o ho wX hX=>by unfold execOp;simp only[ho];go_simp) hHeld ?_
 simp only[Act.put,List.setIfInBounds_toArray,List.set_cons_zero,List.set_cons_succ]
 refine hTake 6 (Op.fieldAddr 151 (Operand.tmp 48) 4) (some 49) (.pointer (some ⟨m.g,4,none⟩)) (by kernel_rfl) (by kernel_rfl) (by kernel_rfl) (by kernel_rfl) (by kernel_rfl) (fun _ _ _ h=>h) (fun o ho wX hX=>by unfold execOp;simp only[ho];go_simp) hHeld ?_
 simp only[Act.put,List.setIfInBounds_toArray,List.set_cons_zero,List.set_cons_succ]
 refine hTake 7 (Op.load 3 (Operand.tmp 49)) (some 50) (.int .i64 K) (by kernel_rfl) (by kernel_rfl) (by kernel_rfl) (by kernel_rfl) (by kernel_rfl) (fun _ _ _ h=>h) (fun o ho wX hX=>by have hcell:=hX.2;unfold execOp;simp only[ho];go_simp) hHeld ?_
 simp only[Act.put,List.setIfInBounds_toArray,List.set_cons_zero,List.set_cons_succ]
 refine wpAnyH_ready (rs:=[8]) (by kernel_rfl) (by simp) ?_
 refine rDel 8 (.tmp 46) (.tmp 50) none w6 (vm:=.map (some m.bc)) (vk:=.int .i64 K) (by kernel_rfl) (by kernel_rfl) (by rfl) (by rfl) HRUN6.out HST6.out ?_ AllReadyH.nil
 simp only[Act.put,List.setIfInBounds_toArray,List.set_cons_zero,List.set_cons_succ]
 refine wpAnyH_done (by kernel_rfl) ?_ _
 clear hHeld
 have HZ6:Hid (w.heap.size≤w6.heap.size):=Lib.hid (by have h1:=HT6.size;have h2:=HZ4.out;simp at h1;omega)
 have HBW:Hid (∀ k,k<w.heap.size→k≠m.g→k≠m.bf→k≠m.bc→w6.heap[k]? = w.heap[k]?):=Lib.hid (fun k hk h0 h1 h2=>(HB6.out k hk h1 h2).trans (HO1.out k h0))
 have HUF6:Hid (UM w6 m.bf d.room (udel m.fv K)):=Lib.hid (HUF4.of_block ((HT6.block m.bf HUF4.lt (fun e=>HN.out.2.2.2.2.2.1 (Option.some.inj e)))))
 have HDT:Hid (DT w m w6 (stepM m d)):=Lib.hid ⟨rfl,HFO1.trans ⟨HT6.os.trans (HT4.os.trans HH3.out.2.1),HT6.tape.trans (HT4.tape.trans HH3.out.2.2.1),HT6.output.trans (HT4.output.trans HH3.out.2.2.2),by have h1:=HZ6.out;have h2:=HZ1.out;omega,fun k hk hn=>HB6.out k (by have:=HZ1.out;omega) (fun e=>hn (by rw[e];exact foot_bf m)) (fun e=>hn (by rw[e];exact foot_bc m))⟩ (fun x hx=>.inl hx),fun k hk=>.inl hk,fun k v hk=>.inl (by
  have hk:(if k=((d.steps+1:Nat):Int) then none else m.cv k)=some v:=hk
  split at hk
  ·cases hk
  ·exact hk)⟩
 have HDK:Hid (DK w6 (stepM m d) (stepped d)):=Lib.hid (by
  have hKs:K=((d.steps+1:Nat):Int):=by rw[HKE.out,HS.out]
  refine H.out.re rfl [m.g,m.bf,m.bc] (fun k hk=>by
   simp only[List.mem_cons,List.not_mem_nil,or_false] at hk
   rcases hk with rfl|rfl|rfl
   ·exact foot_g m
   ·exact foot_bf m
   ·exact foot_bc m) (fun k hk hn=>by
   simp only[List.mem_cons,List.not_mem_nil,or_false,not_or] at hn
   exact HBW.out k hk hn.1 hn.2.1 hn.2.2) HZ6.out ?_ (own_blk H.out.sec fun b hb=>HBW.out b (H.out.sec.lt b hb).2 ?_ ?_ ?_) (own_blk H.out.opn fun b hb=>HBW.out b (H.out.opn.lt b hb).2 ?_ ?_ ?_) ((H.out.last.of_block (HBW.out m.bl H.out.last.lt (fun e=>HN.out.1 e.symm) HN.out.2.2.2.1 HN.out.2.2.2.2.1)).mono (Nat.le_max_left _ _)) ?_ ?_ H.out.nd (fun b hb=>.inl hb) (fun k hk=>?_) (fun k hk=>?_) ?_
  ·have h:=HBG6.out
   rw[HS.out] at h
   exact h
  ·exact(HN.out.2.2.2.2.2.2.1 b hb).1
  ·exact(HN.out.2.2.2.2.2.2.1 b hb).2.2.1
  ·exact(HN.out.2.2.2.2.2.2.1 b hb).2.2.2
  ·exact(HN.out.2.2.2.2.2.2.2.1 b hb).1
  ·exact(HN.out.2.2.2.2.2.2.2.1 b hb).2.2.1
  ·exact(HN.out.2.2.2.2.2.2.2.1 b hb).2.2.2
  ·have h:=HUF6.out;rw[hKs] at h;exact h.mono (Nat.le_max_left _ _)
  ·have h:=HUC6.out;rw[hKs] at h;exact h.mono (Nat.le_max_left _ _)
  ·show(udel m.fv _ k).getD (.bool false) = .bool (if k=_ then false else d.fl k)
   unfold udel
   by_cases e:k=((d.steps+1:Nat):Int)
   ·rw[if_pos e,if_pos e];rfl
   ·rw[if_neg e,if_neg e];exact H.out.flv k hk
  ·show((if k=_ then none else d.cr k)=none∧udel m.cv _ k=none)∨((if k=_ then none else d.cr k)=d.cr k∧udel m.cv _ k=m.cv k)
   unfold udel
   by_cases e:k=((d.steps+1:Nat):Int)
   ·rw[if_pos e,if_pos e];exact .inl ⟨rfl,rfl⟩
   ·rw[if_neg e,if_neg e];exact .inr ⟨rfl,rfl⟩
  ·have ok:=H.out.ok
   exact⟨ok.sec,ok.opn,ok.few,Nat.le_trans ok.lo (Nat.le_max_left _ _),Nat.le_max_right _ _,by have h1:=ok.rm;have h2:=HS.out;show max d.room (d.steps+1)≤100000;omega,fun k cs h=>by
    have h:(if k=((d.steps+1:Nat):Int) then none else d.cr k)=some cs:=h
    split at h
    ·cases h
    ·exact ok.cl k cs h⟩)
 have HCR:=Lib.hid (H.out.crv K hk)
 have HOC:Hid (outS d=(if (d.cr K).isSome then 2 else if fb then 1 else 0)∧cutsS d=(d.cr K).getD []):=Lib.hid (by unfold outS cutsS;rw[HKE.out,HFB.out,HS.out];exact⟨rfl,rfl⟩)
 clear HUF6 HBW HB6 HB4 HUC6 HUF4 HT4 HT6 HRUN4 HRUN6 HK
 cases hcr:d.cr K with
 | none=>
  have h1:=HCR.out
  rw[hcr] at h1
  have h1:m.cv K=none:=h1
  have hv:vo=none:=by rw[HVO.out,← HKE.out];exact h1
  subst hv
  have HO2:Hid (outS d=(if fb then 1 else 0)∧cutsS d=[]):=Lib.hid (by have h:=HOC.out;rw[hcr] at h;exact h)
  clear hcr h1 HOC HCR
  cases fb with
  | true=>
   go_wp2_with fail
   go_ret2
   exact⟨_,by rw[HO2.out.1];rfl,by rw[HO2.out.2];exact⟨none,0,rfl,Nat.le_refl _,rfl,fun h=>by cases h⟩,(fun b e=>by cases e),HDK.out,HDT.out⟩
  | false=>
   go_wp2_with fail
   go_ret2
   exact⟨_,by rw[HO2.out.1];rfl,by rw[HO2.out.2];exact⟨none,0,rfl,Nat.le_refl _,rfl,fun h=>by cases h⟩,(fun b e=>by cases e),HDK.out,HDT.out⟩
 | some cs=>
  have h1:=HCR.out
  rw[hcr] at h1
  obtain⟨v,h2,h3,h4⟩:=h1
  have hv:vo=some v:=by rw[HVO.out,← HKE.out];exact h2
  subst hv
  have HO2:Hid (outS d=2∧cutsS d=cs):=Lib.hid (by have h:=HOC.out;rw[hcr] at h;exact h)
  have HSN:Hid (Sn w6 1 v cs.length (i64s cs)):=Lib.hid (HDT.fo.sn h3 (fun b hb=>(h4 b hb).1))
  have HVB:Hid (∀ b,v.ownBlock=some b→b ∉ foot m∧b<w6.heap.size):=Lib.hid (fun b hb=>⟨(h4 b hb).1,Nat.lt_of_lt_of_le (h4 b hb).2 HZ6.out⟩)
  clear hcr h2 h3 h4 HOC HCR
  go_wp2_with fail
  go_ret2
  exact⟨v,by rw[HO2.out.1];rfl,by rw[HO2.out.2];exact HSN.out,HVB.out,HDK.out,HDT.out⟩
def clearM(m:DiskM):DiskM:={ m with ov:=.slice none 0 0 }
def clearD(d:DiskD):DiskD:={ d with opn:=[] }
theorem foot_clear{m:DiskM}:∀ k∈foot (clearM m),k∈foot m:=by
 intro k hk
 simp only[foot,clearM,Value.ownBlock,Option.toList_none,List.append_nil,List.mem_append] at hk ⊢
 rcases hk with h|h
 ·exact .inl h
 ·exact .inr (.inl h)
theorem nd_clear{m:DiskM}(h:(foot m).Nodup):(foot (clearM m)).Nodup:=by
 have e:foot m=foot (clearM m)++m.ov.ownBlock.toList:=by simp[foot,clearM,Value.ownBlock]
 rw[e,List.nodup_append] at h
 exact h.1
theorem disk_clear(w:World)(m:DiskM)(d:DiskD)(h:DK w m d):
  Calls Tryz.prog 116 #[.pointer (some ⟨m.g,0,none⟩)] w fun e w'=>e = .returned (.tuple #[])∧DK w' (clearM m) (clearD d)∧DT w m w' (clearM m):=by
 have H:=Lib.hid h
 have HN:=Lib.hid (foot_nd H.out.nd)
 have hgl:=h.blk.lt
 have hc1:=h.blk.cell 1
 have hf1:=h.blk.frozen 1
 have hc2:=h.blk.cell 2
 simp only[diskC,List.getElem?_toArray,List.getElem?_cons_succ,List.getElem?_cons_zero] at hc1 hc2
 obtain⟨A0,cap0,hov,_⟩:=Sn.own h.opn
 rw[hov] at hc1
 clear h
 have HB1:Hid (Blk (w.setCell ⟨m.g,1,none⟩ (.slice none 0 0)) m.g 151 (diskC (clearM m) (clearD d))):=Lib.hid (H.out.blk.set_ 1 _)
 have HU1:Hid (UM (w.setCell ⟨m.g,1,none⟩ (.slice none 0 0)) m.bl d.room (lastOf d.opn)):=Lib.hid (H.out.last.of_block (Below.heap_setCell w ⟨m.g,1,none⟩ _ _ (fun e=>HN.out.1 e.symm)))
 obtain⟨w2,HRUN,HU2,HT2⟩:∃ w2,Hid (∀ ty,(Builtin.clear_ #[146] ty #[.map (some m.bl)]).run Tryz.prog (w.setCell ⟨m.g,1,none⟩ (.slice none 0 0)) = .ok (.tuple #[]) w2)∧Hid (UM w2 m.bl d.room (fun _=>none))∧Hid ((w.setCell ⟨m.g,1,none⟩ (.slice none 0 0)).grownBy w2 (some m.bl)):=by
  obtain⟨w2,h1,h2,h3⟩:=UM.clear_run Tryz.underlying146 HU1.out 0
  exact⟨w2,Lib.hid (fun ty=>h1),Lib.hid h2,Lib.hid h3.grown⟩
 have HBW:Hid (∀ k,k<w.heap.size→k≠m.g→k≠m.bl→w2.heap[k]? = w.heap[k]?):=Lib.hid (fun k hk h0 h1=>(HT2.block k (by simpa using hk) (fun e=>h1 (Option.some.inj e))).trans (Below.heap_setCell w ⟨m.g,1,none⟩ _ k h0))
 have HZ2:Hid (w.heap.size≤w2.heap.size):=Lib.hid (by have:=HT2.size;simpa using this)
 have HDT:Hid (DT w m w2 (clearM m)):=Lib.hid ⟨rfl,⟨HT2.os,HT2.tape,HT2.output,HZ2.out,fun k hk hn=>HBW.out k hk (fun e=>hn (by rw[e];exact foot_g m)) (fun e=>hn (by rw[e];exact foot_bl m))⟩,fun k hk=>.inl (foot_clear k hk),fun _ _ h=>.inl h⟩
 have HDK:Hid (DK w2 (clearM m) (clearD d)):=Lib.hid (by
  refine H.out.re rfl [m.g,m.bl] (fun k hk=>by
   simp only[List.mem_cons,List.not_mem_nil,or_false] at hk
   rcases hk with rfl|rfl
   ·exact foot_g m
   ·exact foot_bl m) (fun k hk hn=>by
   simp only[List.mem_cons,List.not_mem_nil,or_false,not_or] at hn
   exact HBW.out k hk hn.1 hn.2) HZ2.out ((HT2.block m.g (by simpa using hgl) (fun e=>HN.out.1 (Option.some.inj e))).trans HB1.out) (own_blk H.out.sec fun b hb=>HBW.out b (H.out.sec.lt b hb).2 ?_ ?_) (World.ownsRow_nil _ _ _ _) ?_ (H.out.fl.of_block (HBW.out _ H.out.fl.lt (fun e=>HN.out.2.1 e.symm) (fun e=>HN.out.2.2.2.1 e.symm))) (H.out.cr.of_block (HBW.out _ H.out.cr.lt (fun e=>HN.out.2.2.1 e.symm) (fun e=>HN.out.2.2.2.2.1 e.symm))) (nd_clear H.out.nd) (fun b hb=>.inl (foot_clear b hb)) H.out.flv (fun k hk=>.inr ⟨rfl,rfl⟩) ?_
  ·exact(HN.out.2.2.2.2.2.2.1 b hb).1
  ·exact(HN.out.2.2.2.2.2.2.1 b hb).2.1
  ·show UM _ _ _ (lastOf [])
   rw[lastOf_nil]
   exact HU2.out
  ·have ok:=H.out.ok
   exact⟨ok.sec,(fun p hp=>by cases hp),ok.few,Nat.zero_le _,ok.st,ok.rm,ok.cl⟩)
 have hrun:=HRUN.out
 clear hov
 go_enter Tryz.func116,Tryz.ntmps116
 go_wp2_with fail
 exact bodyPost_end (results_none rfl _ _ _) rfl ⟨rfl,HDK.out,HDT.out⟩
def startD(d:DiskD):DiskD:={ d with down:=false }
theorem DK.down{w:World}{m:DiskM}{d:DiskD}(h:DK w m d)(b:Bool):DK (w.setCell ⟨m.g,3,none⟩ (.bool b)) m { d with down:=b }∧DT w m (w.setCell ⟨m.g,3,none⟩ (.bool b)) m:=by
 have hn:=foot_nd h.nd
 have ho:∀ k,k≠m.g→(w.setCell ⟨m.g,3,none⟩ (.bool b)).heap[k]? = w.heap[k]?:=fun k hk=>Below.heap_setCell w ⟨m.g,3,none⟩ _ k hk
 refine⟨h.re rfl [m.g] (fun k hk=>by rw[List.mem_singleton] at hk;rw[hk];exact foot_g m) (fun k _ hn=>ho k (by simpa using hn)) (by simp) (h.blk.set_ 3 _) (own_blk h.sec fun b hb=>ho b (hn.2.2.2.2.2.2.1 b hb).1) (own_blk h.opn fun b hb=>ho b (hn.2.2.2.2.2.2.2.1 b hb).1) (h.last.of_block (ho _ (fun e=>hn.1 e.symm))) (h.fl.of_block (ho _ (fun e=>hn.2.1 e.symm))) (h.cr.of_block (ho _ (fun e=>hn.2.2.1 e.symm))) h.nd (fun b hb=>.inl hb) h.flv (fun k hk=>.inr ⟨rfl,rfl⟩) ⟨h.ok.sec,h.ok.opn,h.ok.few,h.ok.lo,h.ok.st,h.ok.rm,h.ok.cl⟩,⟨rfl,Fo.refl.set m.g 3 (foot_g m) _,fun _ h=>.inl h,fun _ _ h=>.inl h⟩⟩
theorem disk_start(w:World)(m:DiskM)(d:DiskD)(h:DK w m d):
  Calls Tryz.prog 102 #[.pointer (some ⟨m.g,0,none⟩)] w fun e w'=>e = .returned (.tuple #[])∧DK w' m (startD d)∧DT w m w' m:=by
 have H:=Lib.hid (h.down false)
 have hc3:=h.blk.cell 3
 have hf3:=h.blk.frozen 3
 simp only[diskC,List.getElem?_toArray,List.getElem?_cons_succ,List.getElem?_cons_zero] at hc3
 clear h
 go_enter Tryz.func102,Tryz.ntmps102
 go_wp2_with fail
 exact bodyPost_end (results_none rfl _ _ _) rfl ⟨rfl,H.out.1,H.out.2⟩
def addM(m:DiskM)(v:Value):DiskM:={ m with ov:=v }
def addD(d:DiskD)(a:Int)(s:List Int):DiskD:={ d with opn:=d.opn++[(a,s)],room:=d.room+1 }
theorem list_of_range(s:List Int)(n:Nat)(h:s.length=n):s=(List.range n).map (fun i=>s.getD i 0):=by
 subst h
 apply List.ext_getElem
 ·simp
 ·intro i h1 h2
  simp[List.getD_eq_getElem?_getD,h1]
theorem built_wr(a:Int)(s:List Int)(hs:Sec s):Tryz.prog.built 363 [(0,.int .i64 a),(1,.agg (u8s s).toArray)]=some (wrC (a,s)).toArray:=by
 rw[list_of_range s 64 hs.1]
 generalize (fun i=>s.getD i 0)=D
 kernel_rfl
theorem tWr:SlT Tryz.prog 149 363 65 72:=SlT.mk' Tryz.underlying149 (z:=.agg (wrC (0,List.replicate 64 0)).toArray) (by kernel_rfl) rfl (by decide)
theorem wrC_one(p:Int×List Int):∀ u∈wrC p,u.oneCell'=true:=by
 intro u hu
 simp only[wrC,List.mem_cons] at hu
 rcases hu with rfl|hu
 ·rfl
 ·exact u8s_mem _ u hu
theorem foot_add{m:DiskM}{v:Value}{w:World}(hv:v.ownBlock=m.ov.ownBlock∨∃ k,v.ownBlock=some k∧w.heap.size≤k):∀ k∈foot (addM m v),k∈foot m∨w.heap.size≤k:=by
 intro k hk
 simp only[foot,addM,List.mem_append,Option.mem_toList] at hk ⊢
 rcases hk with h|h|h
 ·exact .inl (.inl h)
 ·exact .inl (.inr (.inl h))
 ·rcases hv with e|⟨q,e,hq⟩
  ·rw[e] at h;exact .inl (.inr (.inr h))
  ·rw[e] at h;have:=Option.some.inj h;omega
theorem nd_add{m:DiskM}{v:Value}{B:Nat}(h:(foot m).Nodup)(hlt:∀ k∈foot m,k<B)(hv:v.ownBlock=m.ov.ownBlock∨∃ k,v.ownBlock=some k∧B≤k):(foot (addM m v)).Nodup:=by
 rcases hv with e|⟨q,e,hq⟩
 ·have:foot (addM m v)=foot m:=by simp[foot,addM,e]
  rw[this];exact h
 ·have e1:foot m=foot (clearM m)++m.ov.ownBlock.toList:=by simp[foot,clearM,Value.ownBlock]
  have e2:foot (addM m v)=foot (clearM m)++[q]:=by
   show [m.g,m.bl,m.bf,m.bc]++(m.sv.ownBlock.toList++v.ownBlock.toList)=[m.g,m.bl,m.bf,m.bc]++(m.sv.ownBlock.toList++[])++[q]
   rw[e]
   simp
  rw[e2,List.nodup_append]
  refine⟨nd_clear h,by simp,fun a ha b hb e3=>?_⟩
  rw[List.mem_singleton] at hb
  have:=hlt a (foot_clear a ha)
  omega
theorem own_snD{w:World}{base e s n:Nat}{v:Value}{xs:List Value}(h:w.ownsRow base e s v n xs):∃ A cap,v = .slice A n cap∧Sn w s (.slice A n cap) n xs∧∀ b off,A=some ⟨b,off,none⟩→base≤b∧b<w.heap.size:=by
 have hs:=Sn.own h
 obtain⟨A,cap,rfl,_⟩:=id hs
 exact⟨A,cap,rfl,hs,fun b off e=>h.lt b (by rw[e];rfl)⟩
theorem disk_add(a:Int)(s:List Int)(w:World)(m:DiskM)(d:DiskD)(h:DK w m d)(ha:isI64 a)(hs:Sec s)(hr:d.room+1≤100000):
  Calls Tryz.prog 312 #[.pointer (some ⟨m.g,0,none⟩),.int .i64 a,.agg (u8s s).toArray] w fun e w'=>e = .returned (.bool (hasB d a))∧∃ m',DK w' m' (if hasB d a then addD d a s else d)∧DT w m w' m':=by
 have H:=Lib.hid h
 have hgl:=h.blk.lt
 clear h
 have hB0:Below w.heap.size w (w.alloc (.cells (u8s s).toArray 243)):=(Below.refl _ _).alloc (Nat.le_refl _) _
 have HB0:=Lib.hid hB0
 have HHAS:=Lib.hid (fun w1 (hb:Below w.heap.size w w1)=>disk_has a w1 m d (H.out.keep hb))
 clear hB0
 cases hh:hasB d a with
 | false=>
  have HH:Hid ((decide (0≤a) && decide (a<d.sec.length))=false):=Lib.hid hh
  rw[HH.out] at HHAS
  clear hh
  go_enter Tryz.func312,Tryz.ntmps312
  go_wp2_with (go_at_call 308;refine(HHAS.out _ HB0.out).mono ?_;rintro e w1 ⟨rfl,hw1⟩;rw[hw1];clear hw1)
  go_ret
  exact⟨rfl,m,H.out.keep HB0.out,DT.of_below HB0.out⟩
 | true=>
  have hh2:0≤a∧a<d.sec.length:=by unfold hasB at hh;simpa using hh
  have HH:Hid ((decide (0≤a) && decide (a<d.sec.length))=true):=Lib.hid hh
  rw[HH.out] at HHAS
  clear hh
  have HA:=Lib.hid ha
  have HSE:=Lib.hid hs
  clear ha hs
  obtain⟨A0,cap0,hov,hcap0,_⟩:=Sn.own H.out.opn
  have HOV:=Lib.hid hov
  have HN:=Lib.hid (foot_nd H.out.nd)
  have HLE:Hid (d.opn.length≤d.room):=Lib.hid H.out.ok.lo
  go_enter Tryz.func312,Tryz.ntmps312
  go_wp2_with (go_at_call 308;refine(HHAS.out _ HB0.out).mono ?_;rintro e w1 ⟨rfl,hw1⟩;rw[hw1];clear hw1)
  obtain⟨w1,hw1⟩:∃ w1,w1=w.alloc (.cells (u8s s).toArray 243):=⟨_,rfl⟩
  have HDK1:Hid (DK w1 m d):=Lib.hid (by rw[hw1];exact H.out.keep HB0.out)
  have HBX1:Hid (Blk w1 w.heap.size 243 (u8s s).toArray):=Lib.hid (by rw[hw1];exact Blk.new _ _ _)
  have HB01:Hid (Below w.heap.size w w1):=Lib.hid (by rw[hw1];exact HB0.out)
  have HDT1:Hid (DT w m w1 m):=Lib.hid (by rw[hw1];exact DT.of_below HB0.out)
  rw[← hw1]
  clear hw1 hov
  have HC:Hid (∀ W:World,W.heap[m.g]? = w1.heap[m.g]?→W.cell? ⟨m.g,2,none⟩=some (.map (some m.bl))∧W.cell? ⟨m.g,1,none⟩=some (.slice A0 d.opn.length cap0)∧Blk W m.g 151 (diskC m d)):=Lib.hid (fun W hW=>by
   have hB:Blk W m.g 151 (diskC m d):=hW.trans HDK1.blk
   exact⟨hB.cell 2,by rw[← HOV.out];exact hB.cell 1,hB⟩)
  have HUL:Hid (UM w1.drew m.bl d.room (lastOf d.opn)):=Lib.hid HDK1.last
  obtain⟨w3,HRUN,HUL3,HT3⟩:∃ w3,Hid ((Instr.mapUpdate 146 (.map (some m.bl)) (.int .i64 a) (.int .i64 (d.opn.length:Int))).run Tryz.prog w1.drew = .ok () w3)∧Hid (UM w3 m.bl (d.room+1) (uput (lastOf d.opn) a (.int .i64 (d.opn.length:Int))))∧Hid (w1.drew.grownBy w3 (some m.bl)):=by
   obtain⟨w3,h1,h2,h3⟩:=UM.put_run Tryz.underlying146 HUL.out HA.out (.int .i64 (d.opn.length:Int)) (by unfold maxLen;have:=HLE.out;omega)
   exact⟨w3,Lib.hid h1,Lib.hid h2,Lib.hid h3.grown⟩
  have HZ3:Hid (w1.heap.size≤w3.heap.size):=Lib.hid HT3.size
  have HB3:Hid (∀ k,k<w1.heap.size→k≠m.bl→w3.heap[k]? = w1.heap[k]?):=Lib.hid (fun k hk hn=>HT3.block k hk (fun e=>hn (Option.some.inj e)))
  have HG3:Hid (w3.heap[m.g]? = w1.heap[m.g]?):=Lib.hid (HB3.out m.g HDK1.blk.lt HN.out.1)
  have HS1:Hid (w1.drew.cell? ⟨m.g,2,none⟩=some (.map (some m.bl))∧w1.drew.cell? ⟨m.g,1,none⟩=some (.slice A0 d.opn.length cap0)):=Lib.hid ⟨(HC.out w1.drew rfl).1,(HC.out w1.drew rfl).2.1⟩
  have HS3:Hid (w3.cell? ⟨m.g,2,none⟩=some (.map (some m.bl))∧w3.cell? ⟨m.g,1,none⟩=some (.slice A0 d.opn.length cap0)):=Lib.hid ⟨(HC.out w3 HG3.out).1,(HC.out w3 HG3.out).2.1⟩
  refine held_start 11 (fun wz=>wz.cell? ⟨m.g,2,none⟩=some (.map (some m.bl))∧wz.cell? ⟨m.g,1,none⟩=some (.slice A0 d.opn.length cap0)) (by kernel_rfl) (by kernel_rfl) (HS1.out) (fun hHeld=>?_)
  refine hMove 0 (Operand.tmp 0) (some 11) (.pointer (some ⟨m.g,0,none⟩)) (by kernel_rfl) (by kernel_rfl) (by kernel_rfl) (by kernel_rfl) (by kernel_rfl) (fun _ _ _ h=>h) (by exact rfl) hHeld ?_
  simp only[Act.put,List.setIfInBounds_toArray,List.set_cons_zero,List.set_cons_succ]
  refine hTake 1 (Op.nilCheck (Operand.tmp 11)) (some 12) (.pointer (some ⟨m.g,0,none⟩)) (by kernel_rfl) (by kernel_rfl) (by kernel_rfl) (by kernel_rfl) (by kernel_rfl) (fun _ _ _ h=>h) (fun o ho wX hX=>by unfold execOp;simp only[ho];go_simp) hHeld ?_
  simp only[Act.put,List.setIfInBounds_toArray,List.set_cons_zero,List.set_cons_succ]
  refine hTake 2 (Op.fieldAddr 151 (Operand.tmp 12) 2) (some 13) (.pointer (some ⟨m.g,2,none⟩)) (by kernel_rfl) (by kernel_rfl) (by kernel_rfl) (by kernel_rfl) (by kernel_rfl) (fun _ _ _ h=>h) (fun o ho wX hX=>by unfold execOp;simp only[ho];go_simp) hHeld ?_
  simp only[Act.put,List.setIfInBounds_toArray,List.set_cons_zero,List.set_cons_succ]
  refine hTake 3 (Op.load 146 (Operand.tmp 13)) (some 14) (.map (some m.bl)) (by kernel_rfl) (by kernel_rfl) (by kernel_rfl) (by kernel_rfl) (by kernel_rfl) (fun _ _ _ h=>h) (fun o ho wX hX=>by have hcell:=hX.1;unfold execOp;simp only[ho];go_simp) hHeld ?_
  simp only[Act.put,List.setIfInBounds_toArray,List.set_cons_zero,List.set_cons_succ]
  refine hMove 4 (Operand.tmp 1) (some 15) (.int .i64 a) (by kernel_rfl) (by kernel_rfl) (by kernel_rfl) (by kernel_rfl) (by kernel_rfl) (fun _ _ _ h=>h) (by exact rfl) hHeld ?_
  simp only[Act.put,List.setIfInBounds_toArray,List.set_cons_zero,List.set_cons_succ]
  refine hMove 5 (Operand.tmp 0) (some 16) (.pointer (some ⟨m.g,0,none⟩)) (by kernel_rfl) (by kernel_rfl) (by kernel_rfl) (by kernel_rfl) (by kernel_rfl) (fun _ _ _ h=>h) (by exact rfl) hHeld ?_
  simp only[Act.put,List.setIfInBounds_toArray,List.set_cons_zero,List.set_cons_succ]
  refine hTake 6 (Op.nilCheck (Operand.tmp 16)) (some 17) (.pointer (some ⟨m.g,0,none⟩)) (by kernel_rfl) (by kernel_rfl) (by kernel_rfl) (by kernel_rfl) (by kernel_rfl) (fun _ _ _ h=>h) (fun o ho wX hX=>by unfold execOp;simp only[ho];go_simp) hHeld ?_
  simp only[Act.put,List.setIfInBounds_toArray,List.set_cons_zero,List.set_cons_succ]
  refine hTake 7 (Op.fieldAddr 151 (Operand.tmp 17) 1) (some 18) (.pointer (some ⟨m.g,1,none⟩)) (by kernel_rfl) (by kernel_rfl) (by kernel_rfl) (by kernel_rfl) (by kernel_rfl) (fun _ _ _ h=>h) (fun o ho wX hX=>by unfold execOp;simp only[ho];go_simp) hHeld ?_
  simp only[Act.put,List.setIfInBounds_toArray,List.set_cons_zero,List.set_cons_succ]
  refine hTake 8 (Op.load 149 (Operand.tmp 18)) (some 19) (.slice A0 d.opn.length cap0) (by kernel_rfl) (by kernel_rfl) (by kernel_rfl) (by kernel_rfl) (by kernel_rfl) (fun _ _ _ h=>h) (fun o ho wX hX=>by have hcell:=hX.2;unfold execOp;simp only[ho];go_simp) hHeld ?_
  simp only[Act.put,List.setIfInBounds_toArray,List.set_cons_zero,List.set_cons_succ]
  refine hTake 9 (Op.call { callee:=Callee.builtin Builtin.len,args:=#[Operand.tmp 19],argTypes:=#[149] }) (some 20) (.int .i64 (d.opn.length:Int)) (by kernel_rfl) (by kernel_rfl) (by kernel_rfl) (by kernel_rfl) (by kernel_rfl) (fun _ _ _ h=>h) (fun o ho wX hX=>by unfold execOp;simp only[ho];go_simp) hHeld ?_
  simp only[Act.put,List.setIfInBounds_toArray,List.set_cons_zero,List.set_cons_succ]
  refine wpAnyH_ready (rs:=[10]) (by kernel_rfl) (by simp) ?_
  refine rUpd 10 (.tmp 14) (.tmp 15) (.tmp 20) none w3 (by kernel_rfl) (by kernel_rfl) (by rfl) (by rfl) (by rfl) HRUN.out HS3.out ?_ AllReadyH.nil
  simp only[Act.put,List.setIfInBounds_toArray,List.set_cons_zero,List.set_cons_succ]
  refine wpAnyH_done (by kernel_rfl) ?_ _
  clear hHeld
  go_wp2_with fail
  have hgw:m.g<w.heap.size:=hgl
  have HBX3:Hid (Blk w3 w.heap.size 243 (u8s s).toArray):=Lib.hid ((HB3.out _ HBX1.lt (fun e=>by have:=H.out.last.lt;omega)).trans HBX1.out)
  have HC1:Hid (w3.drew.cell? ⟨m.g,1,none⟩=some (.slice A0 d.opn.length cap0)):=Lib.hid (HC.out w3.drew HG3.out).2.1
  have HC2:Hid ((w3.alloc (.cells (wrC (a,s)).toArray 363)).drew.cell? ⟨m.g,1,none⟩=some (.slice A0 d.opn.length cap0)):=Lib.hid (HC.out ((w3.alloc (.cells (wrC (a,s)).toArray 363)).drew) ((Below.heap_alloc w3 _ m.g (by have h1:=HZ3.out;have h2:=HDK1.blk.lt;omega)).trans HG3.out)).2.1
  have HOW3:Hid (w3.drew.ownsRow 0 363 65 (.slice A0 d.opn.length cap0) d.opn.length (d.opn.flatMap wrC)):=Lib.hid (by
   have h:=own_blk (w':=w3.drew) HDK1.opn (fun b hb=>HB3.out b (HDK1.opn.lt b hb).2 (HN.out.2.2.2.2.2.2.2.1 b hb).2.1)
   rw[HOV.out] at h
   exact h)
  have HUI:Hid ((Tryz.prog.info? 243).map (·.size)=some (u8s s).length):=Lib.hid (by rw[sec_length HSE.out];kernel_rfl)
  have HFIN:Hid (∀(v4:Value) (w4:World),w4.ownsRow 0 363 65 v4 (d.opn.length+1) (d.opn.flatMap wrC++wrC (a,s))→(w3.drew.alloc (.cells (wrC (a,s)).toArray 363)).grownBy w4 (Value.slice A0 d.opn.length cap0).ownBlock→(v4.ownBlock=(Value.slice A0 d.opn.length cap0).ownBlock∨v4.ownBlock=some (w3.drew.alloc (.cells (wrC (a,s)).toArray 363)).heap.size)→Blk w4 m.g 151 (diskC m d)∧Blk w4 w.heap.size 243 (u8s s).toArray∧DK (w4.setCell ⟨m.g,1,none⟩ v4) (addM m v4) (addD d a s)∧DT w m (w4.setCell ⟨m.g,1,none⟩ v4) (addM m v4)):=Lib.hid (fun v4 w4 hown hgr hblk=>by
   rw[← HOV.out] at hgr hblk
   have hz1:w.heap.size<w1.heap.size:=HBX1.lt
   have hz3:=HZ3.out
   have hz4:=hgr.size
   have hza:(w3.drew.alloc (.cells (wrC (a,s)).toArray 363)).heap.size=w3.heap.size+1:=by simp
   rw[hza] at hz4 hblk
   have hovlt:∀ k,m.ov.ownBlock=some k→k<w.heap.size:=fun k hk=>(H.out.opn.lt k hk).2
   have hA3:∀ k,k<w3.heap.size→m.ov.ownBlock≠some k→w4.heap[k]? = w3.heap[k]?:=fun k hk hn=>(hgr.block k (by rw[hza];omega) (fun e=>hn e.symm)).trans (Below.heap_alloc w3.drew _ k hk)
   have b4:∀ k,k<w.heap.size→k≠m.bl→m.ov.ownBlock≠some k→w4.heap[k]? = w.heap[k]?:=fun k hk h1 h2=>(hA3 k (by omega) h2).trans ((HB3.out k (by omega) h1).trans (HB01.block k hk))
   have hN:=HN.out
   have hg4:Blk w4 m.g 151 (diskC m d):=(b4 m.g hgl hN.1 (fun e=>(hN.2.2.2.2.2.2.2.1 m.g e).1 rfl)).trans H.out.blk
   have hx4:Blk w4 w.heap.size 243 (u8s s).toArray:=(hA3 _ (by omega) (fun e=>by have:=hovlt _ e;omega)).trans HBX3.out
   have hv4:v4.ownBlock=m.ov.ownBlock∨∃ k,v4.ownBlock=some k∧w.heap.size≤k:=by
    rcases hblk with e|e
    ·exact .inl e
    ·exact .inr ⟨_,e,by omega⟩
   have b5:∀ k,k≠m.g→(w4.setCell ⟨m.g,1,none⟩ v4).heap[k]? = w4.heap[k]?:=fun k hk=>Below.heap_setCell w4 ⟨m.g,1,none⟩ v4 k hk
   have hv4g:∀ b,v4.ownBlock=some b→b≠m.g:=fun b hb=>by
    rcases hv4 with e|⟨q,e,hq⟩
    ·exact(hN.2.2.2.2.2.2.2.1 b (by rw[← e];exact hb)).1
    ·rw[hb] at e;have:=Option.some.inj e;omega
   have hs5:(w4.setCell ⟨m.g,1,none⟩ v4).heap.size=w4.heap.size:=by simp
   refine⟨hg4,hx4,?_,rfl,⟨hgr.os.trans (HT3.os.trans HB01.os),hgr.tape.trans (HT3.tape.trans HB01.tape),hgr.output.trans (HT3.output.trans HB01.output),by omega,fun k hk hn=>?_⟩,foot_add hv4,fun _ _ h=>.inl h⟩
   ·refine H.out.re rfl ([m.g,m.bl]++m.ov.ownBlock.toList) (fun k hk=>by
     simp only[List.mem_append,List.mem_cons,List.not_mem_nil,or_false,Option.mem_toList] at hk
     rcases hk with (rfl|rfl)|hk
     ·exact foot_g m
     ·exact foot_bl m
     ·exact foot_ov hk) (fun k hk hn=>by
     simp only[List.mem_append,List.mem_cons,List.not_mem_nil,or_false,not_or,Option.mem_toList] at hn
     exact(b5 k hn.1.1).trans (b4 k hk hn.1.2 hn.2)) (by omega) (hg4.set_ 1 _) (own_blk H.out.sec fun b hb=>?_) ?_ ?_ ?_ ?_ (nd_add H.out.nd H.out.foot_lt hv4) (foot_add hv4) H.out.flv (fun k hk=>.inr ⟨rfl,rfl⟩) ?_
    ·exact(b5 b (hN.2.2.2.2.2.2.1 b hb).1).trans (b4 b (H.out.sec.lt b hb).2 (hN.2.2.2.2.2.2.1 b hb).2.1 (hN.2.2.2.2.2.2.2.2 b hb))
    ·show(w4.setCell ⟨m.g,1,none⟩ v4).ownsRow 0 _ 65 v4 (d.opn++[(a,s)]).length ((d.opn++[(a,s)]).flatMap wrC)
     rw[List.length_append,List.flatMap_append,List.flatMap_singleton]
     exact own_blk hown (fun b hb=>b5 b (hv4g b hb))
    ·show UM _ m.bl (d.room+1) (lastOf (d.opn++[(a,s)]))
     rw[lastOf_snoc]
     exact HUL3.of_block ((b5 m.bl (fun e=>hN.1 e.symm)).trans (hA3 m.bl HUL3.lt (fun e=>(hN.2.2.2.2.2.2.2.1 m.bl e).2.1 rfl)))
    ·exact(H.out.fl.of_block ((b5 m.bf (fun e=>hN.2.1 e.symm)).trans (b4 m.bf H.out.fl.lt (fun e=>hN.2.2.2.1 e.symm) (fun e=>(hN.2.2.2.2.2.2.2.1 m.bf e).2.2.1 rfl)))).mono (Nat.le_succ _)
    ·exact(H.out.cr.of_block ((b5 m.bc (fun e=>hN.2.2.1 e.symm)).trans (b4 m.bc H.out.cr.lt (fun e=>hN.2.2.2.2.1 e.symm) (fun e=>(hN.2.2.2.2.2.2.2.1 m.bc e).2.2.2 rfl)))).mono (Nat.le_succ _)
    ·have ok:=H.out.ok
     refine⟨ok.sec,fun p hp=>?_,ok.few,by have:=ok.lo;simp[addD];omega,Nat.le_succ_of_le ok.st,hr,ok.cl⟩
     have hp:p∈d.opn++[(a,s)]:=hp
     rw[List.mem_append,List.mem_singleton] at hp
     rcases hp with hp|rfl
     ·exact ok.opn p hp
     ·exact⟨hh2.1,hh2.2,HSE.out⟩
   ·exact(b5 k (fun e=>hn (by rw[e];exact foot_g m))).trans (b4 k hk (fun e=>hn (by rw[e];exact foot_bl m)) (fun e=>hn (foot_ov e))))
  refine held_start 13 (fun wz=>Blk wz w.heap.size 243 (u8s s).toArray) (by kernel_rfl) (by kernel_rfl) (HBX3.out) (fun hHeld=>?_)
  refine hMove 0 (Operand.tmp 0) (some 21) (.pointer (some ⟨m.g,0,none⟩)) (by kernel_rfl) (by kernel_rfl) (by kernel_rfl) (by kernel_rfl) (by kernel_rfl) (fun _ _ _ h=>h) (by exact rfl) hHeld ?_
  simp only[Act.put,List.setIfInBounds_toArray,List.set_cons_zero,List.set_cons_succ]
  refine hMove 1 (Operand.tmp 0) (some 22) (.pointer (some ⟨m.g,0,none⟩)) (by kernel_rfl) (by kernel_rfl) (by kernel_rfl) (by kernel_rfl) (by kernel_rfl) (fun _ _ _ h=>h) (by exact rfl) hHeld ?_
  simp only[Act.put,List.setIfInBounds_toArray,List.set_cons_zero,List.set_cons_succ]
  refine hTake 2 (Op.nilCheck (Operand.tmp 22)) (some 23) (.pointer (some ⟨m.g,0,none⟩)) (by kernel_rfl) (by kernel_rfl) (by kernel_rfl) (by kernel_rfl) (by kernel_rfl) (fun _ _ _ h=>h) (fun o ho wX hX=>by unfold execOp;simp only[ho];go_simp) hHeld ?_
  simp only[Act.put,List.setIfInBounds_toArray,List.set_cons_zero,List.set_cons_succ]
  refine hTake 3 (Op.fieldAddr 151 (Operand.tmp 23) 1) (some 24) (.pointer (some ⟨m.g,1,none⟩)) (by kernel_rfl) (by kernel_rfl) (by kernel_rfl) (by kernel_rfl) (by kernel_rfl) (fun _ _ _ h=>h) (fun o ho wX hX=>by unfold execOp;simp only[ho];go_simp) hHeld ?_
  simp only[Act.put,List.setIfInBounds_toArray,List.set_cons_zero,List.set_cons_succ]
  refine hMove 5 (Operand.tmp 1) (some 26) (.int .i64 a) (by kernel_rfl) (by kernel_rfl) (by kernel_rfl) (by kernel_rfl) (by kernel_rfl) (fun _ _ _ h=>h) (by exact rfl) hHeld ?_
  simp only[Act.put,List.setIfInBounds_toArray,List.set_cons_zero,List.set_cons_succ]
  refine hLoad 6 243 (Operand.tmp 5) (some 27) (cs:=u8s s) (by kernel_rfl) (by kernel_rfl) (by kernel_rfl) (by kernel_rfl) (by kernel_rfl) (fun _ _ _ h=>h) (by exact rfl) (fun _ hX=>by have h:=Blk.range hX;rw[List.toList_toArray] at h;exact h) Tryz.underlying243 rfl HUI.out hHeld ?_
  simp only[Act.put,List.setIfInBounds_toArray,List.set_cons_zero,List.set_cons_succ]
  refine hBuildM 7 363 #[(0,Operand.tmp 26),(1,Operand.tmp 27)] (some 28) (vs:=[(0,.int .i64 a),(1,.agg (u8s s).toArray)]) (cells:=(wrC (a,s)).toArray) (by kernel_rfl) (by kernel_rfl) (by kernel_rfl) (by kernel_rfl) (by kernel_rfl) (fun _ _ _ h=>h) (by rfl) (built_wr a s HSE.out) hHeld ?_
  simp only[Act.put,List.setIfInBounds_toArray,List.set_cons_zero,List.set_cons_succ]
  refine wpAnyH_ready (rs:=[4,8]) (by kernel_rfl) (by simp) ?_
  refine rStep 4 (Op.load 149 (Operand.tmp 24)) (some 25) (.slice A0 d.opn.length cap0) (w3.drew) (by kernel_rfl) (by kernel_rfl) (fun o ho=>by have hcell:=HC1.out;unfold execOp;simp only[ho];go_simp) HBX3.out ?_ (rLit1M 8 tWr (.tmp 28) (some 29) (by kernel_rfl) (by kernel_rfl) (cs:=wrC (a,s)) (by rfl) (wrC_length (p:=(a,s)) HSE.out) (by decide) ((Below.heap_alloc w3.drew _ _ HBX3.lt).trans HBX3.out) ?_ AllReadyH.nil)
  ·simp only[Act.put,List.setIfInBounds_toArray,List.set_cons_zero,List.set_cons_succ]
   refine wpAnyH_ready (rs:=[8]) (by kernel_rfl) (by simp) ?_
   refine rLit1M 8 tWr (.tmp 28) (some 29) (by kernel_rfl) (by kernel_rfl) (cs:=wrC (a,s)) (by rfl) (wrC_length (p:=(a,s)) HSE.out) (by decide) ((Below.heap_alloc w3.drew _ _ HBX3.lt).trans HBX3.out) ?_ AllReadyH.nil
   simp only[Act.put,List.setIfInBounds_toArray,List.set_cons_zero,List.set_cons_succ]
   refine wpAnyH_ready (rs:=[9]) (by kernel_rfl) (by simp) ?_
   refine rAppR 9 tWr (.tmp 25) (.tmp 29) (some 30) (by kernel_rfl) (by kernel_rfl) (by rfl) (World.ownsRow.alloc HOW3.out _) (by rfl) (Sn.new w3.drew (wrC (a,s)).toArray 363 65 1 (by rw[List.size_toArray,wrC_length (p:=(a,s)) HSE.out])) (wrC_one (a,s)) (by unfold maxLen;have:=HLE.out;omega) (by have:=HLE.out;omega) (Nat.zero_le _) (fun v4 w4 hown hgrow hblk=>?_) AllReadyH.nil
   rw[List.toList_toArray] at hown
   obtain⟨a4,q4,hv4,_,_⟩:=own_snD hown
   subst hv4
   obtain⟨hg4,hx4,hdk4,hdt4⟩:=HFIN.out _ w4 hown hgrow hblk
   refine⟨hx4,fun hH8=>?_⟩
   simp only[Act.put,List.setIfInBounds_toArray,List.set_cons_zero,List.set_cons_succ]
   refine hTake 10 (Op.nilCheck (Operand.tmp 21)) (some 31) (.pointer (some ⟨m.g,0,none⟩)) (by kernel_rfl) (by kernel_rfl) (by kernel_rfl) (by kernel_rfl) (by kernel_rfl) (fun _ _ _ h=>h) (fun o ho wX hX=>by unfold execOp;simp only[ho];go_simp) (by assumption) ?_
   simp only[Act.put,List.setIfInBounds_toArray,List.set_cons_zero,List.set_cons_succ]
   refine hTake 11 (Op.fieldAddr 151 (Operand.tmp 31) 1) (some 32) (.pointer (some ⟨m.g,1,none⟩)) (by kernel_rfl) (by kernel_rfl) (by kernel_rfl) (by kernel_rfl) (by kernel_rfl) (fun _ _ _ h=>h) (fun o ho wX hX=>by unfold execOp;simp only[ho];go_simp) (by assumption) ?_
   simp only[Act.put,List.setIfInBounds_toArray,List.set_cons_zero,List.set_cons_succ]
   refine wpAnyH_ready (rs:=[12]) (by kernel_rfl) (by simp) ?_
   have hc41:=hg4.cell 1
   have hf41:=hg4.frozen 1
   simp only[diskC,List.getElem?_toArray,List.getElem?_cons_succ,List.getElem?_cons_zero,HOV.out] at hc41
   refine rSkipR 12 (Op.store 149 (Operand.tmp 32) (Operand.tmp 30)) none (w4.setCell ⟨m.g,1,none⟩ (.slice a4 (d.opn.length+1) q4)) (by kernel_rfl) (by kernel_rfl) (fun o ho=>by unfold execOp;simp only[ho];go_simp) ((Below.heap_setCell w4 ⟨m.g,1,none⟩ _ _ (fun e=>Nat.ne_of_gt hgl e)).trans hx4) ?_ AllReadyH.nil
   simp only[Act.put,List.setIfInBounds_toArray,List.set_cons_zero,List.set_cons_succ]
   refine wpAnyH_done (by kernel_rfl) ?_ _
   have HDK4:=Lib.hid hdk4
   have HDT4:=Lib.hid hdt4
   clear hown hgrow hblk hg4 hx4 hdk4 hdt4 hc41 hf41
   go_wp2_with fail
   go_ret
   exact⟨rfl,_,HDK4.out,HDT4.out⟩
  ·simp only[Act.put,List.setIfInBounds_toArray,List.set_cons_zero,List.set_cons_succ]
   refine wpAnyH_ready (rs:=[4]) (by kernel_rfl) (by simp) ?_
   refine rStep 4 (Op.load 149 (Operand.tmp 24)) (some 25) (.slice A0 d.opn.length cap0) ((w3.alloc (.cells (wrC (a,s)).toArray 363)).drew) (by kernel_rfl) (by kernel_rfl) (fun o ho=>by have hcell:=HC2.out;unfold execOp;simp only[ho];go_simp) ((Below.heap_alloc w3.drew _ _ HBX3.lt).trans HBX3.out) ?_ AllReadyH.nil
   simp only[Act.put,List.setIfInBounds_toArray,List.set_cons_zero,List.set_cons_succ]
   refine wpAnyH_ready (rs:=[9]) (by kernel_rfl) (by simp) ?_
   refine rAppR 9 tWr (.tmp 25) (.tmp 29) (some 30) (by kernel_rfl) (by kernel_rfl) (by rfl) (World.ownsRow.alloc HOW3.out _) (by rfl) (Sn.new w3.drew (wrC (a,s)).toArray 363 65 1 (by rw[List.size_toArray,wrC_length (p:=(a,s)) HSE.out])) (wrC_one (a,s)) (by unfold maxLen;have:=HLE.out;omega) (by have:=HLE.out;omega) (Nat.zero_le _) (fun v4 w4 hown hgrow hblk=>?_) AllReadyH.nil
   rw[List.toList_toArray] at hown
   obtain⟨a4,q4,hv4,_,_⟩:=own_snD hown
   subst hv4
   obtain⟨hg4,hx4,hdk4,hdt4⟩:=HFIN.out _ w4 hown hgrow hblk
   refine⟨hx4,fun hH8=>?_⟩
   simp only[Act.put,List.setIfInBounds_toArray,List.set_cons_zero,List.set_cons_succ]
   refine hTake 10 (Op.nilCheck (Operand.tmp 21)) (some 31) (.pointer (some ⟨m.g,0,none⟩)) (by kernel_rfl) (by kernel_rfl) (by kernel_rfl) (by kernel_rfl) (by kernel_rfl) (fun _ _ _ h=>h) (fun o ho wX hX=>by unfold execOp;simp only[ho];go_simp) (by assumption) ?_
   simp only[Act.put,List.setIfInBounds_toArray,List.set_cons_zero,List.set_cons_succ]
   refine hTake 11 (Op.fieldAddr 151 (Operand.tmp 31) 1) (some 32) (.pointer (some ⟨m.g,1,none⟩)) (by kernel_rfl) (by kernel_rfl) (by kernel_rfl) (by kernel_rfl) (by kernel_rfl) (fun _ _ _ h=>h) (fun o ho wX hX=>by unfold execOp;simp only[ho];go_simp) (by assumption) ?_
   simp only[Act.put,List.setIfInBounds_toArray,List.set_cons_zero,List.set_cons_succ]
   refine wpAnyH_ready (rs:=[12]) (by kernel_rfl) (by simp) ?_
   have hc41:=hg4.cell 1
   have hf41:=hg4.frozen 1
   simp only[diskC,List.getElem?_toArray,List.getElem?_cons_succ,List.getElem?_cons_zero,HOV.out] at hc41
   refine rSkipR 12 (Op.store 149 (Operand.tmp 32) (Operand.tmp 30)) none (w4.setCell ⟨m.g,1,none⟩ (.slice a4 (d.opn.length+1) q4)) (by kernel_rfl) (by kernel_rfl) (fun o ho=>by unfold execOp;simp only[ho];go_simp) ((Below.heap_setCell w4 ⟨m.g,1,none⟩ _ _ (fun e=>Nat.ne_of_gt hgl e)).trans hx4) ?_ AllReadyH.nil
   simp only[Act.put,List.setIfInBounds_toArray,List.set_cons_zero,List.set_cons_succ]
   refine wpAnyH_done (by kernel_rfl) ?_ _
   have HDK4:=Lib.hid hdk4
   have HDT4:=Lib.hid hdt4
   clear hown hgrow hblk hg4 hx4 hdk4 hdt4 hc41 hf41
   go_wp2_with fail
   go_ret
   exact⟨rfl,_,HDK4.out,HDT4.out⟩
end Go.Proofs.YtiaigidbcljblaaGreatDoor
