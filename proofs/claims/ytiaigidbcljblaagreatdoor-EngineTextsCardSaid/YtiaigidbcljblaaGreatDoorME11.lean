import Derived.Test.YtiaigidbcljblaaGreatDoorME10
import Derived.Test.YtiaigidbcljblaaGreatDoorME1
import Derived.Defers
import Derived.Recover
import Derived.Deep.QuietTactic
import Derived.BigQuiet
import Derived.Test.YtiaigidbcljblaaGreatDoorME5
import Derived.Test.YtiaigidbcljblaaGreatDoorME7
set_option linter.unusedSimpArgs false
set_option maxRecDepth 100000
set_option maxHeartbeats 40000000
namespace Go.Proofs.YtiaigidbcljblaaGreatDoor
section
open Go.RowKit
attribute [local irreducible] wpQuiet wpAnyH
def planC(d:DiskD)(n:Int)(cl:List Int):DiskD:=if n<1 then d else { d with cr:=fun k=>if k=(d.steps:Int)+n then some cl else d.cr k,room:=d.room+1 }
def planF(d:DiskD)(n:Int):DiskD:=if n<1 then d else { d with fl:=fun k=>if k=(d.steps:Int)+n then true else d.fl k,room:=d.room+1 }
theorem DK.planC{w w':World}{m:DiskM}{d:DiskD}(h:DK w m d){K:Int}{cs:List Int}{v:Value}(hb:∀ k,k<w.heap.size→k≠m.bc→w'.heap[k]? = w.heap[k]?)(hsz:w.heap.size≤w'.heap.size)(hu:UM w' m.bc (d.room+1) (uput m.cv K v))(hv:Sn w' 1 v cs.length (i64s cs))(hvb:∀ b,v.ownBlock=some b→b ∉ foot m∧b<w'.heap.size)(hl:cs.length≤1000000)(hr:d.room+1≤100000):
  DK w' { m with cv:=uput m.cv K v } { d with cr:=fun k=>if k=K then some cs else d.cr k,room:=d.room+1 }:=by
 have hn:=foot_nd h.nd
 refine⟨(hb m.g h.blk.lt hn.2.2.1).trans h.blk,own_blk h.sec fun b hx=>hb b (h.sec.lt b hx).2 (hn.2.2.2.2.2.2.1 b hx).2.2.2,own_blk h.opn fun b hx=>hb b (h.opn.lt b hx).2 (hn.2.2.2.2.2.2.2.1 b hx).2.2.2,(h.last.of_block (hb _ h.last.lt hn.2.2.2.2.1)).mono (Nat.le_succ _),(h.fl.of_block (hb _ h.fl.lt hn.2.2.2.2.2.1)).mono (Nat.le_succ _),hu,h.nd,h.flv,fun k hk=>?_,⟨h.ok.sec,h.ok.opn,h.ok.few,Nat.le_succ_of_le h.ok.lo,Nat.le_succ_of_le h.ok.st,hr,fun k c e=>?_⟩⟩
 ·show match (if k=K then some cs else d.cr k) with|none=>uput m.cv K v k=none|some cs'=>∃ u,uput m.cv K v k=some u∧Sn w' 1 u cs'.length (i64s cs')∧∀ b,u.ownBlock=some b→b ∉ foot m∧b<w'.heap.size
  unfold uput
  by_cases e:k=K
  ·rw[if_pos e,if_pos e]
   exact⟨v,rfl,hv,hvb⟩
  ·rw[if_neg e,if_neg e]
   have h3:=h.crv k hk
   cases hc:d.cr k with
   | none=>rw[hc] at h3;exact h3
   | some c=>
    rw[hc] at h3
    obtain⟨u,h4,h5,h6⟩:=h3
    refine⟨u,h4,?_,fun b e=>⟨(h6 b e).1,Nat.lt_of_lt_of_le (h6 b e).2 hsz⟩⟩
    obtain⟨A,cap,rfl,hc1,hl,hx⟩:=h5
    refine⟨A,cap,rfl,hc1,hl,fun hp=>?_⟩
    obtain⟨b,off,rfl,hcell⟩:=hx hp
    exact⟨b,off,rfl,fun j u hj=>(World.cell?_of_block (a:=⟨b,off+j,none⟩) (hb b (h6 b rfl).2 (fun e=>(h6 b rfl).1 (by rw[e];exact foot_bc m)))).trans (hcell j u hj)⟩
 ·have e:(if k=K then some cs else d.cr k)=some c:=e
  split at e
  ·have:=Option.some.inj e;rw[← this];exact hl
  ·exact h.ok.cl k c e
theorem DK.planF{w w':World}{m:DiskM}{d:DiskD}(h:DK w m d){K:Int}(hb:∀ k,k<w.heap.size→k≠m.bf→w'.heap[k]? = w.heap[k]?)(hsz:w.heap.size≤w'.heap.size)(hu:UM w' m.bf (d.room+1) (uput m.fv K (.bool true)))(hr:d.room+1≤100000):
  DK w' { m with fv:=uput m.fv K (.bool true) } { d with fl:=fun k=>if k=K then true else d.fl k,room:=d.room+1 }:=by
 have hn:=foot_nd h.nd
 refine h.re rfl [m.bf] (fun k hk=>by rw[List.mem_singleton] at hk;rw[hk];exact foot_bf m) (fun k hk hm=>hb k hk (by simpa using hm)) hsz ((hb m.g h.blk.lt hn.2.1).trans h.blk) (own_blk h.sec fun b hx=>hb b (h.sec.lt b hx).2 (hn.2.2.2.2.2.2.1 b hx).2.2.1) (own_blk h.opn fun b hx=>hb b (h.opn.lt b hx).2 (hn.2.2.2.2.2.2.2.1 b hx).2.2.1) ((h.last.of_block (hb _ h.last.lt hn.2.2.2.1)).mono (Nat.le_succ _)) hu ((h.cr.of_block (hb _ h.cr.lt (fun e=>hn.2.2.2.2.2.1 e.symm))).mono (Nat.le_succ _)) h.nd (fun b hb=>.inl hb) (fun k hk=>?_) (fun k hk=>.inr ⟨rfl,rfl⟩) ⟨h.ok.sec,h.ok.opn,h.ok.few,Nat.le_succ_of_le h.ok.lo,Nat.le_succ_of_le h.ok.st,hr,h.ok.cl⟩
 show(uput m.fv K (.bool true) k).getD (.bool false) = .bool (if k=K then true else d.fl k)
 unfold uput
 by_cases e:k=K
 ·rw[if_pos e,if_pos e];rfl
 ·rw[if_neg e,if_neg e];exact h.flv k hk
theorem tIntD:SlT Tryz.prog 69 3 1 8:=SlT.mk' Tryz.underlying69 (z:=.int .i64 0) (by kernel_rfl) rfl (by decide)
theorem i64s_one(l:List Int):∀ u∈i64s l,u.oneCell'=true:=by
 intro u hu
 simp only[i64s,List.mem_map] at hu
 obtain⟨_,_,rfl⟩:=hu
 rfl
theorem clone_ints(va:Value)(n:Nat)(xs:List Value)(w:World)(hs:Sn w 1 va n xs)(h1:∀ u∈xs,u.oneCell'=true)(hn:n≤1000000):
  Calls Tryz.prog 117 #[va] w fun e w'=>∃ v,e = .returned v∧Sn w' 1 v n xs∧(∀ b,v.ownBlock=some b→w.heap.size≤b∧b<w'.heap.size)∧Below w.heap.size w w':=by
 obtain⟨A,cap,rfl,hcap,hl,hx⟩:=id hs
 have HS:=Lib.hid hs
 have HX:=Lib.hid hx
 clear hx
 cases A with
 | none=>
  have heq:∀ w:World,(binOp .eql 69 (.slice none n cap) (.slice none 0 0)).run Tryz.prog w = .ok (.bool true) w:=fun _=>rfl
  go_enter Tryz.func117,Tryz.ntmps117
  go_wp2_with fail
  go_ret
  have hn0:n=0:=by
   rcases Nat.eq_zero_or_pos n with h|h
   ·exact h
   ·obtain⟨b,off,e,_⟩:=HX.out h
    cases e
  subst hn0
  exact⟨_,rfl,⟨none,0,rfl,Nat.le_refl _,hl,fun h=>absurd h (by omega)⟩,(fun b e=>by cases e),Below.refl _ _⟩
 | some a=>
  have heq:∀ w:World,(binOp .eql 69 (.slice (some a) n cap) (.slice none 0 0)).run Tryz.prog w = .ok (.bool false) w:=fun _=>rfl
  have hown:(w.alloc (.cells #[] 3)).ownsRow w.heap.size 3 1 (.slice (some ⟨w.heap.size,0,none⟩) 0 0) 0 []:=own_new w #[] 3 1 0 w.heap.size w.heap.size (Nat.le_refl _) rfl (by unfold maxLen;omega) rfl
  go_enter Tryz.func117,Tryz.ntmps117
  clear hs
  go_wp2_with (at_builtin;refine app tIntD (.tmp 5) (.tmp 6) rfl rfl rfl hown rfl (HS.alloc _) h1 (by unfold maxLen;omega) (by omega) (by simp) ?_;intro v' w3 hown3 hgrow _)
  go_ret
  have hb:Below w.heap.size w w3:=((Below.refl _ w).alloc (Nat.le_refl _) _).grown hgrow (by simp) (fun g hg=>by have:=(hown.lt g hg).1;omega)
  have hlt:=hown3.lt
  have:=Sn.own hown3
  rw[Nat.zero_add,List.nil_append] at this
  exact⟨_,rfl,this,fun b e=>hlt b e,hb⟩
theorem disk_fail(n:Int)(w:World)(m:DiskM)(d:DiskD)(h:DK w m d)(hn1:n≤1000000000)(hr:d.room+1≤100000):
  Calls Tryz.prog 74 #[.pointer (some ⟨m.g,0,none⟩),.int .i64 n] w fun e w'=>e = .returned (.tuple #[])∧∃ m',DK w' m' (planF d n)∧DT w m w' m':=by
 have H:=Lib.hid h
 have hst:d.steps≤100000:=Nat.le_trans h.ok.st h.ok.rm
 clear h
 rcases Bool.eq_false_or_eq_true (decide (1≤n)) with t1|t1
 ·have h1:1≤n:=of_decide_eq_true t1
  have HF:Hid (planF d n={ d with fl:=fun k=>if k=(d.steps:Int)+n then true else d.fl k,room:=d.room+1 }):=Lib.hid (by unfold planF;rw[if_neg (by omega)])
  have hk:isI64 ((d.steps:Int)+n):=by unfold isI64;omega
  obtain⟨w3,HRUN,HUL3,HT3⟩:∃ w3,Hid ((Instr.mapUpdate 147 (.map (some m.bf)) (.int .i64 ((d.steps:Int)+n)) (.bool true)).run Tryz.prog w.drew = .ok () w3)∧Hid (UM w3 m.bf (d.room+1) (uput m.fv ((d.steps:Int)+n) (.bool true)))∧Hid (w.drew.grownBy w3 (some m.bf)):=by
   obtain⟨w3,h1,h2,h3⟩:=UM.put_run (w:=w.drew) Tryz.underlying147 H.out.fl hk (.bool true) (by unfold maxLen;omega)
   exact⟨w3,Lib.hid h1,Lib.hid h2,Lib.hid h3.grown⟩
  have HB3:Hid (∀ k,k<w.heap.size→k≠m.bf→w3.heap[k]? = w.heap[k]?):=Lib.hid (fun k hk hn=>HT3.block k hk (fun e=>hn (Option.some.inj e)))
  have HDK:Hid (DK w3 { m with fv:=uput m.fv ((d.steps:Int)+n) (.bool true) } (planF d n)):=Lib.hid (by rw[HF.out];exact H.out.planF HB3.out HT3.size HUL3.out hr)
  have HDT:Hid (DT w m w3 { m with fv:=uput m.fv ((d.steps:Int)+n) (.bool true) }):=Lib.hid ⟨rfl,⟨HT3.os,HT3.tape,HT3.output,HT3.size,fun k hk hm=>HB3.out k hk (fun e=>hm (by rw[e];exact foot_bf m))⟩,fun b hb=>.inl hb,fun _ _ h=>.inl h⟩
  have HS0:Hid (w.drew.cell? ⟨m.g,5,none⟩=some (.map (some m.bf))∧w.drew.cell? ⟨m.g,4,none⟩=some (.int .i64 (d.steps:Int))):=Lib.hid ⟨H.out.blk.cell 5,H.out.blk.cell 4⟩
  have HS3:Hid (w3.cell? ⟨m.g,5,none⟩=some (.map (some m.bf))∧w3.cell? ⟨m.g,4,none⟩=some (.int .i64 (d.steps:Int))):=Lib.hid (by
   have hB:Blk w3 m.g 151 (diskC m d):=(HB3.out m.g H.out.blk.lt (foot_nd H.out.nd).2.1).trans H.out.blk
   exact⟨hB.cell 5,hB.cell 4⟩)
  have y1:IntKind.i64.wrap ((d.steps:Int)+n)=(d.steps:Int)+n:=IntWalk.i64_in _ (by omega)
  clear hk
  go_enter Tryz.func74,Tryz.ntmps74
  go_wp2_with fail
  refine held_start 11 (fun wz=>wz.cell? ⟨m.g,5,none⟩=some (.map (some m.bf))∧wz.cell? ⟨m.g,4,none⟩=some (.int .i64 (d.steps:Int))) (by kernel_rfl) (by kernel_rfl) (HS0.out) (fun hHeld=>?_)
  refine hMove 0 (Operand.tmp 0) (some 10) (.pointer (some ⟨m.g,0,none⟩)) (by kernel_rfl) (by kernel_rfl) (by kernel_rfl) (by kernel_rfl) (by kernel_rfl) (fun _ _ _ h=>h) (by exact rfl) hHeld ?_
  simp only[Act.put,List.setIfInBounds_toArray,List.set_cons_zero,List.set_cons_succ]
  refine hTake 1 (Op.nilCheck (Operand.tmp 10)) (some 11) (.pointer (some ⟨m.g,0,none⟩)) (by kernel_rfl) (by kernel_rfl) (by kernel_rfl) (by kernel_rfl) (by kernel_rfl) (fun _ _ _ h=>h) (fun o ho wX hX=>by unfold execOp;simp only[ho];go_simp) hHeld ?_
  simp only[Act.put,List.setIfInBounds_toArray,List.set_cons_zero,List.set_cons_succ]
  refine hTake 2 (Op.fieldAddr 151 (Operand.tmp 11) 5) (some 12) (.pointer (some ⟨m.g,5,none⟩)) (by kernel_rfl) (by kernel_rfl) (by kernel_rfl) (by kernel_rfl) (by kernel_rfl) (fun _ _ _ h=>h) (fun o ho wX hX=>by unfold execOp;simp only[ho];go_simp) hHeld ?_
  simp only[Act.put,List.setIfInBounds_toArray,List.set_cons_zero,List.set_cons_succ]
  refine hTake 3 (Op.load 147 (Operand.tmp 12)) (some 13) (.map (some m.bf)) (by kernel_rfl) (by kernel_rfl) (by kernel_rfl) (by kernel_rfl) (by kernel_rfl) (fun _ _ _ h=>h) (fun o ho wX hX=>by have hcell:=hX.1;unfold execOp;simp only[ho];go_simp) hHeld ?_
  simp only[Act.put,List.setIfInBounds_toArray,List.set_cons_zero,List.set_cons_succ]
  refine hMove 4 (Operand.tmp 0) (some 14) (.pointer (some ⟨m.g,0,none⟩)) (by kernel_rfl) (by kernel_rfl) (by kernel_rfl) (by kernel_rfl) (by kernel_rfl) (fun _ _ _ h=>h) (by exact rfl) hHeld ?_
  simp only[Act.put,List.setIfInBounds_toArray,List.set_cons_zero,List.set_cons_succ]
  refine hTake 5 (Op.nilCheck (Operand.tmp 14)) (some 15) (.pointer (some ⟨m.g,0,none⟩)) (by kernel_rfl) (by kernel_rfl) (by kernel_rfl) (by kernel_rfl) (by kernel_rfl) (fun _ _ _ h=>h) (fun o ho wX hX=>by unfold execOp;simp only[ho];go_simp) hHeld ?_
  simp only[Act.put,List.setIfInBounds_toArray,List.set_cons_zero,List.set_cons_succ]
  refine hTake 6 (Op.fieldAddr 151 (Operand.tmp 15) 4) (some 16) (.pointer (some ⟨m.g,4,none⟩)) (by kernel_rfl) (by kernel_rfl) (by kernel_rfl) (by kernel_rfl) (by kernel_rfl) (fun _ _ _ h=>h) (fun o ho wX hX=>by unfold execOp;simp only[ho];go_simp) hHeld ?_
  simp only[Act.put,List.setIfInBounds_toArray,List.set_cons_zero,List.set_cons_succ]
  refine hTake 7 (Op.load 3 (Operand.tmp 16)) (some 17) (.int .i64 (d.steps:Int)) (by kernel_rfl) (by kernel_rfl) (by kernel_rfl) (by kernel_rfl) (by kernel_rfl) (fun _ _ _ h=>h) (fun o ho wX hX=>by have hcell:=hX.2;unfold execOp;simp only[ho];go_simp) hHeld ?_
  simp only[Act.put,List.setIfInBounds_toArray,List.set_cons_zero,List.set_cons_succ]
  refine hMove 8 (Operand.tmp 1) (some 18) (.int .i64 n) (by kernel_rfl) (by kernel_rfl) (by kernel_rfl) (by kernel_rfl) (by kernel_rfl) (fun _ _ _ h=>h) (by exact rfl) hHeld ?_
  simp only[Act.put,List.setIfInBounds_toArray,List.set_cons_zero,List.set_cons_succ]
  refine hTake 9 (Op.binOp BinOp.add 3 (Operand.tmp 17) (Operand.tmp 18) 3) (some 19) (.int .i64 ((d.steps:Int)+n)) (by kernel_rfl) (by kernel_rfl) (by kernel_rfl) (by kernel_rfl) (by kernel_rfl) (fun _ _ _ h=>h) (fun o ho wX hX=>by unfold execOp;simp only[ho];go_simp) hHeld ?_
  simp only[Act.put,List.setIfInBounds_toArray,List.set_cons_zero,List.set_cons_succ]
  refine wpAnyH_ready (rs:=[10]) (by kernel_rfl) (by simp) ?_
  refine rUpd 10 (.tmp 13) (.tmp 19) (.const (.bool true)) none w3 (by kernel_rfl) (by kernel_rfl) (by rfl) (by rfl) (by rfl) HRUN.out HS3.out ?_ AllReadyH.nil
  simp only[Act.put,List.setIfInBounds_toArray,List.set_cons_zero,List.set_cons_succ]
  refine wpAnyH_done (by kernel_rfl) ?_ _
  clear hHeld
  go_wp2_with fail
  exact bodyPost_end (results_none rfl _ _ _) rfl ⟨rfl,_,HDK.out,HDT.out⟩
 ·have HF:Hid (planF d n=d):=Lib.hid (by unfold planF;rw[if_pos];have:=of_decide_eq_false t1;omega)
  go_enter Tryz.func74,Tryz.ntmps74
  go_wp2_with fail
  exact bodyPost_end (results_none rfl _ _ _) rfl ⟨rfl,m,by rw[HF.out];exact H.out,DT.refl⟩
theorem disk_crashAt(n:Int)(va:Value)(cl:List Int)(w:World)(m:DiskM)(d:DiskD)(h:DK w m d)(hs:Sn w 1 va cl.length (i64s cl))(hcl:cl.length≤1000000)(hn1:n≤1000000000)(hr:d.room+1≤100000):
  Calls Tryz.prog 76 #[.pointer (some ⟨m.g,0,none⟩),.int .i64 n,va] w fun e w'=>e = .returned (.tuple #[])∧∃ m',DK w' m' (planC d n cl)∧DT w m w' m':=by
 have H:=Lib.hid h
 have hst:d.steps≤100000:=Nat.le_trans h.ok.st h.ok.rm
 have HCN:=Lib.hid (clone_ints va cl.length _ w.drew hs (i64s_one cl) hcl)
 clear h hs
 rcases Bool.eq_false_or_eq_true (decide (1≤n)) with t1|t1
 ·have h1:1≤n:=of_decide_eq_true t1
  have HF:Hid (planC d n cl={ d with cr:=fun k=>if k=(d.steps:Int)+n then some cl else d.cr k,room:=d.room+1 }):=Lib.hid (by unfold planC;rw[if_neg (by omega)])
  have hk:isI64 ((d.steps:Int)+n):=by unfold isI64;omega
  have HPUT:Hid (∀(v:Value) (w2:World),Sn w2 1 v cl.length (i64s cl)→(∀ b,v.ownBlock=some b→w.heap.size≤b∧b<w2.heap.size)→Below w.heap.size w w2→∃ w3,(Instr.mapUpdate 148 (.map (some m.bc)) (.int .i64 ((d.steps:Int)+n)) v).run Tryz.prog w2 = .ok () w3∧DK w3 { m with cv:=uput m.cv ((d.steps:Int)+n) v } (planC d n cl)∧DT w m w3 { m with cv:=uput m.cv ((d.steps:Int)+n) v }∧w3.cell? ⟨m.g,6,none⟩=some (.map (some m.bc))∧w3.cell? ⟨m.g,4,none⟩=some (.int .i64 (d.steps:Int))):=Lib.hid (fun v w2 hs hvb hb=>by
   have H2:=H.out.keep hb
   obtain⟨w3,e1,e2,e3⟩:=UM.put_run Tryz.underlying148 H2.cr hk v (by unfold maxLen;omega)
   have hg:=e3.grown
   have hB3:∀ k,k<w2.heap.size→k≠m.bc→w3.heap[k]? = w2.heap[k]?:=fun k hk hn=>hg.block k hk (fun e=>hn (Option.some.inj e))
   have hnf:∀ b,v.ownBlock=some b→b ∉ foot m:=fun b e hm=>by have h1:=H.out.foot_lt b hm;have h2:=hvb b e;omega
   have hdk:=H2.planC hB3 hg.size e2 (cs:=cl) (by
    obtain⟨A,cap,rfl,hc1,hl,hx⟩:=hs
    refine⟨A,cap,rfl,hc1,hl,fun hp=>?_⟩
    obtain⟨b,off,rfl,hcell⟩:=hx hp
    exact⟨b,off,rfl,fun j u hj=>(World.cell?_of_block (a:=⟨b,off+j,none⟩) (hB3 b (hvb b rfl).2 (fun e=>hnf b rfl (by rw[e];exact foot_bc m)))).trans (hcell j u hj)⟩) (fun b e=>⟨hnf b e,Nat.lt_of_lt_of_le (hvb b e).2 hg.size⟩) hcl hr
   have hB:Blk w3 m.g 151 (diskC m d):=(hB3 m.g H2.blk.lt (foot_nd H.out.nd).2.2.1).trans H2.blk
   refine⟨w3,e1,by rw[HF.out];exact hdk,⟨rfl,(Fo.of_below hb).trans (G:=foot m) ⟨hg.os,hg.tape,hg.output,hg.size,fun k hk hm=>hB3 k hk (fun e=>hm (by rw[e];exact foot_bc m))⟩ (fun x hx=>.inl hx),fun b hb=>.inl hb,fun k x hx=>by
    have hx:(if k=(d.steps:Int)+n then some v else m.cv k)=some x:=hx
    split at hx
    ·injection hx with hx
     subst hx
     exact .inr (fun b e=>(hvb b e).1)
    ·exact .inl hx⟩,hB.cell 6,hB.cell 4⟩)
  have HS0:Hid (w.drew.cell? ⟨m.g,6,none⟩=some (.map (some m.bc))∧w.drew.cell? ⟨m.g,4,none⟩=some (.int .i64 (d.steps:Int))):=Lib.hid ⟨H.out.blk.cell 6,H.out.blk.cell 4⟩
  have y1:IntKind.i64.wrap ((d.steps:Int)+n)=(d.steps:Int)+n:=IntWalk.i64_in _ (by omega)
  clear hk
  go_enter Tryz.func76,Tryz.ntmps76
  go_wp2_with fail
  refine held_start 13 (fun wz=>wz.cell? ⟨m.g,6,none⟩=some (.map (some m.bc))∧wz.cell? ⟨m.g,4,none⟩=some (.int .i64 (d.steps:Int))) (by kernel_rfl) (by kernel_rfl) (HS0.out) (fun hHeld=>?_)
  refine hMove 0 (Operand.tmp 0) (some 12) (.pointer (some ⟨m.g,0,none⟩)) (by kernel_rfl) (by kernel_rfl) (by kernel_rfl) (by kernel_rfl) (by kernel_rfl) (fun _ _ _ h=>h) (by exact rfl) hHeld ?_
  simp only[Act.put,List.setIfInBounds_toArray,List.set_cons_zero,List.set_cons_succ]
  refine hTake 1 (Op.nilCheck (Operand.tmp 12)) (some 13) (.pointer (some ⟨m.g,0,none⟩)) (by kernel_rfl) (by kernel_rfl) (by kernel_rfl) (by kernel_rfl) (by kernel_rfl) (fun _ _ _ h=>h) (fun o ho wX hX=>by unfold execOp;simp only[ho];go_simp) hHeld ?_
  simp only[Act.put,List.setIfInBounds_toArray,List.set_cons_zero,List.set_cons_succ]
  refine hTake 2 (Op.fieldAddr 151 (Operand.tmp 13) 6) (some 14) (.pointer (some ⟨m.g,6,none⟩)) (by kernel_rfl) (by kernel_rfl) (by kernel_rfl) (by kernel_rfl) (by kernel_rfl) (fun _ _ _ h=>h) (fun o ho wX hX=>by unfold execOp;simp only[ho];go_simp) hHeld ?_
  simp only[Act.put,List.setIfInBounds_toArray,List.set_cons_zero,List.set_cons_succ]
  refine hTake 3 (Op.load 148 (Operand.tmp 14)) (some 15) (.map (some m.bc)) (by kernel_rfl) (by kernel_rfl) (by kernel_rfl) (by kernel_rfl) (by kernel_rfl) (fun _ _ _ h=>h) (fun o ho wX hX=>by have hcell:=hX.1;unfold execOp;simp only[ho];go_simp) hHeld ?_
  simp only[Act.put,List.setIfInBounds_toArray,List.set_cons_zero,List.set_cons_succ]
  refine hMove 4 (Operand.tmp 0) (some 16) (.pointer (some ⟨m.g,0,none⟩)) (by kernel_rfl) (by kernel_rfl) (by kernel_rfl) (by kernel_rfl) (by kernel_rfl) (fun _ _ _ h=>h) (by exact rfl) hHeld ?_
  simp only[Act.put,List.setIfInBounds_toArray,List.set_cons_zero,List.set_cons_succ]
  refine hTake 5 (Op.nilCheck (Operand.tmp 16)) (some 17) (.pointer (some ⟨m.g,0,none⟩)) (by kernel_rfl) (by kernel_rfl) (by kernel_rfl) (by kernel_rfl) (by kernel_rfl) (fun _ _ _ h=>h) (fun o ho wX hX=>by unfold execOp;simp only[ho];go_simp) hHeld ?_
  simp only[Act.put,List.setIfInBounds_toArray,List.set_cons_zero,List.set_cons_succ]
  refine hTake 6 (Op.fieldAddr 151 (Operand.tmp 17) 4) (some 18) (.pointer (some ⟨m.g,4,none⟩)) (by kernel_rfl) (by kernel_rfl) (by kernel_rfl) (by kernel_rfl) (by kernel_rfl) (fun _ _ _ h=>h) (fun o ho wX hX=>by unfold execOp;simp only[ho];go_simp) hHeld ?_
  simp only[Act.put,List.setIfInBounds_toArray,List.set_cons_zero,List.set_cons_succ]
  refine hTake 7 (Op.load 3 (Operand.tmp 18)) (some 19) (.int .i64 (d.steps:Int)) (by kernel_rfl) (by kernel_rfl) (by kernel_rfl) (by kernel_rfl) (by kernel_rfl) (fun _ _ _ h=>h) (fun o ho wX hX=>by have hcell:=hX.2;unfold execOp;simp only[ho];go_simp) hHeld ?_
  simp only[Act.put,List.setIfInBounds_toArray,List.set_cons_zero,List.set_cons_succ]
  refine hMove 8 (Operand.tmp 1) (some 20) (.int .i64 n) (by kernel_rfl) (by kernel_rfl) (by kernel_rfl) (by kernel_rfl) (by kernel_rfl) (fun _ _ _ h=>h) (by exact rfl) hHeld ?_
  simp only[Act.put,List.setIfInBounds_toArray,List.set_cons_zero,List.set_cons_succ]
  refine hTake 9 (Op.binOp BinOp.add 3 (Operand.tmp 19) (Operand.tmp 20) 3) (some 21) (.int .i64 ((d.steps:Int)+n)) (by kernel_rfl) (by kernel_rfl) (by kernel_rfl) (by kernel_rfl) (by kernel_rfl) (fun _ _ _ h=>h) (fun o ho wX hX=>by unfold execOp;simp only[ho];go_simp) hHeld ?_
  simp only[Act.put,List.setIfInBounds_toArray,List.set_cons_zero,List.set_cons_succ]
  refine hMove 10 (Operand.tmp 2) (some 22) (va) (by kernel_rfl) (by kernel_rfl) (by kernel_rfl) (by kernel_rfl) (by kernel_rfl) (fun _ _ _ h=>h) (by exact rfl) hHeld ?_
  simp only[Act.put,List.setIfInBounds_toArray,List.set_cons_zero,List.set_cons_succ]
  refine wpAnyH_ready (rs:=[11]) (by kernel_rfl) (by simp) ?_
  refine rCall 11 (Op.call { callee:=Callee.value (Operand.func 117),args:=#[Operand.tmp 22],argTypes:=#[69] }) (some 23) 117 #[va] (by kernel_rfl) (by kernel_rfl) (fun o ho=>by unfold execOp;simp only[ho];go_simp) ?_ AllReadyH.nil
  refine HCN.mono ?_
  rintro e w2 ⟨v2,rfl,h2,h3,h4⟩
  have hb2:Below w.heap.size w w2:=(Below.refl w.heap.size w).drew.trans h4
  obtain⟨w3,hrun3,hdk3,hdt3,hs3⟩:=HPUT.out v2 w2 h2 h3 hb2
  refine⟨_,rfl,⟨Below.cell' hb2 HS0.out.1,Below.cell' hb2 HS0.out.2⟩,fun _=>?_⟩
  simp only[Act.put,List.setIfInBounds_toArray,List.set_cons_zero,List.set_cons_succ]
  refine wpAnyH_ready (rs:=[12]) (by kernel_rfl) (by simp) ?_
  refine rUpd 12 (.tmp 15) (.tmp 21) (.tmp 23) none w3 (by kernel_rfl) (by kernel_rfl) (by rfl) (by rfl) (by rfl) hrun3 hs3 ?_ AllReadyH.nil
  simp only[Act.put,List.setIfInBounds_toArray,List.set_cons_zero,List.set_cons_succ]
  refine wpAnyH_done (by kernel_rfl) ?_ _
  have HDK:=Lib.hid hdk3
  have HDT:=Lib.hid hdt3
  clear h2 h3 h4 hb2 hrun3 hdk3 hdt3 hs3
  clear hHeld
  go_wp2_with fail
  exact bodyPost_end (results_none rfl _ _ _) rfl ⟨rfl,_,HDK.out,HDT.out⟩
 ·have HF:Hid (planC d n cl=d):=Lib.hid (by unfold planC;rw[if_pos];have:=of_decide_eq_false t1;omega)
  go_enter Tryz.func76,Tryz.ntmps76
  go_wp2_with fail
  exact bodyPost_end (results_none rfl _ _ _) rfl ⟨rfl,m,by rw[HF.out];exact H.out,DT.refl⟩
end
section
open Go.RowKit
def baseVal(c:Int):Option Int→Value
 | none=>.iface 29 (.int .i64 c)
 | some at_=>.iface 145 (.agg #[.int .i64 c,.int .i64 at_])
theorem ta_code_code(p:Value)(w:World):(Instr.typeAssert (.iface 29 p) 42 29 true).run Tryz.prog w = .ok (.tuple #[p,.bool true]) w:=by kernel_rfl
theorem ta_code_fault(p:Value)(w:World):(Instr.typeAssert (.iface 145 p) 42 29 true).run Tryz.prog w = .ok (.tuple #[.int .i64 0,.bool false]) w:=by kernel_rfl
theorem ta_unwrap_fault(p:Value)(w:World):(Instr.typeAssert (.iface 145 p) 42 198 true).run Tryz.prog w = .ok (.tuple #[.iface 145 p,.bool true]) w:=by kernel_rfl
theorem least_parts(n:String)(f:String→Bool)(g:String→String):∃ m,(Instr.least ([n].partition f).2 <|> Instr.least (([n].partition f).1.map g))=some m:=by
 cases hf:f n <;> simp[List.partition,List.partition.loop,hf,Instr.least]
theorem missing_one(want:Array (String×TypeId))(got:Array Method)(n:String)(h:(want.toList.filter fun(name,sig)=>!got.any fun m=>m.name == name && m.sig == sig).map (·.1)=[n]):∃ m,Instr.missingMethod want got=some m:=by
 unfold Instr.missingMethod
 simp only[h]
 exact least_parts n _ _
theorem run_typeAssert_missing{P:Program}(w:World)(t xt a:TypeId)(v z:Value)(want:Array (String×TypeId))(i:TypeInfo)(n:String)(hu:P.underlying a=some (.interface want))(hi:P.info? t=some i)
  (h:(want.toList.filter fun(name,sig)=>!i.methods.any fun m=>m.name == name && m.sig == sig).map (·.1)=[n]) (hz:(zeroValue a).run P w = .ok z w):
  (Instr.typeAssert (.iface t v) xt a true).run P w = .ok (.tuple #[z,.bool false]) w:=by
 obtain⟨m,hm⟩:=missing_one want i.methods n h
 simp only[Instr.typeAssert]
 simp[run_underlying hu,typeInfo,hi,hm,hz]
theorem ta_unwrap_code(p:Value)(w:World):(Instr.typeAssert (.iface 29 p) 42 198 true).run Tryz.prog w = .ok (.tuple #[.nilIface,.bool false]) w:=by
 have h : (Tryz.prog.info? 29).map (fun i => ((#[("Unwrap", 156)] : Array (String × TypeId)).toList.filter fun (name, sig) => !i.methods.any fun m => m.name == name && m.sig == sig).map (·.1)) = some ["Unwrap"] := by kernel_rfl
 obtain⟨i,hi,hn⟩:=Option.map_eq_some_iff.1 h
 exact run_typeAssert_missing w 29 42 198 p .nilIface #[("Unwrap", 156)] i "Unwrap" (by kernel_rfl) hi hn (by kernel_rfl)
theorem code_visit_code(c:Int)(b:Nat)(w:World)(x:Value)(hx:w.cell? ⟨b,0,none⟩=some x)(hf:w.frozen? ⟨b,0,none⟩=false):
  Calls Tryz.prog 65 #[.iface 29 (.int .i64 c),.pointer (some ⟨b,0,none⟩)] w fun e w'=>e = .returned (.bool true)∧w.setCell ⟨b,0,none⟩ (.int .i64 c)=w':=by
 have h1:=ta_code_code
 go_enter Tryz.func65,Tryz.ntmps65
 go_wp2
 go_ret
 exact⟨rfl,rfl⟩
theorem code_visit_fault(p:Value)(b:Nat)(w:World):
  Calls Tryz.prog 65 #[.iface 145 p,.pointer (some ⟨b,0,none⟩)] w fun e w'=>e = .returned (.bool false)∧w=w':=by
 have h1:=ta_code_fault
 go_enter Tryz.func65,Tryz.ntmps65
 go_wp2
 go_ret
 exact⟨rfl,rfl⟩
theorem m_unwrap_fault (p : Value) (w : World) : (method 587 145 p "Unwrap").run Tryz.prog w = .ok (374, p) w := by kernel_rfl
theorem unwrap_fault(c a:Int)(w:World):
  Calls Tryz.prog 374 #[.agg #[.int .i64 c,.int .i64 a]] w fun e w'=>e = .returned (.iface 29 (.int .i64 c))∧Below w.heap.size w w':=by
 go_enter Tryz.func374,Tryz.ntmps374
 go_wp2
 go_ret
 exact⟨rfl,(Below.refl _ _).alloc (Nat.le_refl _) _⟩
theorem search_idle(w:World):
  CallsD Tryz.prog 97 #[] .returning w fun e u' w'=>e = .returned (.tuple #[])∧u' = .returning∧w=w':=by
 refine callsD_of_wpS Tryz.func97 rfl fun c₀ cs hu=>?_
 apply wpS_region
 cases c₀
 simp_all[wpOpsS,go_sem,recoverD,Tryz.ntmps97,bodyPostS,results,Tryz.results97]
theorem search_code(W w:World)(c:Int)(o:Option Int)(hb:Below W.heap.size W w)(x:Value)
  (hx:w.cell? ⟨W.heap.size,0,none⟩=some x) (hf:w.frozen? ⟨W.heap.size,0,none⟩=false):
  Calls Tryz.prog 64 #[baseVal c o,.func (.func 65) #[] #[.pointer (some ⟨W.heap.size,0,none⟩)]] w fun e w'=>e = .returned (.tuple #[])∧Below W.heap.size W w'∧w'.cell? ⟨W.heap.size,0,none⟩=some (.int .i64 c):=by
 go_enter_defers Tryz.func64,Tryz.ntmps64
 go_wp2_with fail
 go_loopw [0,6] (fun e i wr=>∃(k:Nat) (u:Value),k≤1∧i = .int .i64 k∧Below W.heap.size W wr∧wr.cell? ⟨W.heap.size,0,none⟩=some u∧wr.frozen? ⟨W.heap.size,0,none⟩=false∧((k=0∧e=baseVal c o)∨e = .iface 29 (.int .i64 c))) (fun _ i _=>65536-(intOf i).toNat)
 case atStart=>exact⟨0,x,by omega,rfl,hb,hx,hf,.inl ⟨rfl,rfl⟩⟩
 case round=>
  obtain⟨k,u,hk,rfl,hbr,hxr,hfr,he⟩:=hrel
  have h2:=ta_unwrap_fault
  have h3:=ta_unwrap_code
  have h5:=m_unwrap_fault
  have hlt:decide ((k:Int)<65536)=true:=by simp;omega
  rcases(show(_=Value.iface 29 (.int .i64 c))∨(∃ a,k=0∧_=Value.iface 145 (.agg #[.int .i64 c,.int .i64 a])) from by
   rcases he with ⟨h0,he⟩|he
   ·cases o with
    | none=>exact .inl he
    | some a=>exact .inr ⟨a,h0,he⟩
   ·exact .inl he) with rfl|⟨a,h0,rfl⟩
  ·clear he
   go_wp2_with fail
   refine(code_visit_code c W.heap.size wr u hxr hfr).mono ?_
   rintro e w' ⟨rfl,rfl⟩
   go_wp2_with fail
   refine leaves_cons (f:=97) (args:=#[]) (by simp) (by simp[go_sem]) ?_
   refine(search_idle _).mono ?_
   rintro e u' w'' ⟨rfl,rfl,rfl⟩
   refine⟨_,results_none rfl _ _ _,rfl,hbr.setCell (Nat.le_refl _) _,?_⟩
   simp[go_sem,hxr]
  ·clear he
   have hk1:k+1≤1:=by omega
   clear h0
   go_wp2_with fail
   refine(code_visit_fault _ W.heap.size wr).mono ?_
   rintro e w' ⟨rfl,rfl⟩
   go_wp2_with fail
   refine(unwrap_fault c a wr).mono ?_
   rintro e w1 ⟨rfl,hb1⟩
   have hlt2:=cell_lt hxr
   go_wp2_with fail
   exact⟨⟨k+1,u,hk1,by go_num,hbr.trans (hb1.mono hbr.size),Below.cell' hb1 hxr,(hb1.frozen hlt2).trans hfr,.inr rfl⟩,by simp[intOf];omega⟩
theorem make_fn(fn:Fn)(first cap:Array Value)(w:World):(Instr.makeFunc fn first cap).run Tryz.prog w = .ok (.func fn first cap) w:=rfl
theorem code_base(w:World)(c:Int)(o:Option Int):
  Calls Tryz.prog 34 #[baseVal c o] w fun e w'=>e = .returned (.int .i64 c)∧Below w.heap.size w w':=by
 have hmf:=make_fn
 have HS:=fun(w1:World) (hb:Below w.heap.size w w1) x hx hf=>search_code w w1 c o hb x hx hf
 obtain⟨v,hv⟩:∃ v,v=baseVal c o:=⟨_,rfl⟩
 rw[← hv] at HS ⊢
 clear hv
 go_enter Tryz.func34,Tryz.ntmps34
 go_wp2_with fail
 refine(HS (w.alloc (.cells #[.int .i64 0] 29)) ((Below.refl _ _).alloc (Nat.le_refl _) _) (.int .i64 0) (by simp[go_sem]) (by simp[go_sem])).mono ?_
 rintro e w' ⟨rfl,hb,hc⟩
 clear HS
 go_wp2
 go_ret
 exact⟨rfl,hb⟩
theorem search_nil(f:Value)(w:World):
  Calls Tryz.prog 64 #[.nilIface,f] w fun e w'=>e = .returned (.tuple #[])∧w=w':=by
 go_enter_defers Tryz.func64,Tryz.ntmps64
 go_wp2_with fail
 go_loop [0,6] (fun e i=>e = .nilIface∧i = .int .i64 0) (fun _ _=>0)
 case atStart=>exact⟨rfl,rfl⟩
 case round=>
  obtain⟨rfl,rfl⟩:=hrel
  go_wp2_with fail
  refine leaves_cons (f:=97) (args:=#[]) (by simp) (by simp[go_sem]) ?_
  refine(search_idle _).mono ?_
  rintro e u' w'' ⟨rfl,rfl,rfl⟩
  exact⟨_,results_none rfl _ _ _,rfl,rfl⟩
theorem code_nil(w:World):
  Calls Tryz.prog 34 #[.nilIface] w fun e w'=>e = .returned (.int .i64 0)∧Below w.heap.size w w':=by
 have hmf:=make_fn
 go_enter Tryz.func34,Tryz.ntmps34
 go_wp2_with (go_at_call 64;refine(search_nil _ _).mono ?_;rintro e w' ⟨rfl,rfl⟩)
 go_ret
 exact⟨rfl,(Below.refl _ _).alloc (Nat.le_refl _) _⟩
end
section
open Go.RowKit
attribute [local irreducible] wpQuiet wpAnyH
abbrev Ans:=Option (Int×Option Int)
def valE:Ans→Value
 | none=>.nilIface
 | some (c,o)=>baseVal c o
def codeA:Ans→Int
 | none=>0
 | some (c,_)=>c
def writeA(d:DiskD)(a:Int):Ans:=
 if d.down then some (12,none) else if outS d=2 then some (12,none) else if outS d=1 then some (11,none) else if hasB d a then none else some (15,some a)
def syncA(d:DiskD):Ans:=if d.down then some (12,none) else if outS d=2 then some (12,none) else if outS d=1 then some (11,none) else none
theorem writeE_val(d:DiskD)(a:Int):writeE d a=valE (writeA d a):=by
 unfold writeE writeA
 split;· rfl
 split;· rfl
 split;· rfl
 split <;> rfl
theorem syncE_val(d:DiskD):syncE d=valE (syncA d):=by
 unfold syncE syncA
 split;· rfl
 split;· rfl
 split <;> rfl
theorem valE_form(x:Int×Option Int):∃ t u,valE (some x) = .iface t u:=by
 obtain⟨c,o⟩:=x
 cases o <;> exact⟨_,_,rfl⟩
theorem code_val(o:Ans)(w:World):Calls Tryz.prog 34 #[valE o] w fun e w'=>e = .returned (.int .i64 (codeA o))∧Below w.heap.size w w':=by
 cases o with
 | none=>exact code_nil w
 | some x=>obtain⟨c,p⟩:=x;exact code_base w c p
def entRec(g:Nat)(q:List Int×Int):List Int:=rec g (q.1++beB 8 q.2.toNat)
theorem frame_entry(g:Nat)(q:List Int×Int)(w:World)(hq:EntOk q)(hg:g<4294967296):
  Calls Tryz.prog 289 #[.int .u32 g,.agg (entP q).toArray] w fun e w'=>e = .returned (.tuple #[.agg (u8s (if rightE q then entRec g q else zsec)).toArray,.bool (rightE q)])∧Below w.heap.size w w':=by
 cases hr:rightE q with
 | true=>
  have h2:0≤q.2∧q.2≤4611686018427387904:=by unfold rightE at hr;simpa using hr
  have h:=frame_entry_ok g q.2.toNat q w hq (by omega) (by omega) hg
  rw[if_pos rfl]
  exact h
 | false=>
  rw[if_neg (by simp)]
  have HZ:=Lib.hid z64_zsec
  have HZ1:Hid (z64.all (·.oneCell')=true):=Lib.hid (by rw[z64_zsec];exact u8s_one _)
  have hzl:z64.size=64:=z64_size
  have hB0:Blk (w.alloc (.cells (entP q).toArray 172)) w.heap.size 172 (entP q).toArray:=Blk.new _ _ _
  have hc:(w.alloc (.cells (entP q).toArray 172)).cell? ⟨w.heap.size,32,none⟩=some (.int .i64 q.2):=by
   rw[hB0.cell 32]
   have hl:(u8s q.1).length=32:=by rw[u8s_length,hq.dig.len]
   show(entC q.1 q.2).toArray[32]? = _
   simp[entC,hl]
  obtain⟨E,hE⟩:∃ E,E=(entP q).toArray:=⟨_,rfl⟩
  rw[← hE] at hc ⊢
  clear hE hB0
  have hc2:((w.alloc (.cells E 172)).alloc (.cells z64 243)).cell? ⟨w.heap.size,32,none⟩=some (.int .i64 q.2):=Below.cell' ((Below.refl _ _).alloc (Nat.le_refl _) _) hc
  have HB1:Hid (Blk ((w.alloc (.cells E 172)).alloc (.cells z64 243)) (w.heap.size+1) 243 z64):=Lib.hid (Blk.newAt _ _ _ _ (by simp))
  have HBW:Hid (Below w.heap.size w ((w.alloc (.cells E 172)).alloc (.cells z64 243))):=Lib.hid (((Below.refl _ w).alloc (Nat.le_refl _) _).alloc (by simp) _)
  have HSZ:Hid ((w.alloc (.cells E 172)).heap.size=w.heap.size+1):=Lib.hid (by simp)
  clear hc
  obtain⟨x,hx⟩:∃ x,x=q.2:=⟨_,rfl⟩
  rw[← hx] at hc2
  have hbad:x<0∨4611686018427387904<x:=by
   unfold rightE at hr
   rw[← hx] at hr
   by_cases h:x<0
   ·exact .inl h
   ·right
    have h0:0≤x:=by omega
    simp[h0] at hr
    omega
  clear hx hr
  rcases Bool.eq_false_or_eq_true (decide (x<0)) with t1|t1
  ·go_enter Tryz.func289,Tryz.ntmps289
   go_wp2_with (first
    | (refine al 243 z64 rfl rfl zero64 ?_)
    | (refine bld 243 #[] rfl rfl rfl built64 ?_)
    | (refine stBlk 243 (.tmp 4) (.tmp 14) rfl rfl (by first|rfl|(rw[HSZ.out];rfl)|(simp only[World.size_alloc];rfl)) rfl HB1.out (by rw[hzl];kernel_rfl) rfl HZ1.out ?_;intro w3 hB3 hb3 _ _;have HB3:=Lib.hid hB3;have HE3:=Lib.hid hb3;clear hB3 hb3))
   have hr:w3.rangeAt (w.heap.size+1) 0 (u8s zsec):=by have h:=HB3.range;rw[HZ.out,List.toList_toArray] at h;exact h
   exact bodyPost_ret (results_cellR_tmp rfl _ (by first|rfl|(simp only[World.size_alloc];rfl)) hr Tryz.underlying243 rfl (by rw[sec_length zsec_sec];kernel_rfl)) rfl ⟨rfl,HBW.trans (HE3.mono (by omega))⟩
  ·have t2:decide ((4611686018427387904:Int)<x)=true:=by have:=of_decide_eq_false t1;simp;omega
   go_enter Tryz.func289,Tryz.ntmps289
   go_wp2_with (first
    | (refine al 243 z64 rfl rfl zero64 ?_)
    | (refine bld 243 #[] rfl rfl rfl built64 ?_)
    | (refine stBlk 243 (.tmp 4) (.tmp 14) rfl rfl (by first|rfl|(rw[HSZ.out];rfl)|(simp only[World.size_alloc];rfl)) rfl HB1.out (by rw[hzl];kernel_rfl) rfl HZ1.out ?_;intro w3 hB3 hb3 _ _;have HB3:=Lib.hid hB3;have HE3:=Lib.hid hb3;clear hB3 hb3))
   have hr:w3.rangeAt (w.heap.size+1) 0 (u8s zsec):=by have h:=HB3.range;rw[HZ.out,List.toList_toArray] at h;exact h
   exact bodyPost_ret (results_cellR_tmp rfl _ (by first|rfl|(simp only[World.size_alloc];rfl)) hr Tryz.underlying243 rfl (by rw[sec_length zsec_sec];kernel_rfl)) rfl ⟨rfl,HBW.trans (HE3.mono (by omega))⟩
def zE:Array Value:=(entP (List.replicate 32 0,0)).toArray
theorem zeroE:∀ w,(zeroValue 172).run Tryz.prog w = .ok (.agg zE) w:=fun w=>by unfold zE;kernel_rfl
theorem builtE:Tryz.prog.built 172 []=some zE:=by unfold zE;kernel_rfl
theorem zE_size:zE.size=33:=by simp[zE,entP,entC,u8s]
theorem zE_one:zE.all (·.oneCell')=true:=entC_one _ _
def prsE(s:List Int):Option (Nat×(List Int×Int)):=match prs s with
 | none=>none
 | some (g,p)=>if p.length=40∧beN (p.drop 32)≤4611686018427387904 then some (g,(p.take 32,(beN (p.drop 32):Int))) else none
theorem prs_len{s:List Int}{g:Nat}{p:List Int}(h:prs s=some (g,p)):p.length≤54:=by
 unfold prs at h
 split at h
 ·cases h
 ·rename_i hn
  split at h
  ·cases h
  ·split at h
   ·cases h
   ·injection h with h
    injection h with _ h
    rw[← h,List.length_take]
    omega
theorem results_cellR_mid{P:Program}{w:World}{fn:Func}{p u x:Tmp}{ty:TypeId}(h:fn.results=#[.tmp u,.cell p ty,.tmp x])(tmps:Array Value){b off:Nat}{cs:List Value}{d:TypeDesc}(hp:tmps.getD p undef = .pointer (some ⟨b,off,none⟩))(hc:w.rangeAt b off cs)
  (hu:P.underlying ty=some d) (hd:d.isRow=true) (hi:(P.info? ty).map (·.size)=some cs.length):(results fn tmps).run P w = .ok (.tuple #[tmps.getD u undef,.agg cs.toArray,tmps.getD x undef]) w:=by
 have h1:tmps[p]?.getD undef = .pointer (some ⟨b,off,none⟩):=by simpa using hp
 simp[results,h,h1,asAddr,Sem.run_bind,Result.andThen,run_loadVar_mid w b off ty cs d hc hu hd hi]
theorem rd_take32(r:Nat)(v:Value)(p:List Int)(w:World)(h:RD w r v p false)(hl:p.length≤1000000):
  Calls Tryz.prog 223 #[.pointer (some ⟨r,0,none⟩),.int .i64 32] w fun e w'=>Off r w w'∧∃ x v' xs ys bad,e = .returned x∧xs.length≤32∧Sn w' 1 x xs.length (u8s xs)∧RD w' r v' ys bad∧(∀ b,v'.ownBlock=some b→v.ownBlock=some b) ∧
   ((bad=false∧32≤p.length∧xs=p.take 32∧ys=p.drop 32)∨(bad=true∧p.length<32∧xs=[]∧ys=[])):=by
 refine(rd_TakeF r v p false 32 w h hl (by omega)).mono ?_
 rintro e w1 ⟨ho,⟨_,h32,x,v',rfl,hs,hR,hob⟩|⟨hbad,rfl,hR⟩⟩
 ·have hlen:(p.take 32).length=32:=by rw[List.length_take];omega
  exact⟨ho,x,v',p.take 32,p.drop 32,false,rfl,by omega,by rw[hlen];exact hs,hR,hob,.inl ⟨rfl,h32,rfl,rfl⟩⟩
 ·refine⟨ho,_,_,[],[],true,rfl,by simp,⟨none,0,rfl,Nat.le_refl _,rfl,fun h=>absurd h (by simp)⟩,hR,(fun b e=>by cases e),.inr ⟨rfl,?_,rfl,rfl⟩⟩
  rcases hbad with h|h
  ·cases h
  ·exact h
theorem rd_num8(r:Nat)(v:Value)(ys:List Int)(bad:Bool)(w:World)(h:RD w r v ys bad)(hb:Bys ys)(hl:ys.length≤1000000):
  Calls Tryz.prog 159 #[.pointer (some ⟨r,0,none⟩),.int .i64 8] w fun e w'=>Off r w w'∧∃(N:Nat) (v':Value) (zs:List Int) (bad':Bool),e = .returned (.int .u64 N)∧N<18446744073709551616∧RD w' r v' zs bad' ∧
   ((bad=false∧8≤ys.length∧bad'=false∧N=beN (ys.take 8)∧zs=ys.drop 8)∨((bad=true∨ys.length<8)∧bad'=true)):=by
 refine(rd_Number r v ys bad 8 w h hb hl (by omega) (by omega)).mono ?_
 rintro e w1 ⟨ho,⟨hbad,h8,v',rfl,hR⟩|⟨hbad,rfl,hR⟩⟩
 ·refine⟨ho,_,v',_,false,rfl,?_,hR,.inl ⟨hbad,h8,rfl,rfl,rfl⟩⟩
  have:=beN_lt (ys.take 8) (fun b hb'=>hb b (List.mem_of_mem_take hb'))
  rw[List.length_take,Nat.min_eq_left h8] at this
  exact this
 ·exact⟨ho,0,_,_,true,rfl,by omega,hR,.inr ⟨hbad,rfl⟩⟩
def copE(xs:List Int):Array Value:=((u8s xs).zipIdx 0).foldl (fun(cs:Array Value) (x:Value×Nat)=>cs.setIfInBounds x.2 x.1) zE
theorem copE_size(xs:List Int):(copE xs).size=33:=by
 have key:∀(l:List (Value×Nat)) (cs:Array Value),(l.foldl (fun(cs:Array Value) (x:Value×Nat)=>cs.setIfInBounds x.2 x.1) cs).size=cs.size:=by
  intro l
  induction l with
  | nil=>intro cs;rfl
  | cons x l ih=>intro cs;rw[List.foldl_cons,ih,Array.size_setIfInBounds]
 unfold copE
 rw[key,zE_size]
theorem copE_set(xs:List Int)(t:Int)(h:xs.length=32):(copE xs).setIfInBounds 32 (.int .i64 t)=(entC xs t).toArray:=build_ent xs t h zE zE_size
theorem RD.off{w w':World}{r g:Nat}{v:Value}{xs:List Int}{bad:Bool}(h:RD w r v xs bad)(ho:Off g w w')(hr:r≠g)(hv:∀ b,v.ownBlock=some b→b≠g):RD w' r v xs bad:=by
 refine⟨ho.blk h.1 hr,?_⟩
 obtain⟨A,cap,rfl,hc,hl,hx⟩:=h.2
 refine⟨A,cap,rfl,hc,hl,fun hp=>?_⟩
 obtain⟨b,off,rfl,hcell⟩:=hx hp
 exact⟨b,off,rfl,fun j u hj=>ho.cell (hcell j u hj) (hv b rfl)⟩
theorem frame_parse_entry(s:List Int)(w:World)(hl:s.length=64)(hb:Bys s):
  Calls Tryz.prog 311 #[.agg (u8s s).toArray] w fun e w'=>Below w.heap.size w w' ∧
   ((prsE s=none∧e = .returned (.tuple #[.int .u32 0,.agg zE,.bool false]))∨(∃ g q,prsE s=some (g,q)∧e = .returned (.tuple #[.int .u32 g,.agg (entP q).toArray,.bool true]))):=by
 have hul:(u8s s).length=64:=by rw[u8s_length,hl]
 have HZ:Hid ((Tryz.prog.info? 172).map (·.size)=some zE.size∧zE.all (·.oneCell')=true):=Lib.hid ⟨by rw[zE_size];kernel_rfl,zE_one⟩
 obtain⟨wa,hwa⟩:∃ wa,wa=w.alloc (.cells (u8s s).toArray 243):=⟨_,rfl⟩
 obtain⟨gE,hgE⟩:∃ g,g=wa.heap.size:=⟨_,rfl⟩
 obtain⟨w1,hw1⟩:∃ w1,w1=wa.alloc (.cells zE 172):=⟨_,rfl⟩
 have hB1:Blk w1 w.heap.size 243 (u8s s).toArray:=by rw[hw1,hwa];exact(Blk.new _ _ _).alloc _
 have hr1:=hB1.range
 rw[List.toList_toArray] at hr1
 have HR1:=Lib.hid hr1
 have HBE:Hid (Blk w1 gE 172 zE):=Lib.hid (by rw[hw1,hgE];exact Blk.new _ _ _)
 have HB1:Hid (Below w.heap.size w w1):=Lib.hid (by rw[hw1,hwa];exact((Below.refl _ w).alloc (Nat.le_refl _) _).alloc (by simp) _)
 have HGE:Hid (w.heap.size≤gE):=Lib.hid (by rw[hgE,hwa];simp)
 clear hB1 hr1
 go_enter Tryz.func311,Tryz.ntmps311
 go_upto_region 1 with (refine al 172 zE rfl rfl zeroE ?_)
 rw[← hwa,← hw1,show w.heap.size+1=gE by rw[hgE,hwa];simp]
 clear hwa hw1 hgE
 go_wp2_with (refine ld 243 _ rfl rfl rfl HR1.out Tryz.underlying243 rfl (by rw[hul];kernel_rfl) ?_)
 refine(frame_parse s w1 hl hb).mono ?_
 rintro e w2 ⟨hb2,⟨hn,rfl⟩|⟨g,p,v,hp,rfl,hs⟩⟩
 ·have HE2:=Lib.hid (HBE.keep hb2)
  have HB2:Hid (Below w.heap.size w w2):=Lib.hid (bstep HB1.out hb2)
  have HN:Hid (prsE s=none):=Lib.hid (by unfold prsE;rw[hn])
  clear hn hb2
  go_wp2_with (first
   | (refine bld 172 #[] rfl rfl rfl builtE ?_)
   | (refine stBlk 172 (.tmp 3) (.tmp 19) rfl rfl rfl rfl HE2.out HZ.out.1 rfl HZ.out.2 ?_;intro w3 hB3 hb3 _ _;have HB3:=Lib.hid hB3;have HE3:=Lib.hid hb3;clear hB3 hb3))
  have hr:=HB3.range
  exact bodyPost_ret (results_cellR_mid rfl _ rfl hr Tryz.underlying172 rfl (by rw[Array.length_toList];exact HZ.out.1)) rfl ⟨HB2.trans (HE3.mono HGE.out),.inl ⟨HN.out,rfl⟩⟩
 ·obtain⟨gT,hgT⟩:∃ g,g=w2.heap.size:=⟨_,rfl⟩
  obtain⟨w3,hw3⟩:∃ w3,w3=w2.alloc (.cells zE 172):=⟨_,rfl⟩
  have HB3:Hid (Below w.heap.size w w3):=Lib.hid (by rw[hw3];exact(bstep HB1.out hb2).alloc (bstep HB1.out hb2).size _)
  have HE3:Hid (Blk w3 gE 172 zE):=Lib.hid (by rw[hw3];exact(HBE.keep hb2).alloc _)
  have HT3:Hid (Blk w3 gT 172 zE):=Lib.hid (by rw[hw3,hgT];exact Blk.new _ _ _)
  have HS3:Hid (Sn w3 1 v p.length (u8s p)):=Lib.hid (by rw[hw3];exact hs.alloc _)
  have hlt:gE<gT:=by have h1:=HBE.lt;have h2:=hb2.size;omega
  have hTs:gT<w3.heap.size:=HT3.lt
  have HP:=Lib.hid hp
  have HPB:=Lib.hid (prs_bys hb hp)
  have hpl:p.length≤54:=prs_len hp
  clear hp hs hb2
  go_upto_region 5 with (refine al 172 zE rfl rfl zeroE ?_)
  rw[← hw3,← hgT]
  clear hw3 hgT
  go_wp2_with fail
  refine(wire_newF _ p w3 HS3.out (by omega)).mono ?_
  rintro e w4 ⟨r,v4,rfl,hR4,hfr,hr4,hb4⟩
  have HB4:Hid (Below w.heap.size w w4.drew):=Lib.hid (bstep HB3.out hb4).drew
  have HE4:Hid (Blk w4.drew gE 172 zE):=Lib.hid (HE3.keep hb4.drew)
  have HT4:Hid (Blk w4.drew gT 172 zE):=Lib.hid (HT3.keep hb4.drew)
  have HR4:Hid (RD w4.drew r v4 p false):=Lib.hid hR4
  have HFR:=Lib.hid hfr
  have hTr:gT<r:=by omega
  have HSZ:=Lib.hid hb4.size
  clear hR4 hfr hr4 hb4
  go_upto_region 6 with fail
  refine held_start 5 (fun _=>True) (by kernel_rfl) (by kernel_rfl) (trivial) (fun hHeld=>?_)
  refine hTake 0 (Op.fieldAddr 172 (Operand.tmp 8) 0) (some 22) (.pointer (some ⟨gT,0,none⟩)) (by kernel_rfl) (by kernel_rfl) (by kernel_rfl) (by kernel_rfl) (by kernel_rfl) (fun _ _ _ h=>h) (fun o ho wX hX=>by unfold execOp;simp only[ho];go_simp) hHeld ?_
  simp only[Act.put,List.setIfInBounds_toArray,List.set_cons_zero,List.set_cons_succ]
  refine hTake 1 (Op.slice 26 (Operand.tmp 22) none none none) (some 23) (.slice (some ⟨gT,0,none⟩) 32 32) (by kernel_rfl) (by kernel_rfl) (by kernel_rfl) (by kernel_rfl) (by kernel_rfl) (fun _ _ _ h=>h) (fun o ho wX hX=>by unfold execOp;simp only[ho];go_simp) hHeld ?_
  simp only[Act.put,List.setIfInBounds_toArray,List.set_cons_zero,List.set_cons_succ]
  refine hMove 2 (Operand.tmp 9) (some 24) (.pointer (some ⟨r,0,none⟩)) (by kernel_rfl) (by kernel_rfl) (by kernel_rfl) (by kernel_rfl) (by kernel_rfl) (fun _ _ _ h=>h) (by exact rfl) hHeld ?_
  simp only[Act.put,List.setIfInBounds_toArray,List.set_cons_zero,List.set_cons_succ]
  refine wpAnyH_ready (rs:=[3]) (by kernel_rfl) (by simp) ?_
  refine rCall 3 (Op.call { callee:=Callee.value (Operand.func 223),args:=#[Operand.tmp 24,Operand.const (Value.int IntKind.i64 32)],argTypes:=#[276,3] }) (some 25) 223 (#[.pointer (some ⟨r,0,none⟩),.int .i64 32]) (by kernel_rfl) (by kernel_rfl) (fun o ho=>by unfold execOp;simp only[ho];go_simp) ?_ AllReadyH.nil
  refine(rd_take32 r v4 p w4.drew HR4.out (by omega)).mono ?_
  rintro e w5 ⟨ho5,x,v5,xs,ys,bad,rfl,hxl,hsx,hR5,hob,hcs⟩
  have HB5:Hid (Below w.heap.size w w5):=Lib.hid (HB4.trans (ho5.below (by have:=HGE.out;omega) HB4.size))
  have HE5:Hid (Blk w5 gE 172 zE):=Lib.hid (ho5.blk HE4.out (by omega))
  have HT5:Hid (Blk w5 gT 172 zE):=Lib.hid (ho5.blk HT4.out (by omega))
  have HR5:=Lib.hid hR5
  have HOB:=Lib.hid hob
  have HCS:=Lib.hid hcs
  have HSX:=Lib.hid hsx
  have HTH5:Hid (w5.there gT 0 xs.length):=Lib.hid (there_blk HT5.out (by rw[zE_size];omega))
  clear hR5 hob hcs hsx ho5
  refine⟨_,rfl,trivial,fun hHeld=>?_⟩
  simp only[Act.put,List.setIfInBounds_toArray,List.set_cons_zero,List.set_cons_succ]
  refine wpAnyH_ready (rs:=[4]) (by kernel_rfl) (by simp) ?_
  refine rCopy 4 (dT:=68) (sT:=68) (elem:=5) (.tmp 23) (.tmp 25) (some 26) (by kernel_rfl) (by kernel_rfl) (by exact rfl) (by exact rfl) Tryz.underlying68 (by kernel_rfl) HSX.out hxl HTH5.out (u8s_mem _) trivial ?_ AllReadyH.nil
  simp only[Act.put,List.setIfInBounds_toArray,List.set_cons_zero,List.set_cons_succ]
  refine wpAnyH_done (by kernel_rfl) ?_ _
  clear hHeld
  have HB6:Hid (Below w.heap.size w (w5.setCells gT 0 (u8s xs))):=Lib.hid (HB5.trans (setCells_below (by have:=HGE.out;omega) _ _ _).1)
  obtain⟨w6,hw6⟩:∃ w6,w6=w5.setCells gT 0 (u8s xs):=⟨_,rfl⟩
  have HE6:Hid (Blk w6 gE 172 zE):=Lib.hid (by rw[hw6];exact(setCells_off gT _ 0 w5).blk HE5.out (by omega))
  have HT6:Hid (Blk w6 gT 172 (copE xs)):=Lib.hid (by rw[hw6];exact setCells_blk _ _ _ _ HT5.out)
  have HR6:Hid (RD w6 r v5 ys bad):=Lib.hid (by rw[hw6];exact HR5.off (setCells_off gT _ 0 w5) (by omega) (fun b e=>by have:=HFR.out b (HOB.out b e);omega))
  rw[← hw6] at HB6 ⊢
  have HYB:Hid (Bys ys):=Lib.hid (by
   rcases HCS.out with ⟨_,_,_,e⟩|⟨_,_,_,e⟩
   ·rw[e];exact fun b hb=>HPB.out b (List.mem_of_mem_drop hb)
   ·rw[e];exact fun b hb=>by cases hb)
  have hyl:ys.length≤1000000:=by
   rcases HCS.out with ⟨_,_,_,e⟩|⟨_,_,_,e⟩
   ·rw[e,List.length_drop];omega
   ·rw[e];simp
  clear hw6
  go_wp2_with fail
  refine(rd_num8 r v5 ys bad w6 HR6.out HYB.out hyl).mono ?_
  rintro e w7 ⟨ho7,N,v7,zs,bad7,rfl,hN,hR7,hcs7⟩
  have HB7:Hid (Below w.heap.size w w7):=Lib.hid (HB6.trans (ho7.below (by have:=HGE.out;omega) HB6.size))
  have HE7:Hid (Blk w7 gE 172 zE):=Lib.hid (ho7.blk HE6.out (by omega))
  have HT7:Hid (Blk w7 gT 172 (copE xs)):=Lib.hid (ho7.blk HT6.out (by omega))
  have HR7:=Lib.hid hR7
  have HC7:=Lib.hid hcs7
  clear ho7 hR7 hcs7
  go_wp2_with fail
  refine(rd_Done r v7 zs bad7 w7 HR7.out).mono ?_
  rintro e w8 ⟨rfl,rfl⟩
  obtain⟨D,hD⟩:∃ D,D=(!bad7 && decide (zs.length=0)):=⟨_,rfl⟩
  rw[← hD]
  have HD:=Lib.hid hD
  clear hD
  have HDT:Hid (D=true→xs=p.take 32∧p.length=40∧N=beN (p.drop 32)):=Lib.hid (fun e=>by
   have h:=HD.out
   rw[e] at h
   have h1:bad7=false:=by
    revert h
    cases bad7
    ·intro _;rfl
    ·intro h;simp at h
   have h2:zs.length=0:=by rw[h1] at h;simpa using h.symm
   rcases HC7.out with ⟨hb0,h8,_,hNv,hz⟩|⟨_,hb1⟩
   ·rcases HCS.out with ⟨_,h32,hxs,hys⟩|⟨hb1,_⟩
    ·rw[hz,hys,List.length_drop,List.length_drop] at h2
     rw[hys,List.length_drop] at h8
     refine⟨hxs,by omega,?_⟩
     rw[hNv,hys,List.take_of_length_le (by rw[List.length_drop];omega)]
    ·rw[hb0] at hb1;cases hb1
   ·rw[h1] at hb1;cases hb1)
  have HDF:Hid (D=false→prsE s=none):=Lib.hid (fun e=>by
   unfold prsE
   rw[HP.out]
   simp only
   rw[if_neg]
   rintro⟨h40,_⟩
   have h:=HD.out
   rw[e] at h
   rcases HCS.out with ⟨hb0,h32,hxs,hys⟩|⟨_,h32,_⟩
   ·rcases HC7.out with ⟨_,h8,hb7,hNv,hz⟩|⟨hb1,_⟩
    ·rw[hb7,hz,hys,List.length_drop,List.length_drop,h40] at h
     simp at h
    ·rw[hb0,hys,List.length_drop,h40] at hb1
     simp at hb1
   ·omega)
  clear HD HC7 HCS
  cases D with
  | false=>
   go_wp2_with (first
    | (refine bld 172 #[] rfl rfl rfl builtE ?_)
    | (refine stBlk 172 (.tmp 3) (.tmp 36) rfl rfl rfl rfl HE7.out HZ.out.1 rfl HZ.out.2 ?_;intro w9 hB9 hb9 _ _;have HB9:=Lib.hid hB9;have HE9:=Lib.hid hb9;clear hB9 hb9))
   have hr:=HB9.range
   exact bodyPost_ret (results_cellR_mid rfl _ rfl hr Tryz.underlying172 rfl (by rw[Array.length_toList];exact HZ.out.1)) rfl ⟨HB7.trans (HE9.mono HGE.out),.inl ⟨HDF.out (by simp),rfl⟩⟩
  | true=>
   rcases Bool.eq_false_or_eq_true (decide ((4611686018427387904:Int)<(N:Int))) with t1|t1
   ·have HNN:Hid (prsE s=none):=Lib.hid (by
     unfold prsE
     rw[HP.out]
     simp only
     rw[if_neg]
     rintro⟨_,h⟩
     have:=of_decide_eq_true t1
     have:=(HDT.out rfl).2.2
     omega)
    go_wp2_with (first
     | (refine bld 172 #[] rfl rfl rfl builtE ?_)
     | (refine stBlk 172 (.tmp 3) (.tmp 36) rfl rfl rfl rfl HE7.out HZ.out.1 rfl HZ.out.2 ?_;intro w9 hB9 hb9 _ _;have HB9:=Lib.hid hB9;have HE9:=Lib.hid hb9;clear hB9 hb9))
    have hr:=HB9.range
    exact bodyPost_ret (results_cellR_mid rfl _ rfl hr Tryz.underlying172 rfl (by rw[Array.length_toList];exact HZ.out.1)) rfl ⟨HB7.trans (HE9.mono HGE.out),.inl ⟨HNN.out,rfl⟩⟩
   ·have hN62:(N:Int)≤4611686018427387904:=by have:=of_decide_eq_false t1;omega
    have hN0:(0:Int)≤N:=by omega
    have hcv:IntKind.i64.wrap (N:Int)=(N:Int):=IntWalk.i64_in _ (by omega)
    have HXL:Hid (xs.length=32):=Lib.hid (by have:=HDT.out rfl;rw[this.1,List.length_take];omega)
    have HPE:Hid (prsE s=some (g,(xs,(N:Int)))):=Lib.hid (by
     have h:=HDT.out rfl
     unfold prsE
     rw[HP.out]
     simp only
     rw[if_pos ⟨h.2.1,by rw[← h.2.2];omega⟩,← h.1,← h.2.2])
    have hc32:w7.cell? ⟨gT,32,none⟩=some ((copE xs)[32]'(by rw[copE_size];omega)):=by rw[HT7.cell 32];exact Array.getElem?_eq_getElem _
    have hf32:=HT7.frozen 32
    clear HDF
    go_upto_region 11 with fail
    have HB8:Hid (Below w.heap.size w (w7.setCell ⟨gT,32,none⟩ (.int .i64 (N:Int))).drew):=Lib.hid ((HB7.trans ((Off.refl gT w7).set 32 _ |>.below (by have:=HGE.out;omega) HB7.size)).drew)
    have HE8:Hid (Blk (w7.setCell ⟨gT,32,none⟩ (.int .i64 (N:Int))).drew gE 172 zE):=Lib.hid (((Off.refl gT w7).set 32 _).blk HE7.out (by omega))
    have HT8:Hid (Blk (w7.setCell ⟨gT,32,none⟩ (.int .i64 (N:Int))).drew gT 172 (entC xs N).toArray):=Lib.hid (by have:=HT7.set_ 32 (.int .i64 (N:Int));rw[copE_set _ _ HXL.out] at this;exact this)
    obtain⟨w8,hw8⟩:∃ w8,w8=w7.setCell ⟨gT,32,none⟩ (.int .i64 (N:Int)):=⟨_,rfl⟩
    rw[← hw8] at HB8 HE8 HT8 ⊢
    have hEL:(entC xs (N:Int)).length=33:=by simp[entC,u8s_length,HXL.out]
    have HEL:Hid ((Tryz.prog.info? 172).map (·.size)=some (entC xs (N:Int)).length):=Lib.hid (by rw[hEL];kernel_rfl)
    have HE1:Hid (∀ u∈entC xs (N:Int),u.oneCell'=true):=Lib.hid (fun u hu=>by
     simp only[entC,List.mem_append,List.mem_singleton] at hu
     rcases hu with hu|rfl
     ·exact u8s_mem _ u hu
     ·rfl)
    have HTR:Hid (w8.drew.rangeAt gT 0 (entC xs (N:Int))):=Lib.hid (by have:=HT8.range;rw[List.toList_toArray] at this;exact this)
    have HTH:Hid (w8.drew.there gE 0 (entC xs (N:Int)).length):=Lib.hid (there_blk HE8.out (by rw[hEL,zE_size];exact Nat.le_refl _))
    have HTR2:Hid ((w8.drew.setCells gE 0 (entC xs (N:Int))).rangeAt gT 0 (entC xs (N:Int))):=Lib.hid (fun i u hi=>(World.cell?_of_block (a:=⟨gT,0+i,none⟩) (setCells_other (show gT≠gE by omega) _ _ _)).trans (HTR.out i u hi))
    clear hw8 hc32 hf32 hEL
    refine held_start 5 (fun w'=>w'.rangeAt gT 0 (entC xs (N:Int))) (by kernel_rfl) (by kernel_rfl) (HTR.out) (fun hHeld=>?_)
    refine hMove 0 (Operand.tmp 5) (some 40) (.int .u32 g) (by kernel_rfl) (by kernel_rfl) (by kernel_rfl) (by kernel_rfl) (by kernel_rfl) (fun _ _ _ h=>h) (by exact rfl) hHeld ?_
    simp only[Act.put,List.setIfInBounds_toArray,List.set_cons_zero,List.set_cons_succ]
    refine hLoad 1 172 (Operand.tmp 8) (some 41) (cs:=entC xs (N:Int)) (by kernel_rfl) (by kernel_rfl) (by kernel_rfl) (by kernel_rfl) (by kernel_rfl) (fun _ _ _ h=>h) (by exact rfl) (fun _ hX=>hX) Tryz.underlying172 rfl HEL.out hHeld ?_
    simp only[Act.put,List.setIfInBounds_toArray,List.set_cons_zero,List.set_cons_succ]
    refine hTake 2 (Op.assign (Operand.tmp 40)) (some 2) (.int .u32 g) (by kernel_rfl) (by kernel_rfl) (by kernel_rfl) (by kernel_rfl) (by kernel_rfl) (fun _ _ _ h=>h) (fun o ho wX hX=>by unfold execOp;simp only[ho];go_simp) hHeld ?_
    simp only[Act.put,List.setIfInBounds_toArray,List.set_cons_zero,List.set_cons_succ]
    refine wpAnyH_ready (rs:=[3]) (by kernel_rfl) (by simp) ?_
    refine rStoreS 3 172 (.tmp 3) (.tmp 41) none (cs:=entC xs (N:Int)) (by kernel_rfl) (by kernel_rfl) (by exact rfl) (by exact rfl) HTH.out HEL.out HE1.out HTR2.out ?_ AllReadyH.nil
    simp only[Act.put,List.setIfInBounds_toArray,List.set_cons_zero,List.set_cons_succ]
    replace hHeld:=HTR2.out
    refine hTake 4 (Op.assign (Operand.const (Value.bool true))) (some 4) (.bool true) (by kernel_rfl) (by kernel_rfl) (by kernel_rfl) (by kernel_rfl) (by kernel_rfl) (fun _ _ _ h=>h) (fun o ho wX hX=>by unfold execOp;simp only[ho];go_simp) hHeld ?_
    simp only[Act.put,List.setIfInBounds_toArray,List.set_cons_zero,List.set_cons_succ]
    refine wpAnyH_done (by kernel_rfl) ?_ _
    clear hHeld
    have hrr:=World.rangeAt_setCells_same w8.drew gE 0 (entC xs (N:Int)) HTH.out
    have HBF:Hid (Below w.heap.size w (w8.drew.setCells gE 0 (entC xs (N:Int)))):=Lib.hid (HB8.trans (setCells_below HGE.out _ _ _).1)
    obtain⟨w9,hw9⟩:∃ w9,w9=w8.drew.setCells gE 0 (entC xs (N:Int)):=⟨_,rfl⟩
    rw[← hw9] at hrr HBF ⊢
    clear hw9
    have HRR:=Lib.hid hrr
    clear hrr
    go_wp2_with fail
    exact bodyPost_ret (results_cellR_mid rfl _ rfl HRR.out Tryz.underlying172 rfl HEL.out) rfl ⟨HBF.out,.inr ⟨g,_,HPE.out,rfl⟩⟩
end
end Go.Proofs.YtiaigidbcljblaaGreatDoor
