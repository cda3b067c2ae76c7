import Derived.Test.YtiaigidbcljblaaGreatDoorME4
import Derived.Test.YtiaigidbcljblaaGreatDoorME2
import Derived.Test.YtiaigidbcljblaaGreatDoorME1
import Derived.WalkMore
import Derived.ScopeJumps
set_option linter.unusedSimpArgs false
set_option maxRecDepth 100000
set_option maxHeartbeats 40000000
namespace Go.Proofs.YtiaigidbcljblaaGreatDoor
section
open Go.RowKit
attribute [local irreducible] wpQuiet wpAnyH
theorem sn_dig{w:World}{g:Nat}{t:TypeId}{q:List Int×Int}(h:Blk w g t (entP q).toArray)(hq:EntOk q):Sn w 1 (.slice (some ⟨g,0,none⟩) 32 32) 32 (u8s q.1):=
 ⟨_,32,rfl,Nat.le_refl _,by rw[u8s_length,hq.dig.len],fun _=>⟨g,0,rfl,fun j u hj=>by
  rw[h.cell,Nat.zero_add]
  have hlt:=(List.getElem?_eq_some_iff.1 hj).1
  simp only[List.getElem?_toArray,entP,entC]
  rw[List.getElem?_append_left hlt]
  exact hj⟩⟩
theorem cell_set{w:World}{a b o:Nat}{i:Nat}{v:Value}{vs:List Value}(h:w.cell? ⟨a,i,none⟩=some v)(hne:a≠b:=by omega):(w.setCells b o vs).cell? ⟨a,i,none⟩=some v:=
 (setCells_off b vs o w).cell h hne
theorem frame_entry_ok(g x:Nat)(q:List Int×Int)(w:World)(hq:EntOk q)(hx:q.2=x)(hx62:x≤4611686018427387904)(hg:g<4294967296):
    Calls Tryz.prog 289 #[.int .u32 g,.agg (entP q).toArray] w fun e w'=>e = .returned (.tuple #[.agg (u8s (rec g (q.1++beB 8 x))).toArray,.bool true])∧Below w.heap.size w w':=by
  have HQ:=Lib.hid hq
  have HG:=Lib.hid hg
  have hlq:=entP_length q hq
  have HLN:Hid ((q.1++beB 8 x).length=40):=Lib.hid (by rw[List.length_append,beB_length,hq.dig.len])
  have HRL:Hid ((u8s (rec g (q.1++beB 8 x))).length=64):=Lib.hid (by rw[u8s_length,rec_length g _ (by rw[HLN.out];omega)])
  have HBY:Hid (Bys (q.1++beB 8 x)):=Lib.hid (fun b hb=>by
    rcases List.mem_append.1 hb with hb|hb
    · exact hq.dig.byte b hb
    · exact beB_bys _ _ b hb)
  have HX8 : Hid (x < 256 ^ 8) := Lib.hid (by have e8 : (256 : Nat) ^ 8 = 18446744073709551616 := by decide
                                              omega)
  have hc2:(0:Int)≤q.2:=by omega
  have hc3:q.2≤4611686018427387904:=by omega
  have hcv:IntKind.u64.wrap q.2=(x:Int):=by rw[hx];exact IntWalk.u64_in _ (by omega)
  obtain⟨w1,hw1⟩:∃ w1,w1=(w.alloc (.cells (entP q).toArray 172)).alloc (.cells z64 243):=⟨_,rfl⟩
  have hB1:Blk w1 w.heap.size 172 (entP q).toArray:=by rw[hw1];exact(Blk.new w _ _).alloc _
  have hB2:Blk w1 (w.heap.size+1) 243 z64:=by rw[hw1];exact Blk.newAt _ _ _ _ (by simp)
  have hbw:Below w.heap.size w w1:=by rw[hw1];exact((Below.refl _ w).alloc (Nat.le_refl _) _).alloc (by simp) _
  have hcell:w1.cell? ⟨w.heap.size,32,none⟩=some (.int .i64 q.2):=by
    rw[hB1.cell]
    have h32:(u8s q.1).length=32:=by rw[u8s_length,hq.dig.len]
    simp only[List.getElem?_toArray,entP,entC]
    rw[List.getElem?_append_right (by omega),h32]
    rfl
  have HB1:Hid (Blk w1.drew w.heap.size 172 (entP q).toArray):=Lib.hid hB1
  have HB2:Hid (Blk w1.drew (w.heap.size+1) 243 z64):=Lib.hid hB2
  have HBW:Hid (Below w.heap.size w w1.drew):=Lib.hid hbw.drew
  have HC1:Hid (w1.drew.cell? ⟨w.heap.size,32,none⟩=some (.int .i64 q.2)):=Lib.hid hcell
  subst hw1
  clear hB1 hB2 hbw hq hg hx hx62
  go_enter Tryz.func289,Tryz.ntmps289
  go_wp2_with (refine al 243 z64 rfl rfl zero64 ?_)
  refine held_start 14 (fun w'=>w'.cell? ⟨w.heap.size,32,none⟩=some (.int .i64 q.2)) (by kernel_rfl) (by kernel_rfl) (HC1.out) (fun hHeld=>?_)
  refine hMove 0 (Operand.tmp 0) (some 15) (.int .u32 g) (by kernel_rfl) (by kernel_rfl) (by kernel_rfl) (by kernel_rfl) (by kernel_rfl) (fun _ _ _ h=>h) (by exact rfl) hHeld ?_
  simp only[Act.put,List.setIfInBounds_toArray,List.set_cons_zero,List.set_cons_succ]
  refine hTake 1 (Op.fieldAddr 172 (Operand.tmp 3) 0) (some 16) (.pointer (some ⟨w.heap.size,0,none⟩)) (by kernel_rfl) (by kernel_rfl) (by kernel_rfl) (by kernel_rfl) (by kernel_rfl) (fun _ _ _ h=>h) (fun o ho wX hX=>by unfold execOp;simp only[ho];go_simp) hHeld ?_
  simp only[Act.put,List.setIfInBounds_toArray,List.set_cons_zero,List.set_cons_succ]
  refine hTake 2 (Op.slice 26 (Operand.tmp 16) none none none) (some 17) (.slice (some ⟨w.heap.size,0,none⟩) 32 32) (by kernel_rfl) (by kernel_rfl) (by kernel_rfl) (by kernel_rfl) (by kernel_rfl) (fun _ _ _ h=>h) (fun o ho wX hX=>by unfold execOp;simp only[ho];go_simp) hHeld ?_
  simp only[Act.put,List.setIfInBounds_toArray,List.set_cons_zero,List.set_cons_succ]
  refine hTake 3 (Op.fieldAddr 172 (Operand.tmp 3) 1) (some 18) (.pointer (some ⟨w.heap.size,32,none⟩)) (by kernel_rfl) (by kernel_rfl) (by kernel_rfl) (by kernel_rfl) (by kernel_rfl) (fun _ _ _ h=>h) (fun o ho wX hX=>by unfold execOp;simp only[ho];go_simp) hHeld ?_
  simp only[Act.put,List.setIfInBounds_toArray,List.set_cons_zero,List.set_cons_succ]
  refine hTake 4 (Op.load 2 (Operand.tmp 18)) (some 19) (.int .i64 q.2) (by kernel_rfl) (by kernel_rfl) (by kernel_rfl) (by kernel_rfl) (by kernel_rfl) (fun _ _ _ h=>h) (fun o ho wX hX=>by unfold execOp;simp only[ho];go_simp) hHeld ?_
  simp only[Act.put,List.setIfInBounds_toArray,List.set_cons_zero,List.set_cons_succ]
  refine hTake 5 (Op.convert 2 141 (Operand.tmp 19)) (some 20) (.int .u64 (x:Int)) (by kernel_rfl) (by kernel_rfl) (by kernel_rfl) (by kernel_rfl) (by kernel_rfl) (fun _ _ _ h=>h) (fun o ho wX hX=>by unfold execOp;simp only[ho];go_simp) hHeld ?_
  simp only[Act.put,List.setIfInBounds_toArray,List.set_cons_zero,List.set_cons_succ]
  refine wpAnyH_ready (rs:=[6]) (by kernel_rfl) (by simp) ?_
  refine rCall 6 (Op.call { callee:=Callee.value (Operand.func 319),args:=#[Operand.const (Value.int IntKind.i64 8),Operand.tmp 20],argTypes:=#[3,141] }) (some 21) 319 (#[.int .i64 8,.int .u64 x]) (by kernel_rfl) (by kernel_rfl) (fun o ho=>by unfold execOp;simp only[ho];go_simp) ?_ AllReadyH.nil
  refine(frame_number 8 x _ (by omega) (by omega) HX8.out).mono ?_
  rintro e w2 ⟨vv,rfl,hown2,hb2⟩
  obtain⟨g2,c2,e2,_⟩:=hown2.form (by omega)
  subst e2
  refine⟨_,rfl,Below.cell' hb2 hHeld,fun hHeld=>?_⟩
  simp only[Act.put,List.setIfInBounds_toArray,List.set_cons_zero,List.set_cons_succ]
  have hB2:=HB1.keep hb2
  have hB2r:=HB2.keep hb2
  have hb20:=bstep HBW.out hb2
  have HPA:Hid (Parts (w2.alloc (.cells #[.slice (some ⟨w.heap.size,0,none⟩) 32 32,.slice (some ⟨g2,0,none⟩) 8 c2] 68)) (.slice (some ⟨w2.heap.size,0,none⟩) 2 2) [(.slice (some ⟨w.heap.size,0,none⟩) 32 32,q.1),(.slice (some ⟨g2,0,none⟩) 8 c2,beB 8 x)]):=Lib.hid ⟨Sn.new w2 #[.slice (some ⟨w.heap.size,0,none⟩) 32 32,.slice (some ⟨g2,0,none⟩) 8 c2] 68 1 2 rfl,fun z hz=>by
    simp only[List.mem_cons,List.not_mem_nil,or_false] at hz
    rcases hz with rfl|rfl
    · have:=(sn_dig hB2 HQ.out).alloc (.cells #[.slice (some ⟨w.heap.size,0,none⟩) 32 32,.slice (some ⟨g2,0,none⟩) 8 c2] 68)
      rw[HQ.dig.len]
      exact this
    · have:=(Sn.own hown2).alloc (.cells #[.slice (some ⟨w.heap.size,0,none⟩) 32 32,.slice (some ⟨g2,0,none⟩) 8 c2] 68)
      simp only[beB_length]
      exact this⟩
  have hcat:cat [(Value.slice (some ⟨w.heap.size,0,none⟩) 32 32,q.1),(Value.slice (some ⟨g2,0,none⟩) 8 c2,beB 8 x)]=q.1++beB 8 x:=by simp[cat]
  have htot:total [(Value.slice (some ⟨w.heap.size,0,none⟩) 32 32,q.1),(Value.slice (some ⟨g2,0,none⟩) 8 c2,beB 8 x)]=(q.1++beB 8 x).length:=by simp[total]
  have HCAT:=Lib.hid (And.intro hcat htot)
  have hbA:Below w2.heap.size w2 (w2.alloc (.cells #[.slice (some ⟨w.heap.size,0,none⟩) 32 32,.slice (some ⟨g2,0,none⟩) 8 c2] 68)):=(Below.refl _ _).alloc (Nat.le_refl _) _
  refine wpAnyH_ready (rs:=[7]) (by kernel_rfl) (by simp) ?_
  refine rStep 7 (Op.buildSlice 261 2 #[(0,Operand.tmp 17),(1,Operand.tmp 21)]) (some 22) (.slice (some ⟨w2.heap.size,0,none⟩) 2 2) (w2.alloc (.cells #[.slice (some ⟨w.heap.size,0,none⟩) 32 32,.slice (some ⟨g2,0,none⟩) 8 c2] 68)) (by kernel_rfl) (by kernel_rfl) (fun o ho=>by unfold execOp;simp only[ho];go_simp) (Below.cell' hbA hHeld) ?_ AllReadyH.nil
  simp only[Act.put,List.setIfInBounds_toArray,List.set_cons_zero,List.set_cons_succ]
  replace hHeld:=Below.cell' hbA hHeld
  refine wpAnyH_ready (rs:=[8]) (by kernel_rfl) (by simp) ?_
  refine rCall 8 (Op.call { callee:=Callee.value (Operand.func 167),args:=#[Operand.tmp 22],argTypes:=#[261] }) (some 23) 167 (#[.slice (some ⟨w2.heap.size,0,none⟩) 2 2]) (by kernel_rfl) (by kernel_rfl) (fun o ho=>by unfold execOp;simp only[ho];go_simp) ?_ AllReadyH.nil
  refine(wire_join _ [(.slice (some ⟨w.heap.size,0,none⟩) 32 32,q.1),(.slice (some ⟨g2,0,none⟩) 8 c2,beB 8 x)] _ HPA.out (by simp) (by rw[HCAT.out.2,List.length_append,beB_length,HQ.dig.len];omega)).mono ?_
  rintro e w3 ⟨v3,rfl,hown3,hb3⟩
  rw[HCAT.out.1,HCAT.out.2] at hown3
  refine⟨_,rfl,Below.cell' hb3 hHeld,fun hHeld=>?_⟩
  simp only[Act.put,List.setIfInBounds_toArray,List.set_cons_zero,List.set_cons_succ]
  refine wpAnyH_ready (rs:=[9]) (by kernel_rfl) (by simp) ?_
  refine rCall 9 (Op.call { callee:=Callee.value (Operand.func 313),args:=#[Operand.tmp 15,Operand.tmp 23],argTypes:=#[51,68] }) (some 24) 313 (#[.int .u32 g,v3]) (by kernel_rfl) (by kernel_rfl) (fun o ho=>by unfold execOp;simp only[ho];go_simp) ?_ AllReadyH.nil
  refine(frame_make g v3 (q.1++beB 8 x) w3 (Sn.own hown3) HBY.out (by rw[HLN.out];omega) HG.out).mono ?_
  rintro e w4 ⟨rfl,hb4⟩
  refine⟨_,rfl,Below.cell' hb4 hHeld,fun hHeld=>?_⟩
  simp only[Act.put,List.setIfInBounds_toArray,List.set_cons_zero,List.set_cons_succ]
  refine hTake 10 (Op.extract (Operand.tmp 24) 0) (some 25) (.agg (u8s (rec g (q.1++beB 8 x))).toArray) (by kernel_rfl) (by kernel_rfl) (by kernel_rfl) (by kernel_rfl) (by kernel_rfl) (fun _ _ _ h=>h) (fun o ho wX hX=>by unfold execOp;simp only[ho];go_simp) hHeld ?_
  simp only[Act.put,List.setIfInBounds_toArray,List.set_cons_zero,List.set_cons_succ]
  refine hTake 11 (Op.extract (Operand.tmp 24) 1) (some 26) (.bool true) (by kernel_rfl) (by kernel_rfl) (by kernel_rfl) (by kernel_rfl) (by kernel_rfl) (fun _ _ _ h=>h) (fun o ho wX hX=>by unfold execOp;simp only[ho];go_simp) hHeld ?_
  simp only[Act.put,List.setIfInBounds_toArray,List.set_cons_zero,List.set_cons_succ]
  have hb40:=bstep (bstep (bstep hb20 hbA) hb3) hb4
  have hB4:=((hB2r.keep hbA).keep hb3).keep hb4
  have hth:=there_blk hB4 (off:=0) (n:=(u8s (rec g (q.1++beB 8 x))).length) (by rw[HRL.out,z64_size];exact Nat.le_refl _)
  refine wpAnyH_ready (rs:=[12]) (by kernel_rfl) (by simp) ?_
  refine rStoreS 12 243 (.tmp 4) (.tmp 25) none (cs:=u8s (rec g (q.1++beB 8 x))) (by kernel_rfl) (by kernel_rfl) (by exact rfl) (by exact rfl) hth (by rw[HRL.out];kernel_rfl) (u8s_mem _) (cell_set hHeld) ?_ AllReadyH.nil
  simp only[Act.put,List.setIfInBounds_toArray,List.set_cons_zero,List.set_cons_succ]
  replace hHeld:=cell_set (b:=w.heap.size+1) (o:=0) (vs:=u8s (rec g (q.1++beB 8 x))) hHeld
  refine hTake 13 (Op.assign (Operand.tmp 26)) (some 5) (.bool true) (by kernel_rfl) (by kernel_rfl) (by kernel_rfl) (by kernel_rfl) (by kernel_rfl) (fun _ _ _ h=>h) (fun o ho wX hX=>by unfold execOp;simp only[ho];go_simp) hHeld ?_
  simp only[Act.put,List.setIfInBounds_toArray,List.set_cons_zero,List.set_cons_succ]
  refine wpAnyH_done (by kernel_rfl) ?_ _
  have hrr:=World.rangeAt_setCells_same w4 (w.heap.size+1) 0 (u8s (rec g (q.1++beB 8 x))) hth
  have hbF:=hb40.trans (setCells_below (Nat.le_succ w.heap.size) (u8s (rec g (q.1++beB 8 x))) 0 w4).1
  obtain⟨w9,hw9⟩:∃ w9,w9=w4.setCells (w.heap.size+1) 0 (u8s (rec g (q.1++beB 8 x))):=⟨_,rfl⟩
  rw[← hw9] at hrr hbF ⊢
  clear hw9 hth hB4 hB2r hB2 hHeld
  have HRR:=Lib.hid hrr
  clear hrr
  go_wp2_with fail
  refine bodyPost_ret (results_cellR_tmp rfl _ rfl HRR.out Tryz.underlying243 rfl (by rw[HRL.out];kernel_rfl)) rfl ⟨rfl,hbF⟩
def room(z:Int):Int:=if z<1 then 0 else z-1
theorem slot_room(f z:Int)(w:World)(hz:isI64 z):
  Calls Tryz.prog 288 #[.agg #[.int .i64 f,.int .i64 z]] w fun e w'=>e = .returned (.int .i64 (room z))∧Below w.heap.size w w':=by
 have hbA:Below w.heap.size w (w.alloc (.cells #[.int .i64 f,.int .i64 z] 324)):=(Below.refl _ w).alloc (Nat.le_refl _) _
 have hc:=(Blk.new w 324 #[.int .i64 f,.int .i64 z]).cell 1
 simp only[List.getElem?_toArray,List.getElem?_cons_succ,List.getElem?_cons_zero] at hc
 have h1 : -9223372036854775808≤z:=hz.1
 have h2:z≤9223372036854775807:=hz.2
 rcases Bool.eq_false_or_eq_true (decide (z<1)) with t1|t1
 ·go_enter Tryz.func288,Tryz.ntmps288
  go_wp2_with fail
  go_ret
  exact⟨by unfold room;rw[if_pos (of_decide_eq_true t1)];rfl,hbA⟩
 ·have h3:1≤z:=by have:=of_decide_eq_false t1;omega
  go_enter Tryz.func288,Tryz.ntmps288
  go_wp2_with fail
  go_ret
  exact⟨by unfold room;rw[if_neg (by omega)];rfl,hbA⟩
def rightE(q:List Int×Int):Bool:=decide (0≤q.2) && decide (q.2≤4611686018427387904)
theorem results_cellR2{P:Program}{w:World}{fn:Func}{p u:Tmp}{ty ty':TypeId}(h:fn.results=#[.cell p ty,.cell u ty'])(tmps:Array Value){b b':Nat}{cs ds:List Value}{d d':TypeDesc}(hp:tmps.getD p undef = .pointer (some ⟨b,0,none⟩))(hp':tmps.getD u undef = .pointer (some ⟨b',0,none⟩))(hc:w.rangeAt b 0 cs)(hc':w.rangeAt b' 0 ds)
  (hu:P.underlying ty=some d) (hd:d.isRow=true) (hi:(P.info? ty).map (·.size)=some cs.length) (hu':P.underlying ty'=some d') (hd':d'.isRow=true) (hi':(P.info? ty').map (·.size)=some ds.length):(results fn tmps).run P w = .ok (.tuple #[.agg cs.toArray,.agg ds.toArray]) w:=by
 have h1:tmps[p]?.getD undef = .pointer (some ⟨b,0,none⟩):=by simpa using hp
 have h2:tmps[u]?.getD undef = .pointer (some ⟨b',0,none⟩):=by simpa using hp'
 simp[results,h,h1,h2,asAddr,Sem.run_bind,Result.andThen,run_loadVar_mid w b 0 ty cs d hc hu hd hi,run_loadVar_mid w b' 0 ty' ds d' hc' hu' hd' hi']
theorem slot_halves(n:Nat)(w:World)(hn:n≤1000000):
  Calls Tryz.prog 202 #[.int .i64 n] w fun e w'=>e = .returned (.tuple #[.agg #[.int .i64 0,.int .i64 ((n/2:Nat):Int)],.agg #[.int .i64 ((n/2:Nat):Int),.int .i64 ((n/2:Nat):Int)]])∧Below w.heap.size w w':=by
 have hn1:(n:Int)≤1000000:=by omega
 go_enter Tryz.func202,Tryz.ntmps202
 go_wp2_with fail
 have e:((n/2:Nat):Int)=(n:Int)/2:=by simp
 rw[e]
 have hB1:=(Blk.new w 324 #[.int .i64 0,.int .i64 ((n:Int)/2)]).alloc (.cells #[.int .i64 ((n:Int)/2),.int .i64 ((n:Int)/2)] 324)
 have hB2:=Blk.newAt (w.alloc (.cells #[.int .i64 0,.int .i64 ((n:Int)/2)] 324)) 324 #[.int .i64 ((n:Int)/2),.int .i64 ((n:Int)/2)] (w.heap.size+1) (by simp)
 have hbF:Below w.heap.size w ((w.alloc (.cells #[.int .i64 0,.int .i64 ((n:Int)/2)] 324)).alloc (.cells #[.int .i64 ((n:Int)/2),.int .i64 ((n:Int)/2)] 324)):=((Below.refl _ w).alloc (Nat.le_refl _) _).alloc (by simp) _
 exact bodyPost_ret (results_cellR2 rfl _ rfl rfl hB1.range hB2.range Tryz.underlying324 rfl (by kernel_rfl) Tryz.underlying324 rfl (by kernel_rfl)) rfl ⟨rfl,hbF⟩
theorem sliced_own{A:Option Addr}{i j m s k c:Nat}:∀ b,(sliced A i j m s).ownBlock=some b→(Value.slice A k c).ownBlock=some b:=by
 intro b h
 unfold Go.sliced at h
 cases A with
 | none=>split at h <;> simp[Value.ownBlock] at h
 | some a=>
  obtain⟨p,o,z⟩:=a
  split at h
  ·exact h
  ·simp only[Value.ownBlock,Option.map_some,Addr.add] at h
   split at h <;> exact h
theorem clone_bytesF(va:Value)(n:Nat)(xs:List Value)(w:World)(hs:Sn w 1 va n xs)(h1:∀ u∈xs,u.oneCell'=true)(hn:n≤1000000):
  Calls Tryz.prog 215 #[va] w fun e w'=>∃ v,e = .returned v∧Sn w' 1 v n xs∧(∀ b,v.ownBlock=some b→w.heap.size≤b)∧Below w.heap.size w w':=by
 obtain⟨A,cap,rfl,hcap,hl,hx⟩:=id hs
 have HS:=Lib.hid hs
 have HX:=Lib.hid hx
 clear hx
 cases A with
 | none=>
  have heq:∀ w:World,(binOp .eql 68 (.slice none n cap) (.slice none 0 0)).run Tryz.prog w = .ok (.bool true) w:=fun _=>rfl
  go_enter Tryz.func215,Tryz.ntmps215
  go_wp2_with fail
  go_ret
  have hn0:n=0:=by
   rcases Nat.eq_zero_or_pos n with h|h
   ·exact h
   ·obtain⟨b,off,e,_⟩:=HX.out h
    cases e
  subst hn0
  exact⟨_,rfl,⟨none,0,rfl,Nat.le_refl _,hl,fun h=>absurd h (by omega)⟩,(fun b e=>by cases e),Below.refl _ _⟩
 | some a=>
  have heq:∀ w:World,(binOp .eql 68 (.slice (some a) n cap) (.slice none 0 0)).run Tryz.prog w = .ok (.bool false) w:=fun _=>rfl
  have hown:(w.alloc (.cells #[] 5)).ownsRow w.heap.size 5 1 (.slice (some ⟨w.heap.size,0,none⟩) 0 0) 0 []:=own_new w #[] 5 1 0 w.heap.size w.heap.size (Nat.le_refl _) rfl (by unfold maxLen;omega) rfl
  go_enter Tryz.func215,Tryz.ntmps215
  clear hs
  go_wp2_with (at_builtin;refine app tByt (.tmp 5) (.tmp 6) rfl rfl rfl hown rfl (HS.alloc _) h1 (by unfold maxLen;omega) (by omega) (by simp) ?_;intro v' w3 hown3 hgrow _)
  go_ret
  have hb:Below w.heap.size w w3:=((Below.refl _ w).alloc (Nat.le_refl _) _).grown hgrow (by simp) (fun g hg=>by have:=(hown.lt g hg).1;omega)
  have hlt:=hown3.lt
  have:=Sn.own hown3
  rw[Nat.zero_add,List.nil_append] at this
  exact⟨_,rfl,this,fun b e=>(hlt b e).1,hb⟩
theorem wire_newF(va:Value)(xs:List Int)(w:World)(hs:Sn w 1 va xs.length (u8s xs))(hn:xs.length≤1000000):
  Calls Tryz.prog 157 #[va] w fun e w'=>∃ r v,e = .returned (.pointer (some ⟨r,0,none⟩))∧RD w' r v xs false∧(∀ b,v.ownBlock=some b→w.heap.size≤b)∧w.heap.size≤r∧Below w.heap.size w w':=by
 have HS:=Lib.hid hs
 clear hs
 go_enter Tryz.func157,Tryz.ntmps157
 go_wp2_with fail
 refine(clone_bytesF va xs.length (u8s xs) w HS.out (u8s_mem xs) hn).mono ?_
 rintro e w1 ⟨v,rfl,hs1,hfr,hb1⟩
 obtain⟨A,cap,rfl,hcap,hl,_⟩:=id hs1
 have HS1:=Lib.hid hs1
 have hsz:=hb1.size
 have HFR:=Lib.hid hfr
 clear hs1 hfr
 go_wp2_with fail
 go_ret
 exact⟨_,_,rfl,⟨Blk.new _ _ _,HS1.alloc _⟩,HFR.out,hsz,hb1.alloc hsz _⟩
theorem rd_nextF(r:Nat)(v:Value)(xs:List Int)(bad:Bool)(n:Nat)(w:World)(h:RD w r v xs bad)(hl:xs.length≤1000000):
    Calls Tryz.prog 217 #[.pointer (some ⟨r,0,none⟩),.int .u64 n] w fun e w'=>Off r w w' ∧
      ((bad = false ∧ n ≤ xs.length ∧ ∃ x v', e = .returned (.tuple #[x, .bool true]) ∧ Sn w' 1 x n (u8s (xs.take n)) ∧ RD w' r v' (xs.drop n) false ∧ ∀ b, v'.ownBlock = some b → v.ownBlock = some b) ∨
       ((bad=true∨xs.length<n)∧e = .returned (.tuple #[.slice none 0 0,.bool false])∧RD w' r (.slice none 0 0) [] true)):=by
  obtain⟨hB,hs⟩:=h
  obtain⟨A,cap,rfl,hcap,hln,_⟩:=id hs
  have HS:=Lib.hid hs
  have HB:=Lib.hid hB
  have h0:=hB.cell 0
  have h1:=hB.cell 1
  have f0:=hB.frozen 0
  simp only[List.getElem?_toArray,List.getElem?_cons_zero,List.getElem?_cons_succ] at h0 h1
  have hcase:bad=true∨bad=false∧decide (xs.length<n)=true∨bad=false∧decide (xs.length<n)=false:=by
    cases bad <;> cases decide (xs.length<n) <;> simp
  clear hB hs
  rcases hcase with rfl|⟨rfl,t1⟩|⟨rfl,t1⟩
  · go_enter Tryz.func217,Tryz.ntmps217
    go_wp2_with fail
    refine(rd_fail r _ true w HB.out).mono ?_
    rintro e w1 ⟨rfl,hR,ho⟩
    go_wp2_with fail
    go_ret2
    exact⟨ho,.inr ⟨.inl trivial,rfl,hR⟩⟩
  · go_enter Tryz.func217,Tryz.ntmps217
    go_wp2_with fail
    refine(rd_fail r _ false w HB.out).mono ?_
    rintro e w1 ⟨rfl,hR,ho⟩
    go_wp2_with fail
    go_ret2
    exact⟨ho,.inr ⟨.inr (by have:=of_decide_eq_true t1;omega),rfl,hR⟩⟩
  · have hn:n≤xs.length:=by have:=of_decide_eq_false t1;omega
    have hi1:(n:Int)≤cap:=by omega
    have hi2:(n:Int)≤xs.length:=by omega
    have hi0:(0:Int)≤n:=by omega
    have hue:=Tryz.underlying68
    go_enter Tryz.func217,Tryz.ntmps217
    have HR2:Hid (Sn w 1 (sliced A 0 n n 1) n (u8s (xs.take n))):=Lib.hid (by
      have:=HS.sliced 0 n n (by omega) hn (Nat.le_refl _)
      rw[u8s_take]
      simpa using this)
    have HR3:Hid (Sn w 1 (sliced A n xs.length cap 1) (xs.drop n).length (u8s (xs.drop n))):=Lib.hid (by
      have:=HS.sliced n xs.length cap hn (Nat.le_refl _) hcap
      rw[u8s_drop,List.length_drop]
      have e:(u8s xs).take (xs.length*1)=u8s xs:=List.take_of_length_le (by rw[u8s_length];omega)
      rw[e] at this
      simpa using this)
    have hB3:=Lib.hid (HB.set_ 0 (sliced A n xs.length cap 1))
    have ho:Off r w (w.setCell ⟨r,0,none⟩ (sliced A n xs.length cap 1)):=(Off.refl r w).set 0 _
    have HO:=Lib.hid ho
    clear ho
    by_cases hcn:cap=n
    all_goals
      go_wp2_with fail
      go_ret2
      have hx2:=HR2.offB HB.out rfl HO.out
      have hx3:=HR3.offB HB.out rfl HO.out
      have e2:sliced A 0 n n 1 = .slice A n n:=by
        unfold Go.sliced
        cases A with
        | none=>simp
        | some a=>obtain⟨b,o,s⟩:=a;simp[Addr.add]
      have hb3:=hB3.out
      rw[e2] at hx2
      refine⟨?_,.inl ⟨trivial,hn,_,sliced A n xs.length cap 1,rfl,?_,?_⟩⟩
    · have e3:sliced A n xs.length cap 1 = .slice A (xs.length-n) 0:=by simp[Go.sliced,hcn]
      rw[← e3];exact HO.out
    · have e3:sliced A n xs.length cap 1 = .slice A (xs.length-n) 0:=by simp[Go.sliced,hcn]
      rw[e3] at hx2;exact hx2
    · have e3:sliced A n xs.length cap 1 = .slice A (xs.length-n) 0:=by simp[Go.sliced,hcn]
      rw[← e3];exact⟨⟨hb3,hx3⟩,sliced_own⟩
    · have e3:sliced A n xs.length cap 1 = .slice (A.map (·.add n)) (xs.length-n) (cap-n):=by simp[Go.sliced,hcn]
      rw[← e3];exact HO.out
    · have e3:sliced A n xs.length cap 1 = .slice (A.map (·.add n)) (xs.length-n) (cap-n):=by simp[Go.sliced,hcn]
      rw[e3] at hx2;exact hx2
    · have e3:sliced A n xs.length cap 1 = .slice (A.map (·.add n)) (xs.length-n) (cap-n):=by simp[Go.sliced,hcn]
      rw[← e3];exact⟨⟨hb3,hx3⟩,sliced_own⟩
theorem rd_TakeF(r:Nat)(v:Value)(xs:List Int)(bad:Bool)(n:Nat)(w:World)(h:RD w r v xs bad)(hl:xs.length≤1000000)(hn:n≤1000000):
    Calls Tryz.prog 223 #[.pointer (some ⟨r,0,none⟩),.int .i64 n] w fun e w'=>Off r w w' ∧
      ((bad = false ∧ n ≤ xs.length ∧ ∃ x v', e = .returned x ∧ Sn w' 1 x n (u8s (xs.take n)) ∧ RD w' r v' (xs.drop n) false ∧ ∀ b, v'.ownBlock = some b → v.ownBlock = some b) ∨
       ((bad=true∨xs.length<n)∧e = .returned (.slice none 0 0)∧RD w' r (.slice none 0 0) [] true)):=by
  go_enter Tryz.func223,Tryz.ntmps223
  have HR:=Lib.hid h
  have hi1:(0:Int)≤n:=by omega
  have hi8:(n:Int)≤1000000:=by omega
  clear h
  go_wp2_with fail
  refine(rd_nextF r v xs bad n w HR.out hl).mono ?_
  rintro e w1 ⟨ho,⟨rfl,hkl,x,v',rfl,hsx,hR,hob⟩|⟨hbad,rfl,hR⟩⟩
  · have HO:=Lib.hid ho
    have HRR:=Lib.hid hR
    have HSX:=Lib.hid hsx
    have HK:=Lib.hid hkl
    have HOB:=Lib.hid hob
    clear ho hR hsx hkl hob
    go_wp2_with fail
    refine(clone_bytes x n (u8s (xs.take n)) w1 HSX.out (u8s_mem _) hn).mono ?_
    rintro e w2 ⟨y,rfl,hsy,hb2⟩
    go_wp2_with fail
    go_ret
    exact⟨HO.trans (Off.of_below hb2),.inl ⟨HK.out,y,rfl,hsy,v',⟨HRR.out.1.keep hb2,HRR.out.2.below hb2⟩,HOB.out⟩⟩
  · have HO:=Lib.hid ho
    have HRR:=Lib.hid hR
    have HBD:=Lib.hid hbad
    clear ho hR hbad
    go_wp2_with fail
    go_ret
    exact⟨HO.out,.inr ⟨HBD.out,rfl,HRR.out⟩⟩
end
section
theorem build_ent(d:List Int)(t:Int)(hd:d.length=32)(Z:Array Value)(hz:Z.size=33):((u8s d).zipIdx.foldl (fun(cs:Array Value) (x:Value×Nat)=>cs.setIfInBounds x.2 x.1) Z).setIfInBounds 32 (.int .i64 t)=(entC d t).toArray:=by
 have h32:(u8s d).length=32:=by simp[u8s,hd]
 have hsz:((u8s d).zipIdx.foldl (fun(cs:Array Value) (x:Value×Nat)=>cs.setIfInBounds x.2 x.1) Z).size=33:=by
  have key:∀(l:List (Value×Nat)) (cs:Array Value),(l.foldl (fun(cs:Array Value) (x:Value×Nat)=>cs.setIfInBounds x.2 x.1) cs).size=cs.size:=by
   intro l
   induction l with
   | nil=>intro cs;rfl
   | cons x l ih=>intro cs;rw[List.foldl_cons,ih,Array.size_setIfInBounds]
  rw[key];exact hz
 apply Array.ext_getElem?
 intro i
 rw[Array.getElem?_setIfInBounds,set_many,hsz,hz,h32,show(entC d t).toArray[i]? = (u8s d++[.int .i64 t])[i]? by simp[entC]]
 by_cases h1:32=i
 ·subst h1
  rw[if_pos rfl,if_pos (by omega),List.getElem?_append_right (by omega),h32]
  rfl
 ·rw[if_neg h1]
  by_cases h2:i<32
  ·rw[if_pos (by omega),List.getElem?_append_left (by omega),Nat.sub_zero]
  ·rw[if_neg (by omega),List.getElem?_append_right (by omega),h32]
   rw[Array.getElem?_eq_none (by rw[hz];omega),List.getElem?_eq_none (by simp;omega)]
theorem build_one(d:List Int)(t:Int)(hd:DigOk d)(Z:Array Value)(hz:Z.size=33):(entC d t).zipIdx.foldl (fun(cs:Array Value) (x:Value×Nat)=>cs.setIfInBounds x.2 x.1) Z=(entC d t).toArray:=by
 have hl:=entC_length hd t
 apply Array.ext_getElem?
 intro i
 rw[set_many,hz,hl,show(entC d t).toArray[i]? = (entC d t)[i]? by simp]
 by_cases h:i<33
 ·rw[if_pos (by omega),Nat.sub_zero]
 ·rw[if_neg (by omega),Array.getElem?_eq_none (by omega),List.getElem?_eq_none (by omega)]
end
section
open Go.RowKit
attribute [local irreducible] wpQuiet wpAnyH
def zeros(l:List Int):Bool:=l.all fun c=>decide (c=0)
def prs(s:List Int):Option (Nat×List Int):=
 if 54<beN (s.take 2) then none
 else if !zeros ((s.drop (2+beN (s.take 2))).take (54-beN (s.take 2))) then none
 else if beN ((s.drop 56).take 4)≠crcSum (s.take 56++s.drop 60) then none
 else some (beN ((s.drop 60).take 4),(s.drop 2).take (beN (s.take 2)))
theorem RD.alloc{w:World}{r:Nat}{v:Value}{xs:List Int}{bad:Bool}(h:RD w r v xs bad)(o:Obj):RD (w.alloc o) r v xs bad:=⟨h.1.alloc o,h.2.alloc o⟩
theorem RD.keep{w w':World}{r:Nat}{v:Value}{xs:List Int}{bad:Bool}(h:RD w r v xs bad)(hb:Below w.heap.size w w'):RD w' r v xs bad:=⟨Blk.keep h.1 hb,h.2.below hb⟩
theorem parts2(w:World){g:Nat}(s:List Int)(hl:s.length=64)(hB:Blk w g 243 (u8s s).toArray):
  Parts (w.alloc (.cells #[.slice (some ⟨g,0,none⟩) 56 64,.slice (some ⟨g,60,none⟩) 4 4] 68)) (.slice (some ⟨w.heap.size,0,none⟩) 2 2) [(.slice (some ⟨g,0,none⟩) 56 64,s.take 56),(.slice (some ⟨g,60,none⟩) 4 4,s.drop 60)]:=
 ⟨Sn.new w #[.slice (some ⟨g,0,none⟩) 56 64,.slice (some ⟨g,60,none⟩) 4 4] 68 1 2 rfl,fun q hq=>by
  simp only[List.mem_cons,List.not_mem_nil,or_false] at hq
  rcases hq with rfl|rfl
  ·have:=(Sn.of_blk hB 0 56 64 (by omega) (by omega)).alloc (.cells #[.slice (some ⟨g,0,none⟩) 56 64,.slice (some ⟨g,60,none⟩) 4 4] 68)
   rw[List.drop_zero] at this
   simp only[List.length_take,hl]
   exact this
  ·have:=(Sn.of_blk hB 60 4 4 (by omega) (by omega)).alloc (.cells #[.slice (some ⟨g,0,none⟩) 56 64,.slice (some ⟨g,60,none⟩) 4 4] 68)
   rw[List.take_of_length_le (by rw[List.length_drop];omega)] at this
   simp only[List.length_drop,hl]
   exact this⟩
theorem parts_off{w w':World}{g b r:Nat}{s:List Int}{v:Value}{bad:Bool}{A:Option Addr}{k cap:Nat}(h:Parts w (.slice (some ⟨b,0,none⟩) 2 2) [(.slice (some ⟨g,0,none⟩) 56 64,s.take 56),(.slice (some ⟨g,60,none⟩) 4 4,s.drop 60)])(_:Blk w g 243 (u8s s).toArray)(hR:Blk w r 345 #[v,.bool bad])(hv:v = .slice A k cap)(ho:Off r w w')(_:g≠r)(hb:b≠r):
  Parts w' (.slice (some ⟨b,0,none⟩) 2 2) [(.slice (some ⟨g,0,none⟩) 56 64,s.take 56),(.slice (some ⟨g,60,none⟩) 4 4,s.drop 60)]:=
 ⟨h.row.offAt ho hb,fun q hq=>(h.part q hq).offB hR hv ho⟩
theorem frame_parse(s:List Int)(w:World)(hl:s.length=64)(hb:Bys s):
    Calls Tryz.prog 329 #[.agg (u8s s).toArray] w fun e w'=>Below w.heap.size w w' ∧
      ((prs s = none ∧ e = .returned (.tuple #[.int .u32 0, .slice none 0 0, .bool false])) ∨
       (∃ g p v,prs s=some (g,p)∧e = .returned (.tuple #[.int .u32 g,v,.bool true])∧Sn w' 1 v p.length (u8s p))):=by
  have hul:(u8s s).length=64:=by rw[u8s_length,hl]
  obtain⟨w1,hw1⟩:∃ w1,w1=w.alloc (.cells (u8s s).toArray 243):=⟨_,rfl⟩
  have hB1:Blk w1 w.heap.size 243 (u8s s).toArray:=by rw[hw1];exact Blk.new _ _ _
  have hb1:Below w.heap.size w w1:=by rw[hw1];exact(by repeat (first|exact Below.refl _ _|assumption|refine bdrewN ?_ _|refine Below.setCell ?_ (by first|exact Nat.le_refl _|assumption|omega|(simp <;> omega)) _|refine Below.alloc ?_ (by first|exact Nat.le_refl _|assumption|omega|(simp <;> omega)) _))
  have hsn:Sn w1 1 (.slice (some ⟨w.heap.size,0,none⟩) 64 64) s.length (u8s s):=by
    have:=Sn.of_blk hB1 0 64 64 (by omega) (by omega)
    rw[List.drop_zero,List.take_of_length_le (by omega)] at this
    rw[hl];exact this
  have HSN:=Lib.hid hsn
  have HB1:=Lib.hid hB1
  have HBY:=Lib.hid hb
  have HHL:=Lib.hid hl
  clear hsn hB1 hb hl
  go_enter Tryz.func329,Tryz.ntmps329
  go_wp2_with fail
  refine wp_scope_jumps 0 (fun a w'=>Below w.heap.size w w'∧prs s=none∧∃ u0 u1 u2 u3 u4 u5 u6 u7 u8 u9 u10 u11 u12 u13 u14 u15 u16 u17 u18 u19 u20 u21 u22 u23 u24 u25 u26 u27 u28 u29 u30 u31 u32 u33 u34 u35 u36 u37 u38 u39 u40 u41 u42 u43:Value,a={ tmps:=#[u0,u1,u2,u3,u4,u5,u6,u7,u8,u9,u10,u11,u12,u13,u14,u15,u16,u17,u18,u19,u20,u21,u22,u23,u24,u25,u26,u27,u28,u29,u30,u31,u32,u33,u34,u35,u36,u37,u38,u39,u40,u41,u42,u43],defers:=[] }) (fun _ _=>0) rfl ?first ?pass
  case pass=>
    rintro a wj ⟨hbj,hnj,u0,u1,u2,u3,u4,u5,u6,u7,u8,u9,u10,u11,u12,u13,u14,u15,u16,u17,u18,u19,u20,u21,u22,u23,u24,u25,u26,u27,u28,u29,u30,u31,u32,u33,u34,u35,u36,u37,u38,u39,u40,u41,u42,u43,rfl⟩
    have HJ:=Lib.hid (And.intro hbj hnj)
    clear hbj hnj
    go_wp2_with fail
    simp only[Exit.jump]
    go_ret3
    exact⟨HJ.out.1,.inl ⟨HJ.out.2,rfl⟩⟩
  go_wp2_with fail
  rw[← hw1]
  clear hw1
  refine(wire_new _ s w1 HSN.out (by rw[HHL.out];omega)).mono ?_
  rintro e w2 ⟨r,v,rfl,hR,hr,hb2⟩
  have hb20:=bstep hb1 hb2
  have HB2:=Lib.hid (HB1.keep hb2)
  have hsz1:=hb1.size
  have hrw:w.heap.size≤r:=by omega
  clear hb2 hr HB1 HSN hb1
  have HR:=Lib.hid hR
  clear hR
  go_wp2_with fail
  refine(rd_Number r v s false 2 w2 HR.out HBY.out (by rw[HHL.out];omega) (by omega) (by omega)).mono ?_
  rintro e w3 ⟨ho3,⟨_,_,v3,rfl,hR3⟩|⟨hbad,_,_⟩⟩
  rotate_left 1
  · exfalso
    rcases hbad with h|h
    · cases h
    · rw[HHL.out] at h;omega
  have hb30:Below w.heap.size w w3:=hb20.trans (ho3.below hrw hb20.size)
  have hne:w.heap.size≠r:=by have:=HB2.out;intro e;subst e;have h1:=HR.out.1;unfold Blk at h1 this;rw[this] at h1;injection h1 with h1;injection h1 with h1 h2 _;exact absurd h2 (by decide)
  have HB3:=Lib.hid (ho3.blk HB2.out hne)
  obtain⟨n,hn⟩:∃ n,n=beN (s.take 2):=⟨_,rfl⟩
  have hn16:n<65536:=by
    rw[hn]
    have:=beN_lt (s.take 2) (fun b hb=>HBY.out b (List.mem_of_mem_take hb))
    rw[List.length_take,HHL.out] at this
    exact this
  rw[← hn]
  have HN:=Lib.hid hn
  have HR3:=Lib.hid hR3
  clear hn hR3 ho3 hb20 HB2 HR
  rcases Bool.eq_false_or_eq_true (decide ((54:Int)<n)) with t1|t1
  · go_wp2_with fail
    go_step3
    simp only[Exit.then,Exit.inBlock]
    refine⟨rfl,hb30,?_,?_⟩
    · unfold prs
      rw[← HN.out,if_pos (by have:=of_decide_eq_true t1;omega)]
    · iterate 44 apply Exists.intro
      rfl
  · have hn54:n≤54:=by have:=of_decide_eq_false t1;omega
    have hm:(54:Int)-n=((54-n:Nat):Int):=by omega
    have hd2:(s.drop 2).length=62:=by rw[List.length_drop,HHL.out]
    have HD2:=Lib.hid hd2
    clear hd2
    go_wp2_with fail
    refine(rd_Take r v3 (s.drop 2) false n w3 HR3.out (by rw[HD2.out];omega) (by omega)).mono ?_
    rintro e w4 ⟨ho4,⟨_,_,x4,v4,rfl,hs4,hR4⟩|⟨hbad,_,_⟩⟩
    rotate_left 1
    · exfalso
      rcases hbad with h|h
      · cases h
      · rw[HD2.out] at h;omega
    have hb40:Below w.heap.size w w4:=hb30.trans (ho4.below hrw hb30.size)
    have HB4:=Lib.hid (ho4.blk HB3.out hne)
    have HS4:=Lib.hid hs4
    have HR4:=Lib.hid hR4
    have HD4:Hid (((s.drop 2).drop n).length=62-n):=Lib.hid (by rw[List.length_drop,HD2.out])
    clear hs4 hR4 ho4 hb30 HR3 HB3
    go_wp2_with fail
    refine(rd_Take r v4 ((s.drop 2).drop n) false (54-n) w4 HR4.out (by rw[HD4.out];omega) (by omega)).mono ?_
    rintro e w5 ⟨ho5,⟨_,_,x5,v5,rfl,hs5,hR5⟩|⟨hbad,_,_⟩⟩
    rotate_left 1
    · exfalso
      rcases hbad with h|h
      · cases h
      · rw[HD4.out] at h;omega
    have hb50:Below w.heap.size w w5:=hb40.trans (ho5.below hrw hb40.size)
    have HB5:=Lib.hid (ho5.blk HB4.out hne)
    obtain⟨A5,c5,e5,hc5,_,_⟩:=id hs5
    subst e5
    have HS5:=Lib.hid hs5
    obtain⟨A4,c4,e4,_,_,_⟩:=id HR4.out.2
    have HS45:Hid (Sn w5 1 x4 n (u8s ((s.drop 2).take n))):=Lib.hid (HS4.offB HR4.out.1 e4 ho5)
    have HR5:=Lib.hid hR5
    have hz:((s.drop 2).drop n).take (54-n)=(s.drop (2+n)).take (54-n):=by rw[List.drop_drop]
    rw[hz] at HS5 hs5
    have hzl:((s.drop (2+n)).take (54-n)).length=54-n:=by rw[List.length_take,List.length_drop,HHL.out];omega
    obtain⟨z,hzz⟩:∃ z,z=(s.drop (2+n)).take (54-n):=⟨_,rfl⟩
    have hzb:Bys z:=by rw[hzz];exact fun b hb=>HBY.out b (List.mem_of_mem_drop (List.mem_of_mem_take hb))
    rw[← hzz] at HS5 hzl
    have HZ:=Lib.hid hzz
    have HZB:=Lib.hid hzb
    have HZL:=Lib.hid hzl
    clear hs5 hz hzz hzb hzl hR5 ho5 e4 hb40 HB4 HS4 HR4 HD4
    go_wp2_with fail
    go_loopw [25] (fun i wr=>∃ k:Nat,k≤54-n∧i = .int .i64 k∧Hid (∀ c∈z.take k,c=0)∧wr=w5) (fun i _=>(54-n)-(intOf i).toNat)
    case atStart=>exact⟨0,Nat.zero_le _,rfl,Lib.hid (by simp),rfl⟩
    case round=>
      obtain⟨k,hk,rfl,hz0,hw⟩:=hrel
      rw[hw]
      clear hw
      by_cases hlt:k<54-n
      · obtain⟨A',cap',hA,_,_,hcell⟩:=HS5.out
        injection hA with hA _ hcp
        subst hA hcp
        obtain⟨b,off,rfl,hr⟩:=hcell (by omega)
        have hkz:k<z.length:=by rw[HZL.out];exact hlt
        have hc:=hr k _ (u8s_get z k hkz)
        have hsn:Hid (z[k]=0→∀ c∈z.take (k+1),c=0):=Lib.hid (fun h0 c hc=>by
          rw[List.take_succ_eq_append_getElem hkz,List.mem_append] at hc
          rcases hc with hc|hc
          · exact hz0.out c hc
          · obtain rfl:c=z[k]:=by simpa using hc
            exact h0)
        have hns:Hid (z[k]≠0→zeros z=false):=Lib.hid (fun h0=>by
          unfold zeros
          rw[List.all_eq_false]
          exact⟨z[k],List.getElem_mem hkz,by simpa using h0⟩)
        obtain⟨c,hcc⟩:∃ c,c=z[k]:=⟨_,rfl⟩
        rw[← hcc] at hc hsn hns
        have hi0:(0:Int)≤k:=by omega
        have hi1:(k:Int)<((54-n:Nat):Int):=by omega
        clear hr hcell hcc hz0
        rcases Bool.eq_false_or_eq_true (c != 0) with t2|t2
        · go_wp2_with fail
          go_step3
          simp only[Exit.then,Exit.inBlock]
          refine⟨rfl,hb50,?_,?_⟩
          · unfold prs
            rw[← HN.out,if_neg (by omega),if_pos ?_]
            rw[← HZ.out,hns.out (by simpa using t2)]
            rfl
          · iterate 44 apply Exists.intro
            rfl
        · go_wp2_with fail
          exact⟨⟨k+1,by omega,by go_num,Lib.hid (hsn.out (by simpa using t2)),by trivial⟩,by simp[intOf];omega⟩
      · obtain rfl:k=54-n:=by omega
        rw[List.take_of_length_le (by rw[HZL.out];exact Nat.le_refl _)] at hz0
        have HZT:Hid (zeros ((s.drop (2+n)).take (54-n))=true):=Lib.hid (by
          rw[← HZ.out]
          unfold zeros
          rw[List.all_eq_true]
          exact fun c hc=>by simpa using hz0.out c hc)
        have hd56:((s.drop 2).drop n).drop (54-n)=s.drop 56:=by rw[List.drop_drop,List.drop_drop];congr 1;omega
        have hR5:=HR5.out
        rw[hd56] at hR5
        have HR5D:Hid (RD w5.drew r v5 (s.drop 56) false):=Lib.hid hR5
        obtain⟨A7,c7,e5v,_,_,_⟩:=id hR5.2
        have HB5D:Hid (Blk w5.drew w.heap.size 243 (u8s s).toArray):=Lib.hid HB5.out
        have HS45D:Hid (Sn w5.drew 1 x4 n (u8s ((s.drop 2).take n))):=Lib.hid HS45.out
        have HBW5D:Hid (Below w.heap.size w w5.drew):=Lib.hid hb50.drew
        have HRLT:Hid (r<w5.heap.size):=Lib.hid hR5.1.lt
        have HD56:Hid ((s.drop 56).length=8):=Lib.hid (by rw[List.length_drop,HHL.out])
        have HD60:Hid ((s.drop 60).length=4):=Lib.hid (by rw[List.length_drop,HHL.out])
        have HD5660:Hid ((s.drop 56).drop 4=s.drop 60):=Lib.hid (by rw[List.drop_drop])
        have HBD:Hid (Bys (s.drop 56)):=Lib.hid (fun b hb=>HBY.out b (List.mem_of_mem_drop hb))
        have HBD2:Hid (Bys (s.drop 60)):=Lib.hid (fun b hb=>HBY.out b (List.mem_of_mem_drop hb))
        have HG60:Hid (beN ((s.drop 60).take 4)<4294967296):=Lib.hid (by
          have:=beN_lt ((s.drop 60).take 4) (fun b hb=>HBD2.out b (List.mem_of_mem_take hb))
          rw[List.length_take,HD60.out] at this
          exact this)
        have HPB:Hid (∀ q∈[(Value.slice (some ⟨w.heap.size,0,none⟩) 56 64,s.take 56),(Value.slice (some ⟨w.heap.size,60,none⟩) 4 4,s.drop 60)],Bys q.2):=Lib.hid (fun q hq=>by
          simp only[List.mem_cons,List.not_mem_nil,or_false] at hq
          rcases hq with rfl|rfl
          · exact fun b hb=>HBY.out b (List.mem_of_mem_take hb)
          · exact HBD2.out)
        have HPL:Hid (∀ q∈[(Value.slice (some ⟨w.heap.size,0,none⟩) 56 64,s.take 56),(Value.slice (some ⟨w.heap.size,60,none⟩) 4 4,s.drop 60)],q.2.length<64):=Lib.hid (fun q hq=>by
          simp only[List.mem_cons,List.not_mem_nil,or_false] at hq
          rcases hq with rfl|rfl
          · simp only[List.length_take,HHL.out];omega
          · simp only[HD60.out];omega)
        have HCA:Hid (cat [(Value.slice (some ⟨w.heap.size,0,none⟩) 56 64,s.take 56),(Value.slice (some ⟨w.heap.size,60,none⟩) 4 4,s.drop 60)]=s.take 56++s.drop 60):=Lib.hid (by simp[cat])
        have HX2:=Lib.hid (crcSum_lt (s.take 56++s.drop 60))
        have hcw:IntKind.u64.wrap (crcSum (s.take 56++s.drop 60):Int)=(crcSum (s.take 56++s.drop 60):Int):=IntWalk.u64_in _ (by have:=HX2.out;omega)
        clear hR5 hd56 hz0 hb50
        go_wp2_with fail
        refine held_start 8 (fun _=>True) (by kernel_rfl) (by kernel_rfl) (trivial) (fun hHeld=>?_)
        refine hMove 0 (Operand.tmp 6) (some 32) (.pointer (some ⟨r,0,none⟩)) (by kernel_rfl) (by kernel_rfl) (by kernel_rfl) (by kernel_rfl) (by kernel_rfl) (fun _ _ _ h=>h) (by exact rfl) hHeld ?_
        simp only[Act.put,List.setIfInBounds_toArray,List.set_cons_zero,List.set_cons_succ]
        refine hTake 2 (Op.slice 243 (Operand.tmp 1) none (some (Operand.const (Value.int IntKind.i64 56))) none) (some 34) (.slice (some ⟨w.heap.size,0,none⟩) 56 64) (by kernel_rfl) (by kernel_rfl) (by kernel_rfl) (by kernel_rfl) (by kernel_rfl) (fun _ _ _ h=>h) (fun o ho wX hX=>by unfold execOp;simp only[ho];go_simp) hHeld ?_
        simp only[Act.put,List.setIfInBounds_toArray,List.set_cons_zero,List.set_cons_succ]
        refine hTake 3 (Op.slice 243 (Operand.tmp 1) (some (Operand.const (Value.int IntKind.i64 60))) none none) (some 35) (.slice (some ⟨w.heap.size,60,none⟩) 4 4) (by kernel_rfl) (by kernel_rfl) (by kernel_rfl) (by kernel_rfl) (by kernel_rfl) (fun _ _ _ h=>h) (fun o ho wX hX=>by unfold execOp;simp only[ho];go_simp) hHeld ?_
        simp only[Act.put,List.setIfInBounds_toArray,List.set_cons_zero,List.set_cons_succ]
        refine wpAnyH_ready (rs:=[1,4]) (by kernel_rfl) (by simp) ?_
        refine rCall 1 (Op.call { callee:=Callee.value (Operand.func 159),args:=#[Operand.tmp 32,Operand.const (Value.int IntKind.i64 4)],argTypes:=#[276,3] }) (some 33) 159 (#[.pointer (some ⟨r,0,none⟩),.int .i64 4]) (by kernel_rfl) (by kernel_rfl) (fun o ho=>by unfold execOp;simp only[ho];go_simp) ?_ ?_
        rotate_left 1
        · refine rStep 4 (Op.buildSlice 261 2 #[(0,Operand.tmp 34),(1,Operand.tmp 35)]) (some 36) (.slice (some ⟨w5.drew.heap.size,0,none⟩) 2 2) (w5.drew.alloc (.cells #[.slice (some ⟨w.heap.size,0,none⟩) 56 64,.slice (some ⟨w.heap.size,60,none⟩) 4 4] 68)) (by kernel_rfl) (by kernel_rfl) (fun o ho=>by unfold execOp;simp only[ho];go_simp) trivial ?_ AllReadyH.nil
          simp only[Act.put,List.setIfInBounds_toArray,List.set_cons_zero,List.set_cons_succ]
          refine wpAnyH_ready (rs:=[1]) (by kernel_rfl) (by simp) ?_
          refine rCall 1 (Op.call { callee:=Callee.value (Operand.func 159),args:=#[Operand.tmp 32,Operand.const (Value.int IntKind.i64 4)],argTypes:=#[276,3] }) (some 33) 159 (#[.pointer (some ⟨r,0,none⟩),.int .i64 4]) (by kernel_rfl) (by kernel_rfl) (fun o ho=>by unfold execOp;simp only[ho];go_simp) ?_ AllReadyH.nil
          refine(rd_Number r v5 (s.drop 56) false 4 (w5.drew.alloc (.cells #[.slice (some ⟨w.heap.size,0,none⟩) 56 64,.slice (some ⟨w.heap.size,60,none⟩) 4 4] 68)) (HR5D.alloc _) HBD.out (by rw[HD56.out];omega) (by omega) (by omega)).mono ?_
          rintro e w6 ⟨ho6,⟨_,_,v6,rfl,hR6⟩|⟨hbad,_,_⟩⟩
          rotate_left 1
          · exact absurd hbad (by rw[HD56.out];simp)
          refine⟨_,rfl,trivial,fun hHeld=>?_⟩
          simp only[Act.put,List.setIfInBounds_toArray,List.set_cons_zero,List.set_cons_succ]
          have hPA:=parts2 w5.drew s HHL.out HB5D.out
          have HPA:=Lib.hid (parts_off hPA (HB5D.alloc (.cells #[.slice (some ⟨w.heap.size,0,none⟩) 56 64,.slice (some ⟨w.heap.size,60,none⟩) 4 4] 68)) (HR5D.alloc (.cells #[.slice (some ⟨w.heap.size,0,none⟩) 56 64,.slice (some ⟨w.heap.size,60,none⟩) 4 4] 68)).1 e5v ho6 hne (by have:=HRLT.out;show w5.heap.size≠r;omega))
          have hS6:=(HS45D.alloc (.cells #[.slice (some ⟨w.heap.size,0,none⟩) 56 64,.slice (some ⟨w.heap.size,60,none⟩) 4 4] 68)).offB (HR5D.alloc (.cells #[.slice (some ⟨w.heap.size,0,none⟩) 56 64,.slice (some ⟨w.heap.size,60,none⟩) 4 4] 68)).1 e5v ho6
          have hbA:=HBW5D.alloc HBW5D.size (.cells #[.slice (some ⟨w.heap.size,0,none⟩) 56 64,.slice (some ⟨w.heap.size,60,none⟩) 4 4] 68)
          have hb6:Below w.heap.size w w6:=hbA.trans (ho6.below hrw hbA.size)
          refine wpAnyH_ready (rs:=[5]) (by kernel_rfl) (by simp) ?_
          refine rCall 5 (Op.call { callee:=Callee.value (Operand.func 331),args:=#[Operand.tmp 36],argTypes:=#[261] }) (some 37) 331 (#[.slice (some ⟨w5.drew.heap.size,0,none⟩) 2 2]) (by kernel_rfl) (by kernel_rfl) (fun o ho=>by unfold execOp;simp only[ho];go_simp) ?_ AllReadyH.nil
          refine(crc_sum _ [(.slice (some ⟨w.heap.size,0,none⟩) 56 64,s.take 56),(.slice (some ⟨w.heap.size,60,none⟩) 4 4,s.drop 60)] _ HPA.out (by simp) HPB.out HPL.out).mono ?_
          rintro e w7 ⟨rfl,hb7⟩
          rw[HCA.out]
          refine⟨_,rfl,trivial,fun hHeld=>?_⟩
          simp only[Act.put,List.setIfInBounds_toArray,List.set_cons_zero,List.set_cons_succ]
          refine hTake 6 (Op.convert 51 141 (Operand.tmp 37)) (some 38) (.int .u64 (crcSum (s.take 56++s.drop 60))) (by kernel_rfl) (by kernel_rfl) (by kernel_rfl) (by kernel_rfl) (by kernel_rfl) (fun _ _ _ h=>h) (fun o ho wX hX=>by unfold execOp;simp only[ho];go_simp) hHeld ?_
          simp only[Act.put,List.setIfInBounds_toArray,List.set_cons_zero,List.set_cons_succ]
          refine hTake 7 (Op.binOp BinOp.neq 141 (Operand.tmp 33) (Operand.tmp 38) 141) (some 39) (.bool (((beN ((s.drop 56).take 4):Nat):Int) != ((crcSum (s.take 56++s.drop 60):Nat):Int))) (by kernel_rfl) (by kernel_rfl) (by kernel_rfl) (by kernel_rfl) (by kernel_rfl) (fun _ _ _ h=>h) (fun o ho wX hX=>by unfold execOp;simp only[ho];go_simp) hHeld ?_
          simp only[Act.put,List.setIfInBounds_toArray,List.set_cons_zero,List.set_cons_succ]
          refine wpAnyH_done (by kernel_rfl) ?_ _
          have HRF:=Lib.hid (hR6.keep hb7)
          have HSF:=Lib.hid (hS6.below hb7)
          have HBF:=Lib.hid (bstep hb6 hb7)
          clear hPA hS6 hb6 hR6 ho6 hb7 hbA
          by_cases e3:beN ((s.drop 56).take 4)=crcSum (s.take 56++s.drop 60)
          rotate_left 1
          · have t3:(((beN ((s.drop 56).take 4):Nat):Int) != ((crcSum (s.take 56++s.drop 60):Nat):Int))=true:=bne_iff_ne.2 (by omega)
            rw[t3]
            go_wp2_with fail
            go_step3
            simp only[Exit.then,Exit.inBlock]
            refine⟨rfl,HBF.out,?_,?_⟩
            · unfold prs
              rw[← HN.out,if_neg (by omega),if_neg (by rw[HZT.out];simp),if_pos e3]
            · iterate 44 apply Exists.intro
              rfl
          · have t3:(((beN ((s.drop 56).take 4):Nat):Int) != ((crcSum (s.take 56++s.drop 60):Nat):Int))=false:=by rw[e3];exact bne_self_eq_false _
            rw[t3]
            have hgw:IntKind.u32.wrap (beN ((s.drop 60).take 4):Int)=(beN ((s.drop 60).take 4):Int):=IntWalk.u32_in _ (by have:=HG60.out;omega)
            go_wp2_with fail
            refine(rd_Number r v6 (s.drop 60) false 4 w7 (by have:=HRF.out;rw[HD5660.out] at this;exact this) HBD2.out (by rw[HD60.out];omega) (by omega) (by omega)).mono ?_
            rintro e w8 ⟨ho8,⟨_,_,v8,rfl,hR8⟩|⟨hbad,_,_⟩⟩
            rotate_left 1
            · exact absurd hbad (by rw[HD60.out];simp)
            obtain⟨A6,c6,e6,_,_,_⟩:=id HRF.out.2
            have HS8:=Lib.hid (HSF.offB HRF.out.1 e6 ho8)
            have HB8:Hid (Below w.heap.size w w8):=Lib.hid (HBF.trans (ho8.below hrw HBF.size))
            clear ho8 hR8 e6
            go_wp2_with fail
            simp only[Exit.jump]
            go_ret3
            refine⟨HB8.out,.inr ⟨_,(s.drop 2).take n,x4,?_,rfl,?_⟩⟩
            · unfold prs
              rw[← HN.out,if_neg (by omega),if_neg (by rw[HZT.out];simp),if_neg (fun h=>h e3)]
            · have:=HS8.out
              rw[List.length_take,HD2.out,Nat.min_eq_left (by omega)]
              exact this
        · refine(rd_Number r v5 (s.drop 56) false 4 w5.drew HR5D.out HBD.out (by rw[HD56.out];omega) (by omega) (by omega)).mono ?_
          rintro e w6 ⟨ho6,⟨_,_,v6,rfl,hR6⟩|⟨hbad,_,_⟩⟩
          rotate_left 1
          · exact absurd hbad (by rw[HD56.out];simp)
          refine⟨_,rfl,trivial,fun hHeld=>?_⟩
          simp only[Act.put,List.setIfInBounds_toArray,List.set_cons_zero,List.set_cons_succ]
          have hB6:=ho6.blk HB5D.out hne
          have hS6:=HS45D.offB HR5D.out.1 e5v ho6
          have hb6:Below w.heap.size w w6:=HBW5D.trans (ho6.below hrw HBW5D.size)
          refine wpAnyH_ready (rs:=[4]) (by kernel_rfl) (by simp) ?_
          refine rStep 4 (Op.buildSlice 261 2 #[(0,Operand.tmp 34),(1,Operand.tmp 35)]) (some 36) (.slice (some ⟨w6.heap.size,0,none⟩) 2 2) (w6.alloc (.cells #[.slice (some ⟨w.heap.size,0,none⟩) 56 64,.slice (some ⟨w.heap.size,60,none⟩) 4 4] 68)) (by kernel_rfl) (by kernel_rfl) (fun o ho=>by unfold execOp;simp only[ho];go_simp) trivial ?_ AllReadyH.nil
          simp only[Act.put,List.setIfInBounds_toArray,List.set_cons_zero,List.set_cons_succ]
          have HPA:=Lib.hid (parts2 w6 s HHL.out hB6)
          refine wpAnyH_ready (rs:=[5]) (by kernel_rfl) (by simp) ?_
          refine rCall 5 (Op.call { callee:=Callee.value (Operand.func 331),args:=#[Operand.tmp 36],argTypes:=#[261] }) (some 37) 331 (#[.slice (some ⟨w6.heap.size,0,none⟩) 2 2]) (by kernel_rfl) (by kernel_rfl) (fun o ho=>by unfold execOp;simp only[ho];go_simp) ?_ AllReadyH.nil
          refine(crc_sum _ [(.slice (some ⟨w.heap.size,0,none⟩) 56 64,s.take 56),(.slice (some ⟨w.heap.size,60,none⟩) 4 4,s.drop 60)] _ HPA.out (by simp) HPB.out HPL.out).mono ?_
          rintro e w7 ⟨rfl,hb7⟩
          rw[HCA.out]
          refine⟨_,rfl,trivial,fun hHeld=>?_⟩
          simp only[Act.put,List.setIfInBounds_toArray,List.set_cons_zero,List.set_cons_succ]
          refine hTake 6 (Op.convert 51 141 (Operand.tmp 37)) (some 38) (.int .u64 (crcSum (s.take 56++s.drop 60))) (by kernel_rfl) (by kernel_rfl) (by kernel_rfl) (by kernel_rfl) (by kernel_rfl) (fun _ _ _ h=>h) (fun o ho wX hX=>by unfold execOp;simp only[ho];go_simp) hHeld ?_
          simp only[Act.put,List.setIfInBounds_toArray,List.set_cons_zero,List.set_cons_succ]
          refine hTake 7 (Op.binOp BinOp.neq 141 (Operand.tmp 33) (Operand.tmp 38) 141) (some 39) (.bool (((beN ((s.drop 56).take 4):Nat):Int) != ((crcSum (s.take 56++s.drop 60):Nat):Int))) (by kernel_rfl) (by kernel_rfl) (by kernel_rfl) (by kernel_rfl) (by kernel_rfl) (fun _ _ _ h=>h) (fun o ho wX hX=>by unfold execOp;simp only[ho];go_simp) hHeld ?_
          simp only[Act.put,List.setIfInBounds_toArray,List.set_cons_zero,List.set_cons_succ]
          refine wpAnyH_done (by kernel_rfl) ?_ _
          have HRF:=Lib.hid ((hR6.alloc (.cells #[.slice (some ⟨w.heap.size,0,none⟩) 56 64,.slice (some ⟨w.heap.size,60,none⟩) 4 4] 68)).keep hb7)
          have HSF:=Lib.hid ((hS6.alloc (.cells #[.slice (some ⟨w.heap.size,0,none⟩) 56 64,.slice (some ⟨w.heap.size,60,none⟩) 4 4] 68)).below hb7)
          have HBF:=Lib.hid (bstep (hb6.alloc hb6.size (.cells #[.slice (some ⟨w.heap.size,0,none⟩) 56 64,.slice (some ⟨w.heap.size,60,none⟩) 4 4] 68)) hb7)
          clear hB6 hS6 hb6 hR6 ho6 hb7
          by_cases e3:beN ((s.drop 56).take 4)=crcSum (s.take 56++s.drop 60)
          rotate_left 1
          · have t3:(((beN ((s.drop 56).take 4):Nat):Int) != ((crcSum (s.take 56++s.drop 60):Nat):Int))=true:=bne_iff_ne.2 (by omega)
            rw[t3]
            go_wp2_with fail
            go_step3
            simp only[Exit.then,Exit.inBlock]
            refine⟨rfl,HBF.out,?_,?_⟩
            · unfold prs
              rw[← HN.out,if_neg (by omega),if_neg (by rw[HZT.out];simp),if_pos e3]
            · iterate 44 apply Exists.intro
              rfl
          · have t3:(((beN ((s.drop 56).take 4):Nat):Int) != ((crcSum (s.take 56++s.drop 60):Nat):Int))=false:=by rw[e3];exact bne_self_eq_false _
            rw[t3]
            have hgw:IntKind.u32.wrap (beN ((s.drop 60).take 4):Int)=(beN ((s.drop 60).take 4):Int):=IntWalk.u32_in _ (by have:=HG60.out;omega)
            go_wp2_with fail
            refine(rd_Number r v6 (s.drop 60) false 4 w7 (by have:=HRF.out;rw[HD5660.out] at this;exact this) HBD2.out (by rw[HD60.out];omega) (by omega) (by omega)).mono ?_
            rintro e w8 ⟨ho8,⟨_,_,v8,rfl,hR8⟩|⟨hbad,_,_⟩⟩
            rotate_left 1
            · exact absurd hbad (by rw[HD60.out];simp)
            obtain⟨A6,c6,e6,_,_,_⟩:=id HRF.out.2
            have HS8:=Lib.hid (HSF.offB HRF.out.1 e6 ho8)
            have HB8:Hid (Below w.heap.size w w8):=Lib.hid (HBF.trans (ho8.below hrw HBF.size))
            clear ho8 hR8 e6
            go_wp2_with fail
            simp only[Exit.jump]
            go_ret3
            refine⟨HB8.out,.inr ⟨_,(s.drop 2).take n,x4,?_,rfl,?_⟩⟩
            · unfold prs
              rw[← HN.out,if_neg (by omega),if_neg (by rw[HZT.out];simp),if_neg (fun h=>h e3)]
            · have:=HS8.out
              rw[List.length_take,HD2.out,Nat.min_eq_left (by omega)]
              exact this
end
end Go.Proofs.YtiaigidbcljblaaGreatDoor
