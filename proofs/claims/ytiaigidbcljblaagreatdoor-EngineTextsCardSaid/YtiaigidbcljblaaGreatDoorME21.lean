import Derived.Test.YtiaigidbcljblaaGreatDoorME20
import Derived.Sort.Grow
import Derived.Deep.QuietTactic
import Derived.Test.YtiaigidbcljblaaGreatDoorME1
import Derived.Shelf.SlLaysF0
import Derived.Ground.SlsfProg
import Derived.Test.YtiaigidbcljblaaGreatDoorProg
set_option linter.unusedSimpArgs false
set_option maxRecDepth 100000
set_option maxHeartbeats 40000000
namespace Go.Proofs.YtiaigidbcljblaaGreatDoor
section
set_option maxRecDepth 100000
open Go.RowKit
theorem ent_cell{w:World}{g:Nat}{T:TypeId}{p:List Int×Int}(h:Blk w g T (entP p).toArray)(hp:EntOk p):w.rangeAt g 0 (u8s p.1)∧w.cell? ⟨g,32,none⟩=some (.int .i64 p.2):=by
 have h32:(u8s p.1).length=32:=by simp[u8s,hp.dig.len]
 constructor
 ·intro j u hj
  rw[Nat.zero_add,h.cell j]
  have hlt:=(List.getElem?_eq_some_iff.1 hj).1
  simp only[List.getElem?_toArray,entP,entC]
  rw[List.getElem?_append_left hlt]
  exact hj
 ·rw[h.cell 32]
  simp only[List.getElem?_toArray,entP,entC]
  rw[List.getElem?_append_right (by omega),h32]
  rfl
theorem calls_at{P:Program}{f:FuncId}{args:Array Value}{Q:Ending→World→Prop}(w':World)(h:∀ w1,w1=w'→Calls P f args w1 Q):Calls P f args w' Q:=h _ rfl
theorem compare_grow(p q:List Int×Int)(w:World)(hp:EntOk p)(hq:EntOk q):
  Calls Tryz.prog 179 #[.agg (entP p).toArray,.agg (entP q).toArray] w fun e w'=>e = .returned (.int .i64 (cmpE p q))∧∃(n:Nat) (os:Array Obj),w'=Sort.grow (w.drewN n) os:=by
 have hbA:Below w.heap.size w ((w.alloc (.cells (entP p).toArray 172)).alloc (.cells (entP q).toArray 172)):=(by repeat (first|exact Below.refl _ _|assumption|refine bdrewN ?_ _|refine Below.setCell ?_ (by first|exact Nat.le_refl _|assumption|omega|(simp <;> omega)) _|refine Below.alloc ?_ (by first|exact Nat.le_refl _|assumption|omega|(simp <;> omega)) _))
 have hB1:=(Blk.new w 172 (entP p).toArray).alloc (.cells (entP q).toArray 172)
 have hB2:=Blk.newAt (w.alloc (.cells (entP p).toArray 172)) 172 (entP q).toArray (w.heap.size+1) (by simp)
 obtain⟨hr1,hc1⟩:=ent_cell hB1 hp
 obtain⟨hr2,hc2⟩:=ent_cell hB2 hq
 have l1:=entP_length p hp
 have l2:=entP_length q hq
 go_enter Tryz.func179,Tryz.ntmps179
 have HR1:=Lib.hid hr1
 have HR2:=Lib.hid hr2
 clear hB1 hB2 hr1 hr2
 rcases Bool.eq_false_or_eq_true (cmpI p.2 q.2 == 0) with t1|t1
 all_goals
  go_wp2_with fail
  refine calls_at ((w.alloc (.cells (entP p).toArray 172)).alloc (.cells (entP q).toArray 172)) (fun w1 hw1=>?_)
  rw[← hw1] at hbA HR1 HR2
  have HW:Hid (w1=Sort.grow (w.drewN 0) #[.cells (entP p).toArray 172,.cells (entP q).toArray 172]):=Lib.hid (by rw[hw1,Sort.alloc_eq_grow,Sort.alloc_eq_grow,Sort.grow_grow];rfl)
  clear hw1 hc1 hc2
  refine(cmp_Compare p.2 q.2 w1).mono ?_
  rintro e w2 ⟨rfl,rfl⟩
  go_wp2_with fail
 ·go_region_held3 (fun w'=>w'.rangeAt w.heap.size 0 (u8s p.1)∧w'.rangeAt (w.heap.size+1) 0 (u8s q.1)∧Below w.heap.size w w')
   (first
    | (refine⟨HR1.out,HR2.out,hbA.drew⟩)
    | (go_split_ands;exact⟨by assumption,by assumption,by assumption⟩))
   ((go_at_call 235;refine(bytes_Compare _ _ _ _ p.1 q.1 _ hp.dig hq.dig (by go_split_ands;assumption) (by go_split_ands;assumption)).mono ?_;rintro e wX ⟨rfl,rfl⟩))
  all_goals
   go_wp2_with fail
   go_ret
   have u1:cmpI p.2 q.2=0:=by simpa using t1
   refine⟨?_,1,_,by rw[HW.out];rfl⟩
   unfold cmpE
   rw[if_neg (by rw[u1];simp)]
   rfl
 ·go_ret
  have u1:cmpI p.2 q.2≠0:=by simpa using t1
  refine⟨?_,0,_,HW.out⟩
  unfold cmpE
  rw[if_pos u1]
  rfl
end
section
set_option maxRecDepth 100000
open Go.RowKit
attribute [local irreducible] wpQuiet wpAnyH
end
section
set_option maxRecDepth 100000
open Go.RowKit
attribute [local irreducible] refOf refPut
end
section
abbrev EL:=List (List Int×Int)
def WL(E:EL):Prop:=∃ f,Lists f E
theorem WL.nil:WL []:=⟨_,Lists.nil⟩
theorem WL.put{E:EL}(h:WL E){q:List Int×Int}(hq:EntOk q):WL (refPut E q).1:=by
 obtain⟨f,h⟩:=h
 exact⟨_,(refPut_ok h hq).1⟩
theorem WL.live{E:EL}(h:WL E)(now:Int):WL (liveL E now):=by
 obtain⟨f,h⟩:=h
 exact⟨_,h.live now⟩
theorem WL.of{l:EL}(h:∀ p∈l,EntOk p):WL (refOf l):=⟨_,refOf_ok l h⟩
theorem WL.ok{E:EL}(h:WL E):∀ p∈E,EntOk p:=fun p hp=>by
 obtain⟨f,h⟩:=h
 exact((h.mem p).1 hp).1
theorem liveL_len(E:EL)(now:Int):(liveL E now).length≤E.length:=List.length_filter_le ..
end
end Go.Proofs.YtiaigidbcljblaaGreatDoor
namespace Go.Proofs
open Go.Shelf
def Tryz.sortEnt_ren:Go.Shelf.Ren:=⟨fun|6=>178|15=>233|14=>232|28=>299|29=>145|20=>291|21=>292|22=>293|23=>294|24=>295|25=>296|26=>297|27=>298|46=>320|47=>321|48=>322|49=>323|50=>324|57=>333|n=>n,fun|22=>52|24=>172|25=>296|3=>3|39=>129|0=>0|53=>51|55=>141|4=>4|46=>411|45=>410|50=>191|5=>5|9=>9|66=>436|70=>440|76=>450|77=>451|n=>n,fun|n=>n⟩
theorem Tryz.sortEnt:Go.Proofs.SlLaysF0.n6 Tryz.prog Tryz.sortEnt_ren:={
 mixed:=by kernel_rfl
 f6:=⟨Tryz.f178.name,by decide,Tryz.func178.trans (congrArg some (by kernel_rfl))⟩
 f14:=⟨Tryz.f232.name,by decide,Tryz.func232.trans (congrArg some (by kernel_rfl))⟩
 f15:=Tryz.func233.trans (congrArg some (by kernel_rfl))
 f20:=⟨Tryz.f291.name,by decide,Tryz.func291.trans (congrArg some (by kernel_rfl))⟩
 f21:=⟨Tryz.f292.name,by decide,Tryz.func292.trans (congrArg some (by kernel_rfl))⟩
 f22:=⟨Tryz.f293.name,by decide,Tryz.func293.trans (congrArg some (by kernel_rfl))⟩
 f23:=⟨Tryz.f294.name,by decide,Tryz.func294.trans (congrArg some (by kernel_rfl))⟩
 f24:=⟨Tryz.f295.name,by decide,Tryz.func295.trans (congrArg some (by kernel_rfl))⟩
 f25:=⟨Tryz.f296.name,by decide,Tryz.func296.trans (congrArg some (by kernel_rfl))⟩
 f26:=⟨Tryz.f297.name,by decide,Tryz.func297.trans (congrArg some (by kernel_rfl))⟩
 f27:=⟨Tryz.f298.name,by decide,Tryz.func298.trans (congrArg some (by kernel_rfl))⟩
 f28:=Tryz.func299.trans (congrArg some (by kernel_rfl))
 f29:=Tryz.func145.trans (congrArg some (by kernel_rfl))
 f46:=⟨Tryz.f320.name,by decide,Tryz.func320.trans (congrArg some (by kernel_rfl))⟩
 f47:=Tryz.func321.trans (congrArg some (by kernel_rfl))
 f48:=Tryz.func322.trans (congrArg some (by kernel_rfl))
 f49:=⟨Tryz.f323.name,by decide,Tryz.func323.trans (congrArg some (by kernel_rfl))⟩
 f50:=⟨Tryz.f324.name,by decide,Tryz.func324.trans (congrArg some (by kernel_rfl))⟩
 f57:=⟨Tryz.f333.name,by decide,Tryz.func333.trans (congrArg some (by kernel_rfl))⟩
 t0:=Tryz.underlying0
 a0:=Tryz.isAgg0
 z0:=Tryz.sizeOf0
 v0:=Tryz.zeroValue0
 t3:=Tryz.underlying3
 a3:=Tryz.isAgg3
 z3:=Tryz.sizeOf3
 v3:=Tryz.zeroValue3
 t4:=Tryz.underlying4
 a4:=Tryz.isAgg4
 z4:=Tryz.sizeOf4
 v4:=Tryz.zeroValue4
 t5:=Tryz.underlying5
 a5:=Tryz.isAgg5
 z5:=Tryz.sizeOf5
 v5:=Tryz.zeroValue5
 t9:=Tryz.underlying9
 a9:=Tryz.isAgg9
 z9:=Tryz.sizeOf9
 v9:=Tryz.zeroValue9
 t22:=Tryz.underlying52
 a22:=Tryz.isAgg52
 z22:=Tryz.sizeOf52
 v22:=Tryz.zeroValue52
 t25:=Tryz.underlying296
 a25:=Tryz.isAgg296
 z25:=Tryz.sizeOf296
 v25:=Tryz.zeroValue296
 t39:=Tryz.underlying129
 a39:=Tryz.isAgg129
 z39:=Tryz.sizeOf129
 v39:=Tryz.zeroValue129
 t45:=Tryz.underlying410
 a45:=Tryz.isAgg410
 z45:=Tryz.sizeOf410
 v45:=Tryz.zeroValue410
 t46:=Tryz.underlying411
 a46:=Tryz.isAgg411
 z46:=Tryz.sizeOf411
 v46:=Tryz.zeroValue411
 t50:=Tryz.underlying191
 a50:=Tryz.isAgg191
 z50:=Tryz.sizeOf191
 v50:=Tryz.zeroValue191
 t53:=Tryz.underlying51
 a53:=Tryz.isAgg51
 z53:=Tryz.sizeOf51
 v53:=Tryz.zeroValue51
 t55:=Tryz.underlying141
 a55:=Tryz.isAgg141
 z55:=Tryz.sizeOf141
 v55:=Tryz.zeroValue141
 t66:=Tryz.underlying436
 a66:=Tryz.isAgg436
 z66:=Tryz.sizeOf436
 v66:=Tryz.zeroValue436
 t70:=Tryz.underlying440
 a70:=Tryz.isAgg440
 z70:=Tryz.sizeOf440
 v70:=Tryz.zeroValue440
 t76:=Tryz.underlying450
 a76:=Tryz.isAgg450
 z76:=Tryz.sizeOf450
 v76:=Tryz.zeroValue450
 t77:=Tryz.underlying451
 a77:=Tryz.isAgg451
 z77:=Tryz.sizeOf451
 v77:=Tryz.zeroValue451 }
end Go.Proofs
