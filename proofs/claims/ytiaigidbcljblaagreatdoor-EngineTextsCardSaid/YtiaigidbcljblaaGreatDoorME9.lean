import Derived.Test.YtiaigidbcljblaaGreatDoorME8
import Derived.Test.YtiaigidbcljblaaGreatDoorME1
import Derived.Deep.Slices
import Derived.OpenShut
import Derived.Deep.DeepCutAuto
set_option linter.unusedSimpArgs false
set_option maxRecDepth 100000
set_option maxHeartbeats 40000000
namespace Go.Proofs.YtiaigidbcljblaaGreatDoor
section
open Go.RowKit
attribute [local irreducible] wpQuiet wpAnyH
def cutN(c:Int):Nat:=(min (max c 0) 64).toNat
theorem cutN_le(c:Int):cutN c≤64:=by unfold cutN;omega
def tearL(old data:List Int)(c:Int):List Int:=data.take (cutN c)++old.drop (cutN c)
theorem tearL_sec{old data:List Int}(c:Int)(ho:Sec old)(hd:Sec data):Sec (tearL old data c):=by
 have h:=cutN_le c
 refine⟨by unfold tearL;rw[List.length_append,List.length_take,List.length_drop,ho.1,hd.1];omega,fun b hb=>?_⟩
 unfold tearL at hb
 rw[List.mem_append] at hb
 rcases hb with hb|hb
 ·exact hd.2 b (List.mem_of_mem_take hb)
 ·exact ho.2 b (List.mem_of_mem_drop hb)
theorem cut_any(c:Int)(w:World):Calls Tryz.prog 290 #[.int .i64 c] w fun e w'=>e = .returned (.int .i64 (cutN c:Nat))∧w'=w:=by
 have h1:((cutN c:Nat):Int)=min (max c 0) 64:=by unfold cutN;omega
 rw[h1]
 clear h1
 by_cases h0:0≤c
 ·have e1:max c 0=c:=by omega
  rw[e1]
  by_cases h64:c≤64
  ·have e2:min c 64=c:=by omega
   rw[e2]
   go_enter Tryz.func290,Tryz.ntmps290
   go_wp2_with fail
   go_ret
   exact⟨by first|rfl|(rw[e1,e2])|simp[e1,e2],rfl⟩
  ·have e2:min c 64=64:=by omega
   rw[e2]
   go_enter Tryz.func290,Tryz.ntmps290
   go_wp2_with fail
   go_ret
   exact⟨by first|rfl|(rw[e1,e2])|simp[e1,e2],rfl⟩
 ·have e1:max c 0=0:=by omega
  rw[e1]
  have e2:min (0:Int) 64=0:=by omega
  rw[e2]
  go_enter Tryz.func290,Tryz.ntmps290
  go_wp2_with fail
  go_ret
  exact⟨by first|rfl|(rw[e1,e2])|simp[e1,e2],rfl⟩
section
variable {P : Program} {ops : Array Oper} {Q : Exit → Act → World → Prop} {a : Act} {w : World}
theorem rCopyT{S:World→Prop}{listed:Array Bool}{fuel:Nat}{rs:List Nat}(i:Nat){dT sT elem:TypeId}(p q:Operand)(dst:Option Tmp)(hd:(ops[i]?).map (fun o=>(o.op,o.dst))=some (.call { callee:=.builtin .copy,args:=#[p,q],argTypes:=#[dT,sT] },dst))(hw:(ops[i]?).map (fun o=>Region.wanted o (yielded ops a.tmps))=some true)
  {b off dn dc b' off' n cap:Nat} {xs:List Value} (hp:a.eval p = .slice (some ⟨b,off,none⟩) dn dc) (hq:a.eval q = .slice (some ⟨b',off',none⟩) n cap) (hu:P.underlying dT=some (.slice elem)) (hs:(P.info? elem).map (·.size)=some 1) (hn:dn≤n) (hl:xs.length=dn) (hx:∀ j u,xs[j]? = some u→w.cell? ⟨b',off'+j,none⟩=some u) (ht:w.there b off dn) (h1:∀ u∈xs,u.oneCell'=true) (hS:S (w.setCells b off xs))
  (h:wpAnyH P .any ops Q S fuel (listed.setIfInBounds i true) (a.put dst (goInt dn)) (w.setCells b off xs)) (hr:AllReadyH P .any ops Q S fuel listed a w rs):AllReadyH P .any ops Q S fuel listed a w (i :: rs):=
 rStep i _ dst _ _ hd hw (fun o ho=>by
  have hrun:=run_copy_cells (P:=P) w dT sT o.type elem b off dn dc ⟨b',off',none⟩ n cap xs hu hs (by rw[hl];exact(Nat.min_eq_right hn).symm) (fun j v hj=>by rw[Addr.add_mid];exact hx j v hj) (fun j hj=>(ht j (by omega)).1) (fun j hj=>(ht j (by omega)).2) h1
  rw[hl] at hrun
  unfold execOp
  simp only[ho,resolve,invoke,builtin,Sem.run_bind,Sem.run_pure,Result.andThen_ok,List.map_toArray,List.map_cons,List.map_nil,hp,hq,hrun]) hS h hr
end
theorem tear_put(old data:List Int)(k:Nat)(ho:old.length=64)(hd:data.length=64):
  (((u8s data).take k).zipIdx 0).foldl (fun(cs:Array Value) (x:Value×Nat)=>cs.setIfInBounds x.2 x.1) (u8s old).toArray=(u8s (data.take k++old.drop k)).toArray:=by
 have h:=part_eqM [] ((u8s old).take k) ((u8s old).drop k) ((u8s data).take k) (by simp[u8s,ho,hd])
 simp only[List.nil_append,List.length_nil,List.take_append_drop] at h
 rw[h,u8s_append,u8s_take,u8s_drop]
theorem tear_any(old data:List Int)(c:Int)(w:World)(ho:Sec old)(hd:Sec data):
  Calls Tryz.prog 231 #[.agg (u8s old).toArray,.agg (u8s data).toArray,.int .i64 c] w fun e w'=>e = .returned (.agg (u8s (tearL old data c)).toArray)∧Below w.heap.size w w':=by
 have HO:=Lib.hid ho
 have HD:=Lib.hid hd
 have HTS:=Lib.hid (tearL_sec c ho hd)
 have HCU:=Lib.hid (fun w1=>cut_any c w1)
 have hk:=cutN_le c
 have HTP:=Lib.hid (tear_put old data (cutN c) ho.1 hd.1)
 have HTE:Hid (tearL old data c=data.take (cutN c)++old.drop (cutN c)):=Lib.hid rfl
 clear ho hd
 obtain⟨k,hkk⟩:∃ k,k=cutN c:=⟨_,rfl⟩
 rw[← hkk] at hk HTP HTE HCU
 clear hkk
 have hal:Tryz.prog.arrayLen 243=64:=by kernel_rfl
 have HSL:Hid (∀(g:Nat) (W:World),(Instr.sliceAt 243 (.pointer (some ⟨g,0,none⟩)) none (some (.int .i64 (k:Int))) none).run Tryz.prog W = .ok (.slice (some ⟨g,0,none⟩) k 64) W):=Lib.hid (fun g W=>by
  rw[run_sliceAt_array_h W 243 ⟨g,0,none⟩ (by kernel_rfl) .i64 (k:Int) (by omega) (by rw[hal];omega)]
  go_simp)
 go_enter Tryz.func231,Tryz.ntmps231
 go_wp2_with (refine al 243 z64 rfl rfl zero64 ?_)
 obtain⟨w1,hw1⟩:∃ w1,w1=((w.alloc (.cells (u8s old).toArray 243)).alloc (.cells (u8s data).toArray 243)).alloc (.cells z64 243):=⟨_,rfl⟩
 have HB0:Hid (Blk w1 w.heap.size 243 (u8s old).toArray):=Lib.hid (by rw[hw1];exact((Blk.new w _ _).alloc _).alloc _)
 have HB1:Hid (Blk w1 (w.heap.size+1) 243 (u8s data).toArray):=Lib.hid (by rw[hw1];exact(Blk.newAt _ _ _ _ (by simp)).alloc _)
 have HB2:Hid (Blk w1 (w.heap.size+1+1) 243 z64):=Lib.hid (by rw[hw1];exact Blk.newAt _ _ _ _ (by simp))
 have HBW:Hid (Below w.heap.size w w1):=Lib.hid (by rw[hw1];exact(((Below.refl _ w).alloc (Nat.le_refl _) _).alloc (by simp) _).alloc (by simp;omega) _)
 rw[← hw1]
 simp only[World.size_alloc]
 clear hw1
 have HTL:Hid (((u8s data).take k).length=k):=Lib.hid (by rw[List.length_take,sec_length HD.out];omega)
 have HTX:Hid (∀ j u,((u8s data).take k)[j]? = some u→w1.drew.cell? ⟨w.heap.size+1,0+j,none⟩=some u):=Lib.hid (fun j u hj=>by
  have h1:=HB1.cell (0+j)
  rw[List.getElem?_take] at hj
  split at hj
  ·exact h1.trans (by rw[Nat.zero_add];simpa using hj)
  ·cases hj)
 have HTT:Hid (w1.drew.there w.heap.size 0 k):=Lib.hid (fun j hj=>⟨by
  have h1:=HB0.cell (0+j)
  have h2:w1.drew.cell? ⟨w.heap.size,0+j,none⟩=w1.cell? ⟨w.heap.size,0+j,none⟩:=rfl
  rw[h2,h1,Nat.zero_add,Array.getElem?_eq_getElem (by rw[List.size_toArray,sec_length HO.out];omega)];rfl,HB0.frozen _⟩)
 have HT1:Hid (∀ u∈(u8s data).take k,u.oneCell'=true):=Lib.hid (fun u hu=>u8s_mem _ u (List.mem_of_mem_take hu))
 refine held_start 5 (fun _=>True) (by kernel_rfl) (by kernel_rfl) (trivial) (fun hHeld=>?_)
 refine hMove 0 (Operand.tmp 2) (some 7) (.int .i64 c) (by kernel_rfl) (by kernel_rfl) (by kernel_rfl) (by kernel_rfl) (by kernel_rfl) (fun _ _ _ h=>h) (by exact rfl) hHeld ?_
 simp only[Act.put,List.setIfInBounds_toArray,List.set_cons_zero,List.set_cons_succ]
 refine hTake 3 (Op.slice 243 (Operand.tmp 4) none none none) (some 10) (.slice (some ⟨w.heap.size+1,0,none⟩) 64 64) (by kernel_rfl) (by kernel_rfl) (by kernel_rfl) (by kernel_rfl) (by kernel_rfl) (fun _ _ _ h=>h) (fun o ho wX hX=>by unfold execOp;simp only[ho];go_simp) hHeld ?_
 simp only[Act.put,List.setIfInBounds_toArray,List.set_cons_zero,List.set_cons_succ]
 refine wpAnyH_ready (rs:=[1]) (by kernel_rfl) (by simp) ?_
 refine rCall 1 (Op.call { callee:=Callee.value (Operand.func 290),args:=#[Operand.tmp 7],argTypes:=#[3] }) (some 8) 290 (#[.int .i64 c]) (by kernel_rfl) (by kernel_rfl) (fun o ho=>by unfold execOp;simp only[ho];go_simp) ?_ AllReadyH.nil
 refine(HCU.out _).mono ?_
 rintro e wM ⟨rfl,hwM⟩
 rw[hwM]
 refine⟨_,rfl,trivial,fun hHeld=>?_⟩
 simp only[Act.put,List.setIfInBounds_toArray,List.set_cons_zero,List.set_cons_succ]
 refine hTake 2 (Op.slice 243 (Operand.tmp 3) none (some (Operand.tmp 8)) none) (some 9) (.slice (some ⟨w.heap.size,0,none⟩) k 64) (by kernel_rfl) (by kernel_rfl) (by kernel_rfl) (by kernel_rfl) (by kernel_rfl) (fun _ _ _ h=>h) (fun o ho wX hX=>by have hsl:=HSL.out;unfold execOp;simp only[ho];go_simp) hHeld ?_
 simp only[Act.put,List.setIfInBounds_toArray,List.set_cons_zero,List.set_cons_succ]
 refine wpAnyH_ready (rs:=[4]) (by kernel_rfl) (by simp) ?_
 refine rCopyT (sT:=68) 4 (.tmp 9) (.tmp 10) (some 11) (by kernel_rfl) (by kernel_rfl) (by rfl) (by rfl) Tryz.underlying68 (by kernel_rfl) hk HTL.out HTX.out HTT.out HT1.out trivial ?_ AllReadyH.nil
 simp only[Act.put,List.setIfInBounds_toArray,List.set_cons_zero,List.set_cons_succ]
 refine wpAnyH_done (by kernel_rfl) ?_ _
 clear hHeld
 obtain⟨w2,hw2⟩:∃ w2,w2=w1.drew.setCells w.heap.size 0 ((u8s data).take k):=⟨_,rfl⟩
 have HB02:Hid (Blk w2 w.heap.size 243 (u8s (tearL old data c)).toArray):=Lib.hid (by
  have h:=setCells_blk ((u8s data).take k) 0 w1.drew _ HB0.out
  rw[HTP.out,← HTE.out] at h
  rw[hw2];exact h)
 have HB22:Hid (Blk w2 (w.heap.size+1+1) 243 z64):=Lib.hid (by rw[hw2];exact(setCells_other (by omega) _ _ _).trans HB2.out)
 have HBW2:Hid (Below w.heap.size w w2):=Lib.hid (by rw[hw2];exact HBW.drew.trans (setCells_below (Nat.le_refl _) _ _ _).1)
 rw[← hw2]
 clear hw2
 have HUI:Hid ((Tryz.prog.info? 243).map (·.size)=some (u8s (tearL old data c)).length):=Lib.hid (by rw[sec_length HTS.out];kernel_rfl)
 have HUJ:Hid ((Tryz.prog.info? 243).map (·.size)=some (u8s (tearL old data c)).toArray.size∧z64.size=(u8s (tearL old data c)).toArray.size∧(u8s (tearL old data c)).toArray.all (·.oneCell')=true):=Lib.hid ⟨by rw[List.size_toArray,sec_length HTS.out];kernel_rfl,by rw[z64_size,List.size_toArray,sec_length HTS.out],u8s_one _⟩
 obtain⟨T,hT⟩:∃ T,T=u8s (tearL old data c):=⟨_,rfl⟩
 rw[← hT] at HB02 HUI HUJ
 have HTQ:=Lib.hid hT
 have HRG:Hid (w2.rangeAt w.heap.size 0 T):=Lib.hid (by have h:=HB02.range;rw[List.toList_toArray] at h;exact h)
 clear hT
 go_wp2_with (first
  | (refine ld 243 _ rfl rfl rfl HRG.out Tryz.underlying243 rfl HUI.out ?_)
  | (refine stBlk 243 (.tmp 6) (.tmp 12) rfl rfl rfl rfl HB22.out HUJ.out.1 HUJ.out.2.1 HUJ.out.2.2 ?_;intro w3 hB3 hb3 _ _;have HB3:=Lib.hid hB3;have HE3:=Lib.hid hb3;clear hB3 hb3))
 exact bodyPost_ret (results_cell_row rfl _ _ (w.heap.size+1+1) 243 _ (0,0) _ rfl HB3.out Tryz.underlying243 rfl HUJ.out.1) rfl ⟨by rw[← HTQ.out],HBW2.trans (HE3.mono (by omega))⟩
end
section
open Go.RowKit Go.ChangeShapes Go.WideShapes Go.Deep
section
variable {P : Program} {H : Type} {enc : TypeId × Value → H} {w : World} {base : Nat} {held : Bool} {α : Type}
theorem flat_length(C:α→List Value)(Ok:α→Prop)(s:Nat)(hlen:∀ r,Ok r→(C r).length=s):∀ l:List α,(∀ r∈l,Ok r)→(l.flatMap C).length=l.length*s
 | [],_=>by simp
 | r :: l,h=>by
  have:=flat_length C Ok s hlen l (fun r hr=>h r (by simp[hr]))
  simp[List.flatMap_cons,hlen r (h r (by simp)),this,Nat.add_mul]
  omega
theorem at_elem(C:α→List Value)(Ok:α→Prop)(s:Nat)(hlen:∀ r,Ok r→(C r).length=s){A:Option Addr}{cap:Nat}{l:List α}(h:Sn w s (.slice A l.length cap) l.length (l.flatMap C))(hok:∀ r∈l,Ok r)(k:Nat)(hk:k<l.length):
  ∃ b off,A=some ⟨b,off,none⟩∧∀ j u,(C l[k])[j]? = some u→w.cell? ⟨b,off+k*s+j,none⟩=some u:=by
 obtain⟨A',cap',hv,hc,hl,hx⟩:=h
 injection hv with hA _ _
 subst hA
 obtain⟨b,off,rfl,hcell⟩:=hx (by omega)
 refine⟨b,off,rfl,fun j u hj=>?_⟩
 have h1:=flat_length C Ok s hlen (l.take k) (fun r hr=>hok r (List.mem_of_mem_take hr))
 rw[List.length_take,Nat.min_eq_left (by omega)] at h1
 have key:(l.flatMap C)[k*s+j]? = some u:=by
  have e:l.flatMap C=(l.take k).flatMap C++(C l[k]++(l.drop (k+1)).flatMap C):=by
   conv=>lhs;rw[← List.take_append_drop k l,List.drop_eq_getElem_cons hk]
   rw[List.flatMap_append,List.flatMap_cons]
  rw[e,List.getElem?_append_right (by omega),h1,Nat.add_sub_cancel_left,List.getElem?_append_left]
  ·exact hj
  ·exact(List.getElem?_eq_some_iff.1 hj).1
 have:=hcell (k*s+j) u key
 rw[← Nat.add_assoc] at this
 exact this
end
end
section
open Go.RowKit
theorem own_set{α:Type}(C:α→List Value)(Ok:α→Prop)(s:Nat)(hlen:∀ r,Ok r→(C r).length=s){w:World}{base e g cap:Nat}{L:List α}(hown:w.ownsRow base e s (.slice (some ⟨g,0,none⟩) L.length cap) L.length (L.flatMap C))(hok:∀ r∈L,Ok r)(k:Nat)(hk:k<L.length)(p:α)(hp:Ok p):
  (w.setCells g (k*s) (C p)).ownsRow base e s (.slice (some ⟨g,0,none⟩) L.length cap) (L.set k p).length ((L.set k p).flatMap C)∧w.there g (k*s) (C p).length∧base≤g:=by
 obtain⟨hl,h|⟨g',cap',cur,hv,hb,hh,hc1,hm,hcs,htk⟩⟩:=hown
 ·cases h.1
 ·injection hv with hv1 _ hv2
  injection hv1 with hv1
  injection hv1 with hv1 _ _
  subst hv1 hv2
  have hB:Blk w g e cur:=hh
  have hcp:=hlen p hp
  have hlk:=hlen L[k] (hok _ (List.getElem_mem hk))
  have e1:L.flatMap C=(L.take k).flatMap C++(C L[k]++(L.drop (k+1)).flatMap C):=by
   conv=>lhs;rw[← List.take_append_drop k L,List.drop_eq_getElem_cons hk]
   rw[List.flatMap_append,List.flatMap_cons]
  have e2:(L.set k p).flatMap C=(L.take k).flatMap C++(C p++(L.drop (k+1)).flatMap C):=by
   rw[List.set_eq_take_append_cons_drop,if_pos hk,List.flatMap_append,List.flatMap_cons]
  have h1:=flat_length C Ok s hlen (L.take k) (fun r hr=>hok r (List.mem_of_mem_take hr))
  rw[List.length_take,Nat.min_eq_left (by omega)] at h1
  have hks:k*s+s≤L.length*s:=by
   have:=Nat.mul_le_mul_right s (show k+1≤L.length from hk)
   rw[Nat.add_mul,Nat.one_mul] at this;exact this
  have hLc:=Nat.mul_le_mul_right s hc1
  have hl1:=hl
  rw[e1] at htk
  refine⟨⟨?_,.inr ⟨g,cap,_,by rw[List.length_set],hb,setCells_blk (C p) (k*s) w cur hB,by rw[List.length_set];exact hc1,hm,by rw[build_size];exact hcs,?_⟩⟩,fun j hj=>⟨?_,hB.frozen _⟩,hb⟩
  ·rw[e2,List.length_set]
   rw[e1] at hl
   simp only[List.length_append] at hl ⊢
   omega
  ·rw[List.length_set,e2]
   apply List.ext_getElem?
   intro i
   have hold:((L.take k).flatMap C++(C L[k]++(L.drop (k+1)).flatMap C))[i]? = if i<L.length*s then cur[i]? else none:=by
    rw[← htk,List.getElem?_take];simp
   rw[List.getElem?_take,Array.getElem?_toList,set_many,hcp]
   by_cases i1:i<k*s
   ·rw[if_pos (by omega),if_neg (by omega),List.getElem?_append_left (by omega)]
    rw[List.getElem?_append_left (by omega),if_pos (by omega)] at hold
    exact hold.symm
   ·rw[List.getElem?_append_right (by omega),h1]
    rw[List.getElem?_append_right (by omega),h1] at hold
    by_cases i2:i<k*s+s
    ·rw[if_pos (by omega),if_pos (by omega),List.getElem?_append_left (by omega)]
    ·rw[List.getElem?_append_right (by omega)] at hold ⊢
     rw[hcp]
     rw[hlk] at hold
     rw[hold]
     by_cases i3:i<L.length*s
     ·rw[if_pos i3,if_pos i3,if_neg (by omega)]
     ·rw[if_neg i3,if_neg i3]
  ·rw[hB.cell]
   have:k*s+j<cur.size:=by omega
   simp[this]
end
section
open Go.RowKit
attribute [local irreducible] wpQuiet wpAnyH
def tornN(cut:Nat→Int)(r:List (List Int))(l:List (Int×List Int)):Nat→List (List Int)
 | 0=>r
 | j+1=>(tornN cut r l j).set (l.getD j (0,[])).1.toNat (tearL ((tornN cut r l j).getD (l.getD j (0,[])).1.toNat []) (l.getD j (0,[])).2 (cut j))
theorem tornN_len(cut:Nat→Int)(r:List (List Int))(l:List (Int×List Int)):∀ j,(tornN cut r l j).length=r.length
 | 0=>rfl
 | j+1=>by unfold tornN;rw[List.length_set,tornN_len cut r l j]
theorem tornN_sec(cut:Nat→Int)(r:List (List Int))(l:List (Int×List Int))(hr:∀ s∈r,Sec s)(hl:∀ p∈l,0≤p.1∧p.1<r.length∧Sec p.2):∀ j,j≤l.length→∀ s∈tornN cut r l j,Sec s
 | 0,_=>hr
 | j+1,hj=>fun s hs=>by
  have ih:=tornN_sec cut r l hr hl j (by omega)
  unfold tornN at hs
  rcases List.mem_or_eq_of_mem_set hs with h|h
  ·exact ih s h
  ·have hp:=hl l[j] (List.getElem_mem (by omega))
   have he:l.getD j (0,[])=l[j]:=by simp[List.getD_eq_getElem?_getD,show j<l.length by omega]
   rw[h,he]
   have hlen:=tornN_len cut r l j
   refine tearL_sec _ ?_ hp.2.2
   rw[show(tornN cut r l j).getD l[j].1.toNat []=(tornN cut r l j)[l[j].1.toNat]'(by omega) by simp[List.getD_eq_getElem?_getD,show l[j].1.toNat<(tornN cut r l j).length by omega]]
   exact ih _ (List.getElem_mem _)
section
variable {P : Program} {ops : Array Oper} {Q : Exit → Act → World → Prop} {S : World → Prop} {a : Act} {w : World} {listed : Array Bool} {fuel : Nat}
theorem rLoadS{rs:List Nat}(i:Nat)(ty:TypeId)(x:Operand)(dst:Option Tmp){b off:Nat}{cs:List Value}{d:TypeDesc}(hd:(ops[i]?).map (fun o=>(o.op,o.dst))=some (.load ty x,dst))(hw:(ops[i]?).map (fun o=>Region.wanted o (yielded ops a.tmps))=some true)
  (hx:a.eval x = .pointer (some ⟨b,off,none⟩)) (hc:w.rangeAt b off cs) (hu:P.underlying ty=some d) (hr':d.isRow=true) (hi:(P.info? ty).map (·.size)=some cs.length) (hS:S w)
  (h:wpAnyH P .any ops Q S fuel (listed.setIfInBounds i true) (a.put dst (.agg cs.toArray)) w) (hs:AllReadyH P .any ops Q S fuel listed a w rs):AllReadyH P .any ops Q S fuel listed a w (i :: rs):=
 rStep i _ dst _ _ hd hw (fun o ho=>by
  unfold execOp
  simp only[ho,hx,Instr.loadAt,Instr.sureAddr,Sem.run_bind,Sem.run_pure,Result.andThen_ok,run_loadVar_mid w b off ty cs d hc hu hr' hi]) hS h hs
end
theorem clone64(A:Option Addr)(n cap:Nat)(xs:List Value)(w:World)(hs:Sn w 64 (.slice A n cap) n xs)(h1:∀ u∈xs,u.oneCell'=true)(hn:n≤100000):
  Calls Tryz.prog 230 #[.slice A n cap] w fun e w'=>∃ v,e = .returned v∧w'.ownsRow w.heap.size 243 64 v n xs∧Below w.heap.size w w':=by
 have HS:=Lib.hid hs
 clear hs
 cases A with
 | none=>
  have heq:∀ w:World,(binOp .eql 46 (.slice none n cap) (.slice none 0 0)).run Tryz.prog w = .ok (.bool true) w:=fun _=>rfl
  obtain⟨A',c',hv,_,hl,hx⟩:=HS.out
  have hx0:xs.length=0:=by
   rcases Nat.eq_zero_or_pos n with h0|h0
   ·rw[hl,h0]
   ·obtain⟨g,off,e,_⟩:=hx h0
    injection hv with e1 _ _
    rw[← e1] at e
    cases e
  have hn0:n=0:=by omega
  have hxs:xs=[]:=List.eq_nil_of_length_eq_zero hx0
  subst hn0 hxs
  clear hv hl hx hx0
  go_enter Tryz.func230,Tryz.ntmps230
  go_wp2_with fail
  go_ret
  exact⟨_,rfl,World.ownsRow_nil _ _ _ _,Below.refl _ _⟩
 | some a=>
  have heq:∀ w:World,(binOp .eql 46 (.slice (some a) n cap) (.slice none 0 0)).run Tryz.prog w = .ok (.bool false) w:=fun _=>rfl
  have hown:(w.alloc (.cells #[] 243)).ownsRow w.heap.size 243 64 (.slice (some ⟨w.heap.size,0,none⟩) 0 0) 0 []:=own_new w #[] 243 64 0 w.heap.size w.heap.size (Nat.le_refl _) rfl (by unfold maxLen;omega) rfl
  have hT:SlT Tryz.prog 46 243 64 64:=SlT.mk' Tryz.underlying46 (z:=.agg (u8s (List.replicate 64 0)).toArray) (by kernel_rfl) rfl (by decide)
  go_enter Tryz.func230,Tryz.ntmps230
  go_wp2_with (at_builtin;refine app hT (.tmp 5) (.tmp 6) rfl rfl rfl hown rfl (HS.alloc _) h1 (by unfold maxLen;omega) (by omega) (by simp) ?_;intro v' w3 hown3 hgrow _)
  go_ret
  have hb:Below w.heap.size w w3:=((Below.refl _ w).alloc (Nat.le_refl _) _).grown hgrow (by simp) (fun g hg=>by have:=(hown.lt g hg).1;omega)
  rw[Nat.zero_add,List.nil_append] at hown3
  exact⟨_,rfl,hown3,hb⟩
theorem crash1_any(j:Nat)(bp:Nat)(cs:List Int)(A:Option Addr)(cap:Nat)(w:World)(hb:w.cell? ⟨bp,0,none⟩=some (.slice A cs.length cap))(hs:Sn w 1 (.slice A cs.length cap) cs.length (i64s cs))(hj:j≤1000000)(hcl:cs.length≤1000000):
  Calls Tryz.prog 177 #[.int .i64 (j:Int),.pointer (some ⟨bp,0,none⟩)] w fun e w'=>e = .returned (.int .i64 (cs.getD j 0))∧w'=w:=by
 have HS:=Lib.hid hs
 clear hs
 generalize hG:cs.getD j 0=G
 have HGD:=Lib.hid hG
 clear hG
 rcases Nat.lt_or_ge j cs.length with hlt|hge
 ·obtain⟨A',cap',hv,_,_,hx⟩:=HS.out
  injection hv with e1 _ e3
  subst e1 e3
  obtain⟨b,off,rfl,hcell⟩:=hx (by omega)
  have hc:=hcell j (.int .i64 cs[j]) (by simp[i64s,hlt])
  have HG:Hid (G=cs[j]):=Lib.hid (by rw[← HGD.out];simp[List.getD_eq_getElem?_getD,hlt])
  obtain⟨c,hcc⟩:∃ c,c=cs[j]:=⟨_,rfl⟩
  rw[← hcc] at hc HG
  clear hcell hcc hx
  have h0:(0:Int)≤j:=by omega
  have h1:(j:Int)<cs.length:=by omega
  go_enter Tryz.func177,Tryz.ntmps177
  go_wp2_with fail
  go_ret
  exact⟨by rw[HG.out];rfl,rfl⟩
 ·have HG:Hid (G=0):=Lib.hid (by rw[← HGD.out];simp[List.getD_eq_getElem?_getD,Nat.not_lt.2 hge])
  have t1:decide ((j:Int)<cs.length)=false:=by simp;omega
  have t2:decide (j<cs.length)=false:=by simp;omega
  go_enter Tryz.func177,Tryz.ntmps177
  go_wp2_with fail
  go_ret
  exact⟨by rw[HG.out];rfl,rfl⟩
def SB7(g:Nat)(p:Int×List Int)(w:World):Prop:=w.rangeAt g 0 (wrC p)
theorem zeroWr:∀ w,(zeroValue 363).run Tryz.prog w = .ok (.agg (wrC (0,List.replicate 64 0)).toArray) w:=fun w=>by kernel_rfl
theorem torn_any(sec:List (List Int))(opn:List (Int×List Int))(As Ao:Option Addr)(cs co bp:Nat)(cut:Nat→Int)(w:World)
  (hs:Sn w 64 (.slice As sec.length cs) sec.length (sec.flatMap u8s)) (ho:Sn w 65 (.slice Ao opn.length co) opn.length (opn.flatMap wrC))
  (hsec:∀ s∈sec,Sec s) (hopn:∀ p∈opn,0≤p.1∧p.1<sec.length∧Sec p.2) (h1:sec.length≤4096) (h2:opn.length≤100000)
  (hcut:∀(j:Nat) (w1:World),j<opn.length→Below w.heap.size w w1→Calls Tryz.prog 177 #[.int .i64 (j:Int),.pointer (some ⟨bp,0,none⟩)] w1 fun e w'=>e = .returned (.int .i64 (cut j))∧w'=w1):
  Calls Tryz.prog 176 #[.slice As sec.length cs,.slice Ao opn.length co,.func (.func 177) #[] #[.pointer (some ⟨bp,0,none⟩)]] w fun e w'=>∃ v,e = .returned v∧w'.ownsRow w.heap.size 243 64 v sec.length ((tornN cut sec opn opn.length).flatMap u8s)∧Below w.heap.size w w':=by
 have HO:=Lib.hid ho
 have HSE:=Lib.hid hsec
 have HOP:=Lib.hid hopn
 have HCU:=Lib.hid hcut
 have HCL:=Lib.hid (clone64 As sec.length cs _ w hs (fun u hu=>by
  obtain⟨s,_,hu⟩:=List.mem_flatMap.1 hu
  exact u8s_mem s u hu) (by omega))
 clear hs ho hsec hopn hcut
 go_enter Tryz.func176,Tryz.ntmps176
 go_wp2_with (go_at_call 230;refine HCL.mono ?_;rintro e w1 ⟨v1,rfl,hown,hb1⟩;obtain⟨Ar,cr,rfl,_,_⟩:=own_snD hown;have HO1:=Lib.hid hown;have HB1:=Lib.hid hb1;clear hown hb1)
 go_loopw [14] (fun i wr=>∃ j:Nat,j≤opn.length∧i = .int .i64 (j:Int)∧Hid (wr.ownsRow w.heap.size 243 64 (.slice Ar sec.length cr) sec.length ((tornN cut sec opn j).flatMap u8s))∧Hid (Below w.heap.size w wr)) (fun i _=>opn.length-(intOf i).toNat)
 case atStart=>exact⟨0,Nat.zero_le _,rfl,HO1,HB1⟩
 case round=>
  obtain⟨j,hj,rfl,HR,HB⟩:=hrel
  have hszr:=HB.size
  rcases Nat.lt_or_ge j opn.length with hlt|hge
  ·obtain⟨b1,o1,rfl,hr1⟩:=at_wr (HO.below HB.out) (fun p hp=>(HOP.out p hp).2.2) j hlt
   have hp:=HOP.out _ (List.getElem_mem hlt)
   have HTJ:Hid (tornN cut sec opn (j+1)=(tornN cut sec opn j).set opn[j].1.toNat (tearL ((tornN cut sec opn j).getD opn[j].1.toNat []) opn[j].2 (cut j))):=Lib.hid (by
    show(tornN cut sec opn j).set (opn.getD j (0,[])).1.toNat _=_
    rw[show opn.getD j (0,[])=opn[j] by simp[List.getD_eq_getElem?_getD,hlt]])
   have HCJ:=Lib.hid (fun w1 hb=>HCU.out j w1 hlt hb)
   have htl:=tornN_len cut sec opn j
   have HTS:=Lib.hid (tornN_sec cut sec opn HSE.out HOP.out j (by omega))
   obtain⟨c,hc⟩:∃ c,c=cut j:=⟨_,rfl⟩
   obtain⟨L,hL⟩:∃ L,L=tornN cut sec opn j:=⟨_,rfl⟩
   obtain⟨⟨a,dat⟩,hpe⟩:∃ p,p=opn[j]:=⟨_,rfl⟩
   rw[← hpe] at hr1 hp HTJ
   rw[← hc] at HTJ HCJ
   rw[← hL] at HTJ HTS htl HR
   clear hpe hc hL
   obtain⟨k,rfl⟩:=Int.eq_ofNat_of_zero_le hp.1
   have hkl:k<L.length:=by have:=hp.2.1;simp only at this;omega
   have hka:(k:Int)<(sec.length:Int):=hp.2.1
   have HDS:Hid (Sec dat):=Lib.hid hp.2.2
   have HTJ:Hid (tornN cut sec opn (j+1)=L.set k (tearL (L.getD k []) dat c)):=HTJ
   clear hp
   have HRW:=Lib.hid hr1
   clear hr1
   have hWL:=wrC_length (p:=((k:Int),dat)) HDS.out
   have HUW:Hid ((Tryz.prog.info? 363).map (·.size)=some (wrC ((k:Int),dat)).length):=Lib.hid (by rw[hWL];kernel_rfl)
   have HUV:Hid ((Tryz.prog.info? 363).map (·.size)=some (wrC ((k:Int),dat)).toArray.size∧(wrC (0,List.replicate 64 0)).toArray.size=(wrC ((k:Int),dat)).toArray.size∧(wrC ((k:Int),dat)).toArray.all (·.oneCell')=true):=Lib.hid ⟨by rw[List.size_toArray,hWL];kernel_rfl,by rw[List.size_toArray,List.size_toArray,hWL];rfl,all_oneCell_toArray (wrC_one _)⟩
   clear hWL
   have hj0:(0:Int)≤j:=by omega
   have hj1:(j:Int)<opn.length:=by omega
   have hk0:(0:Int)≤k:=by omega
   go_upto_region 5 with (first
    | (refine ld 363 _ rfl rfl rfl HRW.out Tryz.underlying363 rfl HUW.out ?_)
    | (refine al 363 _ rfl rfl zeroWr ?_)
    | (refine stNew 363 (.tmp 9) (.tmp 18) rfl rfl (by rfl) (by rfl) HUV.out.1 HUV.out.2.1 HUV.out.2.2 ?_;intro w2 hK hb2 hz2;have HK2:=Lib.hid (show Blk w2 wr.heap.size 363 (wrC ((k:Int),dat)).toArray from hK);have HB2:=Lib.hid hb2;clear hK hb2 hz2))
   have hbx0:w2.cell? ⟨wr.heap.size,0,none⟩=some (.int .i64 (k:Int)):=HK2.cell 0
   go_wp2_with fail
   have HBR:Hid (w2.rangeAt wr.heap.size 0 (wrC ((k:Int),dat))):=Lib.hid (by have h:=HK2.range;rw[List.toList_toArray] at h;exact h)
   have HR2:=Lib.hid (own_below HR.out HB2.out)
   have HBW2:=Lib.hid (bstep HB.out HB2.out)
   obtain⟨gr,rfl⟩:∃ gr,Ar=some ⟨gr,0,none⟩:=by
    rcases HR.out.2 with ⟨_,h⟩|⟨g,cp,cur,hv,_⟩
    ·omega
    ·injection hv with e1 _ _;exact⟨g,e1⟩
   have HSL:=Lib.hid htl
   have HR2':Hid (w2.ownsRow w.heap.size 243 64 (.slice (some ⟨gr,0,none⟩) L.length cr) L.length (L.flatMap u8s)):=Lib.hid (by have h:=HR2.out;rw[← show L.length=sec.length from htl] at h;exact h)
   have HOLD:Hid (L.getD k []=L[k]):=Lib.hid (by simp[List.getD_eq_getElem?_getD,hkl])
   have HOS:Hid (Sec L[k]):=Lib.hid (HTS.out _ (List.getElem_mem hkl))
   have HROW:Hid (∀ w3,Below w2.heap.size w2 w3→w3.rangeAt gr (k*64) (u8s L[k])):=Lib.hid (fun w3 hb=>by
    obtain⟨b,off,e,hr⟩:=at_sec (Sn.own HR2'.out) HTS.out k hkl
    injection e with e
    injection e with e1 e2
    rw[← e1,← e2,Nat.zero_add] at hr
    exact fun j u hj=>Below.cell' hb (hr j u hj))
   have HTE:=Lib.hid (fun w3=>tear_any L[k] dat c w3 HOS.out HDS.out)
   have HTSN:Hid (Sec (tearL L[k] dat c)):=Lib.hid (tearL_sec c HOS.out HDS.out)
   have HUD:Hid ((Tryz.prog.info? 243).map (·.size)=some (u8s dat).length):=Lib.hid (by rw[sec_length HDS.out];kernel_rfl)
   have HUO:Hid ((Tryz.prog.info? 243).map (·.size)=some (u8s L[k]).length):=Lib.hid (by rw[sec_length HOS.out];kernel_rfl)
   have HUT:Hid ((Tryz.prog.info? 243).map (·.size)=some (u8s (tearL L[k] dat c)).length):=Lib.hid (by rw[sec_length HTSN.out];kernel_rfl)
   have HFIN:Hid (∀ w4,Below w2.heap.size w2 w4→w4.there gr (k*64) (u8s (tearL L[k] dat c)).length∧(w4.setCells gr (k*64) (u8s (tearL L[k] dat c))).ownsRow w.heap.size 243 64 (.slice (some ⟨gr,0,none⟩) sec.length cr) sec.length ((tornN cut sec opn (j+1)).flatMap u8s)∧Below w.heap.size w (w4.setCells gr (k*64) (u8s (tearL L[k] dat c)))∧SB7 wr.heap.size ((k:Int),dat) (w4.setCells gr (k*64) (u8s (tearL L[k] dat c)))):=Lib.hid (fun w4 hb=>by
    obtain⟨q1,q2,q3⟩:=own_set u8s Sec 64 (fun r h=>sec_length h) (own_below HR2'.out hb) HTS.out k hkl (tearL L[k] dat c) HTSN.out
    rw[List.length_set,← HOLD.out,← HTJ.out] at q1
    rw[show L.length=sec.length from HSL.out,HOLD.out] at q1
    refine⟨q2,q1,(bstep HBW2.out hb).trans (setCells_below q3 _ _ _).1,?_⟩
    have hne:gr≠wr.heap.size:=fun e=>by have:=(HR.lt gr rfl).2;omega
    exact fun i u hi=>(World.cell?_of_block (a:=⟨wr.heap.size,0+i,none⟩) (setCells_other (fun e=>hne e.symm) _ _ _)).trans (Below.cell' hb (HBR.out i u hi)))
   have HIX:Hid (∀ w4,SB7 wr.heap.size ((k:Int),dat) w4→w4.cell? ⟨wr.heap.size,0,none⟩=some (.int .i64 (k:Int))∧w4.rangeAt wr.heap.size 1 (u8s dat)):=Lib.hid (fun w4 h=>⟨h 0 _ rfl,fun i u hi=>by have:=h (i+1) u hi;rw[show 1+i=0+(i+1) by omega];exact this⟩)
   have HS0:Hid (SB7 wr.heap.size ((k:Int),dat) w2.drew):=Lib.hid HBR.out
   have HKEEP:Hid (∀ w4 w5,SB7 wr.heap.size ((k:Int),dat) w4→Below w4.heap.size w4 w5→SB7 wr.heap.size ((k:Int),dat) w5):=Lib.hid (fun w4 w5 h hb i u hi=>Below.cell' hb (h i u hi))
   have HD2:Hid (Below w2.heap.size w2 w2.drew):=Lib.hid (Below.refl _ _).drew
   have hkc:(k:Int)<(sec.length:Int):=hka
   refine held_start 16 (SB7 wr.heap.size ((k:Int),dat)) (by kernel_rfl) (by kernel_rfl) (HS0.out) (fun hHeld=>?_)
   refine hMove 0 (Operand.tmp 7) (some 29) (.slice (some ⟨gr,0,none⟩) sec.length cr) (by kernel_rfl) (by kernel_rfl) (by kernel_rfl) (by kernel_rfl) (by kernel_rfl) (fun _ _ _ h=>h) (by exact rfl) hHeld ?_
   simp only[Act.put,List.setIfInBounds_toArray,List.set_cons_zero,List.set_cons_succ]
   refine hTake 1 (Op.fieldAddr 363 (Operand.tmp 9) 0) (some 30) (.pointer (some ⟨wr.heap.size,0,none⟩)) (by kernel_rfl) (by kernel_rfl) (by kernel_rfl) (by kernel_rfl) (by kernel_rfl) (fun _ _ _ h=>h) (fun o ho wX hX=>by unfold execOp;simp only[ho];go_simp) hHeld ?_
   simp only[Act.put,List.setIfInBounds_toArray,List.set_cons_zero,List.set_cons_succ]
   refine hTake 2 (Op.load 3 (Operand.tmp 30)) (some 31) (.int .i64 (k:Int)) (by kernel_rfl) (by kernel_rfl) (by kernel_rfl) (by kernel_rfl) (by kernel_rfl) (fun _ _ _ h=>h) (fun o ho wX hX=>by have hcell:=(HIX.out wX hX).1;unfold execOp;simp only[ho];go_simp) hHeld ?_
   simp only[Act.put,List.setIfInBounds_toArray,List.set_cons_zero,List.set_cons_succ]
   refine hMove 3 (Operand.tmp 7) (some 32) (.slice (some ⟨gr,0,none⟩) sec.length cr) (by kernel_rfl) (by kernel_rfl) (by kernel_rfl) (by kernel_rfl) (by kernel_rfl) (fun _ _ _ h=>h) (by exact rfl) hHeld ?_
   simp only[Act.put,List.setIfInBounds_toArray,List.set_cons_zero,List.set_cons_succ]
   refine hTake 4 (Op.fieldAddr 363 (Operand.tmp 9) 0) (some 33) (.pointer (some ⟨wr.heap.size,0,none⟩)) (by kernel_rfl) (by kernel_rfl) (by kernel_rfl) (by kernel_rfl) (by kernel_rfl) (fun _ _ _ h=>h) (fun o ho wX hX=>by unfold execOp;simp only[ho];go_simp) hHeld ?_
   simp only[Act.put,List.setIfInBounds_toArray,List.set_cons_zero,List.set_cons_succ]
   refine hTake 5 (Op.load 3 (Operand.tmp 33)) (some 34) (.int .i64 (k:Int)) (by kernel_rfl) (by kernel_rfl) (by kernel_rfl) (by kernel_rfl) (by kernel_rfl) (fun _ _ _ h=>h) (fun o ho wX hX=>by have hcell:=(HIX.out wX hX).1;unfold execOp;simp only[ho];go_simp) hHeld ?_
   simp only[Act.put,List.setIfInBounds_toArray,List.set_cons_zero,List.set_cons_succ]
   refine hTake 6 (Op.indexAddr 46 (Operand.tmp 32) (Operand.tmp 34)) (some 35) (.pointer (some ⟨gr,k*64,none⟩)) (by kernel_rfl) (by kernel_rfl) (by kernel_rfl) (by kernel_rfl) (by kernel_rfl) (fun _ _ _ h=>h) (fun o ho wX hX=>by unfold execOp;simp only[ho];go_simp) hHeld ?_
   simp only[Act.put,List.setIfInBounds_toArray,List.set_cons_zero,List.set_cons_succ]
   refine hTake 8 (Op.fieldAddr 363 (Operand.tmp 9) 1) (some 37) (.pointer (some ⟨wr.heap.size,1,none⟩)) (by kernel_rfl) (by kernel_rfl) (by kernel_rfl) (by kernel_rfl) (by kernel_rfl) (fun _ _ _ h=>h) (fun o ho wX hX=>by unfold execOp;simp only[ho];go_simp) hHeld ?_
   simp only[Act.put,List.setIfInBounds_toArray,List.set_cons_zero,List.set_cons_succ]
   refine hLoad 9 243 (Operand.tmp 37) (some 38) (cs:=u8s dat) (by kernel_rfl) (by kernel_rfl) (by kernel_rfl) (by kernel_rfl) (by kernel_rfl) (fun _ _ _ h=>h) (by exact rfl) (fun _ hX=>(HIX.out _ hX).2) Tryz.underlying243 rfl HUD.out hHeld ?_
   simp only[Act.put,List.setIfInBounds_toArray,List.set_cons_zero,List.set_cons_succ]
   refine hMove 10 (Operand.tmp 2) (some 39) (.func (.func 177) #[] #[.pointer (some ⟨bp,0,none⟩)]) (by kernel_rfl) (by kernel_rfl) (by kernel_rfl) (by kernel_rfl) (by kernel_rfl) (fun _ _ _ h=>h) (by exact rfl) hHeld ?_
   simp only[Act.put,List.setIfInBounds_toArray,List.set_cons_zero,List.set_cons_succ]
   refine hMove 11 (Operand.tmp 8) (some 40) (.int .i64 (j:Int)) (by kernel_rfl) (by kernel_rfl) (by kernel_rfl) (by kernel_rfl) (by kernel_rfl) (fun _ _ _ h=>h) (by exact rfl) hHeld ?_
   simp only[Act.put,List.setIfInBounds_toArray,List.set_cons_zero,List.set_cons_succ]
   refine wpAnyH_ready (rs:=[7,12]) (by kernel_rfl) (by simp) ?_
   refine rLoadS 7 243 (.tmp 35) (some 36) (cs:=u8s L[k]) (by kernel_rfl) (by kernel_rfl) (by exact rfl) (HROW.out _ HD2.out) Tryz.underlying243 rfl HUO.out HS0.out ?_ (rCall 12 (Op.call { callee:=Callee.value (Operand.tmp 39),args:=#[Operand.tmp 40],argTypes:=#[3] }) (some 41) 177 #[.int .i64 (j:Int),.pointer (some ⟨bp,0,none⟩)] (by kernel_rfl) (by kernel_rfl) (fun o ho=>by unfold execOp;simp only[ho];go_simp) ?_  AllReadyH.nil)
   ·simp only[Act.put,List.setIfInBounds_toArray,List.set_cons_zero,List.set_cons_succ]
    refine wpAnyH_ready (rs:=[12]) (by kernel_rfl) (by simp) ?_
    refine rCall 12 (Op.call { callee:=Callee.value (Operand.tmp 39),args:=#[Operand.tmp 40],argTypes:=#[3] }) (some 41) 177 #[.int .i64 (j:Int),.pointer (some ⟨bp,0,none⟩)] (by kernel_rfl) (by kernel_rfl) (fun o ho=>by unfold execOp;simp only[ho];go_simp) ?_  AllReadyH.nil
    refine(HCJ.out _ (bstep HBW2.out HD2.out)).mono ?_
    rintro e wM ⟨rfl,hwM⟩
    rw[hwM]
    refine⟨_,rfl,HS0.out,fun _=>?_⟩
    simp only[Act.put,List.setIfInBounds_toArray,List.set_cons_zero,List.set_cons_succ]
    refine wpAnyH_ready (rs:=[13]) (by kernel_rfl) (by simp) ?_
    refine rCall 13 (Op.call { callee:=Callee.value (Operand.func 231),args:=#[Operand.tmp 36,Operand.tmp 38,Operand.tmp 41],argTypes:=#[243,243,3] }) (some 42) 231 #[.agg (u8s L[k]).toArray,.agg (u8s dat).toArray,.int .i64 c] (by kernel_rfl) (by kernel_rfl) (fun o ho=>by unfold execOp;simp only[ho];go_simp) ?_ AllReadyH.nil
    refine(HTE.out _).mono ?_
    rintro e w4 ⟨rfl,hb4⟩
    obtain⟨hth,hown,hbel,hs7⟩:=HFIN.out w4 (bstep HD2.out hb4)
    refine⟨_,rfl,HKEEP.out _ _ HS0.out hb4,fun hH4=>?_⟩
    simp only[Act.put,List.setIfInBounds_toArray,List.set_cons_zero,List.set_cons_succ]
    refine hTake 14 (Op.indexAddr 46 (Operand.tmp 29) (Operand.tmp 31)) (some 43) (.pointer (some ⟨gr,k*64,none⟩)) (by kernel_rfl) (by kernel_rfl) (by kernel_rfl) (by kernel_rfl) (by kernel_rfl) (fun _ _ _ h=>h) (fun o ho wX hX=>by unfold execOp;simp only[ho];go_simp) hH4 ?_
    simp only[Act.put,List.setIfInBounds_toArray,List.set_cons_zero,List.set_cons_succ]
    refine wpAnyH_ready (rs:=[15]) (by kernel_rfl) (by simp) ?_
    refine rStoreS 15 243 (.tmp 43) (.tmp 42) none (cs:=u8s (tearL L[k] dat c)) (by kernel_rfl) (by kernel_rfl) (by exact rfl) (by exact rfl) hth HUT.out (u8s_mem _) hs7 ?_ AllReadyH.nil
    simp only[Act.put,List.setIfInBounds_toArray,List.set_cons_zero,List.set_cons_succ]
    refine wpAnyH_done (by kernel_rfl) ?_ _
    have HOWN:=Lib.hid hown
    have HBEL:=Lib.hid hbel
    clear hth hown hbel hs7 hH4
    go_wp2_with fail
    exact⟨⟨j+1,by omega,by go_num,HOWN,HBEL⟩,by simp[intOf];omega⟩
   ·refine(HCJ.out _ (bstep HBW2.out HD2.out)).mono ?_
    rintro e wM ⟨rfl,hwM⟩
    rw[hwM]
    refine⟨_,rfl,HS0.out,fun _=>?_⟩
    simp only[Act.put,List.setIfInBounds_toArray,List.set_cons_zero,List.set_cons_succ]
    refine wpAnyH_ready (rs:=[7]) (by kernel_rfl) (by simp) ?_
    refine rLoadS 7 243 (.tmp 35) (some 36) (cs:=u8s L[k]) (by kernel_rfl) (by kernel_rfl) (by exact rfl) (HROW.out _ HD2.out) Tryz.underlying243 rfl HUO.out HS0.out ?_ AllReadyH.nil
    simp only[Act.put,List.setIfInBounds_toArray,List.set_cons_zero,List.set_cons_succ]
    refine wpAnyH_ready (rs:=[13]) (by kernel_rfl) (by simp) ?_
    refine rCall 13 (Op.call { callee:=Callee.value (Operand.func 231),args:=#[Operand.tmp 36,Operand.tmp 38,Operand.tmp 41],argTypes:=#[243,243,3] }) (some 42) 231 #[.agg (u8s L[k]).toArray,.agg (u8s dat).toArray,.int .i64 c] (by kernel_rfl) (by kernel_rfl) (fun o ho=>by unfold execOp;simp only[ho];go_simp) ?_ AllReadyH.nil
    refine(HTE.out _).mono ?_
    rintro e w4 ⟨rfl,hb4⟩
    obtain⟨hth,hown,hbel,hs7⟩:=HFIN.out w4 (bstep HD2.out hb4)
    refine⟨_,rfl,HKEEP.out _ _ HS0.out hb4,fun hH4=>?_⟩
    simp only[Act.put,List.setIfInBounds_toArray,List.set_cons_zero,List.set_cons_succ]
    refine hTake 14 (Op.indexAddr 46 (Operand.tmp 29) (Operand.tmp 31)) (some 43) (.pointer (some ⟨gr,k*64,none⟩)) (by kernel_rfl) (by kernel_rfl) (by kernel_rfl) (by kernel_rfl) (by kernel_rfl) (fun _ _ _ h=>h) (fun o ho wX hX=>by unfold execOp;simp only[ho];go_simp) hH4 ?_
    simp only[Act.put,List.setIfInBounds_toArray,List.set_cons_zero,List.set_cons_succ]
    refine wpAnyH_ready (rs:=[15]) (by kernel_rfl) (by simp) ?_
    refine rStoreS 15 243 (.tmp 43) (.tmp 42) none (cs:=u8s (tearL L[k] dat c)) (by kernel_rfl) (by kernel_rfl) (by exact rfl) (by exact rfl) hth HUT.out (u8s_mem _) hs7 ?_ AllReadyH.nil
    simp only[Act.put,List.setIfInBounds_toArray,List.set_cons_zero,List.set_cons_succ]
    refine wpAnyH_done (by kernel_rfl) ?_ _
    have HOWN:=Lib.hid hown
    have HBEL:=Lib.hid hbel
    clear hth hown hbel hs7 hH4
    go_wp2_with fail
    exact⟨⟨j+1,by omega,by go_num,HOWN,HBEL⟩,by simp[intOf];omega⟩
  ·obtain rfl:j=opn.length:=by omega
   have t1:decide ((opn.length:Int)<(opn.length:Int))=false:=by simp
   go_wp2_with fail
   go_ret
   exact⟨_,rfl,HR.out,HB.out⟩
end
end Go.Proofs.YtiaigidbcljblaaGreatDoor
