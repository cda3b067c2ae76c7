import Derived.Test.YtiaigidbcljblaaGreatDoorME33
import Derived.Test.YtiaigidbcljblaaGreatDoorME34
import Derived.Test.YtiaigidbcljblaaGreatDoorME1
import Derived.Test.YtiaigidbcljblaaGreatDoorME27
import Derived.Test.YtiaigidbcljblaaGreatDoorRows
import Derived.Test.YtiaigidbcljblaaGreatDoorME28
import Derived.Test.YtiaigidbcljblaaGreatDoorME25
set_option linter.unusedVariables false
set_option linter.unusedSimpArgs false
set_option maxRecDepth 100000
set_option maxHeartbeats 40000000
namespace Go.Proofs.YtiaigidbcljblaaGreatDoor
section
open Go.RowKit
attribute [local irreducible] wpQuiet wpAnyH
structure TlX(b o:Nat)(r:RowD)(W:World):Prop where
 c0:W.cell? ⟨b,o,none⟩=some (.int .i64 r.kind)
 c1:W.cell? ⟨b,o+1,none⟩=some (.int .i64 r.code)
 c2:W.cell? ⟨b,o+2,none⟩=some (.int .i64 r.now)
 c3:W.cell? ⟨b,o+3,none⟩=some (.int .i64 r.live)
 c4:W.rangeAt b (o+4) (u8s r.dig)
theorem tlX{b o:Nat}{r:RowD}{W:World}(h:W.rangeAt b o (rowC r)):TlX b o r W:=by
 refine⟨h 0 _ rfl,h 1 _ rfl,h 2 _ rfl,h 3 _ rfl,fun j u hj=>?_⟩
 have h2:=h (4+j) u (by unfold rowC;rw[Nat.add_comm 4 j];exact hj)
 rwa [← Nat.add_assoc] at h2
theorem textsLaw_any(l:List RowD)(A:Option Addr)(cap:Nat)(w:World)(ht:Tab w)(aw:∀ w1,Below w.heap.size w w1→Calls Tryz.prog 6 #[] w1 fun e w'=>e = .returned (.bool true)∧Below w1.heap.size w1 w')
  (hs:Sn w 36 (.slice A l.length cap) l.length (l.flatMap rowC)) (hok:∀ r∈l,RowOk r):
  Calls Tryz.prog 3 #[.slice A l.length cap] w fun e w'=>e = .returned (.bool true)∧Below w.heap.size w w':=by
 have HT:=Lib.hid ht
 have HS:=Lib.hid hs
 have HOK:=Lib.hid hok
 have HAW:=Lib.hid aw
 obtain⟨n,hn⟩:∃ n,n=l.length:=⟨_,rfl⟩
 have HN:=Lib.hid hn
 rw[← hn] at HS ⊢
 clear ht hs hok hn aw
 rcases Nat.lt_or_ge 50 n with t1|t1
 ·have t2:(50:Int)<n:=by omega
  go_enter Tryz.func3,Tryz.ntmps3
  go_wp2_with (first
   | (go_at_call 6;refine(HAW.out w1 HB1.out).mono ?_;rintro e wz ⟨rfl,hbz⟩;have HBZ:=Lib.hid (bstep HB1.out hbz);clear hbz)
   | (go_at_call 6;refine(HAW.out w (Below.refl _ _)).mono ?_;rintro e w1 ⟨rfl,hb1⟩;have HB1:=Lib.hid hb1;clear hb1))
  go_ret
  exact⟨rfl,HBZ.out⟩
 have t2:¬(50:Int)<n:=by omega
 go_enter Tryz.func3,Tryz.ntmps3
 go_upto_region 4 with (go_at_call 6;refine(HAW.out w (Below.refl _ _)).mono ?_;rintro e w1 ⟨rfl,hb1⟩;have HB1:=Lib.hid hb1;clear hb1)
 clear HAW t2
 go_wp2_with fail
 go_loopw [3,4] (fun v0 i wr=>∃(k:Nat) (v:Value),v=v0∧k≤n∧i = .int .i64 k∧Hid (Below w.heap.size w wr)∧Hid (wr.ownsRow w.heap.size 31 36 v k ((l.take k).flatMap rowC))) (fun _ i _=>n-(intOf i).toNat)
 case atStart=>exact⟨0,_,rfl,Nat.zero_le _,rfl,HB1,Lib.hid (World.ownsRow_nil _ _ _ _)⟩
 case round=>
  obtain⟨k,v,rfl,hk,rfl,HB,HO⟩:=hrel
  rcases Nat.lt_or_ge k n with hlt|hge
  ·have hltl:k<l.length:=by have:=HN.out;omega
   obtain⟨b,off,eA,hrow⟩:=at_row (l:=l) (A:=A) (cap:=cap) (by rw[← HN.out];exact HS.out) HOK.out k hltl
   subst eA
   obtain⟨r,hr⟩:∃ r,r=l[k]:=⟨_,rfl⟩
   rw[← hr] at hrow
   have hro:RowOk r:=by rw[hr];exact HOK.out _ (List.getElem_mem _)
   have HTK:Hid ((l.take (k+1)).flatMap rowC=(l.take k).flatMap rowC++rowC r):=Lib.hid (by rw[List.take_succ_eq_append_getElem hltl,List.flatMap_append,hr];simp)
   have HTX:Hid (∀ W,Below w.heap.size w W→TlX b (off+k*36) r W):=Lib.hid (fun W hW=>tlX (fun j u hj=>Below.cell' hW (hrow j u hj)))
   have HDL:=Lib.hid hro.dig
   have HBR:=Lib.hid (builtRow (kd:=r.kind) (c:=r.code) (nw:=r.now) (lv:=r.live) hro.dig)
   have HRL:Hid ((rowC r).length=36):=Lib.hid (rowC_length hro)
   have hi0:(0:Int)≤k:=by omega
   have hi1:(k:Int)<n:=by omega
   have hlo:=HB.size
   clear hrow hro hr
   go_upto_region 7 with fail
   -- region 7
   refine kZ (n:=30) (TlX b (off+k*36) r) (HTX.out _ HB.drew) (h:=fun hH=>?_)
   refine kM 0 (some 19) (v) (h:=?_)
   simp only[p1,p2,p3,p4,p5]
   refine kM 1 (some 20) (.slice (some ⟨b,off,none⟩) n cap) (h:=?_)
   simp only[p1,p2,p3,p4,p5]
   refine kM 2 (some 21) (.int .i64 (k:Int)) (h:=?_)
   simp only[p1,p2,p3,p4,p5]
   refine kT 3 (some 22) (.pointer (some ⟨b,off+k*36,none⟩)) (h:=?_)
   simp only[p1,p2,p3,p4,p5]
   refine kT 4 (some 23) (.pointer (some ⟨b,off+k*36,none⟩)) (h:=?_)
   simp only[p1,p2,p3,p4,p5]
   refine kC 5 (some 24) (v:=.int .i64 r.kind) (fun W hX=>hX.c0) (h:=?_)
   simp only[p1,p2,p3,p4,p5]
   refine kM 6 (some 25) (.slice (some ⟨b,off,none⟩) n cap) (h:=?_)
   simp only[p1,p2,p3,p4,p5]
   refine kM 7 (some 26) (.int .i64 (k:Int)) (h:=?_)
   simp only[p1,p2,p3,p4,p5]
   refine kT 8 (some 27) (.pointer (some ⟨b,off+k*36,none⟩)) (h:=?_)
   simp only[p1,p2,p3,p4,p5]
   refine kT 9 (some 28) (.pointer (some ⟨b,off+k*36+1,none⟩)) (h:=?_)
   simp only[p1,p2,p3,p4,p5]
   refine kC 10 (some 29) (v:=.int .i64 r.code) (fun W hX=>hX.c1) (h:=?_)
   simp only[p1,p2,p3,p4,p5]
   refine kM 11 (some 30) (.slice (some ⟨b,off,none⟩) n cap) (h:=?_)
   simp only[p1,p2,p3,p4,p5]
   refine kM 12 (some 31) (.int .i64 (k:Int)) (h:=?_)
   simp only[p1,p2,p3,p4,p5]
   refine kT 13 (some 32) (.pointer (some ⟨b,off+k*36,none⟩)) (h:=?_)
   simp only[p1,p2,p3,p4,p5]
   refine kT 14 (some 33) (.pointer (some ⟨b,off+k*36+2,none⟩)) (h:=?_)
   simp only[p1,p2,p3,p4,p5]
   refine kC 15 (some 34) (v:=.int .i64 r.now) (fun W hX=>hX.c2) (h:=?_)
   simp only[p1,p2,p3,p4,p5]
   refine kM 16 (some 35) (.slice (some ⟨b,off,none⟩) n cap) (h:=?_)
   simp only[p1,p2,p3,p4,p5]
   refine kM 17 (some 36) (.int .i64 (k:Int)) (h:=?_)
   simp only[p1,p2,p3,p4,p5]
   refine kT 18 (some 37) (.pointer (some ⟨b,off+k*36,none⟩)) (h:=?_)
   simp only[p1,p2,p3,p4,p5]
   refine kT 19 (some 38) (.pointer (some ⟨b,off+k*36+3,none⟩)) (h:=?_)
   simp only[p1,p2,p3,p4,p5]
   refine kC 20 (some 39) (v:=.int .i64 r.live) (fun W hX=>hX.c3) (h:=?_)
   simp only[p1,p2,p3,p4,p5]
   refine kM 21 (some 40) (.slice (some ⟨b,off,none⟩) n cap) (h:=?_)
   simp only[p1,p2,p3,p4,p5]
   refine kM 22 (some 41) (.int .i64 (k:Int)) (h:=?_)
   simp only[p1,p2,p3,p4,p5]
   refine kT 23 (some 42) (.pointer (some ⟨b,off+k*36,none⟩)) (h:=?_)
   simp only[p1,p2,p3,p4,p5]
   refine kT 24 (some 43) (.pointer (some ⟨b,off+k*36+4,none⟩)) (h:=?_)
   simp only[p1,p2,p3,p4,p5]
   refine kL 25 (some 44) (cs:=u8s r.dig) (fun W hX=>hX.c4) ((u8s_length _).trans HDL.out) (h:=?_)
   simp only[p1,p2,p3,p4,p5]
   refine kB 26 (some 45) (vs:=[(0,.int .i64 r.kind),(1,.int .i64 r.code),(2,.int .i64 r.now),(3,.int .i64 r.live),(4,.agg (u8s r.dig).toArray)]) HBR.out (h:=?_)
   simp only[p1,p2,p3,p4,p5]
   obtain⟨g2,hg2⟩:∃ g,g=wr.heap.size:=⟨_,rfl⟩
   obtain⟨w2,hw2⟩:∃ W,W=wr.drew.alloc (.cells (rowC r).toArray 31):=⟨_,rfl⟩
   have hb2:Below wr.heap.size wr w2:=by rw[hw2];exact bstep (Below.refl _ _).drew (bel1 _ _)
   have hrun2:(Instr.buildSlice 24 1 #[(0,.agg (rowC r).toArray)]).run Tryz.prog wr.drew = .ok (.slice (some ⟨g2,0,none⟩) 1 1) w2:=by rw[hw2,hg2];exact run_lit1M tRow (rowC r) HRL.out (by omega) wr.drew
   have hS2:Sn w2 36 (.slice (some ⟨g2,0,none⟩) 1 1) 1 (rowC r):=by have:=Sn.newAt wr.drew (rowC r).toArray 31 36 1 g2 (by rw[List.size_toArray,HRL.out]) hg2.symm;rw[List.toList_toArray,← hw2] at this;exact this
   have hO2:=own_below HO.out hb2
   clear hg2 hw2
   refine kS 27 (some 46) (.slice (some ⟨g2,0,none⟩) 1 1) w2 (hrun:=by exact exec_build1 rfl (by kernel_rfl) hrun2) (hS:=HTX.out _ (bstep HB.out hb2)) (h:=?_)
   simp only[p1,p2,p3,p4,p5]
   obtain⟨v3,w3,hrun3,ho3,hg3,hb3⟩:=run_append_sn (ty:=24) tRow hO2 hS2 (rowE_one r) (by unfold maxLen;omega) (by omega) (Nat.le_trans hlo hb2.size)
   have hB3:Below w.heap.size w w3:=(bstep HB.out hb2).grown hg3 (Nat.le_trans hlo hb2.size) (fun b hb=>(hO2.lt b hb).1)
   have hH3:=HTX.out _ hB3
   refine kS 28 (some 47) v3 w3 (hrun:=by exact exec_app rfl (by kernel_rfl) (by kernel_rfl) hrun3) (hS:=hH3) (h:=?_)
   simp only[p1,p2,p3,p4,p5]
   refine kT 29 (some 3) (v3) (h:=?_)
   simp only[p1,p2,p3,p4,p5]
   refine kE (h:=?_)
   -- end of region 7
   clear hH
   have HFB:Hid (Below w.heap.size w w3):=Lib.hid hB3
   have HFO:Hid (w3.ownsRow w.heap.size 31 36 v3 (k+1) ((l.take (k+1)).flatMap rowC)):=Lib.hid (by rw[HTK.out];exact ho3)
   clear hB3 ho3 hg3 hb3 hrun3 hO2 hH3
   go_wp2_with fail
   exact⟨⟨k+1,_,rfl,by omega,by go_num,HFB,HFO⟩,by simp[intOf];omega⟩
  ·obtain rfl:k=n:=by omega
   have HTK:Hid (l.take k=l):=Lib.hid (List.take_of_length_le (by have:=HN.out;omega))
   have hO:=HO.out
   rw[HTK.out] at hO
   obtain⟨A3,c3,rfl,hsn,_⟩:=own_sn hO
   have HTX:=Lib.hid (etext_any l A3 c3 wr (HT.below HB.out) (by rw[← HN.out];exact hsn) HOK.out (by have:=HN.out;omega))
   have HRT:=Lib.hid (fun(W:World) (hW:Below w.heap.size w W)=>rtext_any l A cap W ((by rw[← HN.out];exact HS.out:Sn w 36 (.slice A l.length cap) l.length (l.flatMap rowC)).below hW) HOK.out (by have:=HN.out;omega))
   rw[← HN.out] at HTX HRT
   obtain⟨S,hS⟩:∃ S,S=SBy (textE l):=⟨_,rfl⟩
   rw[← hS] at HTX HRT
   have HSS:Hid ((S.toList == S.toList)=true):=Lib.hid (beq_self_eq_true _)
   have hss:=HSS.out
   clear hO hsn hS HO HTK
   go_wp2_with (first
    | (go_at_call 7;refine HTX.mono ?_;rintro e w4 ⟨rfl,hb4⟩)
    | (go_at_call 8;refine(HRT.out _ (bstep HB.out hb4)).mono ?_;rintro e w5 ⟨rfl,hb5⟩))
   first|go_ret|skip
   exact⟨rfl,bstep (bstep HB.out hb4) hb5⟩
end
section
theorem tabOf{W:World}(h:laidMetH Tryz.prog Rows.engineTextsRow.laid W):Tab W:=
 tabIs_at (laid:=Rows.engineTextsRow.laid) (t:=264) (e:=141) 2 rfl gTab (by kernel_rfl) Tryz.underlying264 Tryz.underlying141 (by kernel_rfl) (by kernel_rfl) h
theorem mlOf{W:World}(h:W.ShapedOpen Tryz.prog):ML W:=Tryz.laysM145.s1_3 W h
end
end Go.Proofs.YtiaigidbcljblaaGreatDoor
