import Derived.Test.YtiaigidbcljblaaGreatDoorME32
import Derived.Test.YtiaigidbcljblaaGreatDoorME33
import Derived.Test.YtiaigidbcljblaaGreatDoorME2
import Derived.Deep.DeepCutAuto
set_option linter.unusedVariables false
set_option linter.unusedSimpArgs false
set_option maxRecDepth 100000
set_option maxHeartbeats 40000000
namespace Go.Proofs.YtiaigidbcljblaaGreatDoor
open Go.RowKit
attribute [local irreducible] wpQuiet wpAnyH
def nmL:List Value:=[.string (SBy (wordL 1)),.string (SBy (wordL 2)),.string (SBy (wordL 3)),.string (SBy (wordL 4)),.string (SBy (wordL 5)),.string (SBy (wordL 6))]
theorem nm_get(k:Int)(h:1≤k∧k≤6):nmL[(k-1).toNat]? = some (.string (SBy (wordL k))):=by
 have hc:k=1∨k=2∨k=3∨k=4∨k=5∨k=6:=by omega
 rcases hc with rfl|rfl|rfl|rfl|rfl|rfl <;> rfl
theorem line_ba(S:ByteArray)(r:RowD):S++SBy (wordL r.kind)++⟨#[32]⟩++nameOf r.code++⟨#[32]⟩++itoaS r.now++⟨#[32]⟩++itoaS r.live++⟨#[10]⟩=⟨(S.data.toList++lineE r).toArray⟩:=by
 refine ByteArray.ext (Array.toList_inj.1 ?_)
 simp[lineE,itoaS,SBy]
theorem add_str(a b:ByteArray)(h:a.size+b.size≤1000000000)(w:World):(binOp .add 9 (.string a) (.string b)).run Tryz.prog w = .ok (.string (a++b)) w:=by
 have h2:a.size+b.size≤9223372036854775807:=by omega
 go_simp
theorem exec_add{P:Program}{a:Act}{o:Oper}{t ty:TypeId}{x y:Operand}{v:Value}{w:World}(ho:o.op = .binOp .add t x y ty)(h:(binOp .add t (a.eval x) (a.eval y)).run P w = .ok v w):(execOp a.eval o).run P w = .ok (.value v) w:=by
 unfold execOp
 simp only[ho,Sem.run_bind,eqGuard,Bool.not_false,if_true,Sem.run_pure,h,Result.andThen_ok]
structure CX(w:World)(b o:Nat)(ci ni li:Int)(W:World):Prop where
 c1:W.cell? ⟨b,o+1,none⟩=some (.int .i64 ci)
 c2:W.cell? ⟨b,o+2,none⟩=some (.int .i64 ni)
 c3:W.cell? ⟨b,o+3,none⟩=some (.int .i64 li)
 be:Below w.heap.size w W
theorem CX.keep{w W W':World}{b o:Nat}{ci ni li:Int}(h:CX w b o ci ni li W)(hb:Below W.heap.size W W'):CX w b o ci ni li W':=⟨Below.cell' hb h.c1,Below.cell' hb h.c2,Below.cell' hb h.c3,bstep h.be hb⟩
theorem CX.drewN{w W:World}{b o:Nat}{ci ni li:Int}(h:CX w b o ci ni li W)(n:Nat):CX w b o ci ni li (W.drewN n):=⟨h.c1,h.c2,h.c3,bdrewN h.be n⟩
theorem rtext_any(l:List RowD)(A:Option Addr)(cap:Nat)(w:World)(hs:Sn w 36 (.slice A l.length cap) l.length (l.flatMap rowC))(hok:∀ r∈l,RowOk r)(hl:l.length≤100000):
  Calls Tryz.prog 8 #[.slice A l.length cap] w fun e w'=>e = .returned (.string (SBy (textE l)))∧Below w.heap.size w w':=by
 have HS:=Lib.hid hs
 have HOK:=Lib.hid hok
 clear hs hok
 go_enter Tryz.func8,Tryz.ntmps8
 go_upto_region 2 with fail
 obtain⟨g9,hg9⟩:∃ g,g=w.heap.size:=⟨_,rfl⟩
 obtain⟨w1,hw1⟩:∃ W,W=w.alloc (.cells nmL.toArray 9):=⟨_,rfl⟩
 have HB1:Hid (Below w.heap.size w w1):=Lib.hid (by rw[hw1];exact bel1S _ _)
 have HN:Hid (Blk w1 g9 9 nmL.toArray):=Lib.hid (by rw[hw1,hg9];exact Blk.new _ _ _)
 have hw2:w.alloc (.cells #[.string { data:=#[116,105,99,107] },.string { data:=#[98,111,111,116] },.string { data:=#[118,101,114,105,102,121] },.string { data:=#[99,111,109,112,97,99,116] },.string { data:=#[102,97,105,108] },.string { data:=#[99,114,97,115,104] }] 9)=w1:=hw1.symm
 rw[hw2,← hg9]
 clear hw1 hw2 hg9
 go_wp2_with fail
 go_loopw [4,5] (fun m i wr=>∃ k:Nat,k≤l.length∧i = .int .i64 k∧m = .string (SBy (textE (l.take k)))∧Hid (Below w1.heap.size w1 wr)) (fun _ i _=>l.length-(intOf i).toNat)
 case atStart=>exact⟨0,Nat.zero_le _,rfl,rfl,Lib.hid (Below.refl _ _)⟩
 case round=>
  obtain⟨k,hk,rfl,rfl,HB⟩:=hrel
  rcases Nat.lt_or_ge k l.length with hlt|hge
  ·have hlen:(SBy (textE (l.take k))).size≤64*100000:=by
    have h1:=textE_len (l.take k) (fun f hf=>⟨(HOK.out f (List.mem_of_mem_take hf)).now,(HOK.out f (List.mem_of_mem_take hf)).live⟩)
    rw[List.length_take] at h1
    rw[SB_size]
    omega
   obtain⟨b,off,eA,hrow⟩:=at_row (HS.below (bstep HB1.out HB.out)) HOK.out k hlt
   subst eA
   obtain⟨r,hf⟩:∃ f,f=l[k]:=⟨_,rfl⟩
   rw[← hf] at hrow
   have hro:RowOk r:=by rw[hf];exact HOK.out _ (List.getElem_mem _)
   have HSN:=Lib.hid (textE_snoc l k hlt)
   rw[← hf] at HSN
   have c0:wr.cell? ⟨b,off+k*36,none⟩=some (.int .i64 r.kind):=hrow 0 _ rfl
   have c1:wr.cell? ⟨b,off+k*36+1,none⟩=some (.int .i64 r.code):=hrow 1 _ rfl
   have c2:wr.cell? ⟨b,off+k*36+2,none⟩=some (.int .i64 r.now):=hrow 2 _ rfl
   have c3:wr.cell? ⟨b,off+k*36+3,none⟩=some (.int .i64 r.live):=hrow 3 _ rfl
   have HC:Hid (wr.cell? ⟨b,off+k*36+1,none⟩=some (.int .i64 r.code)∧wr.cell? ⟨b,off+k*36+2,none⟩=some (.int .i64 r.now)∧wr.cell? ⟨b,off+k*36+3,none⟩=some (.int .i64 r.live)):=Lib.hid ⟨c1,c2,c3⟩
   have hi0:(0:Int)≤k:=by omega
   have hi1:(k:Int)<l.length:=by omega
   have hn13:=name_len r.code
   have hw7:=word_len r.kind
   have hit:=itoaS_size r.now hro.now.1 hro.now.2
   have hil:=itoaS_size r.live hro.live.1 hro.live.2
   have HLB:=Lib.hid (fun S=>line_ba S r)
   obtain⟨S,hS⟩:∃ S,S=SBy (textE (l.take k)):=⟨_,rfl⟩
   rw[← hS] at hlen ⊢
   have HSS:=Lib.hid hS
   have HRO:=Lib.hid hro
   obtain⟨W1,hW1⟩:∃ W,W=SBy (wordL r.kind):=⟨_,rfl⟩
   have hws:W1.size≤7:=by rw[hW1,SB_size];exact hw7
   rw[← hW1] at HLB
   have HKD:Hid (1≤r.kind∧r.kind≤6→wr.cell? ⟨g9,(r.kind-1).toNat,none⟩=some (.string W1)):=Lib.hid (fun h=>by
    have h1:=(HN.keep HB.out).cell (r.kind-1).toNat
    rw[h1,List.getElem?_toArray,nm_get r.kind h,hW1])
   have HKE:Hid (¬(1≤r.kind∧r.kind≤6)→W1=ByteArray.empty):=Lib.hid (fun h=>by
    rw[hW1]
    have:wordL r.kind=[]:=by
     unfold wordL
     rw[if_neg (by omega),if_neg (by omega),if_neg (by omega),if_neg (by omega),if_neg (by omega),if_neg (by omega)]
    rw[this];rfl)
   have hk0:=hro.kind
   unfold isI64 at hk0
   have HNM:=Lib.hid (fun W=>ref_name_any r.code W)
   have HD1:=Lib.hid (fun W=>dec_any r.now W hro.now.1 hro.now.2)
   have HD2:=Lib.hid (fun W=>dec_any r.live W hro.live.1 hro.live.2)
   obtain⟨N1,hN1⟩:∃ N,N=nameOf r.code:=⟨_,rfl⟩
   rw[← hN1] at HNM HLB hn13
   obtain⟨D1,hD1⟩:∃ N,N=itoaS r.now:=⟨_,rfl⟩
   rw[← hD1] at HD1 HLB hit
   obtain⟨D2,hD2⟩:∃ N,N=itoaS r.live:=⟨_,rfl⟩
   rw[← hD2] at HD2 HLB hil
   have HFI:Hid (S++W1++⟨#[32]⟩++N1++⟨#[32]⟩++D1++⟨#[32]⟩++D2++⟨#[10]⟩=SBy (textE (l.take (k+1)))):=Lib.hid (by
    rw[HLB.out,hS,HSN.out,SB_list]
    rfl)
   clear hf hro hrow hS hW1 hN1 hD1 hD2 hw7 HLB c1 c2 c3 HSS HSN
   obtain⟨ci,hci⟩:∃ x,x=r.code:=⟨_,rfl⟩
   obtain⟨ni,hni⟩:∃ x,x=r.now:=⟨_,rfl⟩
   obtain⟨li,hli⟩:∃ x,x=r.live:=⟨_,rfl⟩
   obtain⟨ki,hki⟩:∃ x,x=r.kind:=⟨_,rfl⟩
   rw[← hci,← hni,← hli] at HC
   rw[← hki] at HKD HKE c0 hk0
   rw[← hci] at HNM
   rw[← hni] at HD1
   rw[← hli] at HD2
   clear hci hni hli hki HRO
   obtain⟨B,hB⟩:∃ B,B=(decide (1≤ki) && decide (ki≤6)):=⟨_,rfl⟩
   have HBB:=Lib.hid hB
   clear hB
   go_upto_region 7 with fail
   go_cut [27] from 14 to 26 (fun v wx=>v = .bool B∧wx=wr)
   case first=>
    rcases Int.lt_or_le ki 1 with t1|t1
    ·have u1:¬1≤ki:=by omega
     have u2:ki<1:=t1
     go_wp2_with fail
     go_meet
     exact⟨by rw[HBB.out,decide_eq_false (p:=1≤ki) (by omega)];rfl,rfl⟩
    rcases Int.lt_or_le 6 ki with t2|t2
    ·have u2:¬ki≤6:=by omega
     have u3:¬ki<1:=by omega
     go_wp2_with fail
     go_meet
     exact⟨by rw[HBB.out,decide_eq_false (p:=ki≤6) (by omega),Bool.and_false],rfl⟩
    ·have u3:¬ki<1:=by omega
     go_wp2_with fail
     go_meet
     exact⟨by rw[HBB.out,decide_eq_true (p:=1≤ki) (by omega),decide_eq_true (p:=ki≤6) (by omega)];rfl,rfl⟩
   case rest=>
    rename World=>wr2
    obtain⟨rfl,rfl⟩:=hcut
    go_upto_if 27 with fail
    go_cut [6] from 28 to 36 (fun v wx=>v = .string W1∧wx=wr2)
    case first=>
     cases B with
     | true=>
      have hB:=HBB.symm
      simp only[Bool.and_eq_true,decide_eq_true_eq] at hB
      obtain⟨t1,t2⟩:=hB
      have hcell:=HKD.out ⟨t1,t2⟩
      rw[show(ki-1).toNat=ki.toNat-1 by omega] at hcell
      have u3:0≤ki-1:=by omega
      have u4:ki-1<6:=by omega
      go_wp2_with fail
      go_meet
      exact⟨rfl,rfl⟩
     | false=>
      have HW:Hid (ByteArray.empty=W1):=Lib.hid (HKE.out (fun h=>by
       have:=HBB.out
       rw[decide_eq_true h.1,decide_eq_true h.2] at this
       cases this)).symm
      go_wp2_with fail
      go_meet
      exact⟨by rw[← HW.out];rfl,rfl⟩
    case rest=>
     rename World=>wr3
     obtain⟨rfl,rfl⟩:=hcut
     clear c0 HKD HKE HBB
     have HC3:Hid (CX wr3 b (off+k*36) ci ni li wr3.drew):=Lib.hid ⟨HC.out.1,HC.out.2.1,HC.out.2.2,(Below.refl _ _).drew⟩
     have HQ1:=Lib.hid (add_str S W1 (by omega))
     obtain⟨Q1,hQ1⟩:∃ q,q=S++W1:=⟨_,rfl⟩
     rw[← hQ1] at HQ1
     have hs1:Q1.size≤S.size+7:=by rw[hQ1,ByteArray.size_append];omega
     have HQ2:=Lib.hid (add_str Q1 ⟨#[32]⟩ (by have:(⟨#[32]⟩:ByteArray).size=1:=rfl;omega))
     obtain⟨Q2,hQ2⟩:∃ q,q=Q1++⟨#[32]⟩:=⟨_,rfl⟩
     rw[← hQ2] at HQ2
     have hs2:Q2.size≤Q1.size+1:=by rw[hQ2,ByteArray.size_append];have:(⟨#[32]⟩:ByteArray).size=1:=rfl;omega
     have HQ3:=Lib.hid (add_str Q2 N1 (by omega))
     obtain⟨Q3,hQ3⟩:∃ q,q=Q2++N1:=⟨_,rfl⟩
     rw[← hQ3] at HQ3
     have hs3:Q3.size≤Q2.size+13:=by rw[hQ3,ByteArray.size_append];omega
     have HQ4:=Lib.hid (add_str Q3 ⟨#[32]⟩ (by have:(⟨#[32]⟩:ByteArray).size=1:=rfl;omega))
     obtain⟨Q4,hQ4⟩:∃ q,q=Q3++⟨#[32]⟩:=⟨_,rfl⟩
     rw[← hQ4] at HQ4
     have hs4:Q4.size≤Q3.size+1:=by rw[hQ4,ByteArray.size_append];have:(⟨#[32]⟩:ByteArray).size=1:=rfl;omega
     have HQ5:=Lib.hid (add_str Q4 D1 (by omega))
     obtain⟨Q5,hQ5⟩:∃ q,q=Q4++D1:=⟨_,rfl⟩
     rw[← hQ5] at HQ5
     have hs5:Q5.size≤Q4.size+20:=by rw[hQ5,ByteArray.size_append];omega
     have HQ6:=Lib.hid (add_str Q5 ⟨#[32]⟩ (by have:(⟨#[32]⟩:ByteArray).size=1:=rfl;omega))
     obtain⟨Q6,hQ6⟩:∃ q,q=Q5++⟨#[32]⟩:=⟨_,rfl⟩
     rw[← hQ6] at HQ6
     have hs6:Q6.size≤Q5.size+1:=by rw[hQ6,ByteArray.size_append];have:(⟨#[32]⟩:ByteArray).size=1:=rfl;omega
     have HQ7:=Lib.hid (add_str Q6 D2 (by omega))
     obtain⟨Q7,hQ7⟩:∃ q,q=Q6++D2:=⟨_,rfl⟩
     rw[← hQ7] at HQ7
     have hs7:Q7.size≤Q6.size+20:=by rw[hQ7,ByteArray.size_append];omega
     have HQ8:=Lib.hid (add_str Q7 ⟨#[10]⟩ (by have:(⟨#[10]⟩:ByteArray).size=1:=rfl;omega))
     obtain⟨Q8,hQ8⟩:∃ q,q=Q7++⟨#[10]⟩:=⟨_,rfl⟩
     rw[← hQ8] at HQ8
     have hs8:Q8.size≤Q7.size+1:=by rw[hQ8,ByteArray.size_append];have:(⟨#[10]⟩:ByteArray).size=1:=rfl;omega
     have HF2:Hid (Q8=SBy (textE (l.take (k+1)))):=Lib.hid (by rw[hQ8,hQ7,hQ6,hQ5,hQ4,hQ3,hQ2,hQ1];exact HFI.out)
     clear hQ1 hQ2 hQ3 hQ4 hQ5 hQ6 hQ7 hQ8 hs1 hs2 hs3 hs4 hs5 hs6 hs7 hs8
     go_upto_region 9 with fail
     -- region 9
     refine kZ (n:=29) (CX wr3 b (off+k*36) ci ni li) (HC3.out) (h:=fun hH=>?_)
     refine kM 0 (some 37) (.string S) (h:=?_)
     simp only[p1,p2,p3,p4,p5]
     refine kM 1 (some 38) (.string W1) (h:=?_)
     simp only[p1,p2,p3,p4,p5]
     refine kM 4 (some 41) (.slice (some ⟨b,off,none⟩) l.length cap) (h:=?_)
     simp only[p1,p2,p3,p4,p5]
     refine kM 5 (some 42) (.int .i64 (k:Int)) (h:=?_)
     simp only[p1,p2,p3,p4,p5]
     refine kT 6 (some 43) (.pointer (some ⟨b,off+k*36,none⟩)) (h:=?_)
     simp only[p1,p2,p3,p4,p5]
     refine kT 7 (some 44) (.pointer (some ⟨b,off+k*36+1,none⟩)) (h:=?_)
     simp only[p1,p2,p3,p4,p5]
     refine kC 8 (some 45) (v:=.int .i64 ci) (fun W hX=>hX.c1) (h:=?_)
     simp only[p1,p2,p3,p4,p5]
     refine kM 12 (some 49) (.slice (some ⟨b,off,none⟩) l.length cap) (h:=?_)
     simp only[p1,p2,p3,p4,p5]
     refine kM 13 (some 50) (.int .i64 (k:Int)) (h:=?_)
     simp only[p1,p2,p3,p4,p5]
     refine kT 14 (some 51) (.pointer (some ⟨b,off+k*36,none⟩)) (h:=?_)
     simp only[p1,p2,p3,p4,p5]
     refine kT 15 (some 52) (.pointer (some ⟨b,off+k*36+2,none⟩)) (h:=?_)
     simp only[p1,p2,p3,p4,p5]
     refine kC 16 (some 53) (v:=.int .i64 ni) (fun W hX=>hX.c2) (h:=?_)
     simp only[p1,p2,p3,p4,p5]
     refine kM 20 (some 57) (.slice (some ⟨b,off,none⟩) l.length cap) (h:=?_)
     simp only[p1,p2,p3,p4,p5]
     refine kM 21 (some 58) (.int .i64 (k:Int)) (h:=?_)
     simp only[p1,p2,p3,p4,p5]
     refine kT 22 (some 59) (.pointer (some ⟨b,off+k*36,none⟩)) (h:=?_)
     simp only[p1,p2,p3,p4,p5]
     refine kT 23 (some 60) (.pointer (some ⟨b,off+k*36+3,none⟩)) (h:=?_)
     simp only[p1,p2,p3,p4,p5]
     refine kC 24 (some 61) (v:=.int .i64 li) (fun W hX=>hX.c3) (h:=?_)
     simp only[p1,p2,p3,p4,p5]
     refine kT 2 (some 39) (.string Q1) (hy:=fun W _=>exec_add rfl (HQ1.out W)) (h:=?_)
     simp only[p1,p2,p3,p4,p5]
     refine kT 3 (some 40) (.string Q2) (hy:=fun W _=>exec_add rfl (HQ2.out W)) (h:=?_)
     simp only[p1,p2,p3,p4,p5]
     refine kF 9 (some 46) ((HNM.out _).mono ?_)
     rintro e wN ⟨rfl,hbN⟩
     refine⟨_,rfl,hH.keep hbN,fun hH=>?_⟩
     simp only[p1,p2,p3,p4,p5]
     refine kT 10 (some 47) (.string Q3) (hy:=fun W _=>exec_add rfl (HQ3.out W)) (h:=?_)
     simp only[p1,p2,p3,p4,p5]
     refine kT 11 (some 48) (.string Q4) (hy:=fun W _=>exec_add rfl (HQ4.out W)) (h:=?_)
     simp only[p1,p2,p3,p4,p5]
     refine kF 17 (some 54) ((HD1.out _).mono ?_)
     rintro e wN1 ⟨rfl,d1,rfl⟩
     refine⟨_,rfl,hH.drewN d1,fun hH=>?_⟩
     simp only[p1,p2,p3,p4,p5]
     refine kT 18 (some 55) (.string Q5) (hy:=fun W _=>exec_add rfl (HQ5.out W)) (h:=?_)
     simp only[p1,p2,p3,p4,p5]
     refine kT 19 (some 56) (.string Q6) (hy:=fun W _=>exec_add rfl (HQ6.out W)) (h:=?_)
     simp only[p1,p2,p3,p4,p5]
     refine kF 25 (some 62) ((HD2.out _).mono ?_)
     rintro e wN2 ⟨rfl,d2,rfl⟩
     refine⟨_,rfl,hH.drewN d2,fun hH=>?_⟩
     simp only[p1,p2,p3,p4,p5]
     refine kT 26 (some 63) (.string Q7) (hy:=fun W _=>exec_add rfl (HQ7.out W)) (h:=?_)
     simp only[p1,p2,p3,p4,p5]
     refine kT 27 (some 64) (.string Q8) (hy:=fun W _=>exec_add rfl (HQ8.out W)) (h:=?_)
     simp only[p1,p2,p3,p4,p5]
     refine kT 28 (some 4) (.string Q8) (h:=?_)
     simp only[p1,p2,p3,p4,p5]
     refine kE (h:=?_)
     -- end of region 9
     obtain⟨w9,hw9⟩:∃ W,W=(wN.drewN d1).drewN d2:=⟨_,rfl⟩
     rw[← hw9] at hH ⊢
     have HBE:=Lib.hid hH.be
     clear hH hw9
     go_wp2_with fail
     exact⟨⟨k+1,by omega,by go_num,congrArg Value.string HF2.out,Lib.hid (bstep HB.out HBE.out)⟩,by simp[intOf];omega⟩
  ·obtain rfl:k=l.length:=by omega
   rw[List.take_length]
   have HBF:=Lib.hid (bstep HB1.out HB.out)
   go_wp2_with fail
   go_ret
   exact⟨rfl,HBF.out⟩
end Go.Proofs.YtiaigidbcljblaaGreatDoor
