import Derived.Test.YtiaigidbcljblaaGreatDoorME5
import Derived.Test.YtiaigidbcljblaaGreatDoorME2
import Derived.Test.YtiaigidbcljblaaGreatDoorME1
import Derived.Test.YtiaigidbcljblaaGreatDoorME24
set_option linter.unusedVariables false
set_option linter.unusedSimpArgs false
set_option maxRecDepth 100000
set_option maxHeartbeats 40000000
namespace Go.Proofs.YtiaigidbcljblaaGreatDoor
section
open Go.RowKit
attribute [local irreducible] wpQuiet wpAnyH
abbrev RdS:=List Int×Bool
def rdNum(k:Nat)(s:RdS):Nat×RdS:=if s.2=false∧k≤s.1.length then (beN (s.1.take k),(s.1.drop k,false)) else (0,([],true))
def rdNext(n:Nat)(s:RdS):List Int×RdS:=if s.2=false∧n≤s.1.length then (s.1.take n,(s.1.drop n,false)) else ([],([],true))
def rdStr(k:Nat)(s:RdS):List Int×RdS:=if (rdNum k s).2.2 then ([],(rdNum k s).2) else rdNext (rdNum k s).1 (rdNum k s).2
def rdDone(s:RdS):Bool:=!s.2 && decide (s.1.length=0)
def RDR(w:World)(r:Nat)(s:RdS):Prop:=∃ v,RD w r v s.1 s.2
theorem RDR.keep{w w':World}{r:Nat}{s:RdS}(h:RDR w r s)(hb:Below w.heap.size w w'):RDR w' r s:=by
 obtain⟨v,h1,h2⟩:=h
 exact⟨v,h1.keep hb,h2.below hb⟩
theorem RDR.lt{w:World}{r:Nat}{s:RdS}(h:RDR w r s):r<w.heap.size:=by
 obtain⟨v,h1,h2⟩:=h
 exact h1.lt
theorem RDR.sn{w w':World}{r n:Nat}{s:RdS}{x:Value}{xs:List Int}(h:RDR w r s)(hs:Sn w 1 x n (u8s xs))(ho:Off r w w'):Sn w' 1 x n (u8s xs):=by
 obtain⟨v,h1,h2⟩:=h
 obtain⟨A,cap,hv,_⟩:=id h2
 exact hs.offB h1 hv ho
structure RdOk(s:RdS):Prop where
 bys:Bys s.1
 len:s.1.length≤1000000
theorem RdOk.num{s:RdS}(h:RdOk s)(k:Nat):RdOk (rdNum k s).2:=by
 unfold rdNum
 split
 ·exact⟨fun b hb=>h.bys b (List.mem_of_mem_drop hb),by show(s.1.drop k).length≤_;rw[List.length_drop];have:=h.len;omega⟩
 ·exact⟨fun b hb=>(by cases hb),Nat.zero_le _⟩
theorem RdOk.next{s:RdS}(h:RdOk s)(n:Nat):RdOk (rdNext n s).2:=by
 unfold rdNext
 split
 ·exact⟨fun b hb=>h.bys b (List.mem_of_mem_drop hb),by show(s.1.drop n).length≤_;rw[List.length_drop];have:=h.len;omega⟩
 ·exact⟨fun b hb=>(by cases hb),Nat.zero_le _⟩
theorem RdOk.str{s:RdS}(h:RdOk s)(k:Nat):RdOk (rdStr k s).2:=by
 unfold rdStr
 split
 ·exact h.num k
 ·exact(h.num k).next _
theorem rdNext_bys{s:RdS}(h:RdOk s)(n:Nat):Bys (rdNext n s).1∧(rdNext n s).1.length≤s.1.length:=by
 unfold rdNext
 split
 ·exact⟨fun b hb=>h.bys b (List.mem_of_mem_take hb),by show(s.1.take n).length≤_;rw[List.length_take];omega⟩
 ·exact⟨fun b hb=>(by cases hb),Nat.zero_le _⟩
theorem rdNum_len(s:RdS)(k:Nat):(rdNum k s).2.1.length≤s.1.length:=by
 unfold rdNum
 split
 ·show(s.1.drop k).length≤_;rw[List.length_drop];omega
 ·exact Nat.zero_le _
theorem rdStr_bys{s:RdS}(h:RdOk s)(k:Nat):Bys (rdStr k s).1∧(rdStr k s).1.length≤s.1.length:=by
 unfold rdStr
 split
 ·exact⟨fun b hb=>(by cases hb),Nat.zero_le _⟩
 ·have:=rdNext_bys (h.num k) (rdNum k s).1
  exact⟨this.1,Nat.le_trans this.2 (rdNum_len s k)⟩
section
variable {w : World} {r : Nat} {s : RdS}
theorem wire_newR(va:Value)(xs:List Int)(w:World)(hs:Sn w 1 va xs.length (u8s xs))(hn:xs.length≤1000000):
  Calls Tryz.prog 157 #[va] w fun e w'=>∃ r,e = .returned (.pointer (some ⟨r,0,none⟩))∧RDR w' r (xs,false)∧w.heap.size≤r∧Below w.heap.size w w':=by
 refine(wire_newF va xs w hs hn).mono ?_
 rintro e w' ⟨r,v,h1,h2,_,h3,h4⟩
 exact⟨r,h1,⟨v,h2⟩,h3,h4⟩
theorem rd_numberR(k:Nat)(h:RDR w r s)(hs:RdOk s)(hk1:1≤k)(hk8:k≤8):
  Calls Tryz.prog 216 #[.pointer (some ⟨r,0,none⟩),.int .i64 k] w fun e w'=>Off r w w'∧RDR w' r (rdNum k s).2∧e = .returned (.tuple #[.int .u64 ((rdNum k s).1:Nat),.bool (!(rdNum k s).2.2)]):=by
 obtain⟨v,h⟩:=h
 refine(rd_number r v s.1 s.2 k w h hs.bys hs.len hk1 hk8).mono ?_
 rintro e w' ⟨ho,⟨h1,h2,v',rfl,hR⟩|⟨h1,rfl,hR⟩⟩
 ·have e1:rdNum k s=(beN (s.1.take k),(s.1.drop k,false)):=if_pos ⟨h1,h2⟩
  rw[e1]
  exact⟨ho,⟨v',hR⟩,rfl⟩
 ·have e1:rdNum k s=(0,([],true)):=if_neg (by
   rintro⟨a,b⟩
   rcases h1 with h1|h1
   ·rw[a] at h1;cases h1
   ·omega)
  rw[e1]
  exact⟨ho,⟨_,hR⟩,rfl⟩
theorem rd_NumberR(k:Nat)(h:RDR w r s)(hs:RdOk s)(hk1:1≤k)(hk8:k≤8):
  Calls Tryz.prog 159 #[.pointer (some ⟨r,0,none⟩),.int .i64 k] w fun e w'=>Off r w w'∧RDR w' r (rdNum k s).2∧e = .returned (.int .u64 ((rdNum k s).1:Nat)):=by
 obtain⟨v,h⟩:=h
 refine(rd_Number r v s.1 s.2 k w h hs.bys hs.len hk1 hk8).mono ?_
 rintro e w' ⟨ho,⟨h1,h2,v',rfl,hR⟩|⟨h1,rfl,hR⟩⟩
 ·have e1:rdNum k s=(beN (s.1.take k),(s.1.drop k,false)):=if_pos ⟨h1,h2⟩
  rw[e1]
  exact⟨ho,⟨v',hR⟩,rfl⟩
 ·have e1:rdNum k s=(0,([],true)):=if_neg (by
   rintro⟨a,b⟩
   rcases h1 with h1|h1
   ·rw[a] at h1;cases h1
   ·omega)
  rw[e1]
  exact⟨ho,⟨_,hR⟩,rfl⟩
theorem rd_DoneR(h:RDR w r s):Calls Tryz.prog 161 #[.pointer (some ⟨r,0,none⟩)] w fun e w'=>e = .returned (.bool (rdDone s))∧w=w':=by
 obtain⟨v,h⟩:=h
 exact rd_Done r v s.1 s.2 w h
theorem rd_StringR(k:Nat)(h:RDR w r s)(hs:RdOk s)(hk1:1≤k)(hk8:k≤8):
  Calls Tryz.prog 160 #[.pointer (some ⟨r,0,none⟩),.int .i64 k] w fun e w'=>Off r w w'∧RDR w' r (rdStr k s).2∧∃ y,e = .returned y∧Sn w' 1 y (rdStr k s).1.length (u8s (rdStr k s).1)∧∀ b,y.ownBlock=some b→w.heap.size≤b:=by
 have HN:=Lib.hid (rd_numberR k h hs hk1 hk8)
 have HS:Hid (rdStr k s=if (rdNum k s).2.2 then ([],(rdNum k s).2) else rdNext (rdNum k s).1 (rdNum k s).2):=Lib.hid rfl
 have HO2:=Lib.hid (hs.num k)
 obtain⟨x,hx⟩:∃ x,x=rdNum k s:=⟨_,rfl⟩
 rw[← hx] at HN HS HO2
 clear h hs hx
 obtain⟨n,xs,bad⟩:=x
 cases bad with
 | true=>
  have hb:(!true)=false:=rfl
  simp only[hb] at HN
  clear hb
  go_enter Tryz.func160,Tryz.ntmps160
  go_wp2_with fail
  refine HN.mono ?_
  rintro e w1 ⟨ho,hr,rfl⟩
  have HO:=Lib.hid ho
  have HR:=Lib.hid hr
  clear ho hr HN
  go_wp2_with fail
  go_ret
  have e1:rdStr k s=([],(xs,true)):=HS.out
  rw[e1]
  obtain⟨v,hr⟩:=HR.out
  exact⟨HO.out,⟨v,hr⟩,_,rfl,⟨none,0,rfl,Nat.le_refl _,rfl,fun h=>absurd h (by simp)⟩,fun b h=>by cases h⟩
 | false=>
  have hb:(!false)=true:=rfl
  simp only[hb] at HN
  clear hb
  have e1:rdStr k s=rdNext n (xs,false):=HS.out
  have HE:=Lib.hid e1
  clear e1 HS
  go_enter Tryz.func160,Tryz.ntmps160
  go_wp2_with fail
  refine HN.mono ?_
  rintro e w1 ⟨ho,hr,rfl⟩
  obtain⟨v,hr⟩:=hr
  have HO:=Lib.hid ho
  have HR:=Lib.hid hr
  have HNX:=Lib.hid (rd_nextF r v xs false n w1 hr HO2.len)
  clear ho hr HN
  go_wp2_with fail
  refine HNX.mono ?_
  rintro e w2 ⟨ho2,⟨_,hkl,x,v',rfl,hsx,hR,_⟩|⟨hbad,rfl,hR⟩⟩
  ·have HO3:=Lib.hid (HO.trans ho2)
   have HRR:=Lib.hid hR
   have HSX:=Lib.hid hsx
   have HK:=Lib.hid hkl
   have hn:=HO2.len
   have HN6:Hid (n≤1000000):=Lib.hid (by show n≤_;simp only at hn;omega)
   have HSZ:=Lib.hid (HO.size)
   have HSZ2:=Lib.hid (ho2.size)
   clear ho2 hR hsx hkl hn HNX
   go_wp2_with fail
   refine(clone_bytesF x n (u8s (xs.take n)) w2 HSX.out (u8s_mem _) HN6.out).mono ?_
   rintro e w3 ⟨y,rfl,hsy,hfr,hb3⟩
   have HSY:=Lib.hid hsy
   have HFR:=Lib.hid hfr
   have HB3:=Lib.hid hb3
   clear hsy hfr hb3
   go_wp2_with fail
   go_ret
   have e2:rdNext n (xs,false)=(xs.take n,(xs.drop n,false)):=if_pos ⟨rfl,HK.out⟩
   rw[HE.out,e2]
   refine⟨HO3.trans (Off.of_below HB3.out),⟨v',HRR.out.1.keep HB3.out,HRR.out.2.below HB3.out⟩,y,rfl,?_,fun b e=>Nat.le_trans (Nat.le_trans HSZ.out HSZ2.out) (HFR.out b e)⟩
   have hl:(xs.take n).length=n:=by rw[List.length_take];have:=HK.out;omega
   rw[show((xs.take n,(xs.drop n,false)):List Int×RdS).1=xs.take n from rfl,hl]
   exact HSY.out
  ·have HO3:=Lib.hid (HO.trans ho2)
   have HRR:=Lib.hid hR
   have HBD:=Lib.hid hbad
   clear ho2 hR hbad HNX
   go_wp2_with fail
   go_ret
   have e2:rdNext n (xs,false)=([],([],true)):=if_neg (by
    rintro⟨_,h⟩
    rcases HBD.out with h1|h1
    ·cases h1
    ·simp only at h;omega)
   rw[HE.out,e2]
   exact⟨HO3.out,⟨_,HRR.out⟩,_,rfl,⟨none,0,rfl,Nat.le_refl _,rfl,fun h=>absurd h (by simp)⟩,fun b h=>by cases h⟩
end
end
section
open Go.RowKit
attribute [local irreducible] wpQuiet wpAnyH
def hd3:Array Value:=#[.int .u8 65,.int .u8 80,.int .u8 1]
def z3:Array Value:=#[.int .u8 0,.int .u8 0,.int .u8 0]
theorem head_any(w:World):Calls Tryz.prog 158 #[] w fun e w'=>e = .returned (.agg hd3)∧Below w.heap.size w w':=by
 go_enter Tryz.func158,Tryz.ntmps158
 go_wp2
 exact bodyPost_ret (results_cell_row (P:=Tryz.prog) rfl _ _ w.heap.size _ hd3 (0,0) _ rfl (heap_alloc_new w _) Tryz.underlying278 rfl (by kernel_rfl)) rfl ⟨rfl,(Below.refl _ w).alloc (Nat.le_refl _) _⟩
def rdH(b:List Int):Nat→RdS
 | 0=>(b,false)
 | k+1=>(rdNum 1 (rdH b k)).2
def hdN(k:Nat):Nat:=if k=0 then 65 else if k=1 then 80 else 1
def reqB(b:List Int):List Int×List Int×Bool:=
 if 65536<b.length then ([],[],false) else
 if (rdNum 1 (rdH b 0)).1≠hdN 0 then ([],[],false) else
 if (rdNum 1 (rdH b 1)).1≠hdN 1 then ([],[],false) else
 if (rdNum 1 (rdH b 2)).1≠hdN 2 then ([],[],false) else
 if rdDone (rdStr 2 (rdStr 2 (rdH b 3)).2).2 then ((rdStr 2 (rdH b 3)).1,(rdStr 2 (rdStr 2 (rdH b 3)).2).1,true) else ([],[],false)
theorem rdH_ok{b:List Int}(hb:Bys b)(hl:b.length≤1000000):∀ k,RdOk (rdH b k)
 | 0=>⟨hb,hl⟩
 | k+1=>(rdH_ok hb hl k).num 1
theorem reqB_bad{b:List Int}(k:Nat)(hk:k<3)(hl:b.length≤65536)(h:(rdNum 1 (rdH b k)).1≠hdN k):reqB b=([],[],false):=by
 have hc:k=0∨k=1∨k=2:=by omega
 unfold reqB
 rw[if_neg (by omega)]
 rcases hc with rfl|rfl|rfl
 ·rw[if_pos h]
 ·by_cases h0:(rdNum 1 (rdH b 0)).1≠hdN 0
  ·rw[if_pos h0]
  ·rw[if_neg h0,if_pos h]
 ·by_cases h0:(rdNum 1 (rdH b 0)).1≠hdN 0
  ·rw[if_pos h0]
  ·by_cases h1:(rdNum 1 (rdH b 1)).1≠hdN 1
   ·rw[if_neg h0,if_pos h1]
   ·rw[if_neg h0,if_neg h1,if_pos h]
theorem reqB_on{b:List Int}(hl:b.length≤65536)(h:∀ k,k<3→(rdNum 1 (rdH b k)).1=hdN k):reqB b=if rdDone (rdStr 2 (rdStr 2 (rdH b 3)).2).2 then ((rdStr 2 (rdH b 3)).1,(rdStr 2 (rdStr 2 (rdH b 3)).2).1,true) else ([],[],false):=by
 unfold reqB
 rw[if_neg (by omega),if_neg (by have:=h 0 (by omega);exact fun e=>e this),if_neg (by have:=h 1 (by omega);exact fun e=>e this),if_neg (by have:=h 2 (by omega);exact fun e=>e this)]
theorem idx3(k:Nat)(hk:k<3)(W:World):(Instr.index 278 (.agg #[.int .u8 65,.int .u8 80,.int .u8 1]) (.int .i64 (k:Int))).run Tryz.prog W = .ok (.int .u8 ((hdN k:Nat):Int)) W:=by
 refine run_index_arr _ k Tryz.underlying278 hk (fun w=>by kernel_rfl) (fun w=>by kernel_rfl) ?_ W
 have hc:k=0∨k=1∨k=2:=by omega
 rcases hc with rfl|rfl|rfl <;> rfl
theorem sn_offT{w w':World}{g n c:Nat}{t:TypeId}{A:Option Addr}{xs:List Int}(h:Sn w 1 (.slice A n c) n (u8s xs))(hB:Blk w g t #[.slice none 0 0,.slice none 0 0])(_:True)(ho:Off g w w'):Sn w' 1 (.slice A n c) n (u8s xs):=by
 obtain⟨A',cap,hv,hc,hl,hx⟩:=h
 injection hv with h1 h2 h3
 subst h1 h3
 refine⟨A,c,rfl,hc,hl,fun hp=>?_⟩
 obtain⟨b,off,rfl,hcell⟩:=hx hp
 refine⟨b,off,rfl,fun j u hj=>ho.cell (hcell j u hj) (fun e=>?_)⟩
 have h4:=hcell j u hj
 have e:b=g:=e
 subst e
 rw[hB.cell] at h4
 have hj2:∃ z,u = .int .u8 z:=by
  unfold u8s at hj
  rw[List.getElem?_map,Option.map_eq_some_iff] at hj
  obtain⟨z,_,rfl⟩:=hj
  exact⟨z,rfl⟩
 obtain⟨z,rfl⟩:=hj2
 have hlt:off+j<2:=by
  have:=(Array.getElem?_eq_some_iff.1 h4).1
  exact this
 have h5:off+j=0∨off+j=1:=by omega
 rcases h5 with h5|h5 <;> (rw[h5] at h4;cases h4)
def ReqP(w:World)(r:List Int×List Int×Bool)(e:Ending)(w':World):Prop:=∃ A ca B cb,e = .returned (.tuple #[.agg #[.slice A r.1.length ca,.slice B r.2.1.length cb],.bool r.2.2])∧Sn w' 1 (.slice A r.1.length ca) r.1.length (u8s r.1)∧Sn w' 1 (.slice B r.2.1.length cb) r.2.1.length (u8s r.2.1)∧Below w.heap.size w w'
theorem reqP_bad{w w':World}{r:List Int×List Int×Bool}(h:r=([],[],false))(hb:Below w.heap.size w w'):ReqP w r (.returned (.tuple #[.agg #[.slice none 0 0,.slice none 0 0],.bool false])) w':=by
 subst h
 exact⟨none,0,none,0,rfl,⟨none,0,rfl,Nat.le_refl _,rfl,fun h=>absurd h (by simp)⟩,⟨none,0,rfl,Nat.le_refl _,rfl,fun h=>absurd h (by simp)⟩,hb⟩
def reqZ:Array Value:=#[.slice none 0 0,.slice none 0 0]
theorem rparse_any(b:List Int)(A:Option Addr)(cap:Nat)(w:World)(hs:Sn w 1 (.slice A b.length cap) b.length (u8s b))(hb:Bys b)(hl:b.length≤1000000):
  Calls Tryz.prog 109 #[.slice A b.length cap] w (ReqP w (reqB b)):=by
 have HR:=Lib.hid (wire_newR (.slice A b.length cap) b)
 have HS:=Lib.hid hs
 have HBB:=Lib.hid (rdH_ok hb hl)
 obtain⟨n,hn⟩:∃ n,n=b.length:=⟨_,rfl⟩
 rw[← hn] at HR HS
 have HL:=Lib.hid hl
 clear hs hb hl
 rcases Nat.lt_or_ge 65536 b.length with hbig|hlt
 ·have HB:Hid (reqB b=([],[],false)):=Lib.hid (by unfold reqB;rw[if_pos hbig])
  rw[← hn] at hbig ⊢
  clear hn
  have t1:(65536:Int)<n:=by omega
  go_enter Tryz.func109,Tryz.ntmps109
  go_wp2
  refine bodyPost_ret (results_cellR_tmp (P:=Tryz.prog) rfl _ rfl (cs:=[.slice none 0 0,.slice none 0 0]) (Blk.new w 214 reqZ).range Tryz.underlying214 rfl (by kernel_rfl)) rfl ?_
  exact reqP_bad HB.out ((Below.refl _ w).alloc (Nat.le_refl _) _)
 ·rw[← hn] at hlt ⊢
  have HBAD:=Lib.hid (fun k hk=>reqB_bad (b:=b) k hk (by omega))
  have HON:=Lib.hid (reqB_on (b:=b) (by omega))
  have HN:=Lib.hid hn
  clear hn
  have t1:¬(65536:Int)<n:=by omega
  go_enter Tryz.func109,Tryz.ntmps109
  go_upto_region 3 with fail
  obtain⟨w1,hw1⟩:∃ W,W=w.alloc (.cells reqZ 214):=⟨_,rfl⟩
  obtain⟨g2,hg2⟩:∃ g,g=w.heap.size:=⟨_,rfl⟩
  have HB1:Hid (Below w.heap.size w w1):=Lib.hid (by rw[hw1];exact(Below.refl _ w).alloc (Nat.le_refl _) _)
  have HK1:Hid (Blk w1 g2 214 reqZ):=Lib.hid (by rw[hw1,hg2];exact Blk.new _ _ _)
  have HG2:Hid (w.heap.size≤g2):=Lib.hid (by omega)
  have hw2:w.alloc (.cells #[.slice none 0 0,.slice none 0 0] 214)=w1:=hw1.symm
  rw[hw2,← hg2]
  clear hw1 hw2 hg2
  go_wp2_with fail
  refine(HR.out w1 (HS.below HB1.out) (by have:=HN.out;have:=HL.out;omega)).mono ?_
  rintro e w2 ⟨r,rfl,hr2,hrg,hb2⟩
  have HR2:=Lib.hid hr2
  have HRG:Hid (w.heap.size≤r∧g2≠r):=Lib.hid ⟨Nat.le_trans HB1.size hrg,by have:=HK1.lt;omega⟩
  have HK2:=Lib.hid (HK1.keep hb2)
  have HB2:=Lib.hid (bstep HB1.out hb2)
  clear hr2 hrg hb2 HR
  go_wp2_with fail
  refine(head_any w2).mono ?_
  rintro e w3 ⟨rfl,hb3⟩
  have HR3:=Lib.hid (HR2.keep hb3)
  have HK3:=Lib.hid (HK2.keep hb3)
  have HB3:=Lib.hid (bstep HB2.out hb3)
  clear hb3
  unfold hd3
  go_wp2_with fail
  go_loopw [15] (fun i wr=>∃ k:Nat,k≤3∧i = .int .i64 k∧Hid (RDR wr r (rdH b k))∧Hid (Blk wr g2 214 reqZ)∧Hid (Below w.heap.size w wr)∧Hid (∀ j,j<k→(rdNum 1 (rdH b j)).1=hdN j)) (fun i _=>3-(intOf i).toNat)
  case atStart=>exact⟨0,by omega,rfl,HR3,HK3,HB3,Lib.hid (fun j hj=>by omega)⟩
  case round=>
   clear HR2 HK2 HB2 HR3 HK3 HB3
   obtain⟨k,hk,rfl,HR3,HK3,HB3,HA⟩:=hrel
   rcases Nat.lt_or_ge k 3 with hlt3|hge
   ·have HRN:=Lib.hid (rd_NumberR 1 HR3.out (HBB.out k) (by omega) (by omega))
    have hix:=fun W=>idx3 k hlt3 W
    have hh:hdN k<256:=by unfold hdN;split <;> (try split) <;> omega
    obtain⟨h,hhd⟩:∃ h,h=hdN k:=⟨_,rfl⟩
    rw[← hhd] at hix hh
    obtain⟨x,hx⟩:∃ x,x=(rdNum 1 (rdH b k)).1:=⟨_,rfl⟩
    rw[← hx] at HRN
    have HHD:=Lib.hid hhd
    have HX:=Lib.hid hx
    have hi0:(0:Int)≤k:=by omega
    have hi1:(k:Int)<3:=by omega
    clear hhd hx
    go_upto_region 7 with fail
    go_wp2_with fail
    refine HRN.mono ?_
    rintro e w4 ⟨ho,hr4,rfl⟩
    have HR4:=Lib.hid hr4
    have HK4:=Lib.hid (ho.blk HK3.out HRG.out.2)
    have HB4:=Lib.hid (HB3.trans (ho.below HRG.out.1 HB3.size))
    clear ho hr4 HRN
    by_cases hxh:x=h
    ·subst hxh
     have t2:((x:Int) == (x:Int))=true:=beq_self_eq_true _
     have HA2:Hid (∀ j,j<k+1→(rdNum 1 (rdH b j)).1=hdN j):=Lib.hid (fun j hj=>by
      rcases Nat.lt_or_ge j k with h1|h1
      ·exact HA.out j h1
      ·obtain rfl:j=k:=by omega
       rw[← HX.out,← HHD.out])
     go_wp2_with fail
     exact⟨⟨k+1,by omega,by go_num,HR4,HK4,HB4,HA2⟩,by simp[intOf];omega⟩
    ·have hne:¬(x:Int)=(h:Int):=by omega
     have HBD:Hid (reqB b=([],[],false)):=Lib.hid (HBAD.out k hlt3 (by rw[← HX.out,← HHD.out];exact hxh))
     have c0:=HK4.cell 0
     have c1:=HK4.cell 1
     have f0:=HK4.frozen 0
     have f1:=HK4.frozen 1
     simp only[reqZ,List.getElem?_toArray,List.getElem?_cons_succ,List.getElem?_cons_zero] at c0 c1
     go_wp2_with fail
     have hk6:=(HK4.set_ 0 (.slice none 0 0)).set_ 1 (.slice none 0 0)
     have hb6:=(HB4.setCell HG2.out (.slice none 0 0) (p:=⟨g2,0,none⟩)).setCell HG2.out (.slice none 0 0) (p:=⟨g2,1,none⟩)
     refine bodyPost_ret (results_cellR_tmp (P:=Tryz.prog) rfl _ rfl (cs:=[.slice none 0 0,.slice none 0 0]) hk6.range Tryz.underlying214 rfl (by kernel_rfl)) rfl ?_
     exact reqP_bad HBD.out hb6
   ·obtain rfl:k=3:=by omega
    have HOE:=Lib.hid (HON.out HA.out)
    have HS1:=Lib.hid (rd_StringR 2 HR3.out (HBB.out 3) (by omega) (by omega))
    have HO1:=Lib.hid ((HBB.out 3).str 2)
    have HN1:=Lib.hid (rdStr_bys (HBB.out 3) 2)
    obtain⟨x1,hx1⟩:∃ x,x=rdStr 2 (rdH b 3):=⟨_,rfl⟩
    rw[← hx1] at HS1 HO1 HOE HN1
    clear hx1 HBAD HON HBB
    go_wp2_with fail
    refine HS1.mono ?_
    rintro e w4 ⟨ho,hr4,y1,rfl,hsy,hfy⟩
    obtain⟨A1,c1,rfl,_⟩:=id hsy
    have HR4:=Lib.hid hr4
    have HK4:=Lib.hid (ho.blk HK3.out HRG.out.2)
    have HB4:=Lib.hid (HB3.trans (ho.below HRG.out.1 HB3.size))
    have HY1:=Lib.hid hsy
    have HS2:=Lib.hid (rd_StringR 2 hr4 HO1.out (by omega) (by omega))
    have HO2:=Lib.hid (HO1.str 2)
    have HN2:=Lib.hid (rdStr_bys HO1.out 2)
    obtain⟨x2,hx2⟩:∃ x,x=rdStr 2 x1.2:=⟨_,rfl⟩
    rw[← hx2] at HS2 HO2 HOE HN2
    clear hx2 ho hr4 hsy hfy HS1 HR3
    go_wp2_with fail
    refine HS2.mono ?_
    rintro e w5 ⟨ho,hr5,y2,rfl,hsy,hfy⟩
    obtain⟨A2,c2,rfl,_⟩:=id hsy
    have HK5:=Lib.hid (ho.blk HK4.out HRG.out.2)
    have HB5:=Lib.hid (HB4.trans (ho.below HRG.out.1 HB4.size))
    have HY2:=Lib.hid hsy
    have HY15:Hid (Sn w5 1 (.slice A1 x1.1.length c1) x1.1.length (u8s x1.1)):=Lib.hid (HR4.sn HY1.out ho)
    have HR5:=Lib.hid hr5
    obtain⟨z,hz⟩:∃ z,z=rdDone x2.2:=⟨_,rfl⟩
    rw[← hz] at HOE
    have HZ:=Lib.hid hz
    clear hz ho hr5 hsy hfy HS2 HR4 HY1 HK4
    have hwx:w5.heap.size=w5.heap.size:=rfl
    obtain⟨n1,hn1⟩:∃ n,n=x1.1.length:=⟨_,rfl⟩
    obtain⟨n2,hn2⟩:∃ n,n=x2.1.length:=⟨_,rfl⟩
    have HN1':=Lib.hid hn1
    have HN2':=Lib.hid hn2
    rw[← hn1] at HY15 ⊢
    rw[← hn2] at HY2 ⊢
    clear hn1 hn2 hwx
    go_upto_region 11 with fail
    obtain⟨w6,hw6⟩:∃ W,W=w5.alloc (.cells #[.slice A1 n1 c1,.slice A2 n2 c2] 214):=⟨_,rfl⟩
    obtain⟨g7,hg7⟩:∃ g,g=w5.heap.size:=⟨_,rfl⟩
    have HB56:Hid (Below w5.heap.size w5 w6):=Lib.hid (by rw[hw6];exact(Below.refl _ _).alloc (Nat.le_refl _) _)
    have HK7:Hid (Blk w6 g7 214 #[.slice A1 n1 c1,.slice A2 n2 c2]):=Lib.hid (by rw[hw6,hg7];exact Blk.new _ _ _)
    have HNE:Hid (g2≠g7):=Lib.hid (by have:=HK5.lt;omega)
    rw[← hw6,← hg7]
    clear hw6 hg7
    have HK6:=Lib.hid (HK5.keep HB56.out)
    have HD:=Lib.hid (rd_DoneR (HR5.keep HB56.out))
    rw[← HZ.out] at HD
    have k0:=HK6.cell 0
    have k1:=HK6.cell 1
    have f0:=HK6.frozen 0
    have f1:=HK6.frozen 1
    have d0:=HK7.cell 0
    have d1:=HK7.cell 1
    simp only[reqZ,List.getElem?_toArray,List.getElem?_cons_succ,List.getElem?_cons_zero] at k0 k1 d0 d1
    have HB6:=Lib.hid (bstep HB5.out HB56.out)
    cases z with
    | true=>
     have HF:Hid (reqB b=(x1.1,x2.1,true)):=Lib.hid (by rw[HOE.out,if_pos rfl])
     go_wp2_with fail
     refine HD.mono ?_
     rintro e wq ⟨rfl,rfl⟩
     go_wp2_with fail
     have hk8:=(HK6.set_ 0 (.slice A1 n1 c1)).set_ 1 (.slice A2 n2 c2)
     have ho8:Off g2 w6 ((w6.setCell ⟨g2,0,none⟩ (.slice A1 n1 c1)).setCell ⟨g2,1,none⟩ (.slice A2 n2 c2)):=((Off.refl g2 w6).set 0 _).set 1 _
     refine bodyPost_ret (results_cellR_tmp (P:=Tryz.prog) rfl _ rfl (cs:=[.slice A1 n1 c1,.slice A2 n2 c2]) hk8.range Tryz.underlying214 rfl (by kernel_rfl)) rfl ?_
     unfold ReqP
     rw[HF.out]
     have hq:∀ {A c n} {xs:List Int},Sn w5 1 (.slice A n c) n (u8s xs)→Sn ((w6.setCell ⟨g2,0,none⟩ (.slice A1 n1 c1)).setCell ⟨g2,1,none⟩ (.slice A2 n2 c2)) 1 (.slice A n c) n (u8s xs):=fun h=>sn_offT (h.below HB56.out) HK6.out trivial ho8
     refine⟨A1,c1,A2,c2,?_,?_,?_,HB6.trans (ho8.below HG2.out HB6.size)⟩
     ·rw[← HN1'.out,← HN2'.out];rfl
     ·rw[← HN1'.out];exact hq HY15.out
     ·rw[← HN2'.out];exact hq HY2.out
    | false=>
     have HF:Hid (reqB b=([],[],false)):=Lib.hid (by rw[HOE.out,if_neg (by simp)])
     go_wp2_with fail
     refine HD.mono ?_
     rintro e wq ⟨rfl,rfl⟩
     go_wp2_with fail
     have hk8:=(HK6.set_ 0 (.slice none 0 0)).set_ 1 (.slice none 0 0)
     have hb8:=(HB6.setCell HG2.out (.slice none 0 0) (p:=⟨g2,0,none⟩)).setCell HG2.out (.slice none 0 0) (p:=⟨g2,1,none⟩)
     refine bodyPost_ret (results_cellR_tmp (P:=Tryz.prog) rfl _ rfl (cs:=[.slice none 0 0,.slice none 0 0]) hk8.range Tryz.underlying214 rfl (by kernel_rfl)) rfl ?_
     exact reqP_bad HF.out hb8
def tkZ:Array Value:=([Value.string ByteArray.empty,.slice none 0 0,.int .i64 0,.int .i64 0]++arr 16 (c8 fun _=>0)).toArray
def auZ:Array Value:=#[.string ByteArray.empty,.slice none 0 0,.int .i64 0,.int .u32 0,.int .u32 0]
theorem zeroTk:∀ w,(zeroValue 123).run Tryz.prog w = .ok (.agg tkZ) w:=fun w=>by unfold tkZ;kernel_rfl
theorem zeroAu:∀ w,(zeroValue 125).run Tryz.prog w = .ok (.agg auZ) w:=fun w=>by unfold auZ;kernel_rfl
theorem builtTk:Tryz.prog.built 123 []=some tkZ:=by unfold tkZ;kernel_rfl
theorem builtAu:Tryz.prog.built 125 []=some auZ:=by unfold auZ;kernel_rfl
theorem tkZ_size:tkZ.size=20:=by unfold tkZ;rw[List.size_toArray];rfl
theorem tkI:(Tryz.prog.info? 123).map (·.size)=some 20:=by kernel_rfl
theorem auI:(Tryz.prog.info? 125).map (·.size)=some 5:=by kernel_rfl
theorem tkZ_one:tkZ.all (·.oneCell')=true:=by unfold tkZ;exact all_oneCell_toArray (fun u hu=>by
 rcases List.mem_append.1 hu with h|h
 ·simp at h
  rcases h with rfl|rfl|rfl <;> rfl
 ·unfold arr at h
  obtain⟨k,_,rfl⟩:=List.mem_map.1 h
  rfl)
theorem auZ_one:auZ.all (·.oneCell')=true:=by unfold auZ;rw[List.all_toArray];rfl
theorem results_ccT{P:Program}{w:World}{fn:Func}{p q x:Tmp}{ty ty2:TypeId}(h:fn.results=#[.cell p ty,.cell q ty2,.tmp x])(tmps:Array Value){b off b2 off2:Nat}{cs cs2:List Value}{d d2:TypeDesc}(hp:tmps.getD p undef = .pointer (some ⟨b,off,none⟩))(hc:w.rangeAt b off cs)
  (hu:P.underlying ty=some d) (hd:d.isRow=true) (hi:(P.info? ty).map (·.size)=some cs.length) (hq:tmps.getD q undef = .pointer (some ⟨b2,off2,none⟩)) (hc2:w.rangeAt b2 off2 cs2)
  (hu2:P.underlying ty2=some d2) (hd2:d2.isRow=true) (hi2:(P.info? ty2).map (·.size)=some cs2.length):(results fn tmps).run P w = .ok (.tuple #[.agg cs.toArray,.agg cs2.toArray,tmps.getD x undef]) w:=by
 have h1:tmps[p]?.getD undef = .pointer (some ⟨b,off,none⟩):=by simpa using hp
 have h2:tmps[q]?.getD undef = .pointer (some ⟨b2,off2,none⟩):=by simpa using hq
 simp[results,h,h1,h2,asAddr,Sem.run_bind,Result.andThen,run_loadVar_mid w b off ty cs d hc hu hd hi,run_loadVar_mid w b2 off2 ty2 cs2 d2 hc2 hu2 hd2 hi2]
theorem rfail_any(c:Int)(w:World):Calls Tryz.prog 108 #[.int .i64 c] w fun e w'=>e = .returned (.tuple #[.agg tkZ,.agg auZ,.int .i64 c])∧Below w.heap.size w w':=by
 go_enter Tryz.func108,Tryz.ntmps108
 go_upto_region 1 with (first
  | (refine al 123 tkZ rfl rfl zeroTk ?_)
  | (refine al 125 auZ rfl rfl zeroAu ?_))
 obtain⟨g,hg⟩:∃ g,g=w.heap.size:=⟨_,rfl⟩
 obtain⟨w2,hw2⟩:∃ W,W=(w.alloc (.cells tkZ 123)).alloc (.cells auZ 125):=⟨_,rfl⟩
 have HB2:Hid (Below w.heap.size w w2):=Lib.hid (by rw[hw2];exact((Below.refl _ w).alloc (Nat.le_refl _) _).alloc (by simp) _)
 have HT:Hid (Blk w2 g 123 tkZ):=Lib.hid (by rw[hw2,hg];exact(Blk.new _ _ _).alloc _)
 have HA:Hid (Blk w2 (g+1) 125 auZ):=Lib.hid (by rw[hw2,hg];exact Blk.newAt _ _ _ _ (by simp))
 have HG:Hid (w.heap.size≤g):=Lib.hid (by omega)
 rw[← hw2]
 simp only[World.size_alloc,← hg]
 clear hw2 hg
 have hs1:(Tryz.prog.info? 123).map (·.size)=some tkZ.size:=by rw[tkZ_size];exact tkI
 have hs2:(Tryz.prog.info? 125).map (·.size)=some auZ.size:=auI
 go_wp2_with (first
  | (refine bldC 123 _ rfl rfl rfl builtTk ?_)
  | (refine bldC 125 _ rfl rfl rfl builtAu ?_)
  | (refine stBlk 123 (.tmp 2) (.tmp 5) rfl rfl (by rfl) (by rfl) HT.out hs1 rfl tkZ_one ?_;intro w3 hT3 hb3 ho3 hz3;have HA3:Hid (Blk w3 (g+1) 125 auZ):=Lib.hid ((ho3 (g+1) (by omega)).trans HA.out))
  | (refine stBlk 125 (.tmp 3) (.tmp 6) rfl rfl (by rfl) (by rfl) HA3.out hs2 rfl auZ_one ?_;intro w4 hA4 hb4 ho4 hz4))
 have hT4:Blk w4 g 123 tkZ:=(ho4 g (by omega)).trans hT3
 have hbl:Below w.heap.size w w4:=HB2.trans ((hb3.mono HG.out).trans (hb4.mono (by have:=HG.out;omega)))
 refine bodyPost_ret (results_ccT (P:=Tryz.prog) rfl _ rfl hT4.range Tryz.underlying123 rfl (by rw[Array.length_toList];exact hs1) rfl hA4.range Tryz.underlying125 rfl (by rw[Array.length_toList];exact hs2)) rfl ?_
 exact⟨rfl,hbl⟩
theorem ropen_bad(key:Nat→Nat)(b:List Int)(A:Option Addr)(cap:Nat)(w:World)(hs:Sn w 1 (.slice A b.length cap) b.length (u8s b))(hb:Bys b)(hl:b.length≤1000000)(hq:(reqB b).2.2=false):
  Calls Tryz.prog 71 #[.agg (arr 16 (c8 key)).toArray,.slice A b.length cap] w fun e w'=>e = .returned (.tuple #[.agg tkZ,.agg auZ,.int .i64 1])∧Below w.heap.size w w':=by
 have HP:=Lib.hid (fun W (h:Sn W 1 (.slice A b.length cap) b.length (u8s b))=>rparse_any b A cap W h hb hl)
 have HS:=Lib.hid hs
 have HQ:=Lib.hid hq
 obtain⟨n,hn⟩:∃ n,n=b.length:=⟨_,rfl⟩
 rw[← hn] at HP HS ⊢
 clear hs hb hl hq hn
 go_enter Tryz.func71,Tryz.ntmps71
 go_upto_region 1 with (first
  | (refine al 123 tkZ rfl rfl zeroTk ?_)
  | (refine al 125 auZ rfl rfl zeroAu ?_))
 obtain⟨g,hg⟩:∃ g,g=w.heap.size:=⟨_,rfl⟩
 obtain⟨w2,hw2⟩:∃ W,W=((w.alloc (.cells (arr 16 (c8 key)).toArray 35)).alloc (.cells tkZ 123)).alloc (.cells auZ 125):=⟨_,rfl⟩
 have HB2:Hid (Below w.heap.size w w2):=Lib.hid (by rw[hw2];exact(((Below.refl _ w).alloc (Nat.le_refl _) _).alloc (by simp) _).alloc (by simp;omega) _)
 have HT:Hid (Blk w2 (g+1) 123 tkZ):=Lib.hid (by rw[hw2,hg];exact(Blk.newAt _ _ _ _ (by simp)).alloc _)
 have HA:Hid (Blk w2 (g+1+1) 125 auZ):=Lib.hid (by rw[hw2,hg];exact Blk.newAt _ _ _ _ (by simp))
 have HG:Hid (w.heap.size≤g):=Lib.hid (by omega)
 rw[← hw2]
 simp only[World.size_alloc,← hg]
 clear hw2 hg
 have hs1:(Tryz.prog.info? 123).map (·.size)=some tkZ.size:=by rw[tkZ_size];exact tkI
 have hs2:(Tryz.prog.info? 125).map (·.size)=some auZ.size:=auI
 have HH:Hid (∀ {W1 W2:World} {r e},ReqP W1 r e W2→Below W1.heap.size W1 W2):=Lib.hid (fun h=>by obtain⟨_,_,_,_,_,_,_,h⟩:=h;exact h)
 go_wp2_with fail
 refine(HP.out w2 (HS.below HB2.out)).mono ?_
 rintro e w3 ⟨A1,c1,A2,c2,rfl,_,_,hb3⟩
 have HT3:=Lib.hid (HT.keep hb3)
 have HA3:=Lib.hid (HA.keep hb3)
 have HB3:=Lib.hid (bstep HB2.out hb3)
 have hq:=HQ.out
 obtain⟨n1,hn1⟩:∃ n,n=(reqB b).1.length:=⟨_,rfl⟩
 obtain⟨n2,hn2⟩:∃ n,n=(reqB b).2.1.length:=⟨_,rfl⟩
 rw[hq,← hn1,← hn2]
 clear hb3 hq hn1 hn2 HP HT HA HB2
 go_upto_region 4 with fail
 obtain⟨w4,hw4⟩:∃ W,W=w3.alloc (.cells #[.slice A1 n1 c1,.slice A2 n2 c2] 214):=⟨_,rfl⟩
 have HB4:Hid (Below w3.heap.size w3 w4):=Lib.hid (by rw[hw4];exact(Below.refl _ _).alloc (Nat.le_refl _) _)
 rw[← hw4]
 clear hw4
 go_wp2_with fail
 refine(rfail_any 1 w4).mono ?_
 rintro e w5 ⟨rfl,hb5⟩
 have HT5:=Lib.hid ((HT3.keep HB4.out).keep hb5)
 have HA5:=Lib.hid ((HA3.keep HB4.out).keep hb5)
 have HB5:=Lib.hid (bstep HB3.out (bstep HB4.out hb5))
 clear hb5
 go_wp2_with (first
  | (refine stBlk 123 (.tmp 4) (.tmp 19) rfl rfl (by rfl) (by rfl) HT5.out hs1 rfl tkZ_one ?_;intro w6 hT6 hb6 ho6 hz6;have HA6:Hid (Blk w6 (g+1+1) 125 auZ):=Lib.hid ((ho6 (g+1+1) (by omega)).trans HA5.out))
  | (refine stBlk 125 (.tmp 5) (.tmp 20) rfl rfl (by rfl) (by rfl) HA6.out hs2 rfl auZ_one ?_;intro w7 hA7 hb7 ho7 hz7))
 have hT7:Blk w7 (g+1) 123 tkZ:=(ho7 (g+1) (by omega)).trans hT6
 have hbl:Below w.heap.size w w7:=HB5.trans ((hb6.mono (by have:=HG.out;omega)).trans (hb7.mono (by have:=HG.out;omega)))
 refine bodyPost_ret (results_ccT (P:=Tryz.prog) rfl _ rfl hT7.range Tryz.underlying123 rfl (by rw[Array.length_toList];exact hs1) rfl hA7.range Tryz.underlying125 rfl (by rw[Array.length_toList];exact hs2)) rfl ?_
 exact⟨rfl,hbl⟩
def attC(gv:Nat)(bv:Value)(tk au:List Value):List Value:=[.pointer (some ⟨gv,0,none⟩),bv]++tk++au
theorem blk_mid{g:Nat}{t:TypeId}:∀(new pre mid post:List Value) {w:World},mid.length=new.length→Blk w g t (pre++mid++post).toArray→Blk (w.setCells g pre.length new) g t (pre++new++post).toArray
 | [],pre,mid,post,w,hl,h=>by
  obtain rfl:mid=[]:=List.eq_nil_of_length_eq_zero hl
  exact h
 | u :: new,pre,[],post,w,hl,h=>by simp at hl
 | u :: new,pre,m :: mid,post,w,hl,h=>by
  have h1:=h.set_ pre.length u
  rw[List.setIfInBounds_toArray,List.append_assoc,List.set_append,if_neg (by omega),Nat.sub_self] at h1
  have h2:Blk (w.setCell ⟨g,pre.length,none⟩ u) g t ((pre++[u])++mid++post).toArray:=by simpa using h1
  have h3:=blk_mid new (pre++[u]) mid post (by simpa using hl) h2
  rw[List.length_append] at h3
  have e:pre++u :: new++post=(pre++[u])++new++post:=by simp
  rw[e]
  exact h3
theorem off_setCells(g:Nat):∀(vs:List Value) (o:Nat) {w W:World},Off g w W→Off g w (W.setCells g o vs)
 | [],o,w,W,h=>h
 | u :: vs,o,w,W,h=>off_setCells g vs (o+1) (h.set o u)
theorem attC_length{gv:Nat}{bv:Value}{tk au:List Value}(h1:tk.length=20)(h2:au.length=5):(attC gv bv tk au).length=27:=by unfold attC;rw[List.length_append,List.length_append,h1,h2];rfl
theorem there_att{w:World}{g n o:Nat}{t:TypeId}{cs:List Value}(h:Blk w g t cs.toArray)(hn:o+n≤cs.length):w.there g o n:=fun j hj=>⟨by rw[h.cell,List.getElem?_toArray,List.getElem?_eq_getElem (by omega)];rfl,h.frozen _⟩
structure AtX(ga gv:Nat)(bv:Value)(key:Nat→Nat)(W:World):Prop where
 c0:W.cell? ⟨ga,0,none⟩=some (.pointer (some ⟨gv,0,none⟩))
 c1:W.cell? ⟨ga,1,none⟩=some bv
 k:W.rangeAt gv 0 (arr 16 (c8 key))
theorem atX{ga gv:Nat}{bv:Value}{tk au:List Value}{key:Nat→Nat}{W:World}(h:Blk W ga 209 (attC gv bv tk au).toArray)(hk:W.rangeAt gv 0 (arr 16 (c8 key))):AtX ga gv bv key W:=
 ⟨(h.cell 0).trans rfl,(h.cell 1).trans rfl,hk⟩
theorem a_open{P:List Value→List Value→Int→World→Prop}{ga gv:Nat}{A:Option Addr}{n cap:Nat}{tk0 au0:List Value}{key:Nat→Nat}{w:World}(hB:Blk w ga 209 (attC gv (.slice A n cap) tk0 au0).toArray)(ht0:tk0.length=20)(ha0:au0.length=5)(hk:w.rangeAt gv 0 (arr 16 (c8 key)))(hne:gv≠ga)
  (hRO:∀ W,Below w.heap.size w W→Calls Tryz.prog 71 #[.agg (arr 16 (c8 key)).toArray,.slice A n cap] W fun e W'=>∃ tk au c,e = .returned (.tuple #[.agg tk.toArray,.agg au.toArray,.int .i64 c])∧P tk au c W'∧Below W.heap.size W W')
  (hP:∀ tk au c W,P tk au c W→tk.length=20∧au.length=5∧(∀ u∈tk,u.oneCell'=true)∧(∀ u∈au,u.oneCell'=true)) (hS:∀ tk au c W W',P tk au c W→Off ga W W'→P tk au c W'):
  Calls Tryz.prog 104 #[.pointer (some ⟨ga,0,none⟩)] w fun e w'=>∃ tk au c,e = .returned (.int .i64 c)∧P tk au c w'∧Blk w' ga 209 (attC gv (.slice A n cap) tk au).toArray∧Off ga w w':=by
 have HB:=Lib.hid hB
 have HK:=Lib.hid hk
 have HRO:=Lib.hid (hRO w.drew ((Below.refl _ _).drew))
 have HP:=Lib.hid hP
 have HS:=Lib.hid hS
 have HL:=Lib.hid (And.intro ht0 ha0)
 have HX:Hid (AtX ga gv (.slice A n cap) key w.drew):=Lib.hid (atX (show Blk w.drew ga _ _ from hB) hk)
 clear hB hk hRO hP hS ht0 ha0
 go_enter Tryz.func104,Tryz.ntmps104
 go_upto_region 2 with fail
 -- region
 refine kZ (n:=25) (AtX ga gv (.slice A n cap) key) (HX.out) (h:=fun hH=>?_)
 refine kM 0 (some 5) (.pointer (some ⟨ga,0,none⟩)) (h:=?_)
 simp only[p1,p2,p3,p4,p5]
 refine kM 1 (some 6) (.pointer (some ⟨ga,0,none⟩)) (h:=?_)
 simp only[p1,p2,p3,p4,p5]
 refine kM 2 (some 7) (.pointer (some ⟨ga,0,none⟩)) (h:=?_)
 simp only[p1,p2,p3,p4,p5]
 refine kT 3 (some 8) (.pointer (some ⟨ga,0,none⟩)) (h:=?_)
 simp only[p1,p2,p3,p4,p5]
 refine kT 4 (some 9) (.pointer (some ⟨ga,0,none⟩)) (h:=?_)
 simp only[p1,p2,p3,p4,p5]
 refine kC 5 (some 10) (v:=.pointer (some ⟨gv,0,none⟩)) (fun W hX=>hX.c0) (h:=?_)
 simp only[p1,p2,p3,p4,p5]
 refine kT 6 (some 11) (.pointer (some ⟨gv,0,none⟩)) (h:=?_)
 simp only[p1,p2,p3,p4,p5]
 refine kT 7 (some 12) (.pointer (some ⟨gv,0,none⟩)) (h:=?_)
 simp only[p1,p2,p3,p4,p5]
 refine kL 8 (some 13) (cs:=arr 16 (c8 key)) (fun W hX=>hX.k) (arr_length _ _) (h:=?_)
 simp only[p1,p2,p3,p4,p5]
 refine kM 9 (some 14) (.pointer (some ⟨ga,0,none⟩)) (h:=?_)
 simp only[p1,p2,p3,p4,p5]
 refine kT 10 (some 15) (.pointer (some ⟨ga,0,none⟩)) (h:=?_)
 simp only[p1,p2,p3,p4,p5]
 refine kT 11 (some 16) (.pointer (some ⟨ga,1,none⟩)) (h:=?_)
 simp only[p1,p2,p3,p4,p5]
 refine kC 12 (some 17) (v:=.slice A n cap) (fun W hX=>hX.c1) (h:=?_)
 simp only[p1,p2,p3,p4,p5]
 refine kF 13 (some 18) ((HRO.out).mono ?_)
 rintro e w2 ⟨tk,au,c,rfl,hp,hb⟩
 obtain⟨q1,q2,q3,q4⟩:=HP.out _ _ _ _ hp
 have HB2:Hid (Blk w2 ga 209 (attC gv (.slice A n cap) tk0 au0).toArray):=Lib.hid (Blk.keep (show Blk w.drew ga _ _ from HB.out) hb)
 have HK2:Hid (w2.rangeAt gv 0 (arr 16 (c8 key))):=Lib.hid (fun j u hj=>Below.cell' hb (HK.out j u hj))
 have HX2:=Lib.hid (atX HB2.out HK2.out)
 have HPP:=Lib.hid hp
 have HBB:=Lib.hid hb
 clear hp hb
 refine⟨_,rfl,HX2.out,fun hH=>?_⟩
 simp only[p1,p2,p3,p4,p5]
 refine kM 14 (some 4) (.tuple #[.agg tk.toArray,.agg au.toArray,.int .i64 c]) (h:=?_)
 simp only[p1,p2,p3,p4,p5]
 refine kT 15 (some 19) (.agg tk.toArray) (h:=?_)
 simp only[p1,p2,p3,p4,p5]
 refine kT 16 (some 20) (.agg au.toArray) (h:=?_)
 simp only[p1,p2,p3,p4,p5]
 refine kT 17 (some 21) (.int .i64 c) (h:=?_)
 simp only[p1,p2,p3,p4,p5]
 refine kT 18 (some 22) (.pointer (some ⟨ga,0,none⟩)) (h:=?_)
 simp only[p1,p2,p3,p4,p5]
 refine kT 19 (some 23) (.pointer (some ⟨ga,2,none⟩)) (h:=?_)
 simp only[p1,p2,p3,p4,p5]
 have hL1:=HL.out.1
 have hL2:=HL.out.2
 have hb3:Blk (w2.setCells ga 2 tk) ga 209 (attC gv (.slice A n cap) tk au0).toArray:=blk_mid tk [.pointer (some ⟨gv,0,none⟩),.slice A n cap] tk0 au0 (by omega) HB2.out
 have ho3:Off ga w2 (w2.setCells ga 2 tk):=off_setCells ga tk 2 (Off.refl ga w2)
 have hk3:(w2.setCells ga 2 tk).rangeAt gv 0 (arr 16 (c8 key)):=fun j u hj=>ho3.cell (HK2.out j u hj) hne
 have hx3:=atX hb3 hk3
 refine kR 20 none (n:=20) (cs:=tk) (there_att HB2.out (by rw[attC_length hL1 hL2];omega)) q1 q3 hx3 (h:=?_)
 simp only[p1,p2,p3,p4,p5]
 refine kT 21 (some 24) (.pointer (some ⟨ga,0,none⟩)) (h:=?_)
 simp only[p1,p2,p3,p4,p5]
 refine kT 22 (some 25) (.pointer (some ⟨ga,22,none⟩)) (h:=?_)
 simp only[p1,p2,p3,p4,p5]
 have hb4:Blk ((w2.setCells ga 2 tk).setCells ga 22 au) ga 209 (attC gv (.slice A n cap) tk au).toArray:=by
  have h:=blk_mid au ([.pointer (some ⟨gv,0,none⟩),.slice A n cap]++tk) au0 [] (by omega) (by simpa [attC] using hb3)
  have e:([Value.pointer (some ⟨gv,0,none⟩),.slice A n cap]++tk).length=22:=by simp only[List.length_append,List.length_cons,List.length_nil];omega
  rw[e,List.append_nil] at h
  exact h
 have ho4:Off ga w2 ((w2.setCells ga 2 tk).setCells ga 22 au):=off_setCells ga au 22 ho3
 have hk4:((w2.setCells ga 2 tk).setCells ga 22 au).rangeAt gv 0 (arr 16 (c8 key)):=fun j u hj=>ho4.cell (HK2.out j u hj) hne
 have hx4:=atX hb4 hk4
 refine kR 23 none (n:=5) (cs:=au) (there_att hb3 (by rw[attC_length q1 hL2];omega)) q2 q4 hx4 (h:=?_)
 simp only[p1,p2,p3,p4,p5]
 refine kT 24 (some 3) (.int .i64 c) (h:=?_)
 simp only[p1,p2,p3,p4,p5]
 refine kE (h:=?_)
 obtain⟨w9,hw9⟩:∃ W,W=(w2.setCells ga 2 tk).setCells ga 22 au:=⟨_,rfl⟩
 rw[← hw9] at hb4 ho4 ⊢
 have hblk:=hb4
 have hoff:Off ga w w9:=(Off.of_below (b:=ga) ((Below.refl _ w).drew)).trans ((Off.of_below HBB.out).trans ho4)
 have hp9:=HS.out _ _ _ _ _ HPP.out ho4
 clear hw9 hx3 hx4 hk3 hk4 hb3 ho3 hb4 ho4 hH q1 q2 q3 q4 hL1 hL2
 -- end of region
 have hbf:=hblk
 have hof:=hoff
 have hpf:=hp9
 have HBF:=Lib.hid hbf
 have HOF:=Lib.hid hof
 have HPF:=Lib.hid hpf
 clear hbf hof hpf hblk hoff hp9
 go_wp2_with fail
 go_ret
 exact⟨_,_,_,rfl,HPF.out,HBF.out,HOF.out⟩
end
end Go.Proofs.YtiaigidbcljblaaGreatDoor
