import Derived.Test.YtiaigidbcljblaaGreatDoorME29
import Derived.Test.YtiaigidbcljblaaGreatDoorME30
import Derived.Test.YtiaigidbcljblaaGreatDoorME2
set_option linter.unusedVariables false
set_option linter.unusedSimpArgs false
set_option maxRecDepth 100000
set_option maxHeartbeats 40000000
namespace Go.Proofs.YtiaigidbcljblaaGreatDoor
section
open Go.RowKit
attribute [local irreducible] wpQuiet wpAnyH
theorem conf_cells{w:World}{g:Nat}{c:ConfD}(h:Blk w g 45 (confC c).toArray):w.cell? ⟨g,16,none⟩=some (.int .i64 c.skew)∧w.cell? ⟨g,17,none⟩=some (.int .i64 c.sec)∧w.rangeAt g 0 (arr 16 (c8 c.key)):=by
 have h1:∀ j,(confC c).toArray[16+j]? = [Value.int .i64 c.skew,.int .i64 c.sec][j]?:=fun j=>by
  unfold confC
  rw[List.getElem?_toArray,List.getElem?_append_right (by rw[arr_length];omega),arr_length,Nat.add_sub_cancel_left]
 refine⟨(h.cell 16).trans (h1 0),(h.cell 17).trans (h1 1),fun j u hj=>?_⟩
 have hl:j<16:=by
  have:=(List.getElem?_eq_some_iff.1 hj).1
  rwa [arr_length] at this
 have h2:=h.cell j
 rw[Nat.zero_add,h2]
 unfold confC
 rw[List.getElem?_toArray,List.getElem?_append_left (by rw[arr_length];exact hl),hj]
theorem confC_length(c:ConfD):(confC c).length=18:=by unfold confC;rw[List.length_append,arr_length];rfl
theorem eright_any(c:ConfD)(w:World):Calls Tryz.prog 17 #[.agg (confC c).toArray] w fun e w'=>e = .returned (.bool (rightC c))∧Below w.heap.size w w':=by
 obtain⟨w1,hw1⟩:∃ W,W=w.alloc (.cells (confC c).toArray 45):=⟨_,rfl⟩
 have HB:Hid (Below w.heap.size w w1):=Lib.hid (by rw[hw1];exact bel1 _ _)
 obtain⟨k16,k17,_⟩:=conf_cells (w:=w1) (g:=w.heap.size) (c:=c) (by rw[hw1];exact Blk.new _ _ _)
 obtain⟨b,hb⟩:∃ b,b=rightC c:=⟨_,rfl⟩
 rw[← hb]
 obtain⟨K,hK⟩:∃ K,K=confC c:=⟨_,rfl⟩
 rw[← hK] at hw1 ⊢
 obtain⟨key,sk,sc⟩:=c
 simp only at k16 k17
 have HR:Hid (b=(decide (1≤sk) && (decide (sk≤1073741824) && (decide (2≤sc) && decide (sc≤4096))))):=Lib.hid hb
 clear hb hK
 rcases Int.lt_or_le sk 1 with t1|t1
 ·have HF:Hid (false=b):=Lib.hid (by rw[HR.out,decide_eq_false (by omega)];rfl)
  have u1:¬1≤sk:=by omega
  go_enter Tryz.func17,Tryz.ntmps17
  go_upto_region 1 with fail
  rw[← hw1]
  clear hw1
  go_wp2_with fail
  go_ret
  exact⟨by rw[← HF.out];rfl,HB.out⟩
 rcases Int.lt_or_le 1073741824 sk with t2|t2
 ·have HF:Hid (false=b):=Lib.hid (by rw[HR.out,decide_eq_true t1,decide_eq_false (by omega)];rfl)
  have u1:¬sk≤1073741824:=by omega
  go_enter Tryz.func17,Tryz.ntmps17
  go_upto_region 1 with fail
  rw[← hw1]
  clear hw1
  go_wp2_with fail
  go_ret
  exact⟨by rw[← HF.out];rfl,HB.out⟩
 rcases Int.lt_or_le sc 2 with t3|t3
 ·have HF:Hid (false=b):=Lib.hid (by rw[HR.out,decide_eq_true t1,decide_eq_true t2,decide_eq_false (by omega)];rfl)
  have u1:¬2≤sc:=by omega
  go_enter Tryz.func17,Tryz.ntmps17
  go_upto_region 1 with fail
  rw[← hw1]
  clear hw1
  go_wp2_with fail
  go_ret
  exact⟨by rw[← HF.out];rfl,HB.out⟩
 rcases Int.lt_or_le 4096 sc with t4|t4
 ·have HF:Hid (false=b):=Lib.hid (by rw[HR.out,decide_eq_true t1,decide_eq_true t2,decide_eq_true t3,decide_eq_false (by omega)];rfl)
  have u1:¬sc≤4096:=by omega
  go_enter Tryz.func17,Tryz.ntmps17
  go_upto_region 1 with fail
  rw[← hw1]
  clear hw1
  go_wp2_with fail
  go_ret
  exact⟨by rw[← HF.out];rfl,HB.out⟩
 ·have HF:Hid (true=b):=Lib.hid (by rw[HR.out,decide_eq_true t1,decide_eq_true t2,decide_eq_true t3,decide_eq_true t4];rfl)
  go_enter Tryz.func17,Tryz.ntmps17
  go_upto_region 1 with fail
  rw[← hw1]
  clear hw1
  go_wp2_with fail
  go_ret
  exact⟨by rw[← HF.out];rfl,HB.out⟩
end
section
open Go.RowKit
section
variable {P : Program} {ops : Array Oper} {Q : Exit → Act → World → Prop} {S : World → Prop} {a : Act} {w : World} {listed : Array Bool} {fuel : Nat}
theorem rF{rs:List Nat}(i:Nat)(dst:Option Tmp){o:Oper}{f:FuncId}{args:Array Value}(h:Calls P f args w fun e w'=>∃ v,e = .returned v∧S w'∧(S w'→wpAnyH P .any ops Q S fuel (listed.setIfInBounds i true) (a.put dst v) w'))
  (hs:AllReadyH P .any ops Q S fuel listed a w rs) (ho:ops[i]? = some o:=by rfl) (hdst:o.dst=dst:=by rfl) (hw:Region.wanted o (yielded ops a.tmps)=true:=by kernel_rfl)
  (hent:(execOp a.eval o).run P w = .ok (.enter f args) w:=by unfold execOp;go_simp):AllReadyH P .any ops Q S fuel listed a w (i :: rs):=by
 subst hdst
 refine AllReadyH.cons ho (fun K hK=>?_) hs
 rw[if_pos hw]
 unfold Oper.wp
 rw[hent,Oper.upon_enter]
 refine h.mono ?_
 rintro e w' ⟨v,rfl,hS,hk⟩
 exact hK.out _ _ hS hk
theorem rA{rs:List Nat}(i:Nat)(dst:Option Tmp)(zs:Array Value){ty:TypeId}(hz:∀ w,(zeroValue ty).run P w = .ok (.agg zs) w)(hS:S (w.alloc (.cells zs ty)))
  (h:wpAnyH P .any ops Q S fuel (listed.setIfInBounds i true) (a.put dst (.pointer (some ⟨w.heap.size,0,none⟩))) (w.alloc (.cells zs ty)))
  (hs:AllReadyH P .any ops Q S fuel listed a w rs) {o:Oper} (ho:ops[i]? = some o:=by rfl) (hdst:o.dst=dst:=by rfl) (hop:o.op = .alloc ty:=by rfl) (hw:Region.wanted o (yielded ops a.tmps)=true:=by kernel_rfl):AllReadyH P .any ops Q S fuel listed a w (i :: rs):=by
 subst hdst
 refine AllReadyH.cons ho (fun K hK=>?_) hs
 rw[if_pos hw]
 unfold Oper.wp
 have:(execOp a.eval o).run P w = .ok (.value (.pointer (some ⟨w.heap.size,0,none⟩))) (w.alloc (.cells zs ty)):=by
  unfold execOp
  simp only[hop]
  unfold Instr.alloc newVar newRow
  simp[Sem.run_bind,hz,Value.cells]
 rw[this,Oper.upon_value]
 exact hK.out _ _ hS (fun _=>h)
end
end
section
open Go.RowKit
attribute [local irreducible] wpQuiet wpAnyH
def VerOK(V:VerF)(D:Bs→Prop)(T:World→Prop)(key:Nat→Nat)(skew:Int):Prop:=∀(w0 w:World) (gv g9 gm k N:Nat) (s:VS) (X:Nat→Prop) (x:OpR),T w0→D x.o.data→x.o.data.length≤131072→OpI w0 x→k≤50→VE w0 w gv g9 k N key skew s X→Blk w gm 106 (machC key g9 gv)→X gm →
 Calls Tryz.prog 43 #[.pointer (some ⟨gm,0,none⟩),.agg (opC x).toArray] w (MP w0 w gv g9 (k+1) N key skew X (V s (dataI x.o.data)))
def doC:Array Value:=#[.nilFunc,.func (.func 41) #[] #[],.func (.func 42) #[] #[],.func (.func 43) #[] #[],.func (.func 44) #[] #[],.func (.func 45) #[] #[],.func (.func 46) #[] #[]]
theorem MP.up{w0 w:World}{gv g9 k k' N:Nat}{key:Nat→Nat}{skew:Int}{X:Nat→Prop}{r:(Int×List Int)×VS}{e:Ending}{w':World}(h:MP w0 w gv g9 k N key skew X r e w')(hk:k≤k'):MP w0 w gv g9 k' N key skew X r e w':=⟨h.1,h.2.1.up hk,h.2.2⟩
theorem rightB_kind{o:OpD}(h:rightB o=true):o.kind=1∨o.kind=2∨o.kind=3∨o.kind=4∨o.kind=5∨o.kind=6:=by
 unfold rightB at h
 simp only[Bool.and_eq_true] at h
 have h2:=h.2.2
 split at h2
 ·omega
 split at h2
 ·omega
 split at h2
 ·omega
 split at h2
 ·omega
 split at h2
 ·omega
 split at h2
 ·omega
 ·cases h2
theorem rightB_n{o:OpD}(h:rightB o=true):0≤o.n∧o.n≤1099511627776∧(o.kind=5∨o.kind=6→o.n≤1048576)∧o.data.length≤131072∧(o.kind=6→o.cuts.length≤20):=by
 unfold rightB at h
 simp only[Bool.and_eq_true,Bool.or_eq_true,beq_iff_eq] at h
 obtain⟨hd,hc,h2⟩:=h
 have hdl:o.kind≠3→o.data.length≤131072:=fun hn=>by
  rcases hd with h|h
  ·exact absurd h hn
  ·rw[List.isEmpty_iff.1 h];simp
 split at h2
 ·simp at h2
  exact⟨h2.1,h2.2,fun h=>by omega,hdl (by omega),fun h=>by omega⟩
 split at h2
 ·simp at h2
  exact⟨by omega,by omega,fun h=>by omega,hdl (by omega),fun h=>by omega⟩
 split at h2
 ·simp at h2
  exact⟨by omega,by omega,fun h=>by omega,h2.2,fun h=>by omega⟩
 split at h2
 ·simp at h2
  exact⟨by omega,by omega,fun h=>by omega,hdl (by omega),fun h=>by omega⟩
 split at h2
 ·simp at h2
  exact⟨by omega,by omega,fun _=>by omega,hdl (by omega),fun h=>by omega⟩
 split at h2
 ·simp at h2
  exact⟨by omega,by omega,fun _=>by omega,hdl (by omega),fun h=>h2.2.2.2⟩
 ·cases h2
theorem do_op{V:VerF}{D:Bs→Prop}{T:World→Prop}{c:ConfD}(hV:VerOK V D T c.key c.skew)(x:OpR)(hr:rightB x.o=true)(hD:x.o.kind=3→D x.o.data):
  ∃ f,doC[x.o.kind.toNat]? = some (.func (.func f) #[] #[])∧(∀ args w,(callFunc f args).run Tryz.prog w = .ok (.enter f args) w) ∧
   ∀(w0 w:World) (gv g9 gm k N:Nat) (s:VS) (X:Nat→Prop),T w0→OpI w0 x→k≤50→VE w0 w gv g9 k N c.key c.skew s X→Blk w gm 106 (machC c.key g9 gv)→X gm →
    Calls Tryz.prog f #[.pointer (some ⟨gm,0,none⟩),.agg (opC x).toArray] w (MP w0 w gv g9 (k+1) N c.key c.skew X (actS V c.skew s x.o)):=by
 obtain⟨h1,h2,h3,h4,h5⟩:=rightB_n hr
 have hk:=rightB_kind hr
 obtain⟨⟨kd,n,d,cs⟩,A,ca,B,cb⟩:=x
 simp only at h1 h2 h3 h4 h5 hk hD
 rcases hk with rfl|rfl|rfl|rfl|rfl|rfl
 ·refine⟨41,rfl,fun _ _=>by kernel_rfl,fun w0 w gv g9 gm k N s X hT hI hk hv hm hX=>?_⟩
  exact(m_tick (n:=n) ⟨by omega,by omega⟩ hv hm hX).mono fun e w' h=>h.up (Nat.le_succ _)
 ·refine⟨42,rfl,fun _ _=>by kernel_rfl,fun w0 w gv g9 gm k N s X hT hI hk hv hm hX=>?_⟩
  exact m_boot (by omega) hv hm hX
 ·refine⟨43,rfl,fun _ _=>by kernel_rfl,fun w0 w gv g9 gm k N s X hT hI hk hv hm hX=>?_⟩
  exact hV w0 w gv g9 gm k N s X ⟨⟨3,n,d,cs⟩,A,ca,B,cb⟩ hT (hD rfl) h4 hI hk hv hm hX
 ·refine⟨44,rfl,fun _ _=>by kernel_rfl,fun w0 w gv g9 gm k N s X hT hI hk hv hm hX=>?_⟩
  exact m_compact (by omega) hv hm hX
 ·refine⟨45,rfl,fun _ _=>by kernel_rfl,fun w0 w gv g9 gm k N s X hT hI hk hv hm hX=>?_⟩
  exact m_fail (n:=n) (by have:=h3 (by omega);omega) (by omega) hv hm hX
 ·refine⟨46,rfl,fun _ _=>by kernel_rfl,fun w0 w gv g9 gm k N s X hT hI hk hv hm hX=>?_⟩
  exact m_crash (n:=n) cs rfl (hI.2.below hv.bel) (Nat.le_trans (h5 rfl) (by omega)) (by have:=h3 (by omega);omega) (by omega) hv hm hX
end
end Go.Proofs.YtiaigidbcljblaaGreatDoor
