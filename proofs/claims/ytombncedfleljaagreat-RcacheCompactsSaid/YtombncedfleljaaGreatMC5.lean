import Derived.Great.BuildSlice
import Derived.Test.YtombncedfleljaaGreatMC4
import Derived.BigQuiet
set_option linter.unusedSimpArgs false
set_option maxRecDepth 100000
set_option maxHeartbeats 40000000
namespace Go.Proofs.YtombncedfleljaaGreat
section
open Go.RowKit
theorem qZ(pre mid post new:List Value)(hl:mid.length=new.length):
  ((new.zipIdx pre.length).foldl (fun(cs:Array Value) (x:Value×Nat)=>cs.setIfInBounds x.2 x.1) (pre++mid++post).toArray)=(pre++new++post).toArray:=by
 apply Array.ext_getElem?;intro i;rw[i8];simp only[List.getElem?_toArray,js,List.length_append];split
 ·rename_i h;rw[List.append_assoc,List.getElem?_append_right (by omega),List.getElem?_append_left (by omega)]
 ·rename_i h;rcases Nat.lt_or_ge i pre.length with h1|h1
  ·rw[List.append_assoc,List.getElem?_append_left h1,List.append_assoc,List.getElem?_append_left h1]
  ·rw[List.append_assoc,List.append_assoc,List.getElem?_append_right h1,List.getElem?_append_right h1];rcases Nat.lt_or_ge (i-pre.length) new.length with h2|h2
   ·have:¬i<pre.length+mid.length+post.length:=fun h3=>h ⟨h1,by omega,h3⟩
    omega
   ·rw[List.getElem?_append_right (by omega),List.getElem?_append_right (by omega),hl]
section
variable {P : Program} {ops : Array Oper} {Q : Exit → Act → World → Prop} {S : World → Prop} {a : Act} {w : World} {listed : Array Bool} {fuel : Nat}
theorem lE(i:Nat)(t:TypeId)(parts:Array (Nat×Operand))(dst:Option Tmp){vs:List (Nat×Value)}{cells:Array Value}(hd:(ops[i]?).map (fun o=>(o.op,o.dst))=some (.build t parts,dst))(hw:(ops[i]?).map (fun o=>Region.wanted o (yielded ops a.tmps))=some true)
  (hs:Region.noSelect ops=true) (hf:Region.free .any ops listed i=true) (hr:(Region.ready .any ops listed).contains i=true)
  (hQ:∀ c a w,Q (.panic c) (a.put dst (.agg cells)) w→Q (.panic c) a w) (hv:(parts.toList.map fun(i,x)=>(i,a.eval x))=vs) (hb:P.built t vs=some cells) (hS:S w)
  (h:wpAnyH P .any ops Q S fuel (listed.setIfInBounds i true) (a.put dst (.agg cells)) w):wpAnyH P .any ops Q S (fuel+1) listed a w:=
 BW i _ dst _ hd hw hs hf hr hQ (fun o ho w _=>by
  rw[← Array.toList_map] at hv
  unfold execOp
  simp only[ho,Sem.run_bind,run_build w t _ cells (by rw[hv];exact hb),Result.andThen_ok]
  rfl) hS h
theorem DV(s:Nat)(Z:Array Value)(cs:List Value)(hZ:Z.size=s)(hl:cs.length=s):Instr.fill (fun i=>some (i*s,s)) Z [(0,.agg cs.toArray)]=some cs.toArray:=by
 have h1:(Value.agg cs.toArray).cells=cs.toArray:=rfl;have h2:=qZ [] Z.toList [] cs (by simp[hZ,hl]);simp only[List.nil_append,List.append_nil,List.length_nil,Array.toArray_toList] at h2;simp[Instr.fill,h1,hl];exact⟨Nat.le_of_eq hZ.symm,h2⟩
theorem lF{t e s bytes:Nat}(T:SlT P t e s bytes)(cs:List Value)(hl:cs.length=s)(hs:s≤1000)(w:World):(Instr.buildSlice t 1 #[(0,.agg cs.toArray)]).run P w = .ok (.slice (some ⟨w.heap.size,0,none⟩) 1 1) (w.alloc (.cells cs.toArray e)):=by
 obtain⟨i,z,hi,hz,hsi,hby,hzs⟩:=T.hi;have:=T.hs;refine run_buildSlice w t e 1 _ cs.toArray i z T.ht hi hz (by rw[hsi];omega) (by rw[hsi];omega) ?_;rw[hsi];exact DV s _ cs (by simp) hl
theorem eB{rs:List Nat}(i:Nat){t e s bytes:Nat}(T:SlT P t e s bytes)(x:Operand)(dst:Option Tmp)(hd:(ops[i]?).map (fun o=>(o.op,o.dst))=some (.buildSlice t 1 #[(0,x)],dst))(hw:(ops[i]?).map (fun o=>Region.wanted o (yielded ops a.tmps))=some true)
  {cs:List Value} (hx:a.eval x = .agg cs.toArray) (hl:cs.length=s) (hs1:s≤1000) (hS:S (w.alloc (.cells cs.toArray e)))
  (h:wpAnyH P .any ops Q S fuel (listed.setIfInBounds i true) (a.put dst (.slice (some ⟨w.heap.size,0,none⟩) 1 1)) (w.alloc (.cells cs.toArray e))) (hs:AllReadyH P .any ops Q S fuel listed a w rs):AllReadyH P .any ops Q S fuel listed a w (i :: rs):=
 tT i _ dst _ _ hd hw (fun o ho=>by
  have hrun:=lF T cs hl hs1 w
  unfold execOp
  simp only[ho,Sem.run_bind,List.map_toArray,List.map_cons,List.map_nil,hx,hrun,Result.andThen_ok]
  rfl) hS h hs
theorem bZ{rs:List Nat}(i:Nat){t e s bytes:Nat}(T:SlT P t e s bytes)(p q:Operand)(dst:Option Tmp)(hd:(ops[i]?).map (fun o=>(o.op,o.dst))=some (.call { callee:=.builtin .append,args:=#[p,q],argTypes:=#[t,t] },dst))(hw:(ops[i]?).map (fun o=>Region.wanted o (yielded ops a.tmps))=some true)
  {base n m:Nat} {v x:Value} {xs news:List Value} (hv:a.eval p=v) (hown:w.ownsRow base e s v n xs) (hxv:a.eval q=x) (hx:Sn w s x m news)
  (h1:∀ u∈news,u.oneCell'=true) (h63:n+m≤maxLen) (hbytes:(n+m)*bytes≤140737488355328) (hbase:base≤w.heap.size)
  (h:∀ v' w',w'.ownsRow base e s v' (n+m) (xs++news)→w.grownBy w' v.ownBlock→(v'.ownBlock=v.ownBlock∨v'.ownBlock=some w.heap.size)→S w'∧(S w'→wpAnyH P .any ops Q S fuel (listed.setIfInBounds i true) (a.put dst v') w')) (hs:AllReadyH P .any ops Q S fuel listed a w rs):AllReadyH P .any ops Q S fuel listed a w (i :: rs):=by
 cases ho:ops[i]? with
 | none=>rw[ho] at hd;cases hd
 | some o=>
  have hd0:=hd;rw[ho] at hd0;simp only[Option.map_some,Option.some.injEq,Prod.mk.injEq] at hd0;obtain⟨v',w',hrun,h2,h3,h4⟩:=iY (ty:=o.type) T hown hx h1 h63 hbytes hbase;obtain⟨h5,h6⟩:=h v' w' h2 h3 h4;obtain⟨hop,hdst⟩:=hd0;rw[ho] at hw;simp only[Option.map_some,Option.some.injEq] at hw;refine AllReadyH.cons ho (fun K hK=>?_) hs;rw[if_pos hw];unfold Oper.wp execOp;simp only[hop,resolve,invoke,builtin,Sem.run_bind,Sem.run_pure,Result.andThen_ok,List.map_toArray,List.map_cons,List.map_nil,hv,hxv,hrun];rw[Oper.upon_value,hdst];exact hK.out _ _ h5 h6
theorem dH{rs:List Nat}(i:Nat)(op:Op)(dst:Option Tmp)(w2:World)(hd:(ops[i]?).map (fun o=>(o.op,o.dst))=some (op,dst))(hw:(ops[i]?).map (fun o=>Region.wanted o (yielded ops a.tmps))=some true)
  (hrun:∀ o:Oper,o.op=op→(execOp a.eval o).run P w = .ok .skip w2) (hS:S w2)
  (h:wpAnyH P .any ops Q S fuel (listed.setIfInBounds i true) (a.put dst undef) w2) (hs:AllReadyH P .any ops Q S fuel listed a w rs):AllReadyH P .any ops Q S fuel listed a w (i :: rs):=by
 cases ho:ops[i]? with
 | none=>rw[ho] at hd;cases hd
 | some o=>
  rw[ho] at hd hw;simp only[Option.map_some,Option.some.injEq,Prod.mk.injEq] at hd hw;obtain⟨h2,h3⟩:=hd;subst h3;refine AllReadyH.cons ho (fun K hK=>?_) hs;rw[if_pos hw];unfold Oper.wp;rw[hrun o h2];exact hK.out _ _ hS (fun _=>h)
theorem LF{rs:List Nat}(i:Nat){tM tk:TypeId}(p q:Operand)(dst:Option Tmp)(w2:World){vm vk:Value}(hd:(ops[i]?).map (fun o=>(o.op,o.dst))=some (.call { callee:=.builtin .delete,args:=#[p,q],argTypes:=#[tM,tk] },dst))(hw:(ops[i]?).map (fun o=>Region.wanted o (yielded ops a.tmps))=some true)
  (hv:a.eval p=vm) (hq:a.eval q=vk) (hrun:∀ ty,(Builtin.delete_ #[tM,tk] ty #[vm,vk]).run P w = .ok (.tuple #[]) w2) (hS:S w2)
  (h:wpAnyH P .any ops Q S fuel (listed.setIfInBounds i true) (a.put dst (.tuple #[])) w2) (hs:AllReadyH P .any ops Q S fuel listed a w rs):AllReadyH P .any ops Q S fuel listed a w (i :: rs):=by
 cases ho:ops[i]? with
 | none=>rw[ho] at hd;cases hd
 | some o=>
  have hd0:=hd;rw[ho] at hd0;simp only[Option.map_some,Option.some.injEq,Prod.mk.injEq] at hd0;obtain⟨hop,hdst⟩:=hd0;rw[ho] at hw;simp only[Option.map_some,Option.some.injEq] at hw;refine AllReadyH.cons ho (fun K hK=>?_) hs;rw[if_pos hw];unfold Oper.wp execOp;simp only[hop,resolve,invoke,builtin,Sem.run_bind,Sem.run_pure,Result.andThen_ok,List.map_toArray,List.map_cons,List.map_nil,hv,hq,hrun o.type];rw[Oper.upon_value,hdst];exact hK.out _ _ hS (fun _=>h)
theorem KN{rs:List Nat}(i:Nat){tM:TypeId}(m p q:Operand)(dst:Option Tmp)(w2:World){vm vk vx:Value}(hd:(ops[i]?).map (fun o=>(o.op,o.dst))=some (.mapUpdate tM m p q,dst))(hw:(ops[i]?).map (fun o=>Region.wanted o (yielded ops a.tmps))=some true)
  (hm:a.eval m=vm) (hv:a.eval p=vk) (hq:a.eval q=vx) (hrun:(Instr.mapUpdate tM vm vk vx).run P w = .ok () w2) (hS:S w2)
  (h:wpAnyH P .any ops Q S fuel (listed.setIfInBounds i true) (a.put dst undef) w2) (hs:AllReadyH P .any ops Q S fuel listed a w rs):AllReadyH P .any ops Q S fuel listed a w (i :: rs):=
 dH i _ dst w2 hd hw (fun o ho=>by
  unfold execOp
  simp only[ho,Sem.run_bind,hm,hv,hq,hrun,Result.andThen_ok]
  rfl) hS h hs
end
end
section
open Go.RowKit
attribute [local irreducible] wpQuiet wpAnyH
def stepped(d:DiskD):DiskD:={ d with steps:=d.steps+1,fl:=fun k=>if k=((d.steps+1:Nat):Int) then false else d.fl k,cr:=fun k=>if k=((d.steps+1:Nat):Int) then none else d.cr k,room:=max d.room (d.steps+1) }
def fR(m:DiskM)(d:DiskD):DiskM:={ m with fv:=pT m.fv ((d.steps+1:Nat):Int),cv:=pT m.cv ((d.steps+1:Nat):Int) }
def gK(d:DiskD):Int:=if (d.cr ((d.steps+1:Nat):Int)).isSome then 2 else if d.fl ((d.steps+1:Nat):Int) then 1 else 0
def d7(d:DiskD):List Int:=(d.cr ((d.steps+1:Nat):Int)).getD []
theorem LG:∀ w,(zeroValue 4).run Tryz.prog w = .ok (.bool false) w:=fun w=>by kernel_rfl
theorem LH:∀ w,(zeroValue 29).run Tryz.prog w = .ok (.slice none 0 0) w:=fun w=>by kernel_rfl
theorem tW(w:World)(m:DiskM)(d:DiskD)(h:DK w m d)(hs:d.steps+1≤100000):
  Calls Tryz.prog 89 #[.pointer (some ⟨m.g,0,none⟩)] w fun e w'=>∃ v,e = .returned (.tuple #[.int .i64 (gK d),v])∧Sn w' 1 v (d7 d).length (eR (d7 d))∧(∀ b,v.ownBlock=some b→b ∉ bJ m∧b<w'.heap.size)∧DK w' (fR m d) (stepped d)∧DT w m w' (fR m d):=by
 have H:=jz h;have hgl:=h.blk.lt;have hc4:=h.blk.cell 4;have hf4:=h.blk.frozen 4;simp only[eG,List.getElem?_toArray,List.getElem?_cons_succ,List.getElem?_cons_zero] at hc4;clear h;obtain⟨s,hs1⟩:=je d.steps;have hsb:s+1≤100000:=by omega
 rw[← hs1] at hc4;have HS:=jz hs1;have hk:aK ((s+1:Nat):Int):=by unfold aK;omega
 obtain⟨w1,hw1⟩:=je (w.setCell ⟨m.g,4,none⟩ (.int .i64 ((s+1:Nat):Int)));have hB1:Blk w1 m.g 77 #[m.sv,m.ov,.map (some m.bl),.bool d.down,.int .i64 ((s+1:Nat):Int),.map (some m.bf),.map (some m.bc)]:=by rw[hw1];exact H.out.blk.set_ 4 _
 have HO1:Hid (∀ k,k≠m.g→w1.heap[k]? = w.heap[k]?):=jz (fun k hk=>by rw[hw1];exact Below.heap_setCell w ⟨m.g,4,none⟩ _ k hk);have HZ1:Hid (w1.heap.size=w.heap.size):=jz (by rw[hw1];simp);have HFO1:Hid (Fo (bJ m) w w1):=jz (by rw[hw1];exact Fo.refl.set m.g 4 (fU m) _);have HN:=jz (gG H.out.nd);have HUF:Hid (UM w1 m.bf d.room m.fv):=jz (H.out.fl.of_block (HO1.out _ (fun e=>HN.out.2.1 e.symm)));have HUC:Hid (UM w1 m.bc d.room m.cv):=jz (H.out.cr.of_block (HO1.out _ (fun e=>HN.out.2.2.1 e.symm)));have hflv:=H.out.flv ((s+1:Nat):Int) hk;have HSB:=jz hB1;have HK:Hid (∀ W:World,W.heap=w1.heap→(∀ n,(Instr.lookup 73 (.map (some m.bf)) (.int .i64 ((s+1:Nat):Int)) false).run Tryz.prog (W.drewN n) = .ok (.bool (d.fl ((s+1:Nat):Int))) (W.drewN n))∧(∀ n,(Instr.lookup 74 (.map (some m.bc)) (.int .i64 ((s+1:Nat):Int)) true).run Tryz.prog (W.drewN n) = .ok (.tuple #[(m.cv ((s+1:Nat):Int)).getD (.slice none 0 0),.bool (m.cv ((s+1:Nat):Int)).isSome]) (W.drewN n))∧W.cell? ⟨m.g,5,none⟩=some (.map (some m.bf))∧W.cell? ⟨m.g,6,none⟩=some (.map (some m.bc))∧W.cell? ⟨m.g,4,none⟩=some (.int .i64 ((s+1:Nat):Int))):=jz (fun W hW=>by
  have hB:Blk W m.g 77 _:=(congrArg (fun h:Array _=>h[m.g]?) hW).trans HSB.out
  refine⟨fun n=>?_,fun n=>?_,hB.cell 5,hB.cell 6,hB.cell 4⟩
  ·have h1:UM (W.drewN n) m.bf d.room m.fv:=HUF.of_block (congrArg (fun h:Array _=>h[m.bf]?) hW)
   have h2:=UM.look1 Tryz.underlying73 h1 (LG _) hk
   rw[hflv] at h2
   exact h2
  ·have h1:UM (W.drewN n) m.bc d.room m.cv:=HUC.of_block (congrArg (fun h:Array _=>h[m.bc]?) hW)
   exact UM.look Tryz.underlying74 h1 (LH _) hk)
 clear hflv hB1;have HW1:Hid (w.setCell ⟨m.g,4,none⟩ (.int .i64 ((s:Int)+1))=w1):=jz hw1.symm;clear hw1 hs1;have hsm:(s:Int)≤100000:=by omega
 go_enter Tryz.func89,Tryz.ntmps89
 go_wp2_with fail
 rw[HW1.out];obtain⟨fb,hfb⟩:=je (d.fl ((s+1:Nat):Int));obtain⟨vo,hvo⟩:=je (m.cv ((s+1:Nat):Int));obtain⟨K,hK⟩:∃ K:Int,K=((s+1:Nat):Int):=⟨_,rfl⟩;rw[← hfb,← hvo,← hK] at HK;rw[← hK] at hk;have HKE:=jz hK;clear hK;obtain⟨hlf,hlc,hc5,hc6,hc4'⟩:=HK.out w1 rfl;have HFB:=jz hfb;have HVO:=jz hvo;clear hfb hvo hc4 hf4
 go_quiet (fail)
 go_wp2_with fail
 obtain⟨w2,hw2⟩:=je (w1.drewN nq);have HH2:Hid (w2.heap=w1.heap∧w2.os=w1.os∧w2.tape=w1.tape∧w2.output=w1.output):=jz (by rw[hw2];exact⟨rfl,rfl,rfl,rfl⟩);rw[← hw2];clear hw2 hlf hlc hc5 hc6 hc4';obtain⟨_,hlc,hc5,hc6,hc4'⟩:=HK.out w2 HH2.out.1
 go_quiet (fail)
 go_wp2_with fail
 obtain⟨w3,hw3⟩:=je (w2.drewN nq);have HH3:Hid (w3.heap=w1.heap∧w3.os=w1.os∧w3.tape=w1.tape∧w3.output=w1.output):=jz (by rw[hw3];exact HH2.out);rw[← hw3];clear hw3 hlc hc5 hc6 hc4' HH2;have HUF3:Hid (UM w3.drew m.bf d.room m.fv):=jz (HUF.of_block (congrArg (fun h:Array _=>h[m.bf]?) HH3.out.1));obtain⟨w4,HRUN4,HUF4,HT4⟩:∃ w4,Hid (∀ ty,(Builtin.delete_ #[73,3] ty #[.map (some m.bf),.int .i64 K]).run Tryz.prog w3.drew = .ok (.tuple #[]) w4)∧Hid (UM w4 m.bf d.room (pT m.fv K))∧Hid (w3.drew.grownBy w4 (some m.bf)):=by
  obtain⟨w4,h1,h2,h3⟩:=UM.del_run Tryz.underlying73 HUF3.out hk 0;exact⟨w4,jz (fun ty=>h1),jz h2,jz h3.grown⟩
 have HB4:Hid (∀ k,k<w.heap.size→k≠m.bf→w4.heap[k]? = w1.heap[k]?):=jz (fun k hk hn=>(HT4.block k (by have:=congrArg Array.size HH3.out.1;have:=HZ1.out;simp;omega) (fun e=>hn (Option.some.inj e))).trans (congrArg (fun h:Array _=>h[k]?) HH3.out.1));have HBG4:Hid (Blk w4 m.g 77 #[m.sv,m.ov,.map (some m.bl),.bool d.down,.int .i64 ((s+1:Nat):Int),.map (some m.bf),.map (some m.bc)]):=jz ((HB4.out m.g hgl HN.out.2.1).trans HSB.out);have HST4:Hid (w4.cell? ⟨m.g,5,none⟩=some (.map (some m.bf))∧w4.cell? ⟨m.g,4,none⟩=some (.int .i64 K)):=jz ⟨HBG4.cell 5,by rw[HKE.out];exact HBG4.cell 4⟩;refine aQ 9 (fun wz=>wz.cell? ⟨m.g,5,none⟩=some (.map (some m.bf))∧wz.cell? ⟨m.g,4,none⟩=some (.int .i64 K)) (by kernel_rfl) (by kernel_rfl) (⟨(HK.out w3.drew HH3.out.1).2.2.1,(HK.out w3.drew HH3.out.1).2.2.2.2⟩) (fun hH=>?_);refine jM 0 (.tmp 0) (some 35) (.pointer (some ⟨m.g,0,none⟩)) hH ?_;simp only[jq];refine jT 1 (.nilCheck (.tmp 35)) (some 36) (.pointer (some ⟨m.g,0,none⟩)) hH ?_;simp only[jq];refine jT 2 (.fieldAddr 77 (.tmp 36) 5) (some 37) (.pointer (some ⟨m.g,5,none⟩)) hH ?_;simp only[jq];refine jT 3 (.load 73 (.tmp 37)) (some 38) (.map (some m.bf)) (hy:=fun o ho wX hX=>by have hcell:=hX.1;unfold execOp;simp only[ho];go_simp) hH ?_;simp only[jq];refine jM 4 (.tmp 0) (some 39) (.pointer (some ⟨m.g,0,none⟩)) hH ?_;simp only[jq];refine jT 5 (.nilCheck (.tmp 39)) (some 40) (.pointer (some ⟨m.g,0,none⟩)) hH ?_;simp only[jq];refine jT 6 (.fieldAddr 77 (.tmp 40) 4) (some 41) (.pointer (some ⟨m.g,4,none⟩)) hH ?_;simp only[jq];refine jT 7 (.load 3 (.tmp 41)) (some 42) (.int .i64 K) (hy:=fun o ho wX hX=>by have hcell:=hX.2;unfold execOp;simp only[ho];go_simp) hH ?_;simp only[jq];refine jW [8] ?_;refine LF 8 (.tmp 38) (.tmp 42) none w4 (vm:=.map (some m.bf)) (vk:=.int .i64 K) (by kernel_rfl) (by kernel_rfl) (by rfl) (by rfl) HRUN4.out HST4.out ?_ jN;simp only[jq];refine wpAnyH_done (by kernel_rfl) ?_ _;clear hH;go_wp2_with fail
 have HUC4:Hid (UM w4.drew m.bc d.room m.cv):=jz (HUC.of_block (HB4.out m.bc H.out.cr.lt (fun e=>HN.out.2.2.2.2.2.1 e.symm)));have HZ4:Hid (w.heap.size≤w4.heap.size):=jz (by have h1:=HT4.size;have h2:=congrArg Array.size HH3.out.1;have h3:=HZ1.out;simp at h1;omega);have HS5:Hid (w4.drew.cell? ⟨m.g,6,none⟩=some (.map (some m.bc))∧w4.drew.cell? ⟨m.g,4,none⟩=some (.int .i64 K)):=jz ⟨HBG4.cell 6,by rw[HKE.out];exact HBG4.cell 4⟩;obtain⟨w6,HRUN6,HUC6,HT6⟩:∃ w6,Hid (∀ ty,(Builtin.delete_ #[74,3] ty #[.map (some m.bc),.int .i64 K]).run Tryz.prog w4.drew = .ok (.tuple #[]) w6)∧Hid (UM w6 m.bc d.room (pT m.cv K))∧Hid (w4.drew.grownBy w6 (some m.bc)):=by
  obtain⟨w6,h1,h2,h3⟩:=UM.del_run Tryz.underlying74 HUC4.out hk 0;exact⟨w6,jz (fun ty=>h1),jz h2,jz h3.grown⟩
 have HB6:Hid (∀ k,k<w.heap.size→k≠m.bf→k≠m.bc→w6.heap[k]? = w1.heap[k]?):=jz (fun k hk h1 h2=>(HT6.block k (by have:=HZ4.out;simp;omega) (fun e=>h2 (Option.some.inj e))).trans (HB4.out k hk h1));have HBG6:Hid (Blk w6 m.g 77 #[m.sv,m.ov,.map (some m.bl),.bool d.down,.int .i64 ((s+1:Nat):Int),.map (some m.bf),.map (some m.bc)]):=jz ((HB6.out m.g hgl HN.out.2.1 HN.out.2.2.1).trans HSB.out);have HST6:Hid (w6.cell? ⟨m.g,6,none⟩=some (.map (some m.bc))∧w6.cell? ⟨m.g,4,none⟩=some (.int .i64 K)):=jz ⟨HBG6.cell 6,by rw[HKE.out];exact HBG6.cell 4⟩;refine aQ 9 (fun wz=>wz.cell? ⟨m.g,6,none⟩=some (.map (some m.bc))∧wz.cell? ⟨m.g,4,none⟩=some (.int .i64 K)) (by kernel_rfl) (by kernel_rfl) (HS5.out) (fun hH=>?_);refine jM 0 (.tmp 0) (some 43) (.pointer (some ⟨m.g,0,none⟩)) hH ?_;simp only[jq];refine jT 1 (.nilCheck (.tmp 43)) (some 44) (.pointer (some ⟨m.g,0,none⟩)) hH ?_;simp only[jq];refine jT 2 (.fieldAddr 77 (.tmp 44) 6) (some 45) (.pointer (some ⟨m.g,6,none⟩)) hH ?_;simp only[jq];refine jT 3 (.load 74 (.tmp 45)) (some 46) (.map (some m.bc)) (hy:=fun o ho wX hX=>by have hcell:=hX.1;unfold execOp;simp only[ho];go_simp) hH ?_;simp only[jq];refine jM 4 (.tmp 0) (some 47) (.pointer (some ⟨m.g,0,none⟩)) hH ?_;simp only[jq];refine jT 5 (.nilCheck (.tmp 47)) (some 48) (.pointer (some ⟨m.g,0,none⟩)) hH ?_;simp only[jq];refine jT 6 (.fieldAddr 77 (.tmp 48) 4) (some 49) (.pointer (some ⟨m.g,4,none⟩)) hH ?_;simp only[jq];refine jT 7 (.load 3 (.tmp 49)) (some 50) (.int .i64 K) (hy:=fun o ho wX hX=>by have hcell:=hX.2;unfold execOp;simp only[ho];go_simp) hH ?_;simp only[jq];refine jW [8] ?_;refine LF 8 (.tmp 46) (.tmp 50) none w6 (vm:=.map (some m.bc)) (vk:=.int .i64 K) (by kernel_rfl) (by kernel_rfl) (by rfl) (by rfl) HRUN6.out HST6.out ?_ jN;simp only[jq];refine wpAnyH_done (by kernel_rfl) ?_ _;clear hH;have HZ6:Hid (w.heap.size≤w6.heap.size):=jz (by have h1:=HT6.size;have h2:=HZ4.out;simp at h1;omega);have HBW:Hid (∀ k,k<w.heap.size→k≠m.g→k≠m.bf→k≠m.bc→w6.heap[k]? = w.heap[k]?):=jz (fun k hk h0 h1 h2=>(HB6.out k hk h1 h2).trans (HO1.out k h0));have HUF6:Hid (UM w6 m.bf d.room (pT m.fv K)):=jz (HUF4.of_block ((HT6.block m.bf HUF4.lt (fun e=>HN.out.2.2.2.2.2.1 (Option.some.inj e)))));have HDT:Hid (DT w m w6 (fR m d)):=jz ⟨rfl,HFO1.trans ⟨HT6.os.trans (HT4.os.trans HH3.out.2.1),HT6.tape.trans (HT4.tape.trans HH3.out.2.2.1),HT6.output.trans (HT4.output.trans HH3.out.2.2.2),by have h1:=HZ6.out;have h2:=HZ1.out;omega,fun k hk hn=>HB6.out k (by have:=HZ1.out;omega) (fun e=>hn (by rw[e];exact jQ m)) (fun e=>hn (by rw[e];exact iQ m))⟩ (fun x hx=>.inl hx),fun k hk=>.inl hk,fun k v hk=>.inl (by
  have hk:(if k=((d.steps+1:Nat):Int) then none else m.cv k)=some v:=hk
  split at hk
  ·cases hk
  ·exact hk)⟩
 have HDK:Hid (DK w6 (fR m d) (stepped d)):=jz (by
  have hKs:K=((d.steps+1:Nat):Int):=by rw[HKE.out,HS.out]
  refine H.out.re rfl [m.g,m.bf,m.bc] (fun k hk=>by
   simp only[List.mem_cons,List.not_mem_nil,or_false] at hk
   rcases hk with rfl|rfl|rfl
   ·exact fU m
   ·exact jQ m
   ·exact iQ m) (fun k hk hn=>by
   simp only[List.mem_cons,List.not_mem_nil,or_false,not_or] at hn
   exact HBW.out k hk hn.1 hn.2.1 hn.2.2) HZ6.out ?_ (bU H.out.sec fun b hb=>HBW.out b (H.out.sec.lt b hb).2 ?_ ?_ ?_) (bU H.out.opn fun b hb=>HBW.out b (H.out.opn.lt b hb).2 ?_ ?_ ?_) ((H.out.last.of_block (HBW.out m.bl H.out.last.lt (fun e=>HN.out.1 e.symm) HN.out.2.2.2.1 HN.out.2.2.2.2.1)).mono (Nat.le_max_left _ _)) ?_ ?_ H.out.nd (fun b hb=>.inl hb) (fun k hk=>?_) (fun k hk=>?_) ?_
  ·have h:=HBG6.out
   rw[HS.out] at h
   exact h
  ·exact(HN.out.2.2.2.2.2.2.1 b hb).1
  ·exact(HN.out.2.2.2.2.2.2.1 b hb).2.2.1
  ·exact(HN.out.2.2.2.2.2.2.1 b hb).2.2.2
  ·exact(HN.out.2.2.2.2.2.2.2.1 b hb).1
  ·exact(HN.out.2.2.2.2.2.2.2.1 b hb).2.2.1
  ·exact(HN.out.2.2.2.2.2.2.2.1 b hb).2.2.2
  ·have h:=HUF6.out;rw[hKs] at h;exact h.mono (Nat.le_max_left _ _)
  ·have h:=HUC6.out;rw[hKs] at h;exact h.mono (Nat.le_max_left _ _)
  ·show(pT m.fv _ k).getD (.bool false) = .bool (if k=_ then false else d.fl k)
   unfold pT
   by_cases e:k=((d.steps+1:Nat):Int)
   ·rw[if_pos e,if_pos e];rfl
   ·rw[if_neg e,if_neg e];exact H.out.flv k hk
  ·show((if k=_ then none else d.cr k)=none∧pT m.cv _ k=none)∨((if k=_ then none else d.cr k)=d.cr k∧pT m.cv _ k=m.cv k)
   unfold pT
   by_cases e:k=((d.steps+1:Nat):Int)
   ·rw[if_pos e,if_pos e];exact .inl ⟨rfl,rfl⟩
   ·rw[if_neg e,if_neg e];exact .inr ⟨rfl,rfl⟩
  ·have ok:=H.out.ok
   exact⟨ok.sec,ok.opn,ok.few,Nat.le_trans ok.lo (Nat.le_max_left _ _),Nat.le_max_right _ _,by have h1:=ok.rm;have h2:=HS.out;show max d.room (d.steps+1)≤100000;omega,fun k cs h=>by
    have h:(if k=((d.steps+1:Nat):Int) then none else d.cr k)=some cs:=h
    split at h
    ·cases h
    ·exact ok.cl k cs h⟩)
 have HCR:=jz (H.out.crv K hk);have HOC:Hid (gK d=(if (d.cr K).isSome then 2 else if fb then 1 else 0)∧d7 d=(d.cr K).getD []):=jz (by unfold gK d7;rw[HKE.out,HFB.out,HS.out];exact⟨rfl,rfl⟩);clear HUF6 HBW HB6 HB4 HUC6 HUF4 HT4 HT6 HRUN4 HRUN6 HK;cases hcr:d.cr K with
 | none=>
  have h1:=HCR.out;rw[hcr] at h1;have h1:m.cv K=none:=h1;have hv:vo=none:=by rw[HVO.out,← HKE.out];exact h1
  subst hv;have HO2:Hid (gK d=(if fb then 1 else 0)∧d7 d=[]):=jz (by have h:=HOC.out;rw[hcr] at h;exact h);clear hcr h1 HOC HCR;cases fb with
  | true=>
   go_wp2_with fail
   go_ret2
   exact⟨_,by rw[HO2.out.1];rfl,by rw[HO2.out.2];exact⟨none,0,rfl,Nat.le_refl _,rfl,fun h=>by cases h⟩,(fun b e=>by cases e),HDK.out,HDT.out⟩
  | false=>
   go_wp2_with fail
   go_ret2
   exact⟨_,by rw[HO2.out.1];rfl,by rw[HO2.out.2];exact⟨none,0,rfl,Nat.le_refl _,rfl,fun h=>by cases h⟩,(fun b e=>by cases e),HDK.out,HDT.out⟩
 | some cs=>
  have h1:=HCR.out;rw[hcr] at h1;obtain⟨v,h2,h3,h4⟩:=h1;have hv:vo=some v:=by rw[HVO.out,← HKE.out];exact h2
  subst hv;have HO2:Hid (gK d=2∧d7 d=cs):=jz (by have h:=HOC.out;rw[hcr] at h;exact h);have HSN:Hid (Sn w6 1 v cs.length (eR cs)):=jz (HDT.fo.sn h3 (fun b hb=>(h4 b hb).1));have HVB:Hid (∀ b,v.ownBlock=some b→b ∉ bJ m∧b<w6.heap.size):=jz (fun b hb=>⟨(h4 b hb).1,Nat.lt_of_lt_of_le (h4 b hb).2 HZ6.out⟩);clear hcr h2 h3 h4 HOC HCR;go_wp2_with fail
  go_ret2
  exact⟨v,by rw[HO2.out.1];rfl,by rw[HO2.out.2];exact HSN.out,HVB.out,HDK.out,HDT.out⟩
def fW(m:DiskM):DiskM:={ m with ov:=.slice none 0 0 }
def zX(d:DiskD):DiskD:={ d with opn:=[] }
theorem mF{m:DiskM}:∀ k∈bJ (fW m),k∈bJ m:=by
 intro k hk;simp only[bJ,fW,Value.ownBlock,Option.toList_none,List.append_nil,List.mem_append] at hk ⊢;rcases hk with h|h
 ·exact .inl h
 ·exact .inr (.inl h)
theorem yD{m:DiskM}(h:(bJ m).Nodup):(bJ (fW m)).Nodup:=by
 have e:bJ m=bJ (fW m)++m.ov.ownBlock.toList:=by simp[bJ,fW,Value.ownBlock]
 rw[e,List.nodup_append] at h;exact h.1
theorem q6(w:World)(m:DiskM)(d:DiskD)(h:DK w m d):
  Calls Tryz.prog 41 #[.pointer (some ⟨m.g,0,none⟩)] w fun e w'=>e = .returned (.tuple #[])∧DK w' (fW m) (zX d)∧DT w m w' (fW m):=by
 have H:=jz h;have HN:=jz (gG H.out.nd);have hgl:=h.blk.lt;have hc1:=h.blk.cell 1;have hf1:=h.blk.frozen 1;have hc2:=h.blk.cell 2;simp only[eG,List.getElem?_toArray,List.getElem?_cons_succ,List.getElem?_cons_zero] at hc1 hc2;obtain⟨A0,cap0,hov,_⟩:=Sn.own h.opn;rw[hov] at hc1;clear h;have HB1:Hid (Blk (w.setCell ⟨m.g,1,none⟩ (.slice none 0 0)) m.g 77 (eG (fW m) (zX d))):=jz (H.out.blk.set_ 1 _);have HU1:Hid (UM (w.setCell ⟨m.g,1,none⟩ (.slice none 0 0)) m.bl d.room (eJ d.opn)):=jz (H.out.last.of_block (Below.heap_setCell w ⟨m.g,1,none⟩ _ _ (fun e=>HN.out.1 e.symm)));obtain⟨w2,HRUN,HU2,HT2⟩:∃ w2,Hid (∀ ty,(Builtin.clear_ #[72] ty #[.map (some m.bl)]).run Tryz.prog (w.setCell ⟨m.g,1,none⟩ (.slice none 0 0)) = .ok (.tuple #[]) w2)∧Hid (UM w2 m.bl d.room (fun _=>none))∧Hid ((w.setCell ⟨m.g,1,none⟩ (.slice none 0 0)).grownBy w2 (some m.bl)):=by
  obtain⟨w2,h1,h2,h3⟩:=UM.clear_run Tryz.underlying72 HU1.out 0;exact⟨w2,jz (fun ty=>h1),jz h2,jz h3.grown⟩
 have HBW:Hid (∀ k,k<w.heap.size→k≠m.g→k≠m.bl→w2.heap[k]? = w.heap[k]?):=jz (fun k hk h0 h1=>(HT2.block k (by simpa using hk) (fun e=>h1 (Option.some.inj e))).trans (Below.heap_setCell w ⟨m.g,1,none⟩ _ k h0));have HZ2:Hid (w.heap.size≤w2.heap.size):=jz (by have:=HT2.size;simpa using this);have HDT:Hid (DT w m w2 (fW m)):=jz ⟨rfl,⟨HT2.os,HT2.tape,HT2.output,HZ2.out,fun k hk hn=>HBW.out k hk (fun e=>hn (by rw[e];exact fU m)) (fun e=>hn (by rw[e];exact jP m))⟩,fun k hk=>.inl (mF k hk),fun _ _ h=>.inl h⟩;have HDK:Hid (DK w2 (fW m) (zX d)):=jz (by
  refine H.out.re rfl [m.g,m.bl] (fun k hk=>by
   simp only[List.mem_cons,List.not_mem_nil,or_false] at hk
   rcases hk with rfl|rfl
   ·exact fU m
   ·exact jP m) (fun k hk hn=>by
   simp only[List.mem_cons,List.not_mem_nil,or_false,not_or] at hn
   exact HBW.out k hk hn.1 hn.2) HZ2.out ((HT2.block m.g (by simpa using hgl) (fun e=>HN.out.1 (Option.some.inj e))).trans HB1.out) (bU H.out.sec fun b hb=>HBW.out b (H.out.sec.lt b hb).2 ?_ ?_) (World.ownsRow_nil _ _ _ _) ?_ (H.out.fl.of_block (HBW.out _ H.out.fl.lt (fun e=>HN.out.2.1 e.symm) (fun e=>HN.out.2.2.2.1 e.symm))) (H.out.cr.of_block (HBW.out _ H.out.cr.lt (fun e=>HN.out.2.2.1 e.symm) (fun e=>HN.out.2.2.2.2.1 e.symm))) (yD H.out.nd) (fun b hb=>.inl (mF b hb)) H.out.flv (fun k hk=>.inr ⟨rfl,rfl⟩) ?_
  ·exact(HN.out.2.2.2.2.2.2.1 b hb).1
  ·exact(HN.out.2.2.2.2.2.2.1 b hb).2.1
  ·show UM _ _ _ (eJ [])
   rw[qV]
   exact HU2.out
  ·have ok:=H.out.ok
   exact⟨ok.sec,(fun p hp=>by cases hp),ok.few,Nat.zero_le _,ok.st,ok.rm,ok.cl⟩)
 have hrun:=HRUN.out;clear hov;go_enter Tryz.func41,Tryz.ntmps41
 go_wp2_with fail
 exact bodyPost_end (results_none rfl _ _ _) rfl ⟨rfl,HDK.out,HDT.out⟩
def dW(d:DiskD):DiskD:={ d with down:=false }
theorem DK.down{w:World}{m:DiskM}{d:DiskD}(h:DK w m d)(b:Bool):DK (w.setCell ⟨m.g,3,none⟩ (.bool b)) m { d with down:=b }∧DT w m (w.setCell ⟨m.g,3,none⟩ (.bool b)) m:=by
 have hn:=gG h.nd;have ho:∀ k,k≠m.g→(w.setCell ⟨m.g,3,none⟩ (.bool b)).heap[k]? = w.heap[k]?:=fun k hk=>Below.heap_setCell w ⟨m.g,3,none⟩ _ k hk
 refine⟨h.re rfl [m.g] (fun k hk=>by rw[List.mem_singleton] at hk;rw[hk];exact fU m) (fun k _ hn=>ho k (by simpa using hn)) (by simp) (h.blk.set_ 3 _) (bU h.sec fun b hb=>ho b (hn.2.2.2.2.2.2.1 b hb).1) (bU h.opn fun b hb=>ho b (hn.2.2.2.2.2.2.2.1 b hb).1) (h.last.of_block (ho _ (fun e=>hn.1 e.symm))) (h.fl.of_block (ho _ (fun e=>hn.2.1 e.symm))) (h.cr.of_block (ho _ (fun e=>hn.2.2.1 e.symm))) h.nd (fun b hb=>.inl hb) h.flv (fun k hk=>.inr ⟨rfl,rfl⟩) ⟨h.ok.sec,h.ok.opn,h.ok.few,h.ok.lo,h.ok.st,h.ok.rm,h.ok.cl⟩,⟨rfl,Fo.refl.set m.g 3 (fU m) _,fun _ h=>.inl h,fun _ _ h=>.inl h⟩⟩
theorem zY(w:World)(m:DiskM)(d:DiskD)(h:DK w m d):
  Calls Tryz.prog 17 #[.pointer (some ⟨m.g,0,none⟩)] w fun e w'=>e = .returned (.tuple #[])∧DK w' m (dW d)∧DT w m w' m:=by
 have H:=jz (h.down false);have hc3:=h.blk.cell 3;have hf3:=h.blk.frozen 3;simp only[eG,List.getElem?_toArray,List.getElem?_cons_succ,List.getElem?_cons_zero] at hc3;clear h;go_enter Tryz.func17,Tryz.ntmps17
 go_wp2_with fail
 exact bodyPost_end (results_none rfl _ _ _) rfl ⟨rfl,H.out.1,H.out.2⟩
end
end Go.Proofs.YtombncedfleljaaGreat
