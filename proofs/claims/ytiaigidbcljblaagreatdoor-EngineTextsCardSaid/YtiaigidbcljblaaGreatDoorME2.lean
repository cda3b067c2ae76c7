import Derived.Test.YtiaigidbcljblaaGreatDoorME1
import Derived.WalkKit
import Derived.Laws.IdiomCopy
import Derived.Laws.ResultCell
import Derived.Deep.QuietTactic
import Derived.Laws.Cover3
import Derived.Laws.Bits64b
import Derived.OwnWalk
set_option linter.unusedSimpArgs false
set_option maxRecDepth 100000
set_option maxHeartbeats 40000000
namespace Go.Proofs.YtiaigidbcljblaaGreatDoor
section
open Go.RowKit
section
variable {P : Program} {ops : Array Oper} {Q : Exit → Act → World → Prop} {S : World → Prop} {a : Act} {w : World} {listed : Array Bool} {fuel : Nat}
theorem p1(a:Act)(t:Tmp)(v:Value):a.put (some t) v={ a with tmps:=a.tmps.setIfInBounds t v }:=rfl
theorem p5(a:Act)(v:Value):a.put none v=a:=rfl
theorem p2{α:Type}(l:List α)(i:Nat)(v:α):l.toArray.setIfInBounds i v=(l.set i v).toArray:=List.setIfInBounds_toArray ..
theorem p3{α:Type}(x v:α)(l:List α):(x :: l).set 0 v=v :: l:=rfl
theorem p4{α:Type}(x v:α)(l:List α)(n:Nat):(x :: l).set (n+1) v=x :: l.set n v:=rfl
def kOk(ops:Array Oper)(listed:Array Bool)(a:Act)(i:Nat)(want:Bool):Bool:=
 Region.noSelect ops && Region.free .any ops listed i && (Region.ready .any ops listed).contains i && ((ops[i]?).map (fun o=>Region.wanted o (yielded ops a.tmps))).any (· == want)
theorem kOk.out{i:Nat}{b:Bool}{o:Oper}(ho:ops[i]? = some o)(h:kOk ops listed a i b=true):Region.noSelect ops=true∧Region.free .any ops listed i=true∧(Region.ready .any ops listed).contains i=true∧Region.wanted o (yielded ops a.tmps)=b:=by
 unfold kOk at h
 simp only[Bool.and_eq_true,ho,Option.map_some,Option.any_some,beq_iff_eq] at h
 exact⟨h.1.1.1,h.1.1.2,h.1.2,h.2⟩
theorem kT(i:Nat)(dst:Option Tmp)(v:Value){o:Oper}(ho:ops[i]? = some o:=by rfl)(hdst:o.dst=dst:=by rfl)(hc:kOk ops listed a i true=true:=by kernel_rfl)
  (hy:∀ w,S w→(execOp a.eval o).run P w = .ok (.value v) w:=by intro w hS;unfold execOp;go_simp)
  (hQ:∀ c a w,Q (.panic c) (a.put dst v) w→Q (.panic c) a w:=by exact fun _ _ _ h=>h) (hS:S w:=by assumption)
  (h:wpAnyH P .any ops Q S fuel (listed.setIfInBounds i true) (a.put dst v) w):wpAnyH P .any ops Q S (fuel+1) listed a w:=by
 subst hdst
 exact
  have k:=kOk.out ho hc
  wpAnyH_take ho k.1 k.2.1 k.2.2.1 hQ (.inl ⟨k.2.2.2,hy⟩) hS h
theorem kM(i:Nat)(dst:Option Tmp)(v:Value){o:Oper}{x:Operand}(ho:ops[i]? = some o:=by rfl)(hdst:o.dst=dst:=by rfl)(hop:o.op = .move x:=by rfl)(hx:a.eval x=v:=by kernel_rfl)(hc:kOk ops listed a i true=true:=by kernel_rfl)
  (hQ:∀ c a' w,Q (.panic c) (a'.put dst v) w→Q (.panic c) a' w:=by exact fun _ _ _ h=>h) (hS:S w:=by assumption)
  (h:wpAnyH P .any ops Q S fuel (listed.setIfInBounds i true) (a.put dst v) w):wpAnyH P .any ops Q S (fuel+1) listed a w:=by
 subst hdst
 exact
  have k:=kOk.out ho hc
  wpAnyH_take ho k.1 k.2.1 k.2.2.1 hQ (.inl ⟨k.2.2.2,fun w _=>by unfold execOp;simp only[hop,hx,Sem.run_pure]⟩) hS h
theorem run_loadVar_cell(w:World)(ad:Addr)(ty:TypeId)(v:Value)(hu:((P.underlying ty).map (·.isRow))=some false)(hc:w.cell? ad=some v):(loadVar ty ad).run P w = .ok v w:=by
 cases hd:P.underlying ty with
 | none=>rw[hd] at hu;cases hu
 | some d=>
  rw[hd] at hu
  have hagg:(isAgg ty).run P w = .ok false w:=by
   unfold isAgg
   rw[Sem.run_bind,run_underlying hd w]
   cases d <;> simp_all
  simp[loadVar,Sem.run_bind,hagg,hc]
theorem kC(i:Nat)(dst:Option Tmp){v:Value}{ad:Addr}(hv:∀ w,S w→w.cell? ad=some v){o:Oper}{ty:TypeId}{x:Operand}(ho:ops[i]? = some o:=by rfl)(hdst:o.dst=dst:=by rfl)(hop:o.op = .load ty x:=by rfl)(hx:a.eval x = .pointer (some ad):=by kernel_rfl)(hu:((P.underlying ty).map (·.isRow))=some false:=by kernel_rfl)(hc:kOk ops listed a i true=true:=by kernel_rfl)
  (hQ:∀ c a w,Q (.panic c) (a.put dst v) w→Q (.panic c) a w:=by exact fun _ _ _ h=>h) (hS:S w:=by assumption)
  (h:wpAnyH P .any ops Q S fuel (listed.setIfInBounds i true) (a.put dst v) w):wpAnyH P .any ops Q S (fuel+1) listed a w:=by
 subst hdst
 exact
  have k:=kOk.out ho hc
  wpAnyH_take ho k.1 k.2.1 k.2.2.1 hQ (.inl ⟨k.2.2.2,fun w hw=>by
   unfold execOp
   simp only[hop,hx,Instr.loadAt,Instr.sureAddr,Sem.run_bind,Sem.run_pure,Result.andThen_ok,run_loadVar_cell w ad ty v hu (hv w hw)]⟩) hS h
theorem kL(i:Nat)(dst:Option Tmp){cs:List Value}{b off n:Nat}(hr:∀ w,S w→w.rangeAt b off cs)(hn:cs.length=n){o:Oper}{ty:TypeId}{x:Operand}(ho:ops[i]? = some o:=by rfl)(hdst:o.dst=dst:=by rfl)(hop:o.op = .load ty x:=by rfl)(hx:a.eval x = .pointer (some ⟨b,off,none⟩):=by kernel_rfl)(hu:((P.underlying ty).map (·.isRow))=some true:=by kernel_rfl)(hi:(P.info? ty).map (·.size)=some n:=by kernel_rfl)(hc:kOk ops listed a i true=true:=by kernel_rfl)
  (hQ:∀ c a w,Q (.panic c) (a.put dst (.agg cs.toArray)) w→Q (.panic c) a w:=by exact fun _ _ _ h=>h) (hS:S w:=by assumption)
  (h:wpAnyH P .any ops Q S fuel (listed.setIfInBounds i true) (a.put dst (.agg cs.toArray)) w):wpAnyH P .any ops Q S (fuel+1) listed a w:=by
 subst hdst
 have k:=kOk.out ho hc
 cases hd:P.underlying ty with
 | none=>rw[hd] at hu;cases hu
 | some d=>
  rw[hd] at hu
  exact wpAnyH_take ho k.1 k.2.1 k.2.2.1 hQ (.inl ⟨k.2.2.2,fun w hw=>by
   unfold execOp
   simp only[hop,hx,Instr.loadAt,Instr.sureAddr,Sem.run_bind,Sem.run_pure,Result.andThen_ok,run_loadVar_mid w b off ty cs d (hr w hw) hd (by simpa using hu) (by rw[hn];exact hi)]⟩) hS h
theorem kB(i:Nat)(dst:Option Tmp){vs:List (Nat×Value)}{cells:Array Value}{t:TypeId}(hb:P.built t vs=some cells){o:Oper}{parts:Array (Nat×Operand)}(ho:ops[i]? = some o:=by rfl)(hdst:o.dst=dst:=by rfl)(hop:o.op = .build t parts:=by rfl)(hv:(parts.toList.map fun(i,x)=>(i,a.eval x))=vs:=by rfl)(hc:kOk ops listed a i true=true:=by kernel_rfl)
  (hQ:∀ c a w,Q (.panic c) (a.put dst (.agg cells)) w→Q (.panic c) a w:=by exact fun _ _ _ h=>h) (hS:S w:=by assumption)
  (h:wpAnyH P .any ops Q S fuel (listed.setIfInBounds i true) (a.put dst (.agg cells)) w):wpAnyH P .any ops Q S (fuel+1) listed a w:=by
 subst hdst
 exact
  have k:=kOk.out ho hc
  wpAnyH_take ho k.1 k.2.1 k.2.2.1 hQ (.inl ⟨k.2.2.2,fun w hw=>by
   rw[← Array.toList_map] at hv
   unfold execOp
   simp only[hop,Sem.run_bind,run_build w t _ cells (by rw[hv];exact hb),Result.andThen_ok]
   rfl⟩) hS h
def kOne(ops:Array Oper)(listed:Array Bool)(a:Act)(i:Nat):Bool:=(Region.ready .any ops listed == [i]) && ((ops[i]?).map (fun o=>Region.wanted o (yielded ops a.tmps))).any (· == true)
theorem kOne.out{i:Nat}{o:Oper}(ho:ops[i]? = some o)(h:kOne ops listed a i=true):Region.ready .any ops listed=[i]∧Region.wanted o (yielded ops a.tmps)=true:=by
 unfold kOne at h
 simp only[Bool.and_eq_true,ho,Option.map_some,Option.any_some,beq_iff_eq] at h
 exact h
theorem kF(i:Nat)(dst:Option Tmp){o:Oper}{f:FuncId}{args:Array Value}(h:Calls P f args w fun e w'=>∃ v,e = .returned v∧S w'∧(S w'→wpAnyH P .any ops Q S fuel (listed.setIfInBounds i true) (a.put dst v) w'))(ho:ops[i]? = some o:=by rfl)(hdst:o.dst=dst:=by rfl)(hc:kOne ops listed a i=true:=by kernel_rfl)
  (hent:(execOp a.eval o).run P w = .ok (.enter f args) w:=by unfold execOp;go_simp):wpAnyH P .any ops Q S (fuel+1) listed a w:=by
 subst hdst
 have k:=kOne.out ho hc
 refine wpAnyH_ready k.1 (by simp) (AllReadyH.cons ho (fun K hK=>?_) AllReadyH.nil)
 rw[if_pos k.2]
 unfold Oper.wp
 rw[hent,Oper.upon_enter]
 refine h.mono ?_
 rintro e w' ⟨v,rfl,hS,hk⟩
 exact hK.out _ _ hS hk
theorem kS(i:Nat)(dst:Option Tmp)(v:Value)(w2:World){o:Oper}(ho:ops[i]? = some o:=by rfl)(hdst:o.dst=dst:=by rfl)(hc:kOne ops listed a i=true:=by kernel_rfl)
  (hrun:(execOp a.eval o).run P w = .ok (.value v) w2:=by unfold execOp;go_simp) (hS:S w2:=by assumption)
  (h:wpAnyH P .any ops Q S fuel (listed.setIfInBounds i true) (a.put dst v) w2):wpAnyH P .any ops Q S (fuel+1) listed a w:=by
 subst hdst
 have k:=kOne.out ho hc
 refine wpAnyH_ready k.1 (by simp) (AllReadyH.cons ho (fun K hK=>?_) AllReadyH.nil)
 rw[if_pos k.2]
 unfold Oper.wp
 rw[hrun,Oper.upon_value]
 exact hK.out _ _ hS (fun _=>h)
theorem kR(i:Nat)(dst:Option Tmp){cs:List Value}{b off n:Nat}(ht:w.there b off n)(hn:cs.length=n)(h1:∀ u∈cs,u.oneCell'=true)(hS:S (w.setCells b off cs)){o:Oper}{ty:TypeId}{x y:Operand}(ho:ops[i]? = some o:=by rfl)(hdst:o.dst=dst:=by rfl)(hop:o.op = .store ty x y:=by rfl)(hx:a.eval x = .pointer (some ⟨b,off,none⟩):=by kernel_rfl)(hy:a.eval y = .agg cs.toArray:=by kernel_rfl)(hi:(P.info? ty).map (·.size)=some n:=by kernel_rfl)(hc:kOne ops listed a i=true:=by kernel_rfl)
  (h:wpAnyH P .any ops Q S fuel (listed.setIfInBounds i true) (a.put dst undef) (w.setCells b off cs)):wpAnyH P .any ops Q S (fuel+1) listed a w:=by
 subst hdst
 have k:=kOne.out ho hc
 refine wpAnyH_ready k.1 (by simp) (AllReadyH.cons ho (fun K hK=>?_) AllReadyH.nil)
 rw[if_pos k.2]
 refine wp_store_mid ty x y hop b off cs.toArray hx hy (by rw[List.size_toArray,hn];exact ht) (by rw[List.size_toArray,hn];exact hi) (all_oneCell_toArray h1) ?_
 rw[List.toList_toArray]
 exact hK.out _ _ hS (fun _=>h)
theorem kZ{n:Nat}(S:World→Prop){id:Nat}(hS:S w.drew)(hm:P.follows .mixedOrders=true:=by kernel_rfl)(hn:ops.size=n:=by kernel_rfl)
  (h:S w.drew→wpAnyH P .any ops Q S n (Array.replicate n false) a w.drew):(Code.region id ops true).wp P Q a w:=by
 subst hn
 exact wp_region_held_drew hm hS h
theorem kE{listed:Array Bool}(hr:Region.ready .any ops listed=[]:=by kernel_rfl)(h:Q .normal a w):wpAnyH P .any ops Q S fuel listed a w:=wpAnyH_done hr h _
end
end
section
open Go.RowKit
section
variable {P : Program} {ops : Array Oper} {rest : List Oper} {o : Oper} {a : Act} {w : World} {Q : Exit → Act → World → Prop}
theorem al(ty:TypeId)(zs:Array Value)(ho:o.op = .alloc ty)(hw:Region.wanted o (yielded ops a.tmps)=true)(hz:∀ w,(zeroValue ty).run P w = .ok (.agg zs) w)
  (h:wpList P ops Q rest (a.put o.dst (.pointer (some ⟨w.heap.size,0,none⟩))) (w.alloc (.cells zs ty))):wpList P ops Q (o :: rest) a w:=
 wpList_step fun K hK=>by
  rw[if_pos hw]
  unfold Oper.wp
  have:(execOp a.eval o).run P w = .ok (.value (.pointer (some ⟨w.heap.size,0,none⟩))) (w.alloc (.cells zs ty)):=by
   unfold execOp
   simp only[ho]
   unfold Instr.alloc newVar newRow
   simp[Sem.run_bind,hz,Value.cells]
  rw[this,Oper.upon_value]
  exact hK _ _ h
theorem run_copy_sn{dT sT ty elem:TypeId}{b off dn dc n:Nat}{v:Value}{xs:List Value}(hu:P.underlying dT=some (.slice elem))(hs:(P.info? elem).map (·.size)=some 1)(hx:Sn w 1 v n xs)(hn:n≤dn)(ht:w.there b off n)(h1:∀ u∈xs,u.oneCell'=true):
  (Builtin.copy_ #[dT,sT] ty #[.slice (some ⟨b,off,none⟩) dn dc,v]).run P w = .ok (goInt n) (w.setCells b off xs):=by
 obtain⟨A,cap,rfl,hc,hl,hcell⟩:=hx
 rcases Nat.eq_zero_or_pos n with rfl|hp
 ·obtain rfl:xs=[]:=List.eq_nil_of_length_eq_zero (by simpa using hl)
  cases A with
  | none=>
   cases hq:P.info? elem with
   | none=>simp[hq] at hs
   | some i=>simp[Builtin.copy_,run_underlying hu,Builtin.lenOf,Builtin.firstCells,sizeOf,typeInfo,hq,storeCells,World.setCells]
  | some a=>exact run_copy_cells w dT sT ty elem b off dn dc a 0 cap [] hu hs (by simp) (fun j v h=>by simp at h) (fun j h=>by simp at h) (fun j h=>by simp at h) (fun v h=>by simp at h)
 ·obtain⟨b',off',rfl,hr⟩:=hcell hp
  have hln:xs.length=n:=by omega
  have:=run_copy_cells w dT sT ty elem b off dn dc ⟨b',off',none⟩ n cap xs hu hs (by rw[hln];exact(Nat.min_eq_left hn).symm) (fun j v hj=>by rw[Addr.add_mid];exact hr j v hj) (fun j hj=>(ht j (by omega)).1) (fun j hj=>(ht j (by omega)).2) h1
  rw[hln] at this
  exact this
theorem cp{dT sT elem:TypeId}(p q:Operand)(ho:o.op = .call { callee:=.builtin .copy,args:=#[p,q],argTypes:=#[dT,sT] })(hw:Region.wanted o (yielded ops a.tmps)=true)
  {b off dn dc n:Nat} {v:Value} {xs:List Value} (hp:a.eval p = .slice (some ⟨b,off,none⟩) dn dc) (hq:a.eval q=v) (hu:P.underlying dT=some (.slice elem)) (hs:(P.info? elem).map (·.size)=some 1) (hx:Sn w 1 v n xs) (hn:n≤dn) (ht:w.there b off n) (h1:∀ u∈xs,u.oneCell'=true)
  (h:wpList P ops Q rest (a.put o.dst (goInt n)) (w.setCells b off xs)):wpList P ops Q (o :: rest) a w:=
 wpList_step fun K hK=>by
  rw[if_pos hw]
  have hrun:=run_copy_sn (P:=P) (ty:=o.type) (sT:=sT) (dc:=dc) hu hs hx hn ht h1
  unfold Oper.wp execOp
  simp only[ho,resolve,invoke,builtin,Sem.run_bind,Sem.run_pure,Result.andThen_ok,List.map_toArray,List.map_cons,List.map_nil,hp,hq,hrun]
  exact hK _ _ h
theorem rCopy{S:World→Prop}{listed:Array Bool}{fuel:Nat}{rs:List Nat}(i:Nat){dT sT elem:TypeId}(p q:Operand)(dst:Option Tmp)(hd:(ops[i]?).map (fun o=>(o.op,o.dst))=some (.call { callee:=.builtin .copy,args:=#[p,q],argTypes:=#[dT,sT] },dst))(hw:(ops[i]?).map (fun o=>Region.wanted o (yielded ops a.tmps))=some true)
  {b off dn dc n:Nat} {v:Value} {xs:List Value} (hp:a.eval p = .slice (some ⟨b,off,none⟩) dn dc) (hq:a.eval q=v) (hu:P.underlying dT=some (.slice elem)) (hs:(P.info? elem).map (·.size)=some 1) (hx:Sn w 1 v n xs) (hn:n≤dn) (ht:w.there b off n) (h1:∀ u∈xs,u.oneCell'=true) (hS:S (w.setCells b off xs))
  (h:wpAnyH P .any ops Q S fuel (listed.setIfInBounds i true) (a.put dst (goInt n)) (w.setCells b off xs)) (hr:AllReadyH P .any ops Q S fuel listed a w rs):AllReadyH P .any ops Q S fuel listed a w (i :: rs):=
 rStep i _ dst _ _ hd hw (fun o ho=>by
  have hrun:=run_copy_sn (P:=P) (ty:=o.type) (sT:=sT) (dc:=dc) hu hs hx hn ht h1
  unfold execOp
  simp only[ho,resolve,invoke,builtin,Sem.run_bind,Sem.run_pure,Result.andThen_ok,List.map_toArray,List.map_cons,List.map_nil,hp,hq,hrun]) hS h hr
theorem results_cellR_tmp{fn:Func}{p u:Tmp}{ty:TypeId}(h:fn.results=#[.cell p ty,.tmp u])(tmps:Array Value){b off:Nat}{cs:List Value}{d:TypeDesc}(hp:tmps.getD p undef = .pointer (some ⟨b,off,none⟩))(hc:w.rangeAt b off cs)
  (hu:P.underlying ty=some d) (hd:d.isRow=true) (hi:(P.info? ty).map (·.size)=some cs.length):(results fn tmps).run P w = .ok (.tuple #[.agg cs.toArray,tmps.getD u undef]) w:=by
 rw[results_cell_tmp h,hp]
 simp only[asAddr,Sem.run_pure,Result.andThen_ok,run_loadVar_mid w b off ty cs d hc hu hd hi]
end
end
section
open Go.RowKit
theorem tByt:SlT Tryz.prog 68 5 1 1:=SlT.mk' Tryz.underlying68 (z:=.int .u8 0) (by kernel_rfl) rfl (by decide)
def RD(w:World)(r:Nat)(v:Value)(xs:List Int)(bad:Bool):Prop:=Blk w r 345 #[v,.bool bad]∧Sn w 1 v xs.length (u8s xs)
theorem clone_bytes(va:Value)(n:Nat)(xs:List Value)(w:World)(hs:Sn w 1 va n xs)(h1:∀ u∈xs,u.oneCell'=true)(hn:n≤1000000):
  Calls Tryz.prog 215 #[va] w fun e w'=>∃ v,e = .returned v∧Sn w' 1 v n xs∧Below w.heap.size w w':=by
 obtain⟨A,cap,rfl,hcap,hl,hx⟩:=id hs
 have HS:=Lib.hid hs
 have HX:=Lib.hid hx
 clear hx
 cases A with
 | none=>
  have heq:∀ w:World,(binOp .eql 68 (.slice none n cap) (.slice none 0 0)).run Tryz.prog w = .ok (.bool true) w:=fun _=>rfl
  go_enter Tryz.func215,Tryz.ntmps215
  go_wp2_with fail
  go_ret
  have hn0:n=0:=by
   rcases Nat.eq_zero_or_pos n with h|h
   ·exact h
   ·obtain⟨b,off,e,_⟩:=HX.out h
    cases e
  subst hn0
  exact⟨_,rfl,⟨none,0,rfl,Nat.le_refl _,hl,fun h=>absurd h (by omega)⟩,Below.refl _ _⟩
 | some a=>
  have heq:∀ w:World,(binOp .eql 68 (.slice (some a) n cap) (.slice none 0 0)).run Tryz.prog w = .ok (.bool false) w:=fun _=>rfl
  have hown:(w.alloc (.cells #[] 5)).ownsRow w.heap.size 5 1 (.slice (some ⟨w.heap.size,0,none⟩) 0 0) 0 []:=own_new w #[] 5 1 0 w.heap.size w.heap.size (Nat.le_refl _) rfl (by unfold maxLen;omega) rfl
  go_enter Tryz.func215,Tryz.ntmps215
  clear hs
  go_wp2_with (at_builtin;refine app tByt (.tmp 5) (.tmp 6) rfl rfl rfl hown rfl (HS.alloc _) h1 (by unfold maxLen;omega) (by omega) (by simp) ?_;intro v' w3 hown3 hgrow _)
  go_ret
  have hb:Below w.heap.size w w3:=((Below.refl _ w).alloc (Nat.le_refl _) _).grown hgrow (by simp) (fun g hg=>by have:=(hown.lt g hg).1;omega)
  have:=Sn.own hown3
  rw[Nat.zero_add,List.nil_append] at this
  exact⟨_,rfl,this,hb⟩
theorem wire_new(va:Value)(xs:List Int)(w:World)(hs:Sn w 1 va xs.length (u8s xs))(hn:xs.length≤1000000):
  Calls Tryz.prog 157 #[va] w fun e w'=>∃ r v,e = .returned (.pointer (some ⟨r,0,none⟩))∧RD w' r v xs false∧w.heap.size≤r∧Below w.heap.size w w':=by
 have HS:=Lib.hid hs
 clear hs
 go_enter Tryz.func157,Tryz.ntmps157
 go_wp2_with fail
 refine(clone_bytes va xs.length (u8s xs) w HS.out (u8s_mem xs) hn).mono ?_
 rintro e w1 ⟨v,rfl,hs1,hb1⟩
 obtain⟨A,cap,rfl,hcap,hl,_⟩:=id hs1
 have HS1:=Lib.hid hs1
 have hsz:=hb1.size
 clear hs1
 go_wp2_with fail
 go_ret
 exact⟨_,_,rfl,⟨Blk.new _ _ _,HS1.alloc _⟩,hsz,hb1.alloc hsz _⟩
theorem RD.ne{w:World}{r:Nat}{xs:List Int}{bad:Bool}{v:Value}(hB:Blk w r 345 #[v,.bool bad]){A:Option Addr}{cap:Nat}(hv:v = .slice A xs.length cap){b i:Nat}{k:Int}(hc:w.cell? ⟨b,i,none⟩=some (.int .u8 k)):b≠r:=by
 intro e
 subst e hv
 rw[hB.cell] at hc
 match i with
 | 0=>simp at hc
 | 1=>simp at hc
 | i+2=>simp at hc
theorem Sn.offB{w w':World}{r n:Nat}{v x:Value}{xs:List Int}{bad:Bool}{A:Option Addr}{k cap:Nat}(h:Sn w 1 x n (u8s xs))(hB:Blk w r 345 #[v,.bool bad])(hv:v = .slice A k cap)(ho:Off r w w'):Sn w' 1 x n (u8s xs):=by
 obtain⟨A',cap',hx,hc,hl,hcell⟩:=h
 refine⟨A',cap',hx,hc,hl,fun hp=>?_⟩
 obtain⟨b,off,rfl,hr⟩:=hcell hp
 refine⟨b,off,rfl,fun j u hj=>ho.cell (hr j u hj) fun e=>?_⟩
 have hcj:=hr j u hj
 have e:b=r:=e
 subst e hv
 rw[hB.cell] at hcj
 have hu:∃ k:Int,u = .int .u8 k:=by
  have:=List.mem_of_getElem? hj
  simp only[u8s,List.mem_map] at this
  obtain⟨k,_,rfl⟩:=this
  exact⟨k,rfl⟩
 obtain⟨k',rfl⟩:=hu
 generalize off+j=i at hcj
 match i with
 | 0=>simp at hcj
 | 1=>simp at hcj
 | i+2=>simp at hcj
theorem rd_fail(r:Nat)(v:Value)(bad:Bool)(w:World)(hB:Blk w r 345 #[v,.bool bad]):
  Calls Tryz.prog 278 #[.pointer (some ⟨r,0,none⟩)] w fun e w'=>e = .returned (.tuple #[])∧RD w' r (.slice none 0 0) [] true∧Off r w w':=by
 have h0:=hB.cell 0
 have h1:=hB.cell 1
 have f0:=hB.frozen 0
 have f1:=hB.frozen 1
 simp only[List.getElem?_toArray,List.getElem?_cons_zero,List.getElem?_cons_succ] at h0 h1
 have hB2:=(hB.set_ 1 (.bool true)).set_ 0 (.slice none 0 0)
 have HB:=Lib.hid hB2
 have hc0:(w.setCell ⟨r,1,none⟩ (.bool true)).cell? ⟨r,0,none⟩=some v:=by rw[(hB.set_ 1 (.bool true)).cell];rfl
 have hf0:=(hB.set_ 1 (.bool true)).frozen 0
 clear hB hB2
 go_enter Tryz.func278,Tryz.ntmps278
 go_wp2_with fail
 go_end0
 exact⟨rfl,⟨HB.out,⟨none,0,rfl,Nat.le_refl _,rfl,fun h=>absurd h (by simp)⟩⟩,((Off.refl r w).set 1 _).set 0 _⟩
theorem rd_next(r:Nat)(v:Value)(xs:List Int)(bad:Bool)(n:Nat)(w:World)(h:RD w r v xs bad)(hl:xs.length≤1000000):
    Calls Tryz.prog 217 #[.pointer (some ⟨r,0,none⟩),.int .u64 n] w fun e w'=>Off r w w' ∧
      ((bad = false ∧ n ≤ xs.length ∧ ∃ x v', e = .returned (.tuple #[x, .bool true]) ∧ Sn w' 1 x n (u8s (xs.take n)) ∧ RD w' r v' (xs.drop n) false) ∨
       ((bad=true∨xs.length<n)∧e = .returned (.tuple #[.slice none 0 0,.bool false])∧RD w' r (.slice none 0 0) [] true)):=by
  obtain⟨hB,hs⟩:=h
  obtain⟨A,cap,rfl,hcap,hln,_⟩:=id hs
  have HS:=Lib.hid hs
  have HB:=Lib.hid hB
  have h0:=hB.cell 0
  have h1:=hB.cell 1
  have f0:=hB.frozen 0
  simp only[List.getElem?_toArray,List.getElem?_cons_zero,List.getElem?_cons_succ] at h0 h1
  have hcase:bad=true∨bad=false∧decide (xs.length<n)=true∨bad=false∧decide (xs.length<n)=false:=by
    cases bad <;> cases decide (xs.length<n) <;> simp
  clear hB hs
  rcases hcase with rfl|⟨rfl,t1⟩|⟨rfl,t1⟩
  · go_enter Tryz.func217,Tryz.ntmps217
    go_wp2_with fail
    refine(rd_fail r _ true w HB.out).mono ?_
    rintro e w1 ⟨rfl,hR,ho⟩
    go_wp2_with fail
    go_ret2
    exact⟨ho,.inr ⟨.inl trivial,rfl,hR⟩⟩
  · go_enter Tryz.func217,Tryz.ntmps217
    go_wp2_with fail
    refine(rd_fail r _ false w HB.out).mono ?_
    rintro e w1 ⟨rfl,hR,ho⟩
    go_wp2_with fail
    go_ret2
    exact⟨ho,.inr ⟨.inr (by have:=of_decide_eq_true t1;omega),rfl,hR⟩⟩
  · have hn:n≤xs.length:=by have:=of_decide_eq_false t1;omega
    have hi1:(n:Int)≤cap:=by omega
    have hi2:(n:Int)≤xs.length:=by omega
    have hi0:(0:Int)≤n:=by omega
    have hue:=Tryz.underlying68
    go_enter Tryz.func217,Tryz.ntmps217
    have HR2:Hid (Sn w 1 (sliced A 0 n n 1) n (u8s (xs.take n))):=Lib.hid (by
      have:=HS.sliced 0 n n (by omega) hn (Nat.le_refl _)
      rw[u8s_take]
      simpa using this)
    have HR3:Hid (Sn w 1 (sliced A n xs.length cap 1) (xs.drop n).length (u8s (xs.drop n))):=Lib.hid (by
      have:=HS.sliced n xs.length cap hn (Nat.le_refl _) hcap
      rw[u8s_drop,List.length_drop]
      have e:(u8s xs).take (xs.length*1)=u8s xs:=List.take_of_length_le (by rw[u8s_length];omega)
      rw[e] at this
      simpa using this)
    have hB3:=Lib.hid (HB.set_ 0 (sliced A n xs.length cap 1))
    have ho:Off r w (w.setCell ⟨r,0,none⟩ (sliced A n xs.length cap 1)):=(Off.refl r w).set 0 _
    have HO:=Lib.hid ho
    clear ho
    by_cases hcn:cap=n
    all_goals
      go_wp2_with fail
      go_ret2
      have hx2:=HR2.offB HB.out rfl HO.out
      have hx3:=HR3.offB HB.out rfl HO.out
      have e2:sliced A 0 n n 1 = .slice A n n:=by
        unfold Go.sliced
        cases A with
        | none=>simp
        | some a=>obtain⟨b,o,s⟩:=a;simp[Addr.add]
      have hb3:=hB3.out
      rw[e2] at hx2
      refine⟨?_,.inl ⟨trivial,hn,_,sliced A n xs.length cap 1,rfl,?_,?_⟩⟩
    · have e3:sliced A n xs.length cap 1 = .slice A (xs.length-n) 0:=by simp[Go.sliced,hcn]
      rw[← e3];exact HO.out
    · have e3:sliced A n xs.length cap 1 = .slice A (xs.length-n) 0:=by simp[Go.sliced,hcn]
      rw[e3] at hx2;exact hx2
    · have e3:sliced A n xs.length cap 1 = .slice A (xs.length-n) 0:=by simp[Go.sliced,hcn]
      rw[← e3];exact⟨hb3,hx3⟩
    · have e3:sliced A n xs.length cap 1 = .slice (A.map (·.add n)) (xs.length-n) (cap-n):=by simp[Go.sliced,hcn]
      rw[← e3];exact HO.out
    · have e3:sliced A n xs.length cap 1 = .slice (A.map (·.add n)) (xs.length-n) (cap-n):=by simp[Go.sliced,hcn]
      rw[e3] at hx2;exact hx2
    · have e3:sliced A n xs.length cap 1 = .slice (A.map (·.add n)) (xs.length-n) (cap-n):=by simp[Go.sliced,hcn]
      rw[← e3];exact⟨hb3,hx3⟩
end
section
open Go.RowKit
attribute [local irreducible] wpQuiet wpAnyH
def beN(l:List Int):Nat:=l.foldl (fun x c=>x*256+c.toNat) 0
theorem beN_snoc(l:List Int)(k:Nat)(h:k<l.length):beN (l.take (k+1))=beN (l.take k)*256+l[k].toNat:=by
 unfold beN
 rw[List.take_succ_eq_append_getElem h,List.foldl_append]
 rfl
theorem beN_lt(l:List Int)(hb:Bys l):beN l<256 ^ l.length:=by
 have key:∀ k,k≤l.length→beN (l.take k)<256 ^ k:=by
  intro k
  induction k with
  | zero=>intro _;simp[beN]
  | succ k ih=>
   intro hk
   have hlt:k<l.length:=by omega
   rw[beN_snoc l k hlt,Nat.pow_succ]
   have h1:=ih (by omega)
   have h2:=hb l[k] (List.getElem_mem hlt)
   have h3:beN (l.take k)*256+256≤256 ^ k*256:=by
    have:=Nat.mul_le_mul_right 256 (show beN (l.take k)+1≤256 ^ k from h1)
    rw[Nat.add_mul] at this
    omega
   omega
 have:=key l.length (Nat.le_refl _)
 rwa [List.take_length] at this
theorem or_byte(y c j:Nat)(hj:j≤7)(hy:y<256 ^ j)(hc:c<256):bits .or .u64 (IntKind.u64.wrap ((y:Int)*256)) (c:Int)=((y*256+c:Nat):Int):=by
 have h7:(256:Nat) ^ j≤256 ^ 7:=Nat.pow_le_pow_right (by omega) hj
 have e7:(256:Nat) ^ 7=72057594037927936:=by decide
 have hw:IntKind.u64.wrap ((y:Int)*256)=((y*256:Nat):Int):=by
  rw[IntWalk.u64_in _ (by omega)]
  simp
 rw[hw,bits_or_u64_nat (y*256) c (by omega) (by omega)]
 have:=Nat.two_pow_add_eq_or_of_lt (i:=8) (b:=c) (by simpa using hc) y
 rw[show(2:Nat) ^ 8=256 from rfl] at this
 rw[Nat.mul_comm y 256,← this]
theorem rd_number(r:Nat)(v:Value)(xs:List Int)(bad:Bool)(k:Nat)(w:World)(h:RD w r v xs bad)(hb:Bys xs)(hl:xs.length≤1000000)(hk1:1≤k)(hk8:k≤8):
    Calls Tryz.prog 216 #[.pointer (some ⟨r,0,none⟩),.int .i64 k] w fun e w'=>Off r w w' ∧
      ((bad = false ∧ k ≤ xs.length ∧ ∃ v', e = .returned (.tuple #[.int .u64 (beN (xs.take k)), .bool true]) ∧ RD w' r v' (xs.drop k) false) ∨
       ((bad=true∨xs.length<k)∧e = .returned (.tuple #[.int .u64 0,.bool false])∧RD w' r (.slice none 0 0) [] true)):=by
  have HR:=Lib.hid h
  clear h
  have hi1:(1:Int)≤k:=by omega
  have hi8:(k:Int)≤8:=by omega
  go_enter Tryz.func216,Tryz.ntmps216
  go_wp2_with fail
  refine(rd_next r v xs bad k w HR.out hl).mono ?_
  rintro e w1 ⟨ho,⟨rfl,hkl,x,v',rfl,hsx,hR⟩|⟨hbad,rfl,hR⟩⟩
  · obtain⟨A,cap,rfl,hcap,_,_⟩:=id hsx
    have hbk:Bys (xs.take k):=fun b hb'=>hb b (List.mem_of_mem_take hb')
    obtain⟨l,hL⟩:∃ l,l=xs.take k:=⟨_,rfl⟩
    have hll:l.length=k:=by rw[hL,List.length_take];omega
    rw[← hL] at hsx hbk
    have HL:=Lib.hid hL
    have HBK:=Lib.hid hbk
    have HSX:=Lib.hid hsx
    have HO:=Lib.hid ho
    have HRR:=Lib.hid hR
    have HLL:=Lib.hid hll
    clear hL hsx hbk ho hR hkl hll hb
    go_wp2_with fail
    go_loopw [30,8] (fun i x wr=>∃ j:Nat,j≤k∧i = .int .i64 j∧x = .int .u64 (beN (l.take j))∧wr=w1) (fun i _ _=>k-(intOf i).toNat)
    case atStart=>exact⟨0,Nat.zero_le _,rfl,rfl,rfl⟩
    case round=>
      obtain⟨j,hj,rfl,rfl,rfl⟩:=hrel
      by_cases hlt:j<k
      · obtain⟨A',cap',hA,_,hl',hcell⟩:=HSX.out
        injection hA with hA _ _
        subst hA
        obtain⟨b,off,rfl,hr⟩:=hcell (by omega)
        have hjl:j<l.length:=by rw[HLL.out];exact hlt
        have hc:=hr j _ (u8s_get l j hjl)
        have hby:=HBK.out l[j] (List.getElem_mem hjl)
        obtain⟨c,hcc⟩:∃ c:Nat,l[j]=c:=⟨l[j].toNat,by omega⟩
        have hsn:=beN_snoc l j hjl
        rw[hcc] at hc hsn hby
        have hlt56:beN (l.take j)<256 ^ j:=by
          have:=beN_lt (l.take j) (fun b hb=>HBK.out b (List.mem_of_mem_take hb))
          rwa [List.length_take,Nat.min_eq_left (by omega)] at this
        obtain⟨y,hy⟩:∃ y,y=beN (l.take j):=⟨_,rfl⟩
        rw[← hy] at hsn hlt56
        rw[← hy]
        have HSN:=Lib.hid hsn
        have hor:bits .or .u64 (IntKind.u64.wrap ((y:Int)*256)) (c:Int)=((y*256+c:Nat):Int):=or_byte y c j (by omega) hlt56 (by omega)
        have hi0:(0:Int)≤j:=by omega
        have hi2:(j:Int)<k:=by omega
        clear hr hcell hsn hy hcc hl'
        go_wp2_with fail
        refine⟨⟨j+1,by omega,by go_num,?_,by trivial⟩,by simp[intOf];omega⟩
        rw[HSN.out]
        simp
      · obtain rfl:j=k:=by omega
        rw[List.take_of_length_le (by rw[HLL.out];omega)]
        go_wp2_with fail
        go_ret2
        refine⟨HO.out,.inl ⟨?_,?_,v',HRR.out⟩⟩
        · have:=HLL.out
          rw[HL.out,List.length_take] at this
          omega
        · rw[HL.out]
          rfl
  · have HO:=Lib.hid ho
    have HRR:=Lib.hid hR
    have HB:=Lib.hid hbad
    clear ho hR hbad
    go_wp2_with fail
    go_ret2
    exact⟨HO.out,.inr ⟨HB.out,rfl,HRR.out⟩⟩
theorem rd_Number(r:Nat)(v:Value)(xs:List Int)(bad:Bool)(k:Nat)(w:World)(h:RD w r v xs bad)(hb:Bys xs)(hl:xs.length≤1000000)(hk1:1≤k)(hk8:k≤8):
    Calls Tryz.prog 159 #[.pointer (some ⟨r,0,none⟩),.int .i64 k] w fun e w'=>Off r w w' ∧
      ((bad = false ∧ k ≤ xs.length ∧ ∃ v', e = .returned (.int .u64 (beN (xs.take k))) ∧ RD w' r v' (xs.drop k) false) ∨
       ((bad=true∨xs.length<k)∧e = .returned (.int .u64 0)∧RD w' r (.slice none 0 0) [] true)):=by
  go_enter Tryz.func159,Tryz.ntmps159
  have HR:=Lib.hid h
  clear h
  go_wp2_with fail
  refine(rd_number r v xs bad k w HR.out hb hl hk1 hk8).mono ?_
  rintro e w1 ⟨ho,⟨hbad,hkl,v',rfl,hR⟩|⟨hbad,rfl,hR⟩⟩
  all_goals
    have HO:=Lib.hid ho
    have HRR:=Lib.hid hR
    have HBD:=Lib.hid hbad
    clear ho hR hbad
    go_wp2_with fail
    go_ret
  · exact⟨HO.out,.inl ⟨HBD.out,hkl,v',rfl,HRR.out⟩⟩
  · exact⟨HO.out,.inr ⟨HBD.out,rfl,HRR.out⟩⟩
theorem rd_Take(r:Nat)(v:Value)(xs:List Int)(bad:Bool)(n:Nat)(w:World)(h:RD w r v xs bad)(hl:xs.length≤1000000)(hn:n≤1000000):
    Calls Tryz.prog 223 #[.pointer (some ⟨r,0,none⟩),.int .i64 n] w fun e w'=>Off r w w' ∧
      ((bad = false ∧ n ≤ xs.length ∧ ∃ x v', e = .returned x ∧ Sn w' 1 x n (u8s (xs.take n)) ∧ RD w' r v' (xs.drop n) false) ∨
       ((bad=true∨xs.length<n)∧e = .returned (.slice none 0 0)∧RD w' r (.slice none 0 0) [] true)):=by
  go_enter Tryz.func223,Tryz.ntmps223
  have HR:=Lib.hid h
  have hi1:(0:Int)≤n:=by omega
  have hi8:(n:Int)≤1000000:=by omega
  clear h
  go_wp2_with fail
  refine(rd_next r v xs bad n w HR.out hl).mono ?_
  rintro e w1 ⟨ho,⟨rfl,hkl,x,v',rfl,hsx,hR⟩|⟨hbad,rfl,hR⟩⟩
  · have HO:=Lib.hid ho
    have HRR:=Lib.hid hR
    have HSX:=Lib.hid hsx
    have HK:=Lib.hid hkl
    clear ho hR hsx hkl
    go_wp2_with fail
    refine(clone_bytes x n (u8s (xs.take n)) w1 HSX.out (u8s_mem _) hn).mono ?_
    rintro e w2 ⟨y,rfl,hsy,hb2⟩
    go_wp2_with fail
    go_ret
    exact⟨HO.trans (Off.of_below hb2),.inl ⟨HK.out,y,rfl,hsy,v',⟨HRR.out.1.keep hb2,HRR.out.2.below hb2⟩⟩⟩
  · have HO:=Lib.hid ho
    have HRR:=Lib.hid hR
    have HBD:=Lib.hid hbad
    clear ho hR hbad
    go_wp2_with fail
    go_ret
    exact⟨HO.out,.inr ⟨HBD.out,rfl,HRR.out⟩⟩
theorem rd_Done(r:Nat)(v:Value)(xs:List Int)(bad:Bool)(w:World)(h:RD w r v xs bad):
  Calls Tryz.prog 161 #[.pointer (some ⟨r,0,none⟩)] w fun e w'=>e = .returned (.bool (!bad && decide (xs.length=0)))∧w=w':=by
 obtain⟨hB,hs⟩:=h
 obtain⟨A,cap,rfl,hcap,_,_⟩:=id hs
 have h0:=hB.cell 0
 have h1:=hB.cell 1
 simp only[List.getElem?_toArray,List.getElem?_cons_zero,List.getElem?_cons_succ] at h0 h1
 clear hB hs
 rcases Bool.eq_false_or_eq_true bad with rfl|rfl
 ·go_enter Tryz.func161,Tryz.ntmps161
  go_wp2_with fail
  go_ret
  exact⟨rfl,rfl⟩
 ·go_enter Tryz.func161,Tryz.ntmps161
  go_wp2_with fail
  go_ret
  refine⟨?_,by trivial⟩
  by_cases hx:xs=[]
  ·subst hx;rfl
  ·have:xs.length≠0:=fun e=>hx (List.eq_nil_of_length_eq_zero e)
   simp[hx,this]
def beB:Nat→Nat→List Int
 | 0,_=>[]
 | m+1,x=>((x/256 ^ m % 256:Nat):Int) :: beB m x
theorem beB_length:∀ k x,(beB k x).length=k
 | 0,_=>rfl
 | m+1,x=>by simp[beB,beB_length m x]
theorem beB_bys:∀ k x,Bys (beB k x)
 | 0,_=>fun b h=>by simp[beB] at h
 | m+1,x=>fun b h=>by
  simp only[beB,List.mem_cons] at h
  rcases h with rfl|h
  ·omega
  ·exact beB_bys m x b h
def numRow(k m x:Nat):List Value:=List.replicate (k-m) (Value.int .u8 0)++u8s (beB m x)
theorem numRow_step(k m x:Nat)(h:m<k):(numRow k m x).set (k-1-m) (Value.int .u8 ((x/256 ^ m % 256:Nat):Int))=numRow k (m+1) x:=by
 unfold numRow
 rw[show k-m=(k-(m+1))+1 by omega,List.replicate_succ']
 rw[List.append_assoc,List.set_append_right _ _ (by simp;omega)]
 rw[List.length_replicate,show k-1-m-(k-(m+1))=0 by omega]
 rfl
theorem madeCells_one(z:Value)(n:Nat):(madeCells #[z] n).toList=List.replicate n z:=by
 rw[List.eq_replicate_iff]
 refine⟨by simp[madeCells],fun b hb=>?_⟩
 simp only[madeCells,Array.toList_map,Array.toList_range,List.mem_map] at hb
 obtain⟨i,_,rfl⟩:=hb
 simp[Nat.mod_one]
theorem own_cell1{w:World}{base e n cap g:Nat}{xs:List Value}(h:w.ownsRow base e 1 (.slice (some ⟨g,0,none⟩) n cap) n xs){j:Nat}{u:Value}(hj:xs[j]? = some u):w.cell? ⟨g,j,none⟩=some u∧w.frozen? ⟨g,j,none⟩=false:=by
 obtain⟨hl,h|⟨g',cap',cur,hv,_,hh,_,_,_,htk⟩⟩:=h
 ·cases h.1
 ·injection hv with hv1 _ hv2
  injection hv1 with hv1
  injection hv1 with hv1 _ _
  subst hv1
  have hB:Blk w g e cur:=hh
  refine⟨?_,hB.frozen j⟩
  rw[hB.cell]
  rw[← htk,List.getElem?_take] at hj
  split at hj
  ·simpa using hj
  ·cases hj
theorem wire_number(k x:Nat)(w:World)(hk1:1≤k)(hk8:k≤8)(hx:x<256 ^ k):
  Calls Tryz.prog 169 #[.int .i64 k,.int .u64 x] w fun e w'=>∃ v,e = .returned (.tuple #[v,.bool true])∧w'.ownsRow w.heap.size 5 1 v k (u8s (beB k x))∧Below w.heap.size w w':=by
 have hi1:(1:Int)≤k:=by omega
 have hi8:(k:Int)≤8:=by omega
 have hx8:x<18446744073709551616:=by
  have h1:(256:Nat) ^ k≤256 ^ 8:=Nat.pow_le_pow_right (by omega) hk8
  have e8:(256:Nat) ^ 8=18446744073709551616:=by decide
  omega
 obtain⟨i,hi,hz,hsi,hby⟩:=info_parts (P:=Tryz.prog) (e:=5) (z:=.int .u8 0) (size:=1) (bytes:=1) (by kernel_rfl)
 have HX:=Lib.hid hx
 clear hx
 have hsh:((x:Int)/2 ^ (8*k) != 0)=false:=by
  have e1:(256:Nat) ^ k=2 ^ (8*k):=by rw[Nat.pow_mul]
  have e2:((x:Int)/2 ^ (8*k))=((x/2 ^ (8*k):Nat):Int):=by simp
  rw[e2,Nat.div_eq_of_lt (by rw[← e1];exact HX.out)]
  rfl
 have hcells:(madeCells (Value.int .u8 0).cells (k*1)).toList=numRow k 0 x:=by
  show(madeCells #[Value.int .u8 0] (k*1)).toList=_
  rw[madeCells_one]
  simp[numRow,beB,u8s]
 have HCE:=Lib.hid hcells
 clear hcells
 have hcase:k<8∨k=8:=by omega
 rcases hcase with hk|hk
 all_goals
  first|(have hki:(k:Int)<8:=by omega)|(have hki:¬(k:Int)<8:=by omega)
  clear hk
  go_enter Tryz.func169,Tryz.ntmps169
  go_wp2_with (at_make;refine wpList_make_full _ rfl (.tmp 23) (.tmp 23) 68 rfl w.heap.size 5 i (.int .u8 0) 1 Tryz.underlying68 hi hz hsi .i64 .i64 (k:Int) (k:Int) k rfl rfl rfl rfl (by rw[hby];omega) (by unfold maxLen;omega) (Nat.le_refl _) ?_;intro w2 hown hg)
  rw[HCE.out] at hown
  have hb2:Below w.heap.size w w2:=(Below.refl _ w).grown hg (Nat.le_refl _) (fun g e=>by cases e)
  clear hg hsh
  go_loopw [7,1] (fun i y wr=>∃ m:Nat,m≤k∧i = .int .i64 ((k:Int)-1-m)∧y = .int .u64 (x/256 ^ m)∧wr.ownsRow w.heap.size 5 1 (.slice (some ⟨w.heap.size,0,none⟩) k k) k (numRow k m x)∧Below w.heap.size w wr) (fun i _ _=>(intOf i+1).toNat)
  case atStart=>exact⟨0,Nat.zero_le _,by simp,by simp,hown,hb2⟩
  case round=>
   obtain⟨m,hm,rfl,rfl,hownr,hbr⟩:=hrel
   by_cases hlt:m<k
   ·have hst:=hownr.stored (k-1-m) (.int .u8 ((x/256 ^ m % 256:Nat):Int))
    rw[numRow_step k m x hlt] at hst
    have ec:((x/256 ^ m % 256:Nat):Int)=(x:Int)/256 ^ m % 256:=by simp
    rw[ec] at hst
    have hnr:(numRow k m x)[k-1-m]? = some (.int .u8 0):=by
     unfold numRow
     rw[List.getElem?_append_left (by simp;omega)]
     rw[List.getElem?_replicate,if_pos (by omega)]
    obtain⟨hcc,hff⟩:=own_cell1 hownr hnr
    have HST:=Lib.hid hst.1
    have HBS:Hid (Below w.heap.size w (wr.setCell ⟨w.heap.size,k-1-m,none⟩ (.int .u8 ((x:Int)/256 ^ m % 256)))):=Lib.hid (hbr.grown hst.2 hbr.size (fun g e=>by cases e;exact Nat.le_refl _))
    have hi0:(0:Int)≤(k:Int)-1-m:=by omega
    have hi2:(k:Int)-1-m<k:=by omega
    clear hst ec hnr
    go_wp2_with fail
    refine⟨⟨m+1,by omega,by go_num,?_,HST.out,HBS.out⟩,by simp[intOf];omega⟩
    have hp:(0:Int)≤256 ^ m:=Int.pow_nonneg (by omega)
    rw[Int.pow_succ,Int.ediv_ediv_of_nonneg hp]
   ·obtain rfl:m=k:=by omega
    have hfin:numRow m m x=u8s (beB m x):=by simp[numRow]
    rw[hfin] at hownr
    go_wp2_with fail
    go_ret2
    exact⟨_,rfl,hownr,hbr⟩
theorem frame_number(k x:Nat)(w:World)(hk1:1≤k)(hk8:k≤8)(hx:x<256 ^ k):
  Calls Tryz.prog 319 #[.int .i64 k,.int .u64 x] w fun e w'=>∃ v,e = .returned v∧w'.ownsRow w.heap.size 5 1 v k (u8s (beB k x))∧Below w.heap.size w w':=by
 go_enter Tryz.func319,Tryz.ntmps319
 go_wp2_with fail
 refine(wire_number k x w hk1 hk8 hx).mono ?_
 rintro e w1 ⟨v,rfl,hown,hb⟩
 go_wp2_with fail
 go_ret
 exact⟨_,rfl,hown,hb⟩
structure Parts(w:World)(va:Value)(ps:List (Value×List Int)):Prop where
 row:Sn w 1 va ps.length (ps.map (·.1))
 part:∀ p∈ps,Sn w 1 p.1 p.2.length (u8s p.2)
theorem Parts.below{w w':World}{va:Value}{ps:List (Value×List Int)}(h:Parts w va ps)(hb:Below w.heap.size w w'):Parts w' va ps:=
 ⟨h.row.below hb,fun p hp=>(h.part p hp).below hb⟩
def total(ps:List (Value×List Int)):Nat:=(ps.map (fun p=>p.2.length)).sum
theorem total_snoc(ps:List (Value×List Int))(k:Nat)(h:k<ps.length):total (ps.take (k+1))=total (ps.take k)+ps[k].2.length:=by
 unfold total
 rw[List.take_succ_eq_append_getElem h,List.map_append,List.sum_append]
 simp only[List.map_cons,List.map_nil,List.sum_cons,List.sum_nil,Nat.add_zero]
theorem total_le(ps:List (Value×List Int))(k:Nat):total (ps.take k)≤total ps:=by
 have:total ps=total (ps.take k)+total (ps.drop k):=by
  unfold total
  conv=>lhs;rw[← List.take_append_drop k ps]
  rw[List.map_append,List.sum_append]
 omega
def cat(ps:List (Value×List Int)):List Int:=ps.flatMap (·.2)
theorem cat_snoc(ps:List (Value×List Int))(k:Nat)(h:k<ps.length):cat (ps.take (k+1))=cat (ps.take k)++ps[k].2:=by
 unfold cat
 rw[List.take_succ_eq_append_getElem h,List.flatMap_append]
 simp only[List.flatMap_cons,List.flatMap_nil,List.append_nil]
theorem cat_length(ps:List (Value×List Int)):(cat ps).length=total ps:=by
 unfold cat total
 rw[List.length_flatMap]
theorem Parts.at{w:World}{A:Option Addr}{cap:Nat}{ps:List (Value×List Int)}(h:Parts w (.slice A ps.length cap) ps)(k:Nat)(hk:k<ps.length):
  ∃ b off A' c',A=some ⟨b,off,none⟩∧w.cell? ⟨b,off+k,none⟩=some (.slice A' ps[k].2.length c')∧Sn w 1 (.slice A' ps[k].2.length c') ps[k].2.length (u8s ps[k].2):=by
 obtain⟨A1,cap1,hv,_,hl,hx⟩:=h.row
 injection hv with hA _ _
 subst hA
 obtain⟨b,off,rfl,hc⟩:=hx (by omega)
 have hp:=h.part ps[k] (List.getElem_mem hk)
 obtain⟨A',c',e,_,_,_⟩:=id hp
 have:=hc k ps[k].1 (by simp[hk])
 rw[e] at this hp
 exact⟨b,off,A',c',rfl,this,hp⟩
theorem wire_join(va:Value)(ps:List (Value×List Int))(w:World)(hp:Parts w va ps)(hn:ps.length≤1000)(ht:total ps≤1000000):
  Calls Tryz.prog 167 #[va] w fun e w'=>∃ v,e = .returned v∧w'.ownsRow w.heap.size 5 1 v (total ps) (u8s (cat ps))∧Below w.heap.size w w':=by
 obtain⟨A,cap,rfl,hcap,_,_⟩:=id hp.row
 have HP:=Lib.hid hp
 clear hp
 obtain⟨i,hi,hz,hsi,hby⟩:=info_parts (P:=Tryz.prog) (e:=5) (z:=.int .u8 0) (size:=1) (bytes:=1) (by kernel_rfl)
 go_enter Tryz.func167,Tryz.ntmps167
 go_wp2_with fail
 go_loopw [11,3] (fun i n wr=>∃ k:Nat,k≤ps.length∧i = .int .i64 k∧n = .int .i64 (total (ps.take k))∧wr=w) (fun i _ _=>ps.length-(intOf i).toNat)
 case atStart=>exact⟨0,Nat.zero_le _,rfl,rfl,rfl⟩
 case round=>
  obtain⟨k,hk,rfl,rfl,hw⟩:=hrel
  rw[hw]
  clear hw
  by_cases hlt:k<ps.length
  ·obtain⟨b,off,A',c',rfl,hc,_⟩:=HP.at k hlt
   have hsn:=total_snoc ps k hlt
   have h1:=total_le ps k
   have h2:=total_le ps (k+1)
   rw[hsn] at h2
   have HSN:=Lib.hid hsn
   obtain⟨m,hm⟩:∃ m,m=ps[k].2.length:=⟨_,rfl⟩
   obtain⟨y,hy⟩:∃ y,y=total (ps.take k):=⟨_,rfl⟩
   rw[← hm] at hc h2 HSN
   rw[← hy] at h1 h2 HSN ⊢
   have hi0:(0:Int)≤k:=by omega
   have hi1:(k:Int)<ps.length:=by omega
   clear hm hy hsn
   go_wp2_with fail
   refine⟨⟨k+1,by omega,by go_num,?_,by trivial⟩,by simp[intOf];omega⟩
   rw[HSN.out]
   simp
  ·obtain rfl:k=ps.length:=by omega
   rw[List.take_length]
   obtain⟨T,hT⟩:∃ T,T=total ps:=⟨_,rfl⟩
   have HT:=Lib.hid hT
   rw[← hT] at ht ⊢
   clear hT
   go_wp2_with (at_make;refine wpList_make_own _ rfl (.const (.int .i64 0)) (.tmp 20) 68 rfl w.heap.size 5 i (.int .u8 0) 1 Tryz.underlying68 hi hz hsi .i64 .i64 (T:Int) T rfl rfl rfl (by rw[hby];omega) (by unfold maxLen;omega) (Nat.le_refl _) ?_;intro w2 hown hg)
   have hb2:Below w.heap.size w w2:=(Below.refl _ w).grown hg (Nat.le_refl _) (fun g e=>by cases e)
   clear hg
   go_loopw [24,6] (fun i v wr=>∃ k:Nat,k≤ps.length∧i = .int .i64 k∧wr.ownsRow w.heap.size 5 1 v (cat (ps.take k)).length (u8s (cat (ps.take k)))∧Below w.heap.size w wr) (fun i _ _=>ps.length-(intOf i).toNat)
   case atStart=>exact⟨0,Nat.zero_le _,rfl,hown,hb2⟩
   case round=>
    obtain⟨k,hk,rfl,hownr,hbr⟩:=hrel
    by_cases hlt:k<ps.length
    ·obtain⟨b,off,A',c',rfl,hc,hsx⟩:=(HP.below hbr).at k hlt
     have hsn:=cat_snoc ps k hlt
     have hcl:=cat_length (ps.take (k+1))
     have h2:=total_le ps (k+1)
     have HTO:=HT.out
     rw[hsn] at hcl
     have HSN:=Lib.hid hsn
     obtain⟨x,hx⟩:∃ x,x=ps[k].2:=⟨_,rfl⟩
     obtain⟨y,hy⟩:∃ y,y=cat (ps.take k):=⟨_,rfl⟩
     rw[← hx] at hc hsx HSN hcl
     rw[← hy] at hownr HSN hcl
     have HSX:=Lib.hid hsx
     have hyl:y.length+x.length≤1000000:=by
      rw[List.length_append] at hcl
      omega
     have hszr:=hbr.size
     have hi0:(0:Int)≤k:=by omega
     have hi1:(k:Int)<ps.length:=by omega
     clear hsx hx hy hsn hcl HTO
     go_wp2_with (at_builtin;refine app tByt (.tmp 28) (.tmp 29) rfl rfl rfl hownr rfl HSX.out (u8s_mem x) (by unfold maxLen;omega) (by omega) (by omega) ?_;intro v4 w4 hown4 hg4 _)
     have hb4:Below w.heap.size w w4:=hbr.grown hg4 (by omega) (fun g hg=>(hownr.lt g hg).1)
     refine⟨⟨k+1,by omega,by go_num,?_,hb4⟩,by simp[intOf];omega⟩
     rw[HSN.out,List.length_append,u8s_append]
     exact hown4
    ·obtain rfl:k=ps.length:=by omega
     rw[List.take_length] at hownr
     go_wp2_with fail
     go_ret
     refine⟨_,rfl,?_,hbr⟩
     rw[HT.out,← cat_length]
     exact hownr
end
section
open Go.RowKit
def z64:Array Value:=(u8s (List.replicate 64 0)).toArray
def pad(l:List Int):List Int:=l++List.replicate (64-l.length) 0
theorem pad_length(l:List Int)(h:l.length≤64):(pad l).length=64:=by simp[pad];omega
theorem pad_bys{l:List Int}(h:Bys l):Bys (pad l):=fun b hb=>by
 unfold pad at hb
 rcases List.mem_append.1 hb with hb|hb
 ·exact h b hb
 ·have:=(List.mem_replicate.1 hb).2;omega
theorem z64_size:z64.size=64:=by simp[z64,u8s]
theorem put_many(cs:Array Value)(n:Nat)(hc:cs.size=n)(xs:List Value)(off:Nat)(h:off+xs.length≤n)(i:Nat):((xs.zipIdx off).foldl (fun(cs:Array Value) (x:Value×Nat)=>cs.setIfInBounds x.2 x.1) cs)[i]? = if off≤i∧i<off+xs.length then xs[i-off]? else cs[i]?:=by
 rw[set_many,hc]
 by_cases h1:off≤i∧i<off+xs.length
 ·rw[if_pos ⟨h1.1,h1.2,by omega⟩,if_pos h1]
 ·rw[if_neg (fun h2=>h1 ⟨h2.1,h2.2.1⟩),if_neg h1]
theorem pad_put(l:List Int)(h:l.length≤64):((u8s l).zipIdx 0).foldl (fun(cs:Array Value) (x:Value×Nat)=>cs.setIfInBounds x.2 x.1) z64=(u8s (pad l)).toArray:=by
 apply Array.ext_getElem?
 intro i
 rw[put_many z64 64 z64_size (u8s l) 0 (by rw[u8s_length];omega),u8s_length,show(u8s (pad l)).toArray[i]? = (u8s (pad l))[i]? by simp]
 unfold pad
 rw[u8s_append]
 by_cases h1:i<l.length
 ·rw[if_pos ⟨Nat.zero_le _,by omega⟩,List.getElem?_append_left (by rw[u8s_length];exact h1),Nat.sub_zero]
 ·rw[if_neg (by omega),List.getElem?_append_right (by rw[u8s_length];omega),u8s_length]
  unfold z64
  simp only[u8s,List.map_replicate,List.getElem?_toArray,List.getElem?_replicate]
  by_cases h2:i<64
  ·rw[if_pos h2,if_pos (by omega)]
  ·rw[if_neg h2,if_neg (by omega)]
attribute [irreducible] z64 pad
theorem zero64:∀ w,(zeroValue 243).run Tryz.prog w = .ok (.agg z64) w:=fun w=>by unfold z64;kernel_rfl
theorem sector_make(vb:Value)(l:List Int)(w:World)(hs:Sn w 1 vb l.length (u8s l))(hl:l.length≤64):
  Calls Tryz.prog 330 #[vb] w fun e w'=>e = .returned (.tuple #[.agg (u8s (pad l)).toArray,.bool true])∧Below w.heap.size w w':=by
 obtain⟨A,cap,rfl,hcap,_,_⟩:=id hs
 have HS:=Lib.hid hs
 have hl64:¬(64:Int)<l.length:=by omega
 have hpl:=pad_length l hl
 have hup:(u8s (pad l)).length=64:=by rw[u8s_length,hpl]
 have hu1:=u8s_mem l
 clear hs
 obtain⟨w1,hw1⟩:∃ w1,w1=(w.alloc (.cells z64 243)).alloc (.cells z64 243):=⟨_,rfl⟩
 have hB1:Blk w1 w.heap.size 243 z64:=by rw[hw1];exact(Blk.new w _ _).alloc _
 have hB2:Blk w1 (w.heap.size+1) 243 z64:=by rw[hw1];exact Blk.newAt _ _ _ _ (by simp)
 have hb1:Below w.heap.size w w1:=by rw[hw1];exact(by repeat (first|exact Below.refl _ _|assumption|refine bdrewN ?_ _|refine Below.setCell ?_ (by first|exact Nat.le_refl _|assumption|omega|(simp <;> omega)) _|refine Below.alloc ?_ (by first|exact Nat.le_refl _|assumption|omega|(simp <;> omega)) _))
 have hs1:Sn w1 1 (.slice A l.length cap) l.length (u8s l):=by rw[hw1];exact(HS.alloc _).alloc _
 have hth:w1.there (w.heap.size+1) 0 l.length:=fun j hj=>⟨by
  rw[hB2.cell,Array.getElem?_eq_getElem (by rw[z64_size];omega)];rfl,hB2.frozen _⟩
 have hB2':=setCells_blk (u8s l) 0 w1 z64 hB2
 rw[pad_put l hl] at hB2'
 have hB1':Blk (w1.setCells (w.heap.size+1) 0 (u8s l)) w.heap.size 243 z64:=(setCells_other (by omega) _ _ _).trans hB1
 have hb2:Below w.heap.size w (w1.setCells (w.heap.size+1) 0 (u8s l)):=hb1.trans (setCells_below (by omega) _ _ _).1
 have hr2:=hB2'.range
 rw[List.toList_toArray] at hr2
 have hz:z64.size=(u8s (pad l)).toArray.size:=by rw[z64_size];simp[hup]
 have HB1:=Lib.hid hB1'
 have HB2:=Lib.hid hb2
 have HR2:=Lib.hid hr2
 have HTH:=Lib.hid hth
 have HS1:=Lib.hid hs1
 clear hB1 hB2 hb1 hs1 hth hB2' hB1' hb2 hr2
 have h1:=u8s_one (pad l)
 subst hw1
 go_enter Tryz.func330,Tryz.ntmps330
 go_wp2_with (first
  | (refine al 243 z64 rfl rfl zero64 ?_)
  | (refine cp (.tmp 9) (.tmp 10) rfl rfl rfl rfl Tryz.underlying68 (by kernel_rfl) HS1.out hl HTH.out hu1 ?_)
  | (refine ld 243 _ rfl rfl rfl HR2.out Tryz.underlying243 rfl (by rw[hup];kernel_rfl) ?_)
  | (refine stBlk 243 (.tmp 2) (.tmp 12) rfl rfl rfl rfl HB1.out (by simp only[List.size_toArray,hup];kernel_rfl) hz h1 ?_;intro w3 hB3 hb3 _ _))
 have hr3:=hB3.range
 rw[List.toList_toArray] at hr3
 refine bodyPost_ret (results_cellR_tmp rfl _ rfl hr3 Tryz.underlying243 rfl (by rw[hup];kernel_rfl)) rfl ⟨rfl,HB2.trans hb3⟩
end
end Go.Proofs.YtiaigidbcljblaaGreatDoor
