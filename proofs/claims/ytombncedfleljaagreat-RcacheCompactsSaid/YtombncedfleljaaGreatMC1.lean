import Derived.Test.YtombncedfleljaaGreatRows
import Derived.WalkKit
import Derived.WalkSpells
import Derived.WalkLawsBesides
import Derived.Lib.Hide
import Derived.Maps.AppendAt
import Derived.OwnWalk
import Derived.Deep.MidRow
import Derived.Deep.RegionHeld3
import Derived.Laws.Slices
import Derived.Laws.IdiomCopy
import Derived.Laws.ResultCell
import Derived.Deep.QuietTactic
import Derived.Laws.Cover3
set_option linter.unusedSimpArgs false
set_option maxRecDepth 100000
set_option maxHeartbeats 40000000
namespace Go.Proofs.YtombncedfleljaaGreat
section
open Go.RowKit
def Sl(w:World)(v:Value)(xs:List Value):Prop:=
 ∃(A:Option Addr) (cap:Nat),v = .slice A xs.length cap∧xs.length≤cap∧(0<xs.length→∃ b off,A=some ⟨b,off,none⟩∧∀ j u,xs[j]? = some u→w.cell? ⟨b,off+j,none⟩=some u)
theorem fJ{w:World}{a:Addr}{v:Value}(h:w.cell? a=some v):a.block<w.heap.size:=World.block_lt_of_cell? w a h
theorem Below.cell'{w w':World}(h:Below w.heap.size w w'){a:Addr}{v:Value}(hc:w.cell? a=some v):w'.cell? a=some v:=by
 rw[h.cell (fJ hc)];exact hc
theorem bR{B:Nat}{a w:World}(h:Below B a w)(n:Nat):Below B a (w.drewN n):=⟨h.os,h.tape,h.output,h.size,h.block⟩
theorem aB{a b c:World}(h:Below a.heap.size a b)(k:Below b.heap.size b c):Below a.heap.size a c:=h.trans (k.mono h.size)
theorem mD{a b:World}(h:Below a.heap.size a b)(o:Obj):Below a.heap.size a (b.alloc o):=h.alloc h.size o
theorem Sl.keep{w w':World}{v:Value}{xs:List Value}(h:Sl w v xs)(hk:∀ a u,w.cell? a=some u→w'.cell? a=some u):Sl w' v xs:=by
 obtain⟨A,cap,rfl,hc,hx⟩:=h;refine⟨A,cap,rfl,hc,fun hp=>?_⟩;obtain⟨b,off,rfl,h⟩:=hx hp;exact⟨b,off,rfl,fun j u hj=>hk _ _ (h j u hj)⟩
theorem Sl.below{w w':World}{v:Value}{xs:List Value}(h:Sl w v xs)(hb:Below w.heap.size w w'):Sl w' v xs:=
 h.keep fun _ _ hc=>Below.cell' hb hc
theorem Sl.alloc{w:World}{v:Value}{xs:List Value}(h:Sl w v xs)(o:Obj):Sl (w.alloc o) v xs:=
 h.below ((Below.refl _ _).alloc (Nat.le_refl _) o)
theorem Sl.drew{w:World}{v:Value}{xs:List Value}(h:Sl w v xs):Sl w.drew v xs:=h
theorem Sl.drewN{w:World}{v:Value}{xs:List Value}(h:Sl w v xs)(n:Nat):Sl (w.drewN n) v xs:=h
theorem Sl.nil(w:World)(A:Option Addr)(cap:Nat):Sl w (.slice A 0 cap) []:=⟨A,cap,rfl,Nat.zero_le _,fun h=>absurd h (by simp)⟩
def eR(l:List Int):List Value:=l.map (Value.int .i64)
def Sn(w:World)(s:Nat)(v:Value)(n:Nat)(xs:List Value):Prop:=
 ∃(A:Option Addr) (cap:Nat),v = .slice A n cap∧n≤cap∧xs.length=n*s∧(0<n→∃ b off,A=some ⟨b,off,none⟩∧∀ j u,xs[j]? = some u→w.cell? ⟨b,off+j,none⟩=some u)
theorem Sn.keep{w w':World}{s n:Nat}{v:Value}{xs:List Value}(h:Sn w s v n xs)(hk:∀ a u,w.cell? a=some u→w'.cell? a=some u):Sn w' s v n xs:=by
 obtain⟨A,cap,rfl,hc,hl,hx⟩:=h;refine⟨A,cap,rfl,hc,hl,fun hp=>?_⟩;obtain⟨b,off,rfl,h⟩:=hx hp;exact⟨b,off,rfl,fun j u hj=>hk _ _ (h j u hj)⟩
theorem Sn.below{w w':World}{s n:Nat}{v:Value}{xs:List Value}(h:Sn w s v n xs)(hb:Below w.heap.size w w'):Sn w' s v n xs:=
 h.keep fun _ _ hc=>Below.cell' hb hc
theorem Sn.alloc{w:World}{s n:Nat}{v:Value}{xs:List Value}(h:Sn w s v n xs)(o:Obj):Sn (w.alloc o) s v n xs:=
 h.below ((Below.refl _ _).alloc (Nat.le_refl _) o)
theorem Sn.sl{w:World}{n:Nat}{v:Value}{xs:List Value}(h:Sn w 1 v n xs):Sl w v xs:=by
 obtain⟨A,cap,rfl,hc,hl,hx⟩:=h;have:xs.length=n:=by omega
 subst this;exact⟨A,cap,rfl,hc,hx⟩
theorem Sl.sn{w:World}{v:Value}{xs:List Value}(h:Sl w v xs):Sn w 1 v xs.length xs:=by
 obtain⟨A,cap,rfl,hc,hx⟩:=h;exact⟨A,cap,rfl,hc,by omega,hx⟩
theorem Sn.own{w:World}{base e s n:Nat}{v:Value}{xs:List Value}(h:w.ownsRow base e s v n xs):Sn w s v n xs:=by
 obtain⟨hl,h|⟨g,cap,cur,rfl,hb,hg,hn,hm,hcs,htk⟩⟩:=h
 ·obtain⟨rfl,rfl⟩:=h;exact⟨none,0,rfl,Nat.le_refl _,hl,fun h=>absurd h (by omega)⟩
 ·refine⟨_,cap,rfl,hn,hl,fun hp=>⟨g,0,rfl,fun j u hj=>?_⟩⟩;rw[cell_of_row w g (0+j) cur e (0,0) hg,Nat.zero_add];rw[← htk,List.getElem?_take] at hj;split at hj
  ·simpa using hj
  ·cases hj
theorem Sn.new(w:World)(cs:Array Value)(t:TypeId)(s n:Nat)(hs:cs.size=n*s):Sn (w.alloc (.cells cs t)) s (.slice (some ⟨w.heap.size,0,none⟩) n n) n cs.toList:=by
 refine⟨_,n,rfl,Nat.le_refl _,by simpa using hs,fun _=>⟨w.heap.size,0,rfl,fun j u hj=>?_⟩⟩;rw[cell_of_row _ w.heap.size (0+j) cs t (0,0) (heap_alloc_new w _),Nat.zero_add];simpa using hj
theorem Sn.newAt(w:World)(cs:Array Value)(t:TypeId)(s n g:Nat)(hs:cs.size=n*s)(hg:w.heap.size=g):Sn (w.alloc (.cells cs t)) s (.slice (some ⟨g,0,none⟩) n n) n cs.toList:=by
 subst hg;exact Sn.new w cs t s n hs
theorem cI(w:World)(cs:Array Value)(e s cap base g:Nat)(hb:base≤w.heap.size)(hs:cs.size=cap*s)(hm:cap≤maxLen)(hg:w.heap.size=g):(w.alloc (.cells cs e)).ownsRow base e s (.slice (some ⟨g,0,none⟩) 0 cap) 0 []:=by
 subst hg;exact World.ownsRow_made w cs cap hb hm hs
theorem aX{w w':World}{base e s n:Nat}{v:Value}{xs:List Value}(h:w.ownsRow base e s v n xs)(hb:Below w.heap.size w w'):w'.ownsRow base e s v n xs:=by
 refine⟨h.1,?_⟩;have hlt:=h.lt;rcases h.2 with h2|⟨g,cap,cur,rfl,hg,hh,r⟩
 ·exact .inl h2
 ·exact .inr ⟨g,cap,cur,rfl,hg,by rw[hb.block g (hlt g rfl).2];exact hh,r⟩
theorem dI{w:World}{base base' e s n:Nat}{v:Value}{xs:List Value}(h:w.ownsRow base e s v n xs)(hb:base'≤base):w.ownsRow base' e s v n xs:=by
 refine⟨h.1,?_⟩;rcases h.2 with h2|⟨g,cap,cur,rfl,hg,r⟩
 ·exact .inl h2
 ·exact .inr ⟨g,cap,cur,rfl,Nat.le_trans hb hg,r⟩
structure SlT(P:Program)(t e s bytes:Nat):Prop where
 ht:P.underlying t=some (.slice e)
 hi:∃ i z,P.info? e=some i∧i.zero=some z∧i.size=s∧i.bytes=bytes∧z.cells.size=s
 hs:0<s
theorem SlT.mk'{P:Program}{t e s bytes:Nat}{z:Value}(ht:P.underlying t=some (.slice e))(h:(P.info? e).map (fun i=>(i.zero,i.size,i.bytes))=some (some z,s,bytes))(hz:z.cells.size=s)(hs:0<s):SlT P t e s bytes:=by
 obtain⟨i,h1,h2,h3,h4⟩:=info_parts h;exact⟨ht,⟨i,z,h1,h2,h3,h4,hz⟩,hs⟩
section
variable {P : Program} {w : World}
theorem pQ{t ty e s bytes:Nat}(T:SlT P t e s bytes){base n:Nat}{v:Value}{xs:List Value}(hown:w.ownsRow base e s v n xs)(c:Nat):
  (Builtin.append_ #[t,t] ty #[v,.slice none 0 c]).run P w = .ok v w:=by
 obtain⟨i,z,hi,hz,hsi,hby,hzs⟩:=T.hi;rcases hown.2 with ⟨rfl,rfl⟩|⟨g,cap,cur,rfl,_,_,hnc,_⟩
 ·simp[Builtin.append_,run_underlying T.ht,sizeOf,typeInfo,hi,Builtin.lenOf,Builtin.firstCells]
 ·simp[Builtin.append_,run_underlying T.ht,sizeOf,typeInfo,hi,Builtin.lenOf,Builtin.firstCells,hnc,storeCells]
theorem pR{t ty e s bytes:Nat}(T:SlT P t e s bytes){base n:Nat}{v:Value}{xs:List Value}(hown:w.ownsRow base e s v n xs)(a:Addr)(c:Nat):
  (Builtin.append_ #[t,t] ty #[v,.slice (some a) 0 c]).run P w = .ok v w:=by
 obtain⟨i,z,hi,hz,hsi,hby,hzs⟩:=T.hi;rcases hown.2 with ⟨rfl,rfl⟩|⟨g,cap,cur,rfl,_,_,hnc,_⟩
 ·simp[Builtin.append_,run_underlying T.ht,sizeOf,typeInfo,hi,Builtin.lenOf,Builtin.firstCells,loadCells,loadCellsFrom]
 ·simp[Builtin.append_,run_underlying T.ht,sizeOf,typeInfo,hi,Builtin.lenOf,Builtin.firstCells,hnc,storeCells,loadCells,loadCellsFrom]
theorem iY{t ty e s bytes:Nat}(T:SlT P t e s bytes){base n m:Nat}{v x:Value}{xs news:List Value}(hown:w.ownsRow base e s v n xs)(hx:Sn w s x m news)
  (h1:∀ u∈news,u.oneCell'=true) (h63:n+m≤maxLen) (hbytes:(n+m)*bytes≤140737488355328) (hbase:base≤w.heap.size):
  ∃ v' w',(Builtin.append_ #[t,t] ty #[v,x]).run P w = .ok v' w'∧w'.ownsRow base e s v' (n+m) (xs++news)∧w.grownBy w' v.ownBlock∧(v'.ownBlock=v.ownBlock∨v'.ownBlock=some w.heap.size):=by
 obtain⟨A,c,rfl,hmc,hl,hcell⟩:=hx;rcases Nat.eq_zero_or_pos m with rfl|hm
 ·have hn:news=[]:=List.eq_nil_of_length_eq_zero (by simpa using hl);subst hn;refine⟨v,w,?_,by simpa using hown,World.grownBy.refl w _,.inl rfl⟩;cases A with
  | none=>exact pQ T hown c
  | some a=>exact pR T hown a c
 ·obtain⟨b,off,rfl,hc⟩:=hcell hm;obtain⟨i,z,hi,hz,hsi,hby,hzs⟩:=T.hi;obtain⟨v',w',h2,h3,h4,_,h5⟩:=run_append_own_at (P:=P) w base t ty e i z s bytes T.ht hi hz hsi hby hzs T.hs v n xs hown ⟨b,off,none⟩ m c news hl (fun j u hj=>by
   have:=hc j u hj
   rw[Addr.add_lit];exact this) h1 h63 hbytes hbase
  exact⟨v',w',h2,h3,h4,h5⟩
theorem app{ops:Array Oper}{rest:List Oper}{o:Oper}{a:Act}{Q:Exit→Act→World→Prop}{t e s bytes:Nat}(T:SlT P t e s bytes)(p q:Operand)
  (ho:o.op = .call { callee:=.builtin .append,args:=#[p,q],argTypes:=#[t,t] }) (hw:Region.wanted o (yielded ops a.tmps)=true)
  {base n m:Nat} {v x:Value} {xs news:List Value} (hv:a.eval p=v) (hown:w.ownsRow base e s v n xs) (hxv:a.eval q=x) (hx:Sn w s x m news)
  (h1:∀ u∈news,u.oneCell'=true) (h63:n+m≤maxLen) (hbytes:(n+m)*bytes≤140737488355328) (hbase:base≤w.heap.size)
  (h:∀ v' w',w'.ownsRow base e s v' (n+m) (xs++news)→w.grownBy w' v.ownBlock→(v'.ownBlock=v.ownBlock∨v'.ownBlock=some w.heap.size)→wpList P ops Q rest (a.put o.dst v') w'):
  wpList P ops Q (o :: rest) a w:=by
 refine wpList_step fun K hK=>?_
 rw[if_pos hw];obtain⟨v',w',hrun,h2,h3,h4⟩:=iY (ty:=o.type) T hown hx h1 h63 hbytes hbase;unfold Oper.wp execOp;simp only[ho,resolve,invoke,builtin,Sem.run_bind,Sem.run_pure,Result.andThen_ok,List.map_toArray,List.map_cons,List.map_nil,hv,hxv,hrun];exact hK _ _ (h v' w' h2 h3 h4)
end
end
section
open Go.RowKit
section
variable {P : Program}
theorem mX(w:World)(old cells:Array Value)(t:TypeId):(w.alloc (.cells old t)).setRow w.heap.size cells=w.alloc (.cells cells t):=by
 simp only[World.setRow,World.alloc];congr 1;apply Array.ext
 ·simp
 ·intro i h1 h2;simp only[Array.getElem_modify];split
  ·subst_vars;simp
  ·rw[Array.getElem_push,Array.getElem_push];have:i<w.heap.size:=by simp at h2;omega
   simp[this]
theorem ld{ops:Array Oper}{rest:List Oper}{o:Oper}{a:Act}{w:World}{Q:Exit→Act→World→Prop}(ty:TypeId)(x:Operand)(ho:o.op = .load ty x)(hw:Region.wanted o (yielded ops a.tmps)=true)
  {b off:Nat} (hx:a.eval x = .pointer (some ⟨b,off,none⟩)) {cs:List Value} {d:TypeDesc} (hc:w.rangeAt b off cs)
  (hu:P.underlying ty=some d) (hd:d.isRow=true) (hi:(P.info? ty).map (·.size)=some cs.length)
  (h:wpList P ops Q rest (a.put o.dst (.agg cs.toArray)) w):wpList P ops Q (o :: rest) a w:=
 wpList_step fun K hK=>by
  rw[if_pos hw];exact wp_load_mid ty x ho b off hx cs d hc hu hd hi (hK _ _ h)
theorem cR{ops:Array Oper}{rest:List Oper}{o:Oper}{a:Act}{w:World}{Q:Exit→Act→World→Prop}(ty:TypeId)(x y:Operand)(ho:o.op = .store ty x y)(hw:Region.wanted o (yielded ops a.tmps)=true)
  {old cells:Array Value} {t:TypeId} (hx:a.eval x = .pointer (some ⟨w.heap.size,0,none⟩)) (hy:a.eval y = .agg cells)
  (hi:(P.info? ty).map (·.size)=some cells.size) (hold:old.size=cells.size) (h1:cells.all (·.oneCell')=true)
  (h:∀ w2,w2.heap[w.heap.size]? = some (.cells cells t (0,0))→Below w.heap.size w w2→w2.heap.size=w.heap.size+1→wpList P ops Q rest (a.put o.dst undef) w2):
  wpList P ops Q (o :: rest) a (w.alloc (.cells old t)):=
 wpList_step fun K hK=>by
  rw[if_pos hw];refine wp_store_row ty x y ho w.heap.size cells hx hy t old (heap_alloc_new w _) hi hold h1 ?_;rw[mX];exact hK _ _ (h _ (heap_alloc_new w _) ((Below.refl _ _).alloc (Nat.le_refl _) _) (by simp))
end
theorem Sn.range{w:World}{s n cap:Nat}{A:Option Addr}{xs:List Value}(h:Sn w s (.slice A n cap) n xs)(k:Nat)(hk:k<n):
  ∃ b off,A=some ⟨b,off,none⟩∧w.rangeAt b (off+k*s) ((xs.drop (k*s)).take s):=by
 obtain⟨A',cap',hv,hc,hl,hx⟩:=h;injection hv with hA _ _
 subst hA;obtain⟨b,off,rfl,hcell⟩:=hx (by omega);refine⟨b,off,rfl,fun j u hj=>?_⟩;have hjs:j<s:=by have:=(List.getElem?_eq_some_iff.1 hj).1;simp at this;omega
 rw[List.getElem?_take,if_pos hjs,List.getElem?_drop] at hj;have:=hcell _ _ hj;rw[show off+k*s+j=off+(k*s+j) from by omega];exact this
end
section
open Go.RowKit
section
variable {P : Program} {ops : Array Oper} {Q : Exit → Act → World → Prop} {S : World → Prop} {a : Act} {w : World} {listed : Array Bool} {fuel : Nat}
theorem aQ(n:Nat)(S:World→Prop){id:Nat}(hm:P.follows .mixedOrders=true)(hn:ops.size=n)(hS:S w.drew)
  (h:S w.drew→wpAnyH P .any ops Q S n (Array.replicate n false) a w.drew):(Code.region id ops true).wp P Q a w:=by
 subst hn;exact wp_region_held_drew hm hS h
theorem BW(i:Nat)(op:Op)(dst:Option Tmp)(v:Value)(hd:(ops[i]?).map (fun o=>(o.op,o.dst))=some (op,dst))(hw:(ops[i]?).map (fun o=>Region.wanted o (yielded ops a.tmps))=some true)
  (hs:Region.noSelect ops=true) (hf:Region.free .any ops listed i=true) (hr:(Region.ready .any ops listed).contains i=true)
  (hQ:∀ c a w,Q (.panic c) (a.put dst v) w→Q (.panic c) a w) (hy:∀ o:Oper,o.op=op→∀ w,S w→(execOp a.eval o).run P w = .ok (.value v) w) (hS:S w)
  (h:wpAnyH P .any ops Q S fuel (listed.setIfInBounds i true) (a.put dst v) w):wpAnyH P .any ops Q S (fuel+1) listed a w:=by
 cases ho:ops[i]? with
 | none=>rw[ho] at hd;cases hd
 | some o=>
  rw[ho] at hd hw;simp only[Option.map_some,Option.some.injEq,Prod.mk.injEq] at hd hw;obtain⟨h1,h2⟩:=hd;subst h2;exact wpAnyH_take ho hs hf hr hQ (.inl ⟨hw,hy o h1⟩) hS h
theorem LA(i:Nat)(dst:Option Tmp)(hd:(ops[i]?).map (·.dst)=some dst)(hw:(ops[i]?).map (fun o=>Region.wanted o (yielded ops a.tmps))=some false)
  (hs:Region.noSelect ops=true) (hf:Region.free .any ops listed i=true) (hr:(Region.ready .any ops listed).contains i=true)
  (hQ:∀ c a w,Q (.panic c) (a.put dst undef) w→Q (.panic c) a w) (hS:S w)
  (h:wpAnyH P .any ops Q S fuel (listed.setIfInBounds i true) (a.put dst undef) w):wpAnyH P .any ops Q S (fuel+1) listed a w:=by
 cases ho:ops[i]? with
 | none=>rw[ho] at hd;cases hd
 | some o=>
  rw[ho] at hd hw;simp only[Option.map_some,Option.some.injEq] at hd hw;subst hd;exact wpAnyH_take ho hs hf hr hQ (.inr ⟨hw,rfl⟩) hS h
theorem LC(i:Nat)(ty:TypeId)(x:Operand)(dst:Option Tmp){b off:Nat}{cs:List Value}{d:TypeDesc}(hd:(ops[i]?).map (fun o=>(o.op,o.dst))=some (.load ty x,dst))(hw:(ops[i]?).map (fun o=>Region.wanted o (yielded ops a.tmps))=some true)
  (hs:Region.noSelect ops=true) (hf:Region.free .any ops listed i=true) (hr:(Region.ready .any ops listed).contains i=true)
  (hQ:∀ c a w,Q (.panic c) (a.put dst (.agg cs.toArray)) w→Q (.panic c) a w) (hx:a.eval x = .pointer (some ⟨b,off,none⟩)) (hc:∀ w,S w→w.rangeAt b off cs) (hu:P.underlying ty=some d) (hr':d.isRow=true) (hi:(P.info? ty).map (·.size)=some cs.length) (hS:S w)
  (h:wpAnyH P .any ops Q S fuel (listed.setIfInBounds i true) (a.put dst (.agg cs.toArray)) w):wpAnyH P .any ops Q S (fuel+1) listed a w:=
 BW i _ dst _ hd hw hs hf hr hQ (fun o ho w hw=>by
  unfold execOp
  simp only[ho,hx,Instr.loadAt,Instr.sureAddr,Sem.run_bind,Sem.run_pure,Result.andThen_ok,run_loadVar_mid w b off ty cs d (hc w hw) hu hr' hi]) hS h
theorem LD(i:Nat)(x:Operand)(dst:Option Tmp)(v:Value)(hd:(ops[i]?).map (fun o=>(o.op,o.dst))=some (.move x,dst))(hw:(ops[i]?).map (fun o=>Region.wanted o (yielded ops a.tmps))=some true)
  (hs:Region.noSelect ops=true) (hf:Region.free .any ops listed i=true) (hr:(Region.ready .any ops listed).contains i=true)
  (hQ:∀ c a w,Q (.panic c) (a.put dst v) w→Q (.panic c) a w) (hx:a.eval x=v) (hS:S w)
  (h:wpAnyH P .any ops Q S fuel (listed.setIfInBounds i true) (a.put dst v) w):wpAnyH P .any ops Q S (fuel+1) listed a w:=
 BW i _ dst _ hd hw hs hf hr hQ (fun o ho w _=>by
  unfold execOp
  simp only[ho,hx,Sem.run_pure]) hS h
theorem tT{rs:List Nat}(i:Nat)(op:Op)(dst:Option Tmp)(v:Value)(w2:World)(hd:(ops[i]?).map (fun o=>(o.op,o.dst))=some (op,dst))(hw:(ops[i]?).map (fun o=>Region.wanted o (yielded ops a.tmps))=some true)
  (hrun:∀ o:Oper,o.op=op→(execOp a.eval o).run P w = .ok (.value v) w2) (hS:S w2)
  (h:wpAnyH P .any ops Q S fuel (listed.setIfInBounds i true) (a.put dst v) w2) (hs:AllReadyH P .any ops Q S fuel listed a w rs):AllReadyH P .any ops Q S fuel listed a w (i :: rs):=by
 cases ho:ops[i]? with
 | none=>rw[ho] at hd;cases hd
 | some o=>
  rw[ho] at hd hw;simp only[Option.map_some,Option.some.injEq,Prod.mk.injEq] at hd hw;obtain⟨h2,h3⟩:=hd;subst h3;refine AllReadyH.cons ho (fun K hK=>?_) hs;rw[if_pos hw];unfold Oper.wp;rw[hrun o h2,Oper.upon_value];exact hK.out _ _ hS (fun _=>h)
theorem IW{rs:List Nat}(i:Nat)(ty:TypeId)(x y:Operand)(dst:Option Tmp){b off:Nat}{cs:List Value}(hd:(ops[i]?).map (fun o=>(o.op,o.dst))=some (.store ty x y,dst))(hw:(ops[i]?).map (fun o=>Region.wanted o (yielded ops a.tmps))=some true)
  (hx:a.eval x = .pointer (some ⟨b,off,none⟩)) (hy:a.eval y = .agg cs.toArray) (ht:w.there b off cs.length) (hi:(P.info? ty).map (·.size)=some cs.length) (h1:∀ u∈cs,u.oneCell'=true) (hS:S (w.setCells b off cs))
  (h:wpAnyH P .any ops Q S fuel (listed.setIfInBounds i true) (a.put dst undef) (w.setCells b off cs)) (hs:AllReadyH P .any ops Q S fuel listed a w rs):AllReadyH P .any ops Q S fuel listed a w (i :: rs):=by
 cases ho:ops[i]? with
 | none=>rw[ho] at hd;cases hd
 | some o=>
  rw[ho] at hd hw;simp only[Option.map_some,Option.some.injEq,Prod.mk.injEq] at hd hw;obtain⟨h2,h3⟩:=hd;subst h3;refine AllReadyH.cons ho (fun K hK=>?_) hs;rw[if_pos hw];refine wp_store_mid ty x y h2 b off cs.toArray hx hy (by simpa using ht) (by simpa using hi) (all_oneCell_toArray h1) ?_;rw[List.toList_toArray];exact hK.out _ _ hS (fun _=>h)
theorem LE{rs:List Nat}(i:Nat)(op:Op)(dst:Option Tmp)(f:FuncId)(args:Array Value)(hd:(ops[i]?).map (fun o=>(o.op,o.dst))=some (op,dst))(hw:(ops[i]?).map (fun o=>Region.wanted o (yielded ops a.tmps))=some true)
  (hent:∀ o:Oper,o.op=op→(execOp a.eval o).run P w = .ok (.enter f args) w)
  (h:Calls P f args w fun e w'=>∃ v,e = .returned v∧S w'∧(S w'→wpAnyH P .any ops Q S fuel (listed.setIfInBounds i true) (a.put dst v) w')) (hs:AllReadyH P .any ops Q S fuel listed a w rs):AllReadyH P .any ops Q S fuel listed a w (i :: rs):=by
 cases ho:ops[i]? with
 | none=>rw[ho] at hd;cases hd
 | some o=>
  rw[ho] at hd hw;simp only[Option.map_some,Option.some.injEq,Prod.mk.injEq] at hd hw;obtain⟨h2,h3⟩:=hd;subst h3;refine AllReadyH.cons ho (fun K hK=>?_) hs;rw[if_pos hw];unfold Oper.wp;rw[hent o h2,Oper.upon_enter];refine h.mono ?_;rintro e w' ⟨v,rfl,hS,hk⟩;exact hK.out _ _ hS hk
theorem zU{rs:List Nat}(i:Nat)(ty:TypeId)(dst:Option Tmp)(zs:Array Value)(hd:(ops[i]?).map (fun o=>(o.op,o.dst))=some (.alloc ty,dst))(hw:(ops[i]?).map (fun o=>Region.wanted o (yielded ops a.tmps))=some true)
  (hz:∀ w,(zeroValue ty).run P w = .ok (.agg zs) w) (hS:S (w.alloc (.cells zs ty)))
  (h:wpAnyH P .any ops Q S fuel (listed.setIfInBounds i true) (a.put dst (.pointer (some ⟨w.heap.size,0,none⟩))) (w.alloc (.cells zs ty))) (hs:AllReadyH P .any ops Q S fuel listed a w rs):AllReadyH P .any ops Q S fuel listed a w (i :: rs):=
 tT i (.alloc ty) dst _ _ hd hw (fun o ho=>by
  unfold execOp
  simp only[ho]
  unfold Instr.alloc newVar newRow
  simp[Sem.run_bind,hz,Value.cells]) hS h hs
end
section
variable {P : Program} {ops : Array Oper} {Q : Exit → Act → World → Prop} {S : World → Prop} {a : Act} {w : World} {listed : Array Bool} {fuel : Nat}
theorem jT (i : Nat) (op : Op) (dst : Option Tmp) (v : Value) (hS : S w) (h : wpAnyH P .any ops Q S fuel (listed.setIfInBounds i true) (a.put dst v) w)
    (hd : (ops[i]?).map (fun o => (o.op, o.dst)) = some (op, dst) := by kernel_rfl) (hw : (ops[i]?).map (fun o => Region.wanted o (yielded ops a.tmps)) = some true := by kernel_rfl)
    (hs : Region.noSelect ops = true := by kernel_rfl) (hf : Region.free .any ops listed i = true := by kernel_rfl) (hr : (Region.ready .any ops listed).contains i = true := by kernel_rfl)
    (hQ : ∀ c a w, Q (.panic c) (a.put dst v) w → Q (.panic c) a w := by exact fun _ _ _ h => h)
    (hy : ∀ o : Oper, o.op = op → ∀ w, S w → (execOp a.eval o).run P w = .ok (.value v) w := by exact fun o ho wX hX => by unfold execOp; simp only [ho]; go_simp) :
    wpAnyH P .any ops Q S (fuel + 1) listed a w := BW i op dst v hd hw hs hf hr hQ hy hS h
theorem jK (i : Nat) (dst : Option Tmp) (hS : S w) (h : wpAnyH P .any ops Q S fuel (listed.setIfInBounds i true) (a.put dst undef) w)
    (hd : (ops[i]?).map (·.dst) = some dst := by kernel_rfl) (hw : (ops[i]?).map (fun o => Region.wanted o (yielded ops a.tmps)) = some false := by kernel_rfl)
    (hs : Region.noSelect ops = true := by kernel_rfl) (hf : Region.free .any ops listed i = true := by kernel_rfl) (hr : (Region.ready .any ops listed).contains i = true := by kernel_rfl)
    (hQ : ∀ c a w, Q (.panic c) (a.put dst undef) w → Q (.panic c) a w := by exact fun _ _ _ h => h) :
    wpAnyH P .any ops Q S (fuel + 1) listed a w := LA i dst hd hw hs hf hr hQ hS h
theorem jM (i : Nat) (x : Operand) (dst : Option Tmp) (v : Value) (hS : S w) (h : wpAnyH P .any ops Q S fuel (listed.setIfInBounds i true) (a.put dst v) w)
    (hd : (ops[i]?).map (fun o => (o.op, o.dst)) = some (.move x, dst) := by kernel_rfl) (hw : (ops[i]?).map (fun o => Region.wanted o (yielded ops a.tmps)) = some true := by kernel_rfl)
    (hs : Region.noSelect ops = true := by kernel_rfl) (hf : Region.free .any ops listed i = true := by kernel_rfl) (hr : (Region.ready .any ops listed).contains i = true := by kernel_rfl)
    (hQ : ∀ c a w, Q (.panic c) (a.put dst v) w → Q (.panic c) a w := by exact fun _ _ _ h => h) (hx : a.eval x = v := by exact rfl) :
    wpAnyH P .any ops Q S (fuel + 1) listed a w := LD i x dst v hd hw hs hf hr hQ hx hS h
theorem jL (i : Nat) (ty : TypeId) (x : Operand) (dst : Option Tmp) {b off : Nat} {cs : List Value} {d : TypeDesc} (hc : ∀ w, S w → w.rangeAt b off cs) (hu : P.underlying ty = some d) (hr' : d.isRow = true) (hi : (P.info? ty).map (·.size) = some cs.length) (hS : S w)
    (h : wpAnyH P .any ops Q S fuel (listed.setIfInBounds i true) (a.put dst (.agg cs.toArray)) w)
    (hd : (ops[i]?).map (fun o => (o.op, o.dst)) = some (.load ty x, dst) := by kernel_rfl) (hw : (ops[i]?).map (fun o => Region.wanted o (yielded ops a.tmps)) = some true := by kernel_rfl)
    (hs : Region.noSelect ops = true := by kernel_rfl) (hf : Region.free .any ops listed i = true := by kernel_rfl) (hr : (Region.ready .any ops listed).contains i = true := by kernel_rfl)
    (hQ : ∀ c a w, Q (.panic c) (a.put dst (.agg cs.toArray)) w → Q (.panic c) a w := by exact fun _ _ _ h => h) (hx : a.eval x = .pointer (some ⟨b, off, none⟩) := by exact rfl) :
    wpAnyH P .any ops Q S (fuel + 1) listed a w := LC i ty x dst hd hw hs hf hr hQ hx hc hu hr' hi hS h
theorem jW (rs : List Nat) (h : AllReadyH P .any ops Q S fuel listed a w rs) (hr : Region.ready .any ops listed = rs := by kernel_rfl) (hne : rs ≠ [] := by simp) : wpAnyH P .any ops Q S (fuel + 1) listed a w := wpAnyH_ready hr hne h
theorem jN : AllReadyH P .any ops Q S fuel listed a w [] := AllReadyH.nil
theorem jS {rs : List Nat} (i : Nat) (op : Op) (dst : Option Tmp) (v : Value) (w2 : World) (hS : S w2)
    (h : wpAnyH P .any ops Q S fuel (listed.setIfInBounds i true) (a.put dst v) w2) (hs : AllReadyH P .any ops Q S fuel listed a w rs)
    (hd : (ops[i]?).map (fun o => (o.op, o.dst)) = some (op, dst) := by kernel_rfl) (hw : (ops[i]?).map (fun o => Region.wanted o (yielded ops a.tmps)) = some true := by kernel_rfl)
    (hrun : ∀ o : Oper, o.op = op → (execOp a.eval o).run P w = .ok (.value v) w2 := by exact fun o ho => by unfold execOp; simp only [ho]; go_simp) :
    AllReadyH P .any ops Q S fuel listed a w (i :: rs) := tT i op dst v w2 hd hw hrun hS h hs
theorem jC {rs : List Nat} (i : Nat) (op : Op) (dst : Option Tmp) (f : FuncId) (args : Array Value)
    (h : Calls P f args w fun e w' => ∃ v, e = .returned v ∧ S w' ∧ (S w' → wpAnyH P .any ops Q S fuel (listed.setIfInBounds i true) (a.put dst v) w')) (hs : AllReadyH P .any ops Q S fuel listed a w rs)
    (hd : (ops[i]?).map (fun o => (o.op, o.dst)) = some (op, dst) := by kernel_rfl) (hw : (ops[i]?).map (fun o => Region.wanted o (yielded ops a.tmps)) = some true := by kernel_rfl)
    (hent : ∀ o : Oper, o.op = op → (execOp a.eval o).run P w = .ok (.enter f args) w := by exact fun o ho => by unfold execOp; simp only [ho]; go_simp) :
    AllReadyH P .any ops Q S fuel listed a w (i :: rs) := LE i op dst f args hd hw hent h hs
theorem jR {rs : List Nat} (i : Nat) (ty : TypeId) (x y : Operand) (dst : Option Tmp) {b off : Nat} {cs : List Value}
    (ht : w.there b off cs.length) (hi : (P.info? ty).map (·.size) = some cs.length) (h1 : ∀ u ∈ cs, u.oneCell' = true) (hS : S (w.setCells b off cs))
    (h : wpAnyH P .any ops Q S fuel (listed.setIfInBounds i true) (a.put dst undef) (w.setCells b off cs)) (hs : AllReadyH P .any ops Q S fuel listed a w rs)
    (hd : (ops[i]?).map (fun o => (o.op, o.dst)) = some (.store ty x y, dst) := by kernel_rfl) (hw : (ops[i]?).map (fun o => Region.wanted o (yielded ops a.tmps)) = some true := by kernel_rfl)
    (hx : a.eval x = .pointer (some ⟨b, off, none⟩) := by exact rfl) (hy : a.eval y = .agg cs.toArray := by exact rfl) :
    AllReadyH P .any ops Q S fuel listed a w (i :: rs) := IW i ty x y dst hd hw hx hy ht hi h1 hS h hs
end
theorem j1 (a : Act) (d : Tmp) (v : Value) : a.put (some d) v = ⟨a.tmps.setIfInBounds d v, a.defers⟩ := rfl
theorem j2 (a : Act) (v : Value) : a.put none v = a := rfl
theorem j3 {α : Type} (l : List α) (i : Nat) (a : α) : l.toArray.setIfInBounds i a = (l.set i a).toArray := List.setIfInBounds_toArray l i a
theorem j4 {α : Type} {x : α} {xs : List α} {a : α} : (x :: xs).set 0 a = a :: xs := rfl
theorem j5 {α : Type} {x : α} {xs : List α} {i : Nat} {a : α} : (x :: xs).set (i + 1) a = x :: xs.set i a := rfl
theorem jq : (∀ (a : Act) (d : Tmp) (v : Value), a.put (some d) v = ⟨a.tmps.setIfInBounds d v, a.defers⟩) ∧ (∀ (a : Act) (v : Value), a.put none v = a) ∧ (∀ {α : Type} (l : List α) (i : Nat) (a : α), l.toArray.setIfInBounds i a = (l.set i a).toArray) ∧ (∀ {α : Type} {x : α} {xs : List α} {a : α}, (x :: xs).set 0 a = a :: xs) ∧ (∀ {α : Type} {x : α} {xs : List α} {i : Nat} {a : α}, (x :: xs).set (i + 1) a = x :: xs.set i a) := ⟨j1, j2, j3, @j4, @j5⟩
theorem je.{u} {α : Sort u} (a : α) : ∃ b, b = a := ⟨a, rfl⟩
theorem jb (b : Bool) : b = true ∨ b = false := Bool.eq_false_or_eq_true b
theorem jt {α : Type} (l : List α) : l.toArray.toList = l := List.toList_toArray
theorem js {α : Type} (l : List α) : l.toArray.size = l.length := List.size_toArray
theorem jz {p : Prop} (h : p) : RowKit.Hid p := Lib.hid h
end
section
open Go.RowKit
def u8s(l:List Int):List Value:=l.map (Value.int .u8)
structure DigOk(d:List Int):Prop where
 len:d.length=32
 byte:∀ b∈d,0≤b∧b≤255
def aK(n:Int):Prop:=-9223372036854775808≤n∧n≤9223372036854775807
theorem i7{n:Int}(h:(Lit.int .i64 n).wf=true):aK n:=by
 simp[Lit.wf,IntKind.min,IntKind.max,IntKind.signed,IntKind.bits] at h;unfold aK;omega
theorem zV{n:Int}(h:aK n):(Lit.int .i64 n).wf=true:=by
 unfold aK at h;simp[Lit.wf,IntKind.min,IntKind.max,IntKind.signed,IntKind.bits];omega
def cY(d:List Int)(t:Int):List Value:=u8s d++[.int .i64 t]
theorem iP{d:List Int}(h:DigOk d)(t:Int):(cY d t).length=33:=by simp[cY,u8s,h.len]
theorem dK(d:List Int)(t:Int):(cY d t).toArray.all (·.oneCell')=true:=by
 refine all_oneCell_toArray fun v hv=>?_
 simp[cY,u8s] at hv;rcases hv with ⟨_,_,rfl⟩|rfl <;> rfl
theorem cS(d:List Int):(u8s d).toArray.all (·.oneCell')=true:=by
 refine all_oneCell_toArray fun v hv=>?_
 simp[u8s] at hv;obtain⟨_,_,rfl⟩:=hv;rfl
def aC(p:List Int×Int):List Value:=cY p.1 p.2
structure EntOk(p:List Int×Int):Prop where
 dig:DigOk p.1
 exp:aK p.2
theorem aH(p:List Int×Int)(h:EntOk p):(aC p).length=33:=iP h.dig _
def Bys(l:List Int):Prop:=∀ b∈l,0≤b∧b≤255
theorem aP(l:List Int):(u8s l).length=l.length:=by simp[u8s]
theorem bS(l:List Int):∀ u∈u8s l,u.oneCell'=true:=fun u hu=>by
 simp only[u8s,List.mem_map] at hu;obtain⟨_,_,rfl⟩:=hu;rfl
theorem eI(a b:List Int):u8s (a++b)=u8s a++u8s b:=by simp[u8s]
theorem kP(a:List Int)(k:Nat):u8s (a.take k)=(u8s a).take k:=by simp[u8s,List.map_take]
theorem mY(a:List Int)(k:Nat):u8s (a.drop k)=(u8s a).drop k:=by simp[u8s,List.map_drop]
theorem jI(a:List Int)(k:Nat)(h:k<a.length):(u8s a)[k]? = some (.int .u8 a[k]):=by simp[u8s,h]
theorem Sn.sliced{w:World}{s n:Nat}{A:Option Addr}{cap:Nat}{xs:List Value}(h:Sn w s (.slice A n cap) n xs)(i j m:Nat)(hij:i≤j)(hj:j≤n)(hm:j≤m):Sn w s (sliced A i j m s) (j-i) ((xs.take (j*s)).drop (i*s)):=by
 obtain⟨A',cap',hv,hcap,hl,hx⟩:=h;injection hv with hA _ _
 subst hA;have hjs:j*s≤n*s:=Nat.mul_le_mul_right s hj;have hlen:((xs.take (j*s)).drop (i*s)).length=(j-i)*s:=by rw[List.length_drop,List.length_take,Nat.sub_mul];omega
 unfold Go.sliced;refine⟨_,_,rfl,by omega,hlen,fun hp=>?_⟩;obtain⟨b,off,rfl,hcell⟩:=hx (by omega);rw[if_neg (by omega)];refine⟨b,off+i*s,by simp[Addr.add_mid],fun k u hk=>?_⟩;rw[List.getElem?_drop,List.getElem?_take] at hk;split at hk
 ·have:=hcell _ _ hk;rw[← Nat.add_assoc] at this;exact this
 ·cases hk
def Blk(w:World)(g:Nat)(t:TypeId)(cs:Array Value):Prop:=w.heap[g]? = some (.cells cs t (0,0))
section
variable {w w' : World} {g : Nat} {t : TypeId} {cs : Array Value}
theorem Blk.lt(h:Blk w g t cs):g<w.heap.size:=by
 rcases Nat.lt_or_ge g w.heap.size with hlt|hge
 ·exact hlt
 ·unfold Blk at h;rw[Array.getElem?_eq_none hge] at h;cases h
theorem Blk.cell(h:Blk w g t cs)(i:Nat):w.cell? ⟨g,i,none⟩=cs[i]?:=cell_of_row w g i cs t (0,0) h
theorem Blk.frozen(h:Blk w g t cs)(i:Nat):w.frozen? ⟨g,i,none⟩=false:=by
 unfold Blk at h;simp[World.frozen?,h]
theorem Blk.new(w:World)(t:TypeId)(cs:Array Value):Blk (w.alloc (.cells cs t)) w.heap.size t cs:=heap_alloc_new w _
theorem Blk.newAt(w:World)(t:TypeId)(cs:Array Value)(g:Nat)(hg:w.heap.size=g):Blk (w.alloc (.cells cs t)) g t cs:=by subst hg;exact heap_alloc_new w _
theorem Blk.drewN(h:Blk w g t cs)(n:Nat):Blk (w.drewN n) g t cs:=h
theorem Blk.alloc(h:Blk w g t cs)(o:Obj):Blk (w.alloc o) g t cs:=(Below.heap_alloc w o g h.lt).trans h
theorem Blk.set_(h:Blk w g t cs)(i:Nat)(u:Value):Blk (w.setCell ⟨g,i,none⟩ u) g t (cs.setIfInBounds i u):=by
 unfold Blk at h ⊢;simp[World.setCell,Array.getElem?_modify,h]
theorem Blk.far(h:Blk w g t cs){p:Addr}(hp:g≠p.block)(u:Value):Blk (w.setCell p u) g t cs:=(Below.heap_setCell w p u g hp).trans h
theorem Blk.below{B:Nat}(h:Blk w g t cs)(hb:Below B w w')(hg:g<B):Blk w' g t cs:=(hb.block g hg).trans h
theorem Blk.keep(h:Blk w g t cs)(hb:Below w.heap.size w w'):Blk w' g t cs:=h.below hb h.lt
theorem Blk.range(h:Blk w g t cs):w.rangeAt g 0 cs.toList:=fun j u hj=>by
 rw[Nat.zero_add,h.cell j];simpa using hj
end
theorem bC{P:Program}{ops:Array Oper}{rest:List Oper}{o:Oper}{a:Act}{w:World}{Q:Exit→Act→World→Prop}(ty:TypeId)(x y:Operand)(ho:o.op = .store ty x y)(hw:Region.wanted o (yielded ops a.tmps)=true)
  {g t:Nat} {old cells:Array Value} (hx:a.eval x = .pointer (some ⟨g,0,none⟩)) (hy:a.eval y = .agg cells) (hB:Blk w g t old)
  (hi:(P.info? ty).map (·.size)=some cells.size) (hold:old.size=cells.size) (h1:cells.all (·.oneCell')=true)
  (h:∀ w2,Blk w2 g t cells→Below g w w2→(∀ g',g'≠g→w2.heap[g']? = w.heap[g']?)→w2.heap.size=w.heap.size→wpList P ops Q rest (a.put o.dst undef) w2):
  wpList P ops Q (o :: rest) a w:=
 wpList_step fun K hK=>by
  rw[if_pos hw];refine wp_store_row ty x y ho g cells hx hy t old hB hi hold h1 ?_;refine hK _ _ (h _ (setRow_heap w g old cells t (0,0) hB) ⟨rfl,rfl,rfl,by simp,fun k hk=>setRow_other w g k cells (by omega)⟩ (fun g' hg=>setRow_other w g g' cells hg) (by simp))
structure Off(b:Nat)(w w':World):Prop where
 os:w'.os=w.os
 tape:w'.tape=w.tape
 output:w'.output=w.output
 size:w.heap.size≤w'.heap.size
 block:∀ k,k<w.heap.size→k≠b→w'.heap[k]? = w.heap[k]?
theorem Off.of_below{b:Nat}{w w':World}(h:Below w.heap.size w w'):Off b w w':=⟨h.os,h.tape,h.output,h.size,fun k hk _=>h.block k hk⟩
theorem Off.refl(b:Nat)(w:World):Off b w w:=⟨rfl,rfl,rfl,Nat.le_refl _,fun _ _ _=>rfl⟩
theorem Off.trans{b:Nat}{x y z:World}(h:Off b x y)(k:Off b y z):Off b x z:=
 ⟨k.os.trans h.os,k.tape.trans h.tape,k.output.trans h.output,Nat.le_trans h.size k.size,fun i hi hne=>(k.block i (Nat.lt_of_lt_of_le hi h.size) hne).trans (h.block i hi hne)⟩
theorem Off.of_grown{b:Nat}{w w':World}(h:w.grownBy w' (some b)):Off b w w':=⟨h.os,h.tape,h.output,h.size,fun k hk hne=>h.block k hk (fun e=>hne (Option.some.inj e))⟩
theorem Off.cell{b:Nat}{w w':World}(h:Off b w w'){a:Addr}{v:Value}(hc:w.cell? a=some v)(hne:a.block≠b):w'.cell? a=some v:=by
 have:=h.block a.block (fJ hc) hne;unfold World.cell? at hc ⊢;rw[this];exact hc
theorem Off.below{b B:Nat}{w w':World}(h:Off b w w')(hB:B≤b)(hs:B≤w.heap.size):Below B w w':=⟨h.os,h.tape,h.output,h.size,fun k hk=>h.block k (by omega) (by omega)⟩
theorem Off.blk{b:Nat}{w w':World}(h:Off b w w'){g:Nat}{t:TypeId}{cs:Array Value}(hB:Blk w g t cs)(hne:g≠b):Blk w' g t cs:=(h.block g hB.lt hne).trans hB
theorem Off.set{b:Nat}{w w':World}(h:Off b w w')(i:Nat)(u:Value):Off b w (w'.setCell ⟨b,i,none⟩ u):=
 ⟨h.os,h.tape,h.output,by simpa using h.size,fun k hk hne=>(Below.heap_setCell w' ⟨b,i,none⟩ u k hne).trans (h.block k hk hne)⟩
theorem Off.drew{b:Nat}{w w':World}(h:Off b w w'):Off b w w'.drew:=⟨h.os,h.tape,h.output,h.size,h.block⟩
theorem Off.drewN{b:Nat}{w w':World}(h:Off b w w')(n:Nat):Off b w (w'.drewN n):=⟨h.os,h.tape,h.output,h.size,h.block⟩
end
section
open Go.RowKit
theorem i8(l:List Value):∀(k:Nat) (cs:Array Value) (i:Nat),((l.zipIdx k).foldl (fun(cs:Array Value) (x:Value×Nat)=>cs.setIfInBounds x.2 x.1) cs)[i]? = if k≤i∧i<k+l.length∧i<cs.size then l[i-k]? else cs[i]?:=by
 induction l with
 | nil=>intro k cs i;rw[if_neg (by simp;omega)];rfl
 | cons v l ih=>
  intro k cs i;rw[List.zipIdx_cons,List.foldl_cons,ih];simp only[Array.size_setIfInBounds,List.length_cons];by_cases h1:k+1≤i∧i<k+1+l.length∧i<cs.size
  ·rw[if_pos h1,if_pos (by omega),show i-k=(i-(k+1))+1 by omega,List.getElem?_cons_succ]
  ·rw[if_neg h1,Array.getElem?_setIfInBounds];by_cases h2:k=i
   ·subst h2;by_cases h3:k<cs.size
    ·rw[if_pos rfl,if_pos h3,if_pos (by omega)];simp
    ·rw[if_pos rfl,if_neg h3,if_neg (by omega)];simp[Array.getElem?_eq_none (Nat.le_of_not_lt h3)]
   ·rw[if_neg h2,if_neg (by omega)]
theorem jJ:∀(l:List (Value×Nat)) (cs:Array Value),(l.foldl (fun(cs:Array Value) (x:Value×Nat)=>cs.setIfInBounds x.2 x.1) cs).size=cs.size:=by
 intro l;induction l with
 | nil=>intro cs;rfl
 | cons x l ih=>intro cs;rw[List.foldl_cons,ih,Array.size_setIfInBounds]
theorem dQ{b:Nat}{t:TypeId}:∀(vs:List Value) (o:Nat) (w:World) (cur:Array Value),Blk w b t cur→Blk (w.setCells b o vs) b t ((vs.zipIdx o).foldl (fun(cs:Array Value) (x:Value×Nat)=>cs.setIfInBounds x.2 x.1) cur)
 | [],_,_,_,h=>h
 | v :: r,o,w,cur,h=>by
  rw[World.setCells,List.zipIdx_cons,List.foldl_cons];exact dQ r (o+1) _ _ (h.set_ o v)
theorem aO{b B:Nat}(hB:B≤b):∀(vs:List Value) (o:Nat) (w:World),Below B w (w.setCells b o vs)∧(w.setCells b o vs).heap.size=w.heap.size
 | [],_,w=>⟨Below.refl _ _,rfl⟩
 | v :: r,o,w=>by
  rw[World.setCells];obtain⟨h1,h2⟩:=aO hB r (o+1) (w.setCell ⟨b,o,none⟩ v);have h0:Below B w (w.setCell ⟨b,o,none⟩ v):=⟨rfl,rfl,rfl,by simp,fun k hk=>Below.heap_setCell w ⟨b,o,none⟩ v k (by show k≠b;omega)⟩;exact⟨h0.trans h1,h2.trans (by simp)⟩
theorem bA{b k:Nat}(hk:k≠b):∀(vs:List Value) (o:Nat) (w:World),(w.setCells b o vs).heap[k]? = w.heap[k]?
 | [],_,_=>rfl
 | v :: r,o,w=>by
  rw[World.setCells,bA hk r (o+1) (w.setCell ⟨b,o,none⟩ v)];exact Below.heap_setCell w ⟨b,o,none⟩ v k hk
section
variable {P : Program} {ops : Array Oper} {rest : List Oper} {o : Oper} {a : Act} {w : World} {Q : Exit → Act → World → Prop}
theorem al(ty:TypeId)(zs:Array Value)(ho:o.op = .alloc ty)(hw:Region.wanted o (yielded ops a.tmps)=true)(hz:∀ w,(zeroValue ty).run P w = .ok (.agg zs) w)
  (h:wpList P ops Q rest (a.put o.dst (.pointer (some ⟨w.heap.size,0,none⟩))) (w.alloc (.cells zs ty))):wpList P ops Q (o :: rest) a w:=
 wpList_step fun K hK=>by
  rw[if_pos hw];unfold Oper.wp;have:(execOp a.eval o).run P w = .ok (.value (.pointer (some ⟨w.heap.size,0,none⟩))) (w.alloc (.cells zs ty)):=by
   unfold execOp;simp only[ho];unfold Instr.alloc newVar newRow;simp[Sem.run_bind,hz,Value.cells]
  rw[this,Oper.upon_value];exact hK _ _ h
theorem oY{dT sT ty elem:TypeId}{b off dn dc n:Nat}{v:Value}{xs:List Value}(hu:P.underlying dT=some (.slice elem))(hs:(P.info? elem).map (·.size)=some 1)(hx:Sn w 1 v n xs)(hn:n≤dn)(ht:w.there b off n)(h1:∀ u∈xs,u.oneCell'=true):
  (Builtin.copy_ #[dT,sT] ty #[.slice (some ⟨b,off,none⟩) dn dc,v]).run P w = .ok (goInt n) (w.setCells b off xs):=by
 obtain⟨A,cap,rfl,hc,hl,hcell⟩:=hx;rcases Nat.eq_zero_or_pos n with rfl|hp
 ·obtain rfl:xs=[]:=List.eq_nil_of_length_eq_zero (by simpa using hl);cases A with
  | none=>
   cases hq:P.info? elem with
   | none=>simp[hq] at hs
   | some i=>simp[Builtin.copy_,run_underlying hu,Builtin.lenOf,Builtin.firstCells,sizeOf,typeInfo,hq,storeCells,World.setCells]
  | some a=>exact run_copy_cells w dT sT ty elem b off dn dc a 0 cap [] hu hs (by simp) (fun j v h=>by simp at h) (fun j h=>by simp at h) (fun j h=>by simp at h) (fun v h=>by simp at h)
 ·obtain⟨b',off',rfl,hr⟩:=hcell hp;have hln:xs.length=n:=by omega
  have:=run_copy_cells w dT sT ty elem b off dn dc ⟨b',off',none⟩ n cap xs hu hs (by rw[hln];exact(Nat.min_eq_left hn).symm) (fun j v hj=>by rw[Addr.add_mid];exact hr j v hj) (fun j hj=>(ht j (by omega)).1) (fun j hj=>(ht j (by omega)).2) h1;rw[hln] at this;exact this
theorem cp{dT sT elem:TypeId}(p q:Operand)(ho:o.op = .call { callee:=.builtin .copy,args:=#[p,q],argTypes:=#[dT,sT] })(hw:Region.wanted o (yielded ops a.tmps)=true)
  {b off dn dc n:Nat} {v:Value} {xs:List Value} (hp:a.eval p = .slice (some ⟨b,off,none⟩) dn dc) (hq:a.eval q=v) (hu:P.underlying dT=some (.slice elem)) (hs:(P.info? elem).map (·.size)=some 1) (hx:Sn w 1 v n xs) (hn:n≤dn) (ht:w.there b off n) (h1:∀ u∈xs,u.oneCell'=true)
  (h:wpList P ops Q rest (a.put o.dst (goInt n)) (w.setCells b off xs)):wpList P ops Q (o :: rest) a w:=
 wpList_step fun K hK=>by
  rw[if_pos hw];have hrun:=oY (P:=P) (ty:=o.type) (sT:=sT) (dc:=dc) hu hs hx hn ht h1;unfold Oper.wp execOp;simp only[ho,resolve,invoke,builtin,Sem.run_bind,Sem.run_pure,Result.andThen_ok,List.map_toArray,List.map_cons,List.map_nil,hp,hq,hrun];exact hK _ _ h
theorem KI{S:World→Prop}{listed:Array Bool}{fuel:Nat}{rs:List Nat}(i:Nat){dT sT elem:TypeId}(p q:Operand)(dst:Option Tmp)(hd:(ops[i]?).map (fun o=>(o.op,o.dst))=some (.call { callee:=.builtin .copy,args:=#[p,q],argTypes:=#[dT,sT] },dst))(hw:(ops[i]?).map (fun o=>Region.wanted o (yielded ops a.tmps))=some true)
  {b off dn dc n:Nat} {v:Value} {xs:List Value} (hp:a.eval p = .slice (some ⟨b,off,none⟩) dn dc) (hq:a.eval q=v) (hu:P.underlying dT=some (.slice elem)) (hs:(P.info? elem).map (·.size)=some 1) (hx:Sn w 1 v n xs) (hn:n≤dn) (ht:w.there b off n) (h1:∀ u∈xs,u.oneCell'=true) (hS:S (w.setCells b off xs))
  (h:wpAnyH P .any ops Q S fuel (listed.setIfInBounds i true) (a.put dst (goInt n)) (w.setCells b off xs)) (hr:AllReadyH P .any ops Q S fuel listed a w rs):AllReadyH P .any ops Q S fuel listed a w (i :: rs):=
 tT i _ dst _ _ hd hw (fun o ho=>by
  have hrun:=oY (P:=P) (ty:=o.type) (sT:=sT) (dc:=dc) hu hs hx hn ht h1
  unfold execOp
  simp only[ho,resolve,invoke,builtin,Sem.run_bind,Sem.run_pure,Result.andThen_ok,List.map_toArray,List.map_cons,List.map_nil,hp,hq,hrun]) hS h hr
theorem bI{fn:Func}{p u:Tmp}{ty:TypeId}(h:fn.results=#[.cell p ty,.tmp u])(tmps:Array Value){b off:Nat}{cs:List Value}{d:TypeDesc}(hp:tmps.getD p undef = .pointer (some ⟨b,off,none⟩))(hc:w.rangeAt b off cs)
  (hu:P.underlying ty=some d) (hd:d.isRow=true) (hi:(P.info? ty).map (·.size)=some cs.length):(results fn tmps).run P w = .ok (.tuple #[.agg cs.toArray,tmps.getD u undef]) w:=by
 rw[results_cell_tmp h,hp];simp only[asAddr,Sem.run_pure,Result.andThen_ok,run_loadVar_mid w b off ty cs d hc hu hd hi]
end
end
section
open Go.RowKit
theorem kH{P:Program}{ops:Array Oper}{Q:Act→Prop}{a:Act}{o:Oper}{rest:List Oper}{w0:World}(ty:TypeId)(x:Operand)(ho:o.op = .load ty x)(hw:Region.wanted o (yielded ops a.tmps)=true)
  {b off:Nat} (hx:a.eval x = .pointer (some ⟨b,off,none⟩)) {cs:List Value} {d:TypeDesc} (hc:w0.rangeAt b off cs) (hu:P.underlying ty=some d) (hd:d.isRow=true) (hi:(P.info? ty).map (·.size)=some cs.length)
  (h:wpQuiet P ops (fun w'=>∃ n,w'=w0.drewN n) Q rest (a.put o.dst (.agg cs.toArray))):wpQuiet P ops (fun w'=>∃ n,w'=w0.drewN n) Q (o :: rest) a:=by
 refine wpQuiet_step fun K hK=>?_
 rw[if_pos hw];refine⟨.agg cs.toArray,fun w' hw'=>?_,hK _ h⟩;obtain⟨n,rfl⟩:=hw';unfold Oper.quietAt execOp;simp only[ho,hx,Instr.loadAt,Instr.sureAddr,Sem.run_bind,Sem.run_pure,Result.andThen_ok,run_loadVar_mid (w0.drewN n) b off ty cs d hc hu hd hi];exact⟨rfl,rfl⟩
theorem pS:SlT Tryz.prog 78 5 1 1:=SlT.mk' Tryz.underlying78 (z:=.int .u8 0) (by kernel_rfl) rfl (by decide)
def RD(w:World)(r:Nat)(v:Value)(xs:List Int)(bad:Bool):Prop:=Blk w r 227 #[v,.bool bad]∧Sn w 1 v xs.length (u8s xs)
theorem kQ(va:Value)(n:Nat)(xs:List Value)(w:World)(hs:Sn w 1 va n xs)(h1:∀ u∈xs,u.oneCell'=true)(hn:n≤1000000):
  Calls Tryz.prog 140 #[va] w fun e w'=>∃ v,e = .returned v∧Sn w' 1 v n xs∧Below w.heap.size w w':=by
 obtain⟨A,cap,rfl,hcap,hl,hx⟩:=id hs;have HS:=jz hs;have HX:=jz hx;clear hx;cases A with
 | none=>
  have heq:∀ w:World,(binOp .eql 78 (.slice none n cap) (.slice none 0 0)).run Tryz.prog w = .ok (.bool true) w:=fun _=>rfl
  go_enter Tryz.func140,Tryz.ntmps140
  go_wp2_with fail
  go_ret;have hn0:n=0:=by
   rcases Nat.eq_zero_or_pos n with h|h
   ·exact h
   ·obtain⟨b,off,e,_⟩:=HX.out h;cases e
  subst hn0;exact⟨_,rfl,⟨none,0,rfl,Nat.le_refl _,hl,fun h=>absurd h (by omega)⟩,Below.refl _ _⟩
 | some a=>
  have heq:∀ w:World,(binOp .eql 78 (.slice (some a) n cap) (.slice none 0 0)).run Tryz.prog w = .ok (.bool false) w:=fun _=>rfl
  have hown:(w.alloc (.cells #[] 5)).ownsRow w.heap.size 5 1 (.slice (some ⟨w.heap.size,0,none⟩) 0 0) 0 []:=cI w #[] 5 1 0 w.heap.size w.heap.size (Nat.le_refl _) rfl (by unfold maxLen;omega) rfl;go_enter Tryz.func140,Tryz.ntmps140
  clear hs;go_wp2_with (at_builtin;refine app pS (.tmp 5) (.tmp 6) rfl rfl rfl hown rfl (HS.alloc _) h1 (by unfold maxLen;omega) (by omega) (by simp) ?_;intro v' w3 hown3 hgrow _)
  go_ret;have hb:Below w.heap.size w w3:=((Below.refl _ w).alloc (Nat.le_refl _) _).grown hgrow (by simp) (fun g hg=>by have:=(hown.lt g hg).1;omega);have:=Sn.own hown3;rw[Nat.zero_add,List.nil_append] at this;exact⟨_,rfl,this,hb⟩
theorem xZ(va:Value)(xs:List Int)(w:World)(hs:Sn w 1 va xs.length (u8s xs))(hn:xs.length≤1000000):
  Calls Tryz.prog 120 #[va] w fun e w'=>∃ r v,e = .returned (.pointer (some ⟨r,0,none⟩))∧RD w' r v xs false∧w.heap.size≤r∧Below w.heap.size w w':=by
 have HS:=jz hs;clear hs;go_enter Tryz.func120,Tryz.ntmps120
 go_wp2_with fail
 refine(kQ va xs.length (u8s xs) w HS.out (bS xs) hn).mono ?_;rintro e w1 ⟨v,rfl,hs1,hb1⟩;obtain⟨A,cap,rfl,hcap,hl,_⟩:=id hs1;have HS1:=jz hs1;have hsz:=hb1.size;clear hs1;go_wp2_with fail
 go_ret;exact⟨_,_,rfl,⟨Blk.new _ _ _,HS1.alloc _⟩,hsz,hb1.alloc hsz _⟩
theorem RD.ne{w:World}{r:Nat}{xs:List Int}{bad:Bool}{v:Value}(hB:Blk w r 227 #[v,.bool bad]){A:Option Addr}{cap:Nat}(hv:v = .slice A xs.length cap){b i:Nat}{k:Int}(hc:w.cell? ⟨b,i,none⟩=some (.int .u8 k)):b≠r:=by
 intro e;subst e hv;rw[hB.cell] at hc
 match i with
 | 0=>simp at hc
 | 1=>simp at hc
 | i+2=>simp at hc
theorem Sn.offB{w w':World}{r n:Nat}{v x:Value}{xs:List Int}{bad:Bool}{A:Option Addr}{k cap:Nat}(h:Sn w 1 x n (u8s xs))(hB:Blk w r 227 #[v,.bool bad])(hv:v = .slice A k cap)(ho:Off r w w'):Sn w' 1 x n (u8s xs):=by
 obtain⟨A',cap',hx,hc,hl,hcell⟩:=h;refine⟨A',cap',hx,hc,hl,fun hp=>?_⟩;obtain⟨b,off,rfl,hr⟩:=hcell hp;refine⟨b,off,rfl,fun j u hj=>ho.cell (hr j u hj) fun e=>?_⟩;have hcj:=hr j u hj;have e:b=r:=e;subst e hv;rw[hB.cell] at hcj;have hu:∃ k:Int,u = .int .u8 k:=by
  have:=List.mem_of_getElem? hj;simp only[u8s,List.mem_map] at this;obtain⟨k,_,rfl⟩:=this;exact⟨k,rfl⟩
 obtain⟨k',rfl⟩:=hu;generalize off+j=i at hcj
 match i with
 | 0=>simp at hcj
 | 1=>simp at hcj
 | i+2=>simp at hcj
theorem p8(r:Nat)(v:Value)(bad:Bool)(w:World)(hB:Blk w r 227 #[v,.bool bad]):
  Calls Tryz.prog 157 #[.pointer (some ⟨r,0,none⟩)] w fun e w'=>e = .returned (.tuple #[])∧RD w' r (.slice none 0 0) [] true∧Off r w w':=by
 have h0:=hB.cell 0;have h1:=hB.cell 1;have f0:=hB.frozen 0;have f1:=hB.frozen 1;simp only[List.getElem?_toArray,List.getElem?_cons_zero,List.getElem?_cons_succ] at h0 h1;have hB2:=(hB.set_ 1 (.bool true)).set_ 0 (.slice none 0 0);have HB:=jz hB2;have hc0:(w.setCell ⟨r,1,none⟩ (.bool true)).cell? ⟨r,0,none⟩=some v:=by rw[(hB.set_ 1 (.bool true)).cell];rfl
 have hf0:=(hB.set_ 1 (.bool true)).frozen 0;clear hB hB2;go_enter Tryz.func157,Tryz.ntmps157
 go_wp2_with fail
 go_end0
 exact⟨rfl,⟨HB.out,⟨none,0,rfl,Nat.le_refl _,rfl,fun h=>absurd h (by simp)⟩⟩,((Off.refl r w).set 1 _).set 0 _⟩
theorem BZ(r:Nat)(v:Value)(xs:List Int)(bad:Bool)(n:Nat)(w:World)(h:RD w r v xs bad)(hl:xs.length≤1000000):
    Calls Tryz.prog 158 #[.pointer (some ⟨r,0,none⟩),.int .u64 n] w fun e w'=>Off r w w' ∧
      ((bad = false ∧ n ≤ xs.length ∧ ∃ x v', e = .returned (.tuple #[x, .bool true]) ∧ Sn w' 1 x n (u8s (xs.take n)) ∧ RD w' r v' (xs.drop n) false) ∨
       ((bad=true∨xs.length<n)∧e = .returned (.tuple #[.slice none 0 0,.bool false])∧RD w' r (.slice none 0 0) [] true)):=by
  obtain⟨hB,hs⟩:=h;obtain⟨A,cap,rfl,hcap,hln,_⟩:=id hs;have HS:=jz hs;have HB:=jz hB;have h0:=hB.cell 0;have h1:=hB.cell 1;have f0:=hB.frozen 0;simp only[List.getElem?_toArray,List.getElem?_cons_zero,List.getElem?_cons_succ] at h0 h1;have hcase:bad=true∨bad=false∧decide (xs.length<n)=true∨bad=false∧decide (xs.length<n)=false:=by
    cases bad <;> cases decide (xs.length<n) <;> simp
  clear hB hs;rcases hcase with rfl|⟨rfl,t1⟩|⟨rfl,t1⟩
  · go_enter Tryz.func158,Tryz.ntmps158
    go_wp2_with fail
    refine(p8 r _ true w HB.out).mono ?_;rintro e w1 ⟨rfl,hR,ho⟩;go_wp2_with fail
    go_ret2
    exact⟨ho,.inr ⟨.inl trivial,rfl,hR⟩⟩
  · go_enter Tryz.func158,Tryz.ntmps158
    go_wp2_with fail
    refine(p8 r _ false w HB.out).mono ?_;rintro e w1 ⟨rfl,hR,ho⟩;go_wp2_with fail
    go_ret2
    exact⟨ho,.inr ⟨.inr (by have:=of_decide_eq_true t1;omega),rfl,hR⟩⟩
  · have hn:n≤xs.length:=by have:=of_decide_eq_false t1;omega
    have hi1:(n:Int)≤cap:=by omega
    have hi2:(n:Int)≤xs.length:=by omega
    have hi0:(0:Int)≤n:=by omega
    have hue:=Tryz.underlying78;go_enter Tryz.func158,Tryz.ntmps158
    have HR2:Hid (Sn w 1 (sliced A 0 n n 1) n (u8s (xs.take n))):=jz (by
      have:=HS.sliced 0 n n (by omega) hn (Nat.le_refl _)
      rw[kP]
      simpa using this)
    have HR3:Hid (Sn w 1 (sliced A n xs.length cap 1) (xs.drop n).length (u8s (xs.drop n))):=jz (by
      have:=HS.sliced n xs.length cap hn (Nat.le_refl _) hcap
      rw[mY,List.length_drop]
      have e:(u8s xs).take (xs.length*1)=u8s xs:=List.take_of_length_le (by rw[aP];omega)
      rw[e] at this
      simpa using this)
    have hB3:=jz (HB.set_ 0 (sliced A n xs.length cap 1));have ho:Off r w (w.setCell ⟨r,0,none⟩ (sliced A n xs.length cap 1)):=(Off.refl r w).set 0 _;have HO:=jz ho;clear ho;by_cases hcn:cap=n
    all_goals
      go_wp2_with fail
      go_ret2
      have hx2:=HR2.offB HB.out rfl HO.out;have hx3:=HR3.offB HB.out rfl HO.out;have e2:sliced A 0 n n 1 = .slice A n n:=by
        unfold Go.sliced;cases A with
        | none=>simp
        | some a=>obtain⟨b,o,s⟩:=a;simp[Addr.add]
      have hb3:=hB3.out;rw[e2] at hx2;refine⟨?_,.inl ⟨trivial,hn,_,sliced A n xs.length cap 1,rfl,?_,?_⟩⟩
    · have e3:sliced A n xs.length cap 1 = .slice A (xs.length-n) 0:=by simp[Go.sliced,hcn]
      rw[← e3];exact HO.out
    · have e3:sliced A n xs.length cap 1 = .slice A (xs.length-n) 0:=by simp[Go.sliced,hcn]
      rw[e3] at hx2;exact hx2
    · have e3:sliced A n xs.length cap 1 = .slice A (xs.length-n) 0:=by simp[Go.sliced,hcn]
      rw[← e3];exact⟨hb3,hx3⟩
    · have e3:sliced A n xs.length cap 1 = .slice (A.map (·.add n)) (xs.length-n) (cap-n):=by simp[Go.sliced,hcn]
      rw[← e3];exact HO.out
    · have e3:sliced A n xs.length cap 1 = .slice (A.map (·.add n)) (xs.length-n) (cap-n):=by simp[Go.sliced,hcn]
      rw[e3] at hx2;exact hx2
    · have e3:sliced A n xs.length cap 1 = .slice (A.map (·.add n)) (xs.length-n) (cap-n):=by simp[Go.sliced,hcn]
      rw[← e3];exact⟨hb3,hx3⟩
end
end Go.Proofs.YtombncedfleljaaGreat
