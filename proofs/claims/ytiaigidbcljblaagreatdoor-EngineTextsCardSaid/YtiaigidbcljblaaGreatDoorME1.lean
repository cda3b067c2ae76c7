import Derived.Lib.LaidTab
import Derived.OpenShut
import Derived.Test.YtiaigidbcljblaaGreatDoorRows
import Derived.WalkKit
import Derived.WalkSpells
import Derived.WalkLawsBesides
import Derived.Lib.Hide
import Derived.Maps.AppendAt
import Derived.OwnWalk
import Derived.Deep.MidRow
import Derived.Deep.RegionHeld3
import Derived.Laws.Slices
import Derived.Laws.IdiomCopy
import Derived.Great.BuildSlice
set_option linter.unusedSimpArgs false
set_option maxRecDepth 100000
set_option maxHeartbeats 40000000
namespace Go.Proofs.YtiaigidbcljblaaGreatDoor
section
theorem laidVars_at{P:Program}{W:World}:∀ {laid:List (String×DataW Unit)} {ps:List MemPlace},DataW.LaidVars P W laid ps→∀(i:Nat) (x:String×DataW Unit),laid[i]? = some x→∃ q rest,DataW.LaidVars P W (x :: rest) q
 | [],_,_,i,x,hi=>by simp at hi
 | y :: r,ps,h,0,x,hi=>by
  obtain rfl:y=x:=by simpa using hi
  exact⟨ps,r,h⟩
 | (n,d) :: r,ps,h,i+1,x,hi=>by
  obtain⟨_,_,_,_,_,q,_,_,_,_,h',_⟩:=h
  exact laidVars_at h' i x (by simpa using hi)
theorem tabIs_at{P:Program}{W:World}{laid:List (String×DataW Unit)}{name:String}{k:IntKind}{zs:List Int}{g:Nat}{t e:TypeId}{n:Nat}(i:Nat)(hi:laid[i]? = some (name,Lib.tabData k zs))
  (hg:P.globalNamed name=some g) (hty:(P.globals[g]?).map (·.type)=some t) (ht:P.underlying t=some (.array n e)) (he:P.underlying e=some (.int k)) (hce:P.cellsOf e=1) (hct:P.cellsOf t=n)
  (h:laidMet P laid W):Lib.TabIs P W name k zs:=by
 obtain⟨ps,hv,_⟩:=h
 obtain⟨q,rest,hx⟩:=laidVars_at hv i _ hi
 obtain⟨g',t',cs,fuel,p,q',hg',ht',hvar,hd,_,_⟩:=hx
 obtain rfl:=Option.some.inj (hg.symm.trans hg')
 obtain rfl:=Option.some.inj (hty.symm.trans ht')
 unfold Lib.TabIs
 rw[hvar,← Lib.cells_of_tab ht he hce hct hd]
def tabCells:DataW Unit→Array Value
 | .agg l=>(l.map fun d=>match d with | .lit (.int k z)=>Value.int k z|_=>Value.nilIface).toArray
 | _=>#[]
def layAt(h:Array Obj)(g:Nat)(cs:Array Value):Array Obj:=h.modify g fun o=>match o with | .cells _ t f=>.cells cs t f|o=>o
end
section
open Go.RowKit
def Sl(w:World)(v:Value)(xs:List Value):Prop:=
 ∃(A:Option Addr) (cap:Nat),v = .slice A xs.length cap∧xs.length≤cap∧(0<xs.length→∃ b off,A=some ⟨b,off,none⟩∧∀ j u,xs[j]? = some u→w.cell? ⟨b,off+j,none⟩=some u)
theorem cell_lt{w:World}{a:Addr}{v:Value}(h:w.cell? a=some v):a.block<w.heap.size:=World.block_lt_of_cell? w a h
theorem Below.cell'{w w':World}(h:Below w.heap.size w w'){a:Addr}{v:Value}(hc:w.cell? a=some v):w'.cell? a=some v:=by
 rw[h.cell (cell_lt hc)];exact hc
theorem bdrewN{B:Nat}{a w:World}(h:Below B a w)(n:Nat):Below B a (w.drewN n):=⟨h.os,h.tape,h.output,h.size,h.block⟩
theorem bstep{a b c:World}(h:Below a.heap.size a b)(k:Below b.heap.size b c):Below a.heap.size a c:=h.trans (k.mono h.size)
theorem balloc{a b:World}(h:Below a.heap.size a b)(o:Obj):Below a.heap.size a (b.alloc o):=h.alloc h.size o
theorem Sl.keep{w w':World}{v:Value}{xs:List Value}(h:Sl w v xs)(hk:∀ a u,w.cell? a=some u→w'.cell? a=some u):Sl w' v xs:=by
 obtain⟨A,cap,rfl,hc,hx⟩:=h
 refine⟨A,cap,rfl,hc,fun hp=>?_⟩
 obtain⟨b,off,rfl,h⟩:=hx hp
 exact⟨b,off,rfl,fun j u hj=>hk _ _ (h j u hj)⟩
theorem Sl.below{w w':World}{v:Value}{xs:List Value}(h:Sl w v xs)(hb:Below w.heap.size w w'):Sl w' v xs:=
 h.keep fun _ _ hc=>Below.cell' hb hc
theorem Sl.alloc{w:World}{v:Value}{xs:List Value}(h:Sl w v xs)(o:Obj):Sl (w.alloc o) v xs:=
 h.below ((Below.refl _ _).alloc (Nat.le_refl _) o)
theorem Sl.drew{w:World}{v:Value}{xs:List Value}(h:Sl w v xs):Sl w.drew v xs:=h
theorem Sl.drewN{w:World}{v:Value}{xs:List Value}(h:Sl w v xs)(n:Nat):Sl (w.drewN n) v xs:=h
theorem Sl.nil(w:World)(A:Option Addr)(cap:Nat):Sl w (.slice A 0 cap) []:=⟨A,cap,rfl,Nat.zero_le _,fun h=>absurd h (by simp)⟩
def strs(l:List ByteArray):List Value:=l.map Value.string
def i64s(l:List Int):List Value:=l.map (Value.int .i64)
def Sn(w:World)(s:Nat)(v:Value)(n:Nat)(xs:List Value):Prop:=
 ∃(A:Option Addr) (cap:Nat),v = .slice A n cap∧n≤cap∧xs.length=n*s∧(0<n→∃ b off,A=some ⟨b,off,none⟩∧∀ j u,xs[j]? = some u→w.cell? ⟨b,off+j,none⟩=some u)
theorem Sn.keep{w w':World}{s n:Nat}{v:Value}{xs:List Value}(h:Sn w s v n xs)(hk:∀ a u,w.cell? a=some u→w'.cell? a=some u):Sn w' s v n xs:=by
 obtain⟨A,cap,rfl,hc,hl,hx⟩:=h
 refine⟨A,cap,rfl,hc,hl,fun hp=>?_⟩
 obtain⟨b,off,rfl,h⟩:=hx hp
 exact⟨b,off,rfl,fun j u hj=>hk _ _ (h j u hj)⟩
theorem Sn.below{w w':World}{s n:Nat}{v:Value}{xs:List Value}(h:Sn w s v n xs)(hb:Below w.heap.size w w'):Sn w' s v n xs:=
 h.keep fun _ _ hc=>Below.cell' hb hc
theorem Sn.alloc{w:World}{s n:Nat}{v:Value}{xs:List Value}(h:Sn w s v n xs)(o:Obj):Sn (w.alloc o) s v n xs:=
 h.below ((Below.refl _ _).alloc (Nat.le_refl _) o)
theorem Sn.sl{w:World}{n:Nat}{v:Value}{xs:List Value}(h:Sn w 1 v n xs):Sl w v xs:=by
 obtain⟨A,cap,rfl,hc,hl,hx⟩:=h
 have:xs.length=n:=by omega
 subst this
 exact⟨A,cap,rfl,hc,hx⟩
theorem Sl.sn{w:World}{v:Value}{xs:List Value}(h:Sl w v xs):Sn w 1 v xs.length xs:=by
 obtain⟨A,cap,rfl,hc,hx⟩:=h
 exact⟨A,cap,rfl,hc,by omega,hx⟩
theorem Sn.own{w:World}{base e s n:Nat}{v:Value}{xs:List Value}(h:w.ownsRow base e s v n xs):Sn w s v n xs:=by
 obtain⟨hl,h|⟨g,cap,cur,rfl,hb,hg,hn,hm,hcs,htk⟩⟩:=h
 ·obtain⟨rfl,rfl⟩:=h
  exact⟨none,0,rfl,Nat.le_refl _,hl,fun h=>absurd h (by omega)⟩
 ·refine⟨_,cap,rfl,hn,hl,fun hp=>⟨g,0,rfl,fun j u hj=>?_⟩⟩
  rw[cell_of_row w g (0+j) cur e (0,0) hg,Nat.zero_add]
  rw[← htk,List.getElem?_take] at hj
  split at hj
  ·simpa using hj
  ·cases hj
theorem Sn.new(w:World)(cs:Array Value)(t:TypeId)(s n:Nat)(hs:cs.size=n*s):Sn (w.alloc (.cells cs t)) s (.slice (some ⟨w.heap.size,0,none⟩) n n) n cs.toList:=by
 refine⟨_,n,rfl,Nat.le_refl _,by simpa using hs,fun _=>⟨w.heap.size,0,rfl,fun j u hj=>?_⟩⟩
 rw[cell_of_row _ w.heap.size (0+j) cs t (0,0) (heap_alloc_new w _),Nat.zero_add]
 simpa using hj
theorem Sn.newAt(w:World)(cs:Array Value)(t:TypeId)(s n g:Nat)(hs:cs.size=n*s)(hg:w.heap.size=g):Sn (w.alloc (.cells cs t)) s (.slice (some ⟨g,0,none⟩) n n) n cs.toList:=by
 subst hg
 exact Sn.new w cs t s n hs
theorem own_new(w:World)(cs:Array Value)(e s cap base g:Nat)(hb:base≤w.heap.size)(hs:cs.size=cap*s)(hm:cap≤maxLen)(hg:w.heap.size=g):(w.alloc (.cells cs e)).ownsRow base e s (.slice (some ⟨g,0,none⟩) 0 cap) 0 []:=by
 subst hg
 exact World.ownsRow_made w cs cap hb hm hs
theorem own_below{w w':World}{base e s n:Nat}{v:Value}{xs:List Value}(h:w.ownsRow base e s v n xs)(hb:Below w.heap.size w w'):w'.ownsRow base e s v n xs:=by
 refine⟨h.1,?_⟩
 have hlt:=h.lt
 rcases h.2 with h2|⟨g,cap,cur,rfl,hg,hh,r⟩
 ·exact .inl h2
 ·exact .inr ⟨g,cap,cur,rfl,hg,by rw[hb.block g (hlt g rfl).2];exact hh,r⟩
theorem own_base{w:World}{base base' e s n:Nat}{v:Value}{xs:List Value}(h:w.ownsRow base e s v n xs)(hb:base'≤base):w.ownsRow base' e s v n xs:=by
 refine⟨h.1,?_⟩
 rcases h.2 with h2|⟨g,cap,cur,rfl,hg,r⟩
 ·exact .inl h2
 ·exact .inr ⟨g,cap,cur,rfl,Nat.le_trans hb hg,r⟩
structure SlT(P:Program)(t e s bytes:Nat):Prop where
 ht:P.underlying t=some (.slice e)
 hi:∃ i z,P.info? e=some i∧i.zero=some z∧i.size=s∧i.bytes=bytes∧z.cells.size=s
 hs:0<s
theorem SlT.mk'{P:Program}{t e s bytes:Nat}{z:Value}(ht:P.underlying t=some (.slice e))(h:(P.info? e).map (fun i=>(i.zero,i.size,i.bytes))=some (some z,s,bytes))(hz:z.cells.size=s)(hs:0<s):SlT P t e s bytes:=by
 obtain⟨i,h1,h2,h3,h4⟩:=info_parts h
 exact⟨ht,⟨i,z,h1,h2,h3,h4,hz⟩,hs⟩
section
variable {P : Program} {w : World}
theorem run_append_none{t ty e s bytes:Nat}(T:SlT P t e s bytes){base n:Nat}{v:Value}{xs:List Value}(hown:w.ownsRow base e s v n xs)(c:Nat):
  (Builtin.append_ #[t,t] ty #[v,.slice none 0 c]).run P w = .ok v w:=by
 obtain⟨i,z,hi,hz,hsi,hby,hzs⟩:=T.hi
 rcases hown.2 with ⟨rfl,rfl⟩|⟨g,cap,cur,rfl,_,_,hnc,_⟩
 ·simp[Builtin.append_,run_underlying T.ht,sizeOf,typeInfo,hi,Builtin.lenOf,Builtin.firstCells]
 ·simp[Builtin.append_,run_underlying T.ht,sizeOf,typeInfo,hi,Builtin.lenOf,Builtin.firstCells,hnc,storeCells]
theorem run_append_zero{t ty e s bytes:Nat}(T:SlT P t e s bytes){base n:Nat}{v:Value}{xs:List Value}(hown:w.ownsRow base e s v n xs)(a:Addr)(c:Nat):
  (Builtin.append_ #[t,t] ty #[v,.slice (some a) 0 c]).run P w = .ok v w:=by
 obtain⟨i,z,hi,hz,hsi,hby,hzs⟩:=T.hi
 rcases hown.2 with ⟨rfl,rfl⟩|⟨g,cap,cur,rfl,_,_,hnc,_⟩
 ·simp[Builtin.append_,run_underlying T.ht,sizeOf,typeInfo,hi,Builtin.lenOf,Builtin.firstCells,loadCells,loadCellsFrom]
 ·simp[Builtin.append_,run_underlying T.ht,sizeOf,typeInfo,hi,Builtin.lenOf,Builtin.firstCells,hnc,storeCells,loadCells,loadCellsFrom]
theorem run_append_sn{t ty e s bytes:Nat}(T:SlT P t e s bytes){base n m:Nat}{v x:Value}{xs news:List Value}(hown:w.ownsRow base e s v n xs)(hx:Sn w s x m news)
  (h1:∀ u∈news,u.oneCell'=true) (h63:n+m≤maxLen) (hbytes:(n+m)*bytes≤140737488355328) (hbase:base≤w.heap.size):
  ∃ v' w',(Builtin.append_ #[t,t] ty #[v,x]).run P w = .ok v' w'∧w'.ownsRow base e s v' (n+m) (xs++news)∧w.grownBy w' v.ownBlock∧(v'.ownBlock=v.ownBlock∨v'.ownBlock=some w.heap.size):=by
 obtain⟨A,c,rfl,hmc,hl,hcell⟩:=hx
 rcases Nat.eq_zero_or_pos m with rfl|hm
 ·have hn:news=[]:=List.eq_nil_of_length_eq_zero (by simpa using hl)
  subst hn
  refine⟨v,w,?_,by simpa using hown,World.grownBy.refl w _,.inl rfl⟩
  cases A with
  | none=>exact run_append_none T hown c
  | some a=>exact run_append_zero T hown a c
 ·obtain⟨b,off,rfl,hc⟩:=hcell hm
  obtain⟨i,z,hi,hz,hsi,hby,hzs⟩:=T.hi
  obtain⟨v',w',h2,h3,h4,_,h5⟩:=run_append_own_at (P:=P) w base t ty e i z s bytes T.ht hi hz hsi hby hzs T.hs v n xs hown ⟨b,off,none⟩ m c news hl (fun j u hj=>by
   have:=hc j u hj
   rw[Addr.add_lit];exact this) h1 h63 hbytes hbase
  exact⟨v',w',h2,h3,h4,h5⟩
theorem app{ops:Array Oper}{rest:List Oper}{o:Oper}{a:Act}{Q:Exit→Act→World→Prop}{t e s bytes:Nat}(T:SlT P t e s bytes)(p q:Operand)
  (ho:o.op = .call { callee:=.builtin .append,args:=#[p,q],argTypes:=#[t,t] }) (hw:Region.wanted o (yielded ops a.tmps)=true)
  {base n m:Nat} {v x:Value} {xs news:List Value} (hv:a.eval p=v) (hown:w.ownsRow base e s v n xs) (hxv:a.eval q=x) (hx:Sn w s x m news)
  (h1:∀ u∈news,u.oneCell'=true) (h63:n+m≤maxLen) (hbytes:(n+m)*bytes≤140737488355328) (hbase:base≤w.heap.size)
  (h:∀ v' w',w'.ownsRow base e s v' (n+m) (xs++news)→w.grownBy w' v.ownBlock→(v'.ownBlock=v.ownBlock∨v'.ownBlock=some w.heap.size)→wpList P ops Q rest (a.put o.dst v') w'):
  wpList P ops Q (o :: rest) a w:=by
 refine wpList_step fun K hK=>?_
 rw[if_pos hw]
 obtain⟨v',w',hrun,h2,h3,h4⟩:=run_append_sn (ty:=o.type) T hown hx h1 h63 hbytes hbase
 unfold Oper.wp execOp
 simp only[ho,resolve,invoke,builtin,Sem.run_bind,Sem.run_pure,Result.andThen_ok,List.map_toArray,List.map_cons,List.map_nil,hv,hxv,hrun]
 exact hK _ _ (h v' w' h2 h3 h4)
end
end
section
open Go.RowKit
section
variable {P : Program}
theorem setRow_alloc(w:World)(old cells:Array Value)(t:TypeId):(w.alloc (.cells old t)).setRow w.heap.size cells=w.alloc (.cells cells t):=by
 simp only[World.setRow,World.alloc]
 congr 1
 apply Array.ext
 ·simp
 ·intro i h1 h2
  simp only[Array.getElem_modify]
  split
  ·subst_vars;simp
  ·rw[Array.getElem_push,Array.getElem_push]
   have:i<w.heap.size:=by simp at h2;omega
   simp[this]
theorem ld{ops:Array Oper}{rest:List Oper}{o:Oper}{a:Act}{w:World}{Q:Exit→Act→World→Prop}(ty:TypeId)(x:Operand)(ho:o.op = .load ty x)(hw:Region.wanted o (yielded ops a.tmps)=true)
  {b off:Nat} (hx:a.eval x = .pointer (some ⟨b,off,none⟩)) {cs:List Value} {d:TypeDesc} (hc:w.rangeAt b off cs)
  (hu:P.underlying ty=some d) (hd:d.isRow=true) (hi:(P.info? ty).map (·.size)=some cs.length)
  (h:wpList P ops Q rest (a.put o.dst (.agg cs.toArray)) w):wpList P ops Q (o :: rest) a w:=
 wpList_step fun K hK=>by
  rw[if_pos hw]
  exact wp_load_mid ty x ho b off hx cs d hc hu hd hi (hK _ _ h)
theorem stNew{ops:Array Oper}{rest:List Oper}{o:Oper}{a:Act}{w:World}{Q:Exit→Act→World→Prop}(ty:TypeId)(x y:Operand)(ho:o.op = .store ty x y)(hw:Region.wanted o (yielded ops a.tmps)=true)
  {old cells:Array Value} {t:TypeId} (hx:a.eval x = .pointer (some ⟨w.heap.size,0,none⟩)) (hy:a.eval y = .agg cells)
  (hi:(P.info? ty).map (·.size)=some cells.size) (hold:old.size=cells.size) (h1:cells.all (·.oneCell')=true)
  (h:∀ w2,w2.heap[w.heap.size]? = some (.cells cells t (0,0))→Below w.heap.size w w2→w2.heap.size=w.heap.size+1→wpList P ops Q rest (a.put o.dst undef) w2):
  wpList P ops Q (o :: rest) a (w.alloc (.cells old t)):=
 wpList_step fun K hK=>by
  rw[if_pos hw]
  refine wp_store_row ty x y ho w.heap.size cells hx hy t old (heap_alloc_new w _) hi hold h1 ?_
  rw[setRow_alloc]
  exact hK _ _ (h _ (heap_alloc_new w _) ((Below.refl _ _).alloc (Nat.le_refl _) _) (by simp))
end
theorem Sn.range{w:World}{s n cap:Nat}{A:Option Addr}{xs:List Value}(h:Sn w s (.slice A n cap) n xs)(k:Nat)(hk:k<n):
  ∃ b off,A=some ⟨b,off,none⟩∧w.rangeAt b (off+k*s) ((xs.drop (k*s)).take s):=by
 obtain⟨A',cap',hv,hc,hl,hx⟩:=h
 injection hv with hA _ _
 subst hA
 obtain⟨b,off,rfl,hcell⟩:=hx (by omega)
 refine⟨b,off,rfl,fun j u hj=>?_⟩
 have hjs:j<s:=by have:=(List.getElem?_eq_some_iff.1 hj).1;simp at this;omega
 rw[List.getElem?_take,if_pos hjs,List.getElem?_drop] at hj
 have:=hcell _ _ hj
 rw[show off+k*s+j=off+(k*s+j) from by omega]
 exact this
theorem flatMap_piece{α:Type}(f:α→List Value)(s:Nat):∀(l:List α),(∀ x∈l,(f x).length=s)→∀ k (hk:k<l.length),((l.flatMap f).drop (k*s)).take s=f l[k]
 | [],_,k,hk=>by simp at hk
 | x :: l,h,0,_=>by
  have hx:=h x (by simp)
  simp only[List.flatMap_cons,Nat.zero_mul,List.drop_zero,List.getElem_cons_zero]
  rw[List.take_append_of_le_length (by omega),List.take_of_length_le (by omega)]
 | x :: l,h,k+1,hk=>by
  have hx:=h x (by simp)
  simp only[List.flatMap_cons,List.getElem_cons_succ]
  rw[Nat.add_mul,Nat.one_mul,List.drop_append,List.drop_eq_nil_of_le (by omega),List.nil_append,hx,Nat.add_sub_cancel]
  exact flatMap_piece f s l (fun y hy=>h y (by simp[hy])) k (by simpa using hk)
end
section
open Go.RowKit
section
variable {P : Program} {ops : Array Oper} {Q : Exit → Act → World → Prop} {S : World → Prop} {a : Act} {w : World} {listed : Array Bool} {fuel : Nat}
theorem held_start(n:Nat)(S:World→Prop){id:Nat}(hm:P.follows .mixedOrders=true)(hn:ops.size=n)(hS:S w.drew)
  (h:S w.drew→wpAnyH P .any ops Q S n (Array.replicate n false) a w.drew):(Code.region id ops true).wp P Q a w:=by
 subst hn
 exact wp_region_held_drew hm hS h
theorem hTake(i:Nat)(op:Op)(dst:Option Tmp)(v:Value)(hd:(ops[i]?).map (fun o=>(o.op,o.dst))=some (op,dst))(hw:(ops[i]?).map (fun o=>Region.wanted o (yielded ops a.tmps))=some true)
  (hs:Region.noSelect ops=true) (hf:Region.free .any ops listed i=true) (hr:(Region.ready .any ops listed).contains i=true)
  (hQ:∀ c a w,Q (.panic c) (a.put dst v) w→Q (.panic c) a w) (hy:∀ o:Oper,o.op=op→∀ w,S w→(execOp a.eval o).run P w = .ok (.value v) w) (hS:S w)
  (h:wpAnyH P .any ops Q S fuel (listed.setIfInBounds i true) (a.put dst v) w):wpAnyH P .any ops Q S (fuel+1) listed a w:=by
 cases ho:ops[i]? with
 | none=>rw[ho] at hd;cases hd
 | some o=>
  rw[ho] at hd hw
  simp only[Option.map_some,Option.some.injEq,Prod.mk.injEq] at hd hw
  obtain⟨h1,h2⟩:=hd
  subst h2
  exact wpAnyH_take ho hs hf hr hQ (.inl ⟨hw,hy o h1⟩) hS h
theorem hSkip(i:Nat)(dst:Option Tmp)(hd:(ops[i]?).map (·.dst)=some dst)(hw:(ops[i]?).map (fun o=>Region.wanted o (yielded ops a.tmps))=some false)
  (hs:Region.noSelect ops=true) (hf:Region.free .any ops listed i=true) (hr:(Region.ready .any ops listed).contains i=true)
  (hQ:∀ c a w,Q (.panic c) (a.put dst undef) w→Q (.panic c) a w) (hS:S w)
  (h:wpAnyH P .any ops Q S fuel (listed.setIfInBounds i true) (a.put dst undef) w):wpAnyH P .any ops Q S (fuel+1) listed a w:=by
 cases ho:ops[i]? with
 | none=>rw[ho] at hd;cases hd
 | some o=>
  rw[ho] at hd hw
  simp only[Option.map_some,Option.some.injEq] at hd hw
  subst hd
  exact wpAnyH_take ho hs hf hr hQ (.inr ⟨hw,rfl⟩) hS h
theorem hLoad(i:Nat)(ty:TypeId)(x:Operand)(dst:Option Tmp){b off:Nat}{cs:List Value}{d:TypeDesc}(hd:(ops[i]?).map (fun o=>(o.op,o.dst))=some (.load ty x,dst))(hw:(ops[i]?).map (fun o=>Region.wanted o (yielded ops a.tmps))=some true)
  (hs:Region.noSelect ops=true) (hf:Region.free .any ops listed i=true) (hr:(Region.ready .any ops listed).contains i=true)
  (hQ:∀ c a w,Q (.panic c) (a.put dst (.agg cs.toArray)) w→Q (.panic c) a w) (hx:a.eval x = .pointer (some ⟨b,off,none⟩)) (hc:∀ w,S w→w.rangeAt b off cs) (hu:P.underlying ty=some d) (hr':d.isRow=true) (hi:(P.info? ty).map (·.size)=some cs.length) (hS:S w)
  (h:wpAnyH P .any ops Q S fuel (listed.setIfInBounds i true) (a.put dst (.agg cs.toArray)) w):wpAnyH P .any ops Q S (fuel+1) listed a w:=
 hTake i _ dst _ hd hw hs hf hr hQ (fun o ho w hw=>by
  unfold execOp
  simp only[ho,hx,Instr.loadAt,Instr.sureAddr,Sem.run_bind,Sem.run_pure,Result.andThen_ok,run_loadVar_mid w b off ty cs d (hc w hw) hu hr' hi]) hS h
theorem hMove(i:Nat)(x:Operand)(dst:Option Tmp)(v:Value)(hd:(ops[i]?).map (fun o=>(o.op,o.dst))=some (.move x,dst))(hw:(ops[i]?).map (fun o=>Region.wanted o (yielded ops a.tmps))=some true)
  (hs:Region.noSelect ops=true) (hf:Region.free .any ops listed i=true) (hr:(Region.ready .any ops listed).contains i=true)
  (hQ:∀ c a w,Q (.panic c) (a.put dst v) w→Q (.panic c) a w) (hx:a.eval x=v) (hS:S w)
  (h:wpAnyH P .any ops Q S fuel (listed.setIfInBounds i true) (a.put dst v) w):wpAnyH P .any ops Q S (fuel+1) listed a w:=
 hTake i _ dst _ hd hw hs hf hr hQ (fun o ho w _=>by
  unfold execOp
  simp only[ho,hx,Sem.run_pure]) hS h
theorem rStep{rs:List Nat}(i:Nat)(op:Op)(dst:Option Tmp)(v:Value)(w2:World)(hd:(ops[i]?).map (fun o=>(o.op,o.dst))=some (op,dst))(hw:(ops[i]?).map (fun o=>Region.wanted o (yielded ops a.tmps))=some true)
  (hrun:∀ o:Oper,o.op=op→(execOp a.eval o).run P w = .ok (.value v) w2) (hS:S w2)
  (h:wpAnyH P .any ops Q S fuel (listed.setIfInBounds i true) (a.put dst v) w2) (hs:AllReadyH P .any ops Q S fuel listed a w rs):AllReadyH P .any ops Q S fuel listed a w (i :: rs):=by
 cases ho:ops[i]? with
 | none=>rw[ho] at hd;cases hd
 | some o=>
  rw[ho] at hd hw
  simp only[Option.map_some,Option.some.injEq,Prod.mk.injEq] at hd hw
  obtain⟨h2,h3⟩:=hd
  subst h3
  refine AllReadyH.cons ho (fun K hK=>?_) hs
  rw[if_pos hw]
  unfold Oper.wp
  rw[hrun o h2,Oper.upon_value]
  exact hK.out _ _ hS (fun _=>h)
theorem rStoreS{rs:List Nat}(i:Nat)(ty:TypeId)(x y:Operand)(dst:Option Tmp){b off:Nat}{cs:List Value}(hd:(ops[i]?).map (fun o=>(o.op,o.dst))=some (.store ty x y,dst))(hw:(ops[i]?).map (fun o=>Region.wanted o (yielded ops a.tmps))=some true)
  (hx:a.eval x = .pointer (some ⟨b,off,none⟩)) (hy:a.eval y = .agg cs.toArray) (ht:w.there b off cs.length) (hi:(P.info? ty).map (·.size)=some cs.length) (h1:∀ u∈cs,u.oneCell'=true) (hS:S (w.setCells b off cs))
  (h:wpAnyH P .any ops Q S fuel (listed.setIfInBounds i true) (a.put dst undef) (w.setCells b off cs)) (hs:AllReadyH P .any ops Q S fuel listed a w rs):AllReadyH P .any ops Q S fuel listed a w (i :: rs):=by
 cases ho:ops[i]? with
 | none=>rw[ho] at hd;cases hd
 | some o=>
  rw[ho] at hd hw
  simp only[Option.map_some,Option.some.injEq,Prod.mk.injEq] at hd hw
  obtain⟨h2,h3⟩:=hd
  subst h3
  refine AllReadyH.cons ho (fun K hK=>?_) hs
  rw[if_pos hw]
  refine wp_store_mid ty x y h2 b off cs.toArray hx hy (by simpa using ht) (by simpa using hi) (all_oneCell_toArray h1) ?_
  rw[List.toList_toArray]
  exact hK.out _ _ hS (fun _=>h)
theorem rCall{rs:List Nat}(i:Nat)(op:Op)(dst:Option Tmp)(f:FuncId)(args:Array Value)(hd:(ops[i]?).map (fun o=>(o.op,o.dst))=some (op,dst))(hw:(ops[i]?).map (fun o=>Region.wanted o (yielded ops a.tmps))=some true)
  (hent:∀ o:Oper,o.op=op→(execOp a.eval o).run P w = .ok (.enter f args) w)
  (h:Calls P f args w fun e w'=>∃ v,e = .returned v∧S w'∧(S w'→wpAnyH P .any ops Q S fuel (listed.setIfInBounds i true) (a.put dst v) w')) (hs:AllReadyH P .any ops Q S fuel listed a w rs):AllReadyH P .any ops Q S fuel listed a w (i :: rs):=by
 cases ho:ops[i]? with
 | none=>rw[ho] at hd;cases hd
 | some o=>
  rw[ho] at hd hw
  simp only[Option.map_some,Option.some.injEq,Prod.mk.injEq] at hd hw
  obtain⟨h2,h3⟩:=hd
  subst h3
  refine AllReadyH.cons ho (fun K hK=>?_) hs
  rw[if_pos hw]
  unfold Oper.wp
  rw[hent o h2,Oper.upon_enter]
  refine h.mono ?_
  rintro e w' ⟨v,rfl,hS,hk⟩
  exact hK.out _ _ hS hk
end
end
section
open Go.RowKit
def u8s(l:List Int):List Value:=l.map (Value.int .u8)
structure DigOk(d:List Int):Prop where
 len:d.length=32
 byte:∀ b∈d,0≤b∧b≤255
def isI64(n:Int):Prop:=-9223372036854775808≤n∧n≤9223372036854775807
theorem isI64_of{n:Int}(h:(Lit.int .i64 n).wf=true):isI64 n:=by
 simp[Lit.wf,IntKind.min,IntKind.max,IntKind.signed,IntKind.bits] at h
 unfold isI64
 omega
theorem wf_i64{n:Int}(h:isI64 n):(Lit.int .i64 n).wf=true:=by
 unfold isI64 at h
 simp[Lit.wf,IntKind.min,IntKind.max,IntKind.signed,IntKind.bits]
 omega
def entC(d:List Int)(t:Int):List Value:=u8s d++[.int .i64 t]
theorem entC_length{d:List Int}(h:DigOk d)(t:Int):(entC d t).length=33:=by simp[entC,u8s,h.len]
theorem entC_one(d:List Int)(t:Int):(entC d t).toArray.all (·.oneCell')=true:=by
 refine all_oneCell_toArray fun v hv=>?_
 simp[entC,u8s] at hv
 rcases hv with ⟨_,_,rfl⟩|rfl <;> rfl
theorem u8s_one(d:List Int):(u8s d).toArray.all (·.oneCell')=true:=by
 refine all_oneCell_toArray fun v hv=>?_
 simp[u8s] at hv
 obtain⟨_,_,rfl⟩:=hv
 rfl
def entP(p:List Int×Int):List Value:=entC p.1 p.2
structure EntOk(p:List Int×Int):Prop where
 dig:DigOk p.1
 exp:isI64 p.2
theorem entP_length(p:List Int×Int)(h:EntOk p):(entP p).length=33:=entC_length h.dig _
def Bys(l:List Int):Prop:=∀ b∈l,0≤b∧b≤255
theorem u8s_length(l:List Int):(u8s l).length=l.length:=by simp[u8s]
theorem u8s_mem(l:List Int):∀ u∈u8s l,u.oneCell'=true:=fun u hu=>by
 simp only[u8s,List.mem_map] at hu
 obtain⟨_,_,rfl⟩:=hu
 rfl
theorem u8s_append(a b:List Int):u8s (a++b)=u8s a++u8s b:=by simp[u8s]
theorem u8s_take(a:List Int)(k:Nat):u8s (a.take k)=(u8s a).take k:=by simp[u8s,List.map_take]
theorem u8s_drop(a:List Int)(k:Nat):u8s (a.drop k)=(u8s a).drop k:=by simp[u8s,List.map_drop]
theorem u8s_get(a:List Int)(k:Nat)(h:k<a.length):(u8s a)[k]? = some (.int .u8 a[k]):=by simp[u8s,h]
theorem Sn.sliced{w:World}{s n:Nat}{A:Option Addr}{cap:Nat}{xs:List Value}(h:Sn w s (.slice A n cap) n xs)(i j m:Nat)(hij:i≤j)(hj:j≤n)(hm:j≤m):Sn w s (sliced A i j m s) (j-i) ((xs.take (j*s)).drop (i*s)):=by
 obtain⟨A',cap',hv,hcap,hl,hx⟩:=h
 injection hv with hA _ _
 subst hA
 have hjs:j*s≤n*s:=Nat.mul_le_mul_right s hj
 have hlen:((xs.take (j*s)).drop (i*s)).length=(j-i)*s:=by rw[List.length_drop,List.length_take,Nat.sub_mul];omega
 unfold Go.sliced
 refine⟨_,_,rfl,by omega,hlen,fun hp=>?_⟩
 obtain⟨b,off,rfl,hcell⟩:=hx (by omega)
 rw[if_neg (by omega)]
 refine⟨b,off+i*s,by simp[Addr.add_mid],fun k u hk=>?_⟩
 rw[List.getElem?_drop,List.getElem?_take] at hk
 split at hk
 ·have:=hcell _ _ hk
  rw[← Nat.add_assoc] at this
  exact this
 ·cases hk
def Blk(w:World)(g:Nat)(t:TypeId)(cs:Array Value):Prop:=w.heap[g]? = some (.cells cs t (0,0))
section
variable {w w' : World} {g : Nat} {t : TypeId} {cs : Array Value}
theorem Blk.lt(h:Blk w g t cs):g<w.heap.size:=by
 rcases Nat.lt_or_ge g w.heap.size with hlt|hge
 ·exact hlt
 ·unfold Blk at h;rw[Array.getElem?_eq_none hge] at h;cases h
theorem Blk.cell(h:Blk w g t cs)(i:Nat):w.cell? ⟨g,i,none⟩=cs[i]?:=cell_of_row w g i cs t (0,0) h
theorem Blk.frozen(h:Blk w g t cs)(i:Nat):w.frozen? ⟨g,i,none⟩=false:=by
 unfold Blk at h
 simp[World.frozen?,h]
theorem Blk.new(w:World)(t:TypeId)(cs:Array Value):Blk (w.alloc (.cells cs t)) w.heap.size t cs:=heap_alloc_new w _
theorem Blk.newAt(w:World)(t:TypeId)(cs:Array Value)(g:Nat)(hg:w.heap.size=g):Blk (w.alloc (.cells cs t)) g t cs:=by subst hg;exact heap_alloc_new w _
theorem Blk.drewN(h:Blk w g t cs)(n:Nat):Blk (w.drewN n) g t cs:=h
theorem Blk.alloc(h:Blk w g t cs)(o:Obj):Blk (w.alloc o) g t cs:=(Below.heap_alloc w o g h.lt).trans h
theorem Blk.set_(h:Blk w g t cs)(i:Nat)(u:Value):Blk (w.setCell ⟨g,i,none⟩ u) g t (cs.setIfInBounds i u):=by
 unfold Blk at h ⊢
 simp[World.setCell,Array.getElem?_modify,h]
theorem Blk.far(h:Blk w g t cs){p:Addr}(hp:g≠p.block)(u:Value):Blk (w.setCell p u) g t cs:=(Below.heap_setCell w p u g hp).trans h
theorem Blk.below{B:Nat}(h:Blk w g t cs)(hb:Below B w w')(hg:g<B):Blk w' g t cs:=(hb.block g hg).trans h
theorem Blk.keep(h:Blk w g t cs)(hb:Below w.heap.size w w'):Blk w' g t cs:=h.below hb h.lt
theorem Blk.range(h:Blk w g t cs):w.rangeAt g 0 cs.toList:=fun j u hj=>by
 rw[Nat.zero_add,h.cell j];simpa using hj
end
theorem stBlk{P:Program}{ops:Array Oper}{rest:List Oper}{o:Oper}{a:Act}{w:World}{Q:Exit→Act→World→Prop}(ty:TypeId)(x y:Operand)(ho:o.op = .store ty x y)(hw:Region.wanted o (yielded ops a.tmps)=true)
  {g t:Nat} {old cells:Array Value} (hx:a.eval x = .pointer (some ⟨g,0,none⟩)) (hy:a.eval y = .agg cells) (hB:Blk w g t old)
  (hi:(P.info? ty).map (·.size)=some cells.size) (hold:old.size=cells.size) (h1:cells.all (·.oneCell')=true)
  (h:∀ w2,Blk w2 g t cells→Below g w w2→(∀ g',g'≠g→w2.heap[g']? = w.heap[g']?)→w2.heap.size=w.heap.size→wpList P ops Q rest (a.put o.dst undef) w2):
  wpList P ops Q (o :: rest) a w:=
 wpList_step fun K hK=>by
  rw[if_pos hw]
  refine wp_store_row ty x y ho g cells hx hy t old hB hi hold h1 ?_
  refine hK _ _ (h _ (setRow_heap w g old cells t (0,0) hB) ⟨rfl,rfl,rfl,by simp,fun k hk=>setRow_other w g k cells (by omega)⟩ (fun g' hg=>setRow_other w g g' cells hg) (by simp))
structure Off(b:Nat)(w w':World):Prop where
 os:w'.os=w.os
 tape:w'.tape=w.tape
 output:w'.output=w.output
 size:w.heap.size≤w'.heap.size
 block:∀ k,k<w.heap.size→k≠b→w'.heap[k]? = w.heap[k]?
theorem Off.of_below{b:Nat}{w w':World}(h:Below w.heap.size w w'):Off b w w':=⟨h.os,h.tape,h.output,h.size,fun k hk _=>h.block k hk⟩
theorem Off.refl(b:Nat)(w:World):Off b w w:=⟨rfl,rfl,rfl,Nat.le_refl _,fun _ _ _=>rfl⟩
theorem Off.trans{b:Nat}{x y z:World}(h:Off b x y)(k:Off b y z):Off b x z:=
 ⟨k.os.trans h.os,k.tape.trans h.tape,k.output.trans h.output,Nat.le_trans h.size k.size,fun i hi hne=>(k.block i (Nat.lt_of_lt_of_le hi h.size) hne).trans (h.block i hi hne)⟩
theorem Off.of_grown{b:Nat}{w w':World}(h:w.grownBy w' (some b)):Off b w w':=⟨h.os,h.tape,h.output,h.size,fun k hk hne=>h.block k hk (fun e=>hne (Option.some.inj e))⟩
theorem Off.cell{b:Nat}{w w':World}(h:Off b w w'){a:Addr}{v:Value}(hc:w.cell? a=some v)(hne:a.block≠b):w'.cell? a=some v:=by
 have:=h.block a.block (cell_lt hc) hne
 unfold World.cell? at hc ⊢
 rw[this];exact hc
theorem Off.below{b B:Nat}{w w':World}(h:Off b w w')(hB:B≤b)(hs:B≤w.heap.size):Below B w w':=⟨h.os,h.tape,h.output,h.size,fun k hk=>h.block k (by omega) (by omega)⟩
theorem Off.blk{b:Nat}{w w':World}(h:Off b w w'){g:Nat}{t:TypeId}{cs:Array Value}(hB:Blk w g t cs)(hne:g≠b):Blk w' g t cs:=(h.block g hB.lt hne).trans hB
theorem Off.set{b:Nat}{w w':World}(h:Off b w w')(i:Nat)(u:Value):Off b w (w'.setCell ⟨b,i,none⟩ u):=
 ⟨h.os,h.tape,h.output,by simpa using h.size,fun k hk hne=>(Below.heap_setCell w' ⟨b,i,none⟩ u k hne).trans (h.block k hk hne)⟩
theorem Off.drew{b:Nat}{w w':World}(h:Off b w w'):Off b w w'.drew:=⟨h.os,h.tape,h.output,h.size,h.block⟩
theorem Off.drewN{b:Nat}{w w':World}(h:Off b w w')(n:Nat):Off b w (w'.drewN n):=⟨h.os,h.tape,h.output,h.size,h.block⟩
end
section
open Go.RowKit
theorem set_many(l:List Value):∀(k:Nat) (cs:Array Value) (i:Nat),((l.zipIdx k).foldl (fun(cs:Array Value) (x:Value×Nat)=>cs.setIfInBounds x.2 x.1) cs)[i]? = if k≤i∧i<k+l.length∧i<cs.size then l[i-k]? else cs[i]?:=by
 induction l with
 | nil=>intro k cs i;rw[if_neg (by simp;omega)];rfl
 | cons v l ih=>
  intro k cs i
  rw[List.zipIdx_cons,List.foldl_cons,ih]
  simp only[Array.size_setIfInBounds,List.length_cons]
  by_cases h1:k+1≤i∧i<k+1+l.length∧i<cs.size
  ·rw[if_pos h1,if_pos (by omega),show i-k=(i-(k+1))+1 by omega,List.getElem?_cons_succ]
  ·rw[if_neg h1,Array.getElem?_setIfInBounds]
   by_cases h2:k=i
   ·subst h2
    by_cases h3:k<cs.size
    ·rw[if_pos rfl,if_pos h3,if_pos (by omega)];simp
    ·rw[if_pos rfl,if_neg h3,if_neg (by omega)]
     simp[Array.getElem?_eq_none (Nat.le_of_not_lt h3)]
   ·rw[if_neg h2,if_neg (by omega)]
theorem build_size:∀(l:List (Value×Nat)) (cs:Array Value),(l.foldl (fun(cs:Array Value) (x:Value×Nat)=>cs.setIfInBounds x.2 x.1) cs).size=cs.size:=by
 intro l
 induction l with
 | nil=>intro cs;rfl
 | cons x l ih=>intro cs;rw[List.foldl_cons,ih,Array.size_setIfInBounds]
theorem setCells_blk{b:Nat}{t:TypeId}:∀(vs:List Value) (o:Nat) (w:World) (cur:Array Value),Blk w b t cur→Blk (w.setCells b o vs) b t ((vs.zipIdx o).foldl (fun(cs:Array Value) (x:Value×Nat)=>cs.setIfInBounds x.2 x.1) cur)
 | [],_,_,_,h=>h
 | v :: r,o,w,cur,h=>by
  rw[World.setCells,List.zipIdx_cons,List.foldl_cons]
  exact setCells_blk r (o+1) _ _ (h.set_ o v)
theorem setCells_below{b B:Nat}(hB:B≤b):∀(vs:List Value) (o:Nat) (w:World),Below B w (w.setCells b o vs)∧(w.setCells b o vs).heap.size=w.heap.size
 | [],_,w=>⟨Below.refl _ _,rfl⟩
 | v :: r,o,w=>by
  rw[World.setCells]
  obtain⟨h1,h2⟩:=setCells_below hB r (o+1) (w.setCell ⟨b,o,none⟩ v)
  have h0:Below B w (w.setCell ⟨b,o,none⟩ v):=⟨rfl,rfl,rfl,by simp,fun k hk=>Below.heap_setCell w ⟨b,o,none⟩ v k (by show k≠b;omega)⟩
  exact⟨h0.trans h1,h2.trans (by simp)⟩
theorem setCells_other{b k:Nat}(hk:k≠b):∀(vs:List Value) (o:Nat) (w:World),(w.setCells b o vs).heap[k]? = w.heap[k]?
 | [],_,_=>rfl
 | v :: r,o,w=>by
  rw[World.setCells,setCells_other hk r (o+1) (w.setCell ⟨b,o,none⟩ v)]
  exact Below.heap_setCell w ⟨b,o,none⟩ v k hk
theorem part_eqM(pre mid post new:List Value)(hl:mid.length=new.length):
  ((new.zipIdx pre.length).foldl (fun(cs:Array Value) (x:Value×Nat)=>cs.setIfInBounds x.2 x.1) (pre++mid++post).toArray)=(pre++new++post).toArray:=by
 apply Array.ext_getElem?
 intro i
 rw[set_many]
 simp only[List.getElem?_toArray,List.size_toArray,List.length_append]
 split
 ·rename_i h
  rw[List.append_assoc,List.getElem?_append_right (by omega),List.getElem?_append_left (by omega)]
 ·rename_i h
  rcases Nat.lt_or_ge i pre.length with h1|h1
  ·rw[List.append_assoc,List.getElem?_append_left h1,List.append_assoc,List.getElem?_append_left h1]
  ·rw[List.append_assoc,List.append_assoc,List.getElem?_append_right h1,List.getElem?_append_right h1]
   rcases Nat.lt_or_ge (i-pre.length) new.length with h2|h2
   ·have:¬i<pre.length+mid.length+post.length:=fun h3=>h ⟨h1,by omega,h3⟩
    omega
   ·rw[List.getElem?_append_right (by omega),List.getElem?_append_right (by omega),hl]
section
variable {P : Program} {ops : Array Oper} {Q : Exit → Act → World → Prop} {S : World → Prop} {a : Act} {w : World} {listed : Array Bool} {fuel : Nat}
theorem hBuildM(i:Nat)(t:TypeId)(parts:Array (Nat×Operand))(dst:Option Tmp){vs:List (Nat×Value)}{cells:Array Value}(hd:(ops[i]?).map (fun o=>(o.op,o.dst))=some (.build t parts,dst))(hw:(ops[i]?).map (fun o=>Region.wanted o (yielded ops a.tmps))=some true)
  (hs:Region.noSelect ops=true) (hf:Region.free .any ops listed i=true) (hr:(Region.ready .any ops listed).contains i=true)
  (hQ:∀ c a w,Q (.panic c) (a.put dst (.agg cells)) w→Q (.panic c) a w) (hv:(parts.toList.map fun(i,x)=>(i,a.eval x))=vs) (hb:P.built t vs=some cells) (hS:S w)
  (h:wpAnyH P .any ops Q S fuel (listed.setIfInBounds i true) (a.put dst (.agg cells)) w):wpAnyH P .any ops Q S (fuel+1) listed a w:=
 hTake i _ dst _ hd hw hs hf hr hQ (fun o ho w _=>by
  rw[← Array.toList_map] at hv
  unfold execOp
  simp only[ho,Sem.run_bind,run_build w t _ cells (by rw[hv];exact hb),Result.andThen_ok]
  rfl) hS h
theorem fill_oneM(s:Nat)(Z:Array Value)(cs:List Value)(hZ:Z.size=s)(hl:cs.length=s):Instr.fill (fun i=>some (i*s,s)) Z [(0,.agg cs.toArray)]=some cs.toArray:=by
 have h1:(Value.agg cs.toArray).cells=cs.toArray:=rfl
 have h2:=part_eqM [] Z.toList [] cs (by simp[hZ,hl])
 simp only[List.nil_append,List.append_nil,List.length_nil,Array.toArray_toList] at h2
 simp[Instr.fill,h1,hl]
 exact⟨Nat.le_of_eq hZ.symm,h2⟩
theorem run_lit1M{t e s bytes:Nat}(T:SlT P t e s bytes)(cs:List Value)(hl:cs.length=s)(hs:s≤1000)(w:World):(Instr.buildSlice t 1 #[(0,.agg cs.toArray)]).run P w = .ok (.slice (some ⟨w.heap.size,0,none⟩) 1 1) (w.alloc (.cells cs.toArray e)):=by
 obtain⟨i,z,hi,hz,hsi,hby,hzs⟩:=T.hi
 have:=T.hs
 refine run_buildSlice w t e 1 _ cs.toArray i z T.ht hi hz (by rw[hsi];omega) (by rw[hsi];omega) ?_
 rw[hsi]
 exact fill_oneM s _ cs (by simp) hl
theorem rLit1M{rs:List Nat}(i:Nat){t e s bytes:Nat}(T:SlT P t e s bytes)(x:Operand)(dst:Option Tmp)(hd:(ops[i]?).map (fun o=>(o.op,o.dst))=some (.buildSlice t 1 #[(0,x)],dst))(hw:(ops[i]?).map (fun o=>Region.wanted o (yielded ops a.tmps))=some true)
  {cs:List Value} (hx:a.eval x = .agg cs.toArray) (hl:cs.length=s) (hs1:s≤1000) (hS:S (w.alloc (.cells cs.toArray e)))
  (h:wpAnyH P .any ops Q S fuel (listed.setIfInBounds i true) (a.put dst (.slice (some ⟨w.heap.size,0,none⟩) 1 1)) (w.alloc (.cells cs.toArray e))) (hs:AllReadyH P .any ops Q S fuel listed a w rs):AllReadyH P .any ops Q S fuel listed a w (i :: rs):=
 rStep i _ dst _ _ hd hw (fun o ho=>by
  have hrun:=run_lit1M T cs hl hs1 w
  unfold execOp
  simp only[ho,Sem.run_bind,List.map_toArray,List.map_cons,List.map_nil,hx,hrun,Result.andThen_ok]
  rfl) hS h hs
theorem rAppR{rs:List Nat}(i:Nat){t e s bytes:Nat}(T:SlT P t e s bytes)(p q:Operand)(dst:Option Tmp)(hd:(ops[i]?).map (fun o=>(o.op,o.dst))=some (.call { callee:=.builtin .append,args:=#[p,q],argTypes:=#[t,t] },dst))(hw:(ops[i]?).map (fun o=>Region.wanted o (yielded ops a.tmps))=some true)
  {base n m:Nat} {v x:Value} {xs news:List Value} (hv:a.eval p=v) (hown:w.ownsRow base e s v n xs) (hxv:a.eval q=x) (hx:Sn w s x m news)
  (h1:∀ u∈news,u.oneCell'=true) (h63:n+m≤maxLen) (hbytes:(n+m)*bytes≤140737488355328) (hbase:base≤w.heap.size)
  (h:∀ v' w',w'.ownsRow base e s v' (n+m) (xs++news)→w.grownBy w' v.ownBlock→(v'.ownBlock=v.ownBlock∨v'.ownBlock=some w.heap.size)→S w'∧(S w'→wpAnyH P .any ops Q S fuel (listed.setIfInBounds i true) (a.put dst v') w')) (hs:AllReadyH P .any ops Q S fuel listed a w rs):AllReadyH P .any ops Q S fuel listed a w (i :: rs):=by
 cases ho:ops[i]? with
 | none=>rw[ho] at hd;cases hd
 | some o=>
  have hd0:=hd
  rw[ho] at hd0
  simp only[Option.map_some,Option.some.injEq,Prod.mk.injEq] at hd0
  obtain⟨v',w',hrun,h2,h3,h4⟩:=run_append_sn (ty:=o.type) T hown hx h1 h63 hbytes hbase
  obtain⟨h5,h6⟩:=h v' w' h2 h3 h4
  obtain⟨hop,hdst⟩:=hd0
  rw[ho] at hw
  simp only[Option.map_some,Option.some.injEq] at hw
  refine AllReadyH.cons ho (fun K hK=>?_) hs
  rw[if_pos hw]
  unfold Oper.wp execOp
  simp only[hop,resolve,invoke,builtin,Sem.run_bind,Sem.run_pure,Result.andThen_ok,List.map_toArray,List.map_cons,List.map_nil,hv,hxv,hrun]
  rw[Oper.upon_value,hdst]
  exact hK.out _ _ h5 h6
theorem rSkipR{rs:List Nat}(i:Nat)(op:Op)(dst:Option Tmp)(w2:World)(hd:(ops[i]?).map (fun o=>(o.op,o.dst))=some (op,dst))(hw:(ops[i]?).map (fun o=>Region.wanted o (yielded ops a.tmps))=some true)
  (hrun:∀ o:Oper,o.op=op→(execOp a.eval o).run P w = .ok .skip w2) (hS:S w2)
  (h:wpAnyH P .any ops Q S fuel (listed.setIfInBounds i true) (a.put dst undef) w2) (hs:AllReadyH P .any ops Q S fuel listed a w rs):AllReadyH P .any ops Q S fuel listed a w (i :: rs):=by
 cases ho:ops[i]? with
 | none=>rw[ho] at hd;cases hd
 | some o=>
  rw[ho] at hd hw
  simp only[Option.map_some,Option.some.injEq,Prod.mk.injEq] at hd hw
  obtain⟨h2,h3⟩:=hd
  subst h3
  refine AllReadyH.cons ho (fun K hK=>?_) hs
  rw[if_pos hw]
  unfold Oper.wp
  rw[hrun o h2]
  exact hK.out _ _ hS (fun _=>h)
theorem rDel{rs:List Nat}(i:Nat){tM tk:TypeId}(p q:Operand)(dst:Option Tmp)(w2:World){vm vk:Value}(hd:(ops[i]?).map (fun o=>(o.op,o.dst))=some (.call { callee:=.builtin .delete,args:=#[p,q],argTypes:=#[tM,tk] },dst))(hw:(ops[i]?).map (fun o=>Region.wanted o (yielded ops a.tmps))=some true)
  (hv:a.eval p=vm) (hq:a.eval q=vk) (hrun:∀ ty,(Builtin.delete_ #[tM,tk] ty #[vm,vk]).run P w = .ok (.tuple #[]) w2) (hS:S w2)
  (h:wpAnyH P .any ops Q S fuel (listed.setIfInBounds i true) (a.put dst (.tuple #[])) w2) (hs:AllReadyH P .any ops Q S fuel listed a w rs):AllReadyH P .any ops Q S fuel listed a w (i :: rs):=by
 cases ho:ops[i]? with
 | none=>rw[ho] at hd;cases hd
 | some o=>
  have hd0:=hd
  rw[ho] at hd0
  simp only[Option.map_some,Option.some.injEq,Prod.mk.injEq] at hd0
  obtain⟨hop,hdst⟩:=hd0
  rw[ho] at hw
  simp only[Option.map_some,Option.some.injEq] at hw
  refine AllReadyH.cons ho (fun K hK=>?_) hs
  rw[if_pos hw]
  unfold Oper.wp execOp
  simp only[hop,resolve,invoke,builtin,Sem.run_bind,Sem.run_pure,Result.andThen_ok,List.map_toArray,List.map_cons,List.map_nil,hv,hq,hrun o.type]
  rw[Oper.upon_value,hdst]
  exact hK.out _ _ hS (fun _=>h)
theorem rUpd{rs:List Nat}(i:Nat){tM:TypeId}(m p q:Operand)(dst:Option Tmp)(w2:World){vm vk vx:Value}(hd:(ops[i]?).map (fun o=>(o.op,o.dst))=some (.mapUpdate tM m p q,dst))(hw:(ops[i]?).map (fun o=>Region.wanted o (yielded ops a.tmps))=some true)
  (hm:a.eval m=vm) (hv:a.eval p=vk) (hq:a.eval q=vx) (hrun:(Instr.mapUpdate tM vm vk vx).run P w = .ok () w2) (hS:S w2)
  (h:wpAnyH P .any ops Q S fuel (listed.setIfInBounds i true) (a.put dst undef) w2) (hs:AllReadyH P .any ops Q S fuel listed a w rs):AllReadyH P .any ops Q S fuel listed a w (i :: rs):=
 rSkipR i _ dst w2 hd hw (fun o ho=>by
  unfold execOp
  simp only[ho,Sem.run_bind,hm,hv,hq,hrun,Result.andThen_ok]
  rfl) hS h hs
end
end
end Go.Proofs.YtiaigidbcljblaaGreatDoor
